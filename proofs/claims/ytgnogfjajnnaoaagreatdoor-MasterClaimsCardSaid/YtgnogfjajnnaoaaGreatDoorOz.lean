/-
  Layer 14: the house of lines that were done.
  Conditions: none.
-/
import Derived.Test.YtgnogfjajnnaoaaGreatDoorAnj
import Derived.Test.YtgnogfjajnnaoaaGreatDoorSPb
import Derived.Test.YtgnogfjajnnaoaaGreatDoorSh3
import Derived.Test.YtgnogfjajnnaoaaGreatDoorSPk
open Bool renaming and_eq_true → fE, eq_iff_iff → fX
open Go.Lib renaming itoa → fD, itoa_length_le → fP
open Int renaming toNat_natCast → fU
open List renaming set_cons_zero → dY, set_cons_succ → dW, getD_eq_getElem?_getD → dZ, getElem?_eq_getElem → fA, length_append → fI, length_map → fO, mem_append → fY, mem_singleton → fB, mem_range → fF, getElem?_map → fG, range → fJ, map_congr_left → fM, mem_map → fQ, take_length → fS, length_cons → fT, all_eq_true → fV, range_succ → fW
open Nat renaming zero_add → dX, le_refl → fC, mod_lt → fH, le_of_ble_eq_true → fK, pow_le_pow_right → fL, le_trans → fN, zero_le → fR
set_option maxRecDepth 99999
set_option maxHeartbeats 4000000
namespace Go.Am
theorem wt_kind {W:List Str} {t:Tell} (h:WT W t):W.getD 0 []=OR∨W.getD 0 []=O3∨W.getD 0 []=OI∨W.getD 0 []=OS∨W.getD 0 []=O5∨W.getD 0 []=OK∨W.getD 0 []=OQ∨W.getD 0 []=OV∨W.getD 0 []=OW∨W.getD 0 []=OX∨W.getD 0 []=OZ:=by
 cases h with
 | move k m s hk e1=>subst e1; rcases hk with ⟨rfl,_⟩|⟨rfl,_⟩|⟨rfl,_⟩|⟨rfl,_⟩ <;> simp
 | room a e1=>subst e1; simp
 | way a b c e1=>subst e1; simp
 | least a m e1=>subst e1; simp
 | most a m e1=>subst e1; simp
 | free a e1=>subst e1; simp
 | claim a m e1=>subst e1; simp
 | pack m a e1=>subst e1; simp
theorem wt_words {W:List Str} {t:Tell} (h:WT W t):WordA (W.getD 1 [])∧WordA (W.getD 2 [])∧1≤W.length:=by
 cases h with
 | move k m s hk e1 _ hm=>subst e1; exact⟨.inl hm,.inr (.inr rfl),by simp⟩
 | room a e1 _ ha=>subst e1; exact⟨.inr (.inl ha),.inr (.inr rfl),by simp⟩
 | way a b c e1 _ ha hb=>subst e1; exact⟨.inr (.inl ha),.inr (.inl hb),by simp⟩
 | least a m e1 _ ha hm=>subst e1; exact⟨.inr (.inl ha),.inl hm,by simp⟩
 | most a m e1 _ ha hm=>subst e1; exact⟨.inr (.inl ha),.inl hm,by simp⟩
 | free a e1 _ ha=>subst e1; exact⟨.inr (.inl ha),.inr (.inr rfl),by simp⟩
 | claim a m e1 _ ha hm=>subst e1; exact⟨.inr (.inl ha),.inl hm,by simp⟩
 | pack m a e1 _ hm ha=>subst e1; exact⟨.inl hm,.inr (.inl ha),by simp⟩
theorem pack_no {O:Off} {H:Hs} {W:List Str} {t:Tell} (hr:HRl O H) (wt:WT W t) (h0:O.wrong t=0) (hk:W.getD 0 []=OQ):Ou H.packs (atV (W.getD 1 []))=none∧Ou H.state (atV (W.getD 1 []))=none:=by
 cases wt with
 | move k m s hx e1=>subst e1; have hk2:k=OQ:=hk; rcases hx with ⟨rfl,_⟩|⟨rfl,_⟩|⟨rfl,_⟩|⟨rfl,_⟩ <;> exact absurd hk2 aD
 | room a e1=>subst e1; exact absurd (show OR=OQ from hk) aD
 | way a b c e1=>subst e1; exact absurd (show O3=OQ from hk) aD
 | least a m e1=>subst e1; exact absurd (show OI=OQ from hk) aD
 | most a m e1=>subst e1; exact absurd (show OS=OQ from hk) aD
 | free a e1=>subst e1; exact absurd (show O5=OQ from hk) aD
 | claim a m e1=>subst e1; exact absurd (show OK=OQ from hk) aD
 | pack m a e1 e2 hm=>
  subst e1; subst e2;obtain⟨hev,_⟩:=Yr h0;show Ou H.packs (atV m)=none∧Ou H.state (atV m)=none;rw[Yw hm];exact⟨Yc (by rw[hr.packs]; exact hev),Yc (by rw[hr.state]; exact hev)⟩
theorem pad_get (W:List Str) (k:Nat):(W ++ [[],[],[],[]]).getD k []=W.getD k []:=by
 rw[dZ,dZ,List.getElem?_append];split;rfl
 ·rw[List.getElem?_eq_none (l:=W) aA]
  match k - W.length with
  | 0=>rfl
  | 1=>rfl
  | 2=>rfl
  | 3=>rfl
  | n+4=>rfl
theorem wcs_at {l:List Str} {i:Nat} (h:i<l.length):(wcs l)[i]? = some (.str (wd (l.getD i []))):=by
 rw[fG,dZ,fA h]; rfl
structure HA where
  po:AV
  vr:AV
  vw:AV
  ve:AV
  vt:AV
  vp:AV
  vc:AV
  vk:AV
  vs:AV
  vo:AV
abbrev prV (p:Int × Int):AV:=.agg [.int .i64 p.1,.int .i64 p.2]
def hsO (A:HA) (H:Hs):List Obj:=[⟨A.po,0,[A.vr,A.vw,A.ve,A.vt,A.vp,A.vc,A.vk,A.vs,A.vo],true⟩,⟨A.vr,1,wcs H.rooms,true⟩,⟨A.vw,1,wcs H.ways,true⟩,mapO A.ve (entL kstr prV H.ends),mapO A.vt (entL kstr prV H.told),mapO A.vp (entL kstr kint H.paid),⟨A.vc,1,wcs H.claims,true⟩,mapO A.vk (entL kint kstr H.packs),mapO A.vs (entL kint kint H.state),⟨A.vo,1,ints H.order,true⟩]
structure HAk (A:HA):Prop where
  po:AddrOf A.po A.po 0 0
  ve:Zq A.ve
  vt:Zq A.vt
  vp:Zq A.vp
  vk:Zq A.vk
  vs:Zq A.vs
structure RHs (h:AHeap) (A:HA) (H:Hs):Prop where
  ok:HAk A
  rd:Rd h A.po 0 [A.vr,A.vw,A.ve,A.vt,A.vp,A.vc,A.vk,A.vs,A.vo]
  rooms:WRow h A.vr H.rooms
  ways:WRow h A.vw H.ways
  ends:RdM h A.ve (entL kstr prV H.ends)
  told:RdM h A.vt (entL kstr prV H.told)
  paid:RdM h A.vp (entL kstr kint H.paid)
  claims:WRow h A.vc H.claims
  packs:RdM h A.vk (entL kint kstr H.packs)
  state:RdM h A.vs (entL kint kint H.state)
  order:Row h A.vo H.order
theorem RHs.ext {h h':AHeap} {A:HA} {H:Hs} (r:RHs h A H) (k:Keeps h h'):RHs h' A H:=⟨r.ok,r.rd.ext k,r.rooms.ext k,r.ways.ext k,RdM.ext k r.ends,RdM.ext k r.told,RdM.ext k r.paid,r.claims.ext k,RdM.ext k r.packs,RdM.ext k r.state,r.order.ext k⟩
theorem St.rhs {h0 h:AHeap} {A:HA} {H:Hs} {G:List Obj} (st:St h0 h (hsO A H ++ G)) (ok:HAk A):RHs h A H:=
  ⟨ok,st.rd 0 rfl,st.rd 1 rfl,st.rd 2 rfl,st.rdM 3 rfl ok.ve,st.rdM 4 rfl ok.vt,st.rdM 5 rfl ok.vp,st.rd 6 rfl,st.rdM 7 rfl ok.vk,st.rdM 8 rfl ok.vs,st.rd 9 rfl⟩
structure HSm (H:Hs):Prop where
  rooms:H.rooms.length≤6
  ways:H.ways.length≤12
  claims:H.claims.length≤100
  order:H.order.length≤100
theorem HRl.small {O:Off} {H:Hs} (hr:HRl O H) (hW:WF O):HSm H:=⟨by rw[hr.rooms]; exact hW.rooms,by rw[hr.ways,fO]; exact hW.ways,by rw[hr.claims]; exact hW.claims,by rw[hr.order]; exact hW.ever⟩
section
variable {P:Program} {n:Nat} {ops:Array Oper} {ex:List Nat} {Q:KF→AHeap→Prop} {k:Nat} {os:List Oper} {K:KF} {h:AHeap} {d:Nat} {ty:TypeId} {pos:String} {after:Array Edge}
theorem QK {x ix : Operand} {t e : TypeId} {m : Nat} {kd : IntKind} {i : Int} {j : Nat} {xs : List AV} {v : AV} [hx : EvK h.globs n K x (.agg xs)] [hi : EvK h.globs n K ix (.int kd i)] (ht : Yk P t = some (m, e)) [hs : ScT P e] (hj : i = (j : Int)) (hlt : j < m) (hv : xs[j]? = some v)
    (hk:KOps P n ops ex Q (k+1) os ((d,v)::K) h):KOps P n ops ex Q k (⟨some d,.index t x ix,ty,pos,after,none⟩::os) K h:=by
 subst hj;refine Kn rfl (v:=v) ?_ hk;simp only[K6,hx.eq,hi.eq,JA,ht,hs.sz,apart,hs.sc,Option.bind_eq_bind,Option.bind_some];rw[if_pos ⟨by omega,by omega⟩,fU,Nat.mul_one,if_neg aD];exact hv
end
theorem W0 {κ ν:Type} [DecidableEq κ] {l:List (κ × ν)} {a : κ} {b : ν} (h:Ou l a=none):Ke l a b=l ++ [(a,b)]:=Vn (Jj h)
set_option synthInstance.maxSize 2000 in
set_option synthInstance.maxHeartbeats 200000 in
theorem inside_c {h:AHeap} {v:AV} {ls:List Str} (hv:WRow h v ls) (hD:Done ls) (hV:Vs h) (hE:Er h):ACalls Go.Proofs.Tryz.prog 51 [v] h (fun q h'=>∃ A,q=A.po∧HAk A∧St h h' (hsO A (QU ls))):=by
 refine ON 236 [.tmp 2] Go.Proofs.Tryz.func51 rfl aD rfl rfl (fK rfl) ?_;have hS:=St.refl h;have hll:=hD.wf.2.1;show KA _ 236 _ _ [(0,v)] _;refine Ov ?_;refine Oq ?_;refine Oo [0] ?_;refine Ov ?_;refine ZE hS rfl ?_;intro v11 h' hv11 hS;refine ZE hS rfl ?_;intro v12 h' hv12 hS;refine ZE hS rfl ?_;intro v13 h' hv13 hS;refine ZE hS rfl ?_;intro v14 h' hv14 hS;refine ZE hS rfl ?_;intro v15 h' hv15 hS;have ho11:v11.one=true:=by obtain⟨_,rfl⟩:=hv11; rfl
 have ho12:v12.one=true:=by obtain⟨_,rfl⟩:=hv12; rfl
 have ho13:v13.one=true:=by obtain⟨_,rfl⟩:=hv13; rfl
 have ho14:v14.one=true:=by obtain⟨_,rfl⟩:=hv14; rfl
 have ho15:v15.one=true:=by obtain⟨_,rfl⟩:=hv15; rfl
 refine Kc (zs:=[.nils,.nils,.nilm,.nilm,.nilm,.nils,.nilm,.nilm,.nils]) (cs:=[_,_,_,_,_,_,_,_,_]) aE aM aE (.cons (off:=2) (s:=1) aE (AV.cells_one aH) rfl aD (.cons (off:=3) (s:=1) aE (AV.cells_one aH) rfl aD (.cons (off:=4) (s:=1) aE (AV.cells_one aH) rfl aD (.cons (off:=6) (s:=1) aE (AV.cells_one aH) rfl aD (.cons (off:=7) (s:=1) aE (AV.cells_one aH) rfl aD .nil))))) aM ?_;refine O6 hS (by show(true && (true && (v11.one && (v12.one && (v13.one && (true && (v14.one && (v15.one && (true && true)))))))))=true; rw[ho11,ho12,ho13,ho14,ho15]; rfl) ?_;intro p17 h' hp17 hS;refine Oq ?_;refine Oo [0,3] ?_;refine cK ?_;have hS1:=St.addNil 1 true (St.addNil 1 true (St.addNil 1 true (St.addNil 1 true hS)));have hS2:=St.pick (objs':=hsO ⟨p17,.nils,.nils,v11,v12,v13,.nils,v14,v15,.nils⟩ hs0) [0,6,7,5,4,3,8,2,1,9] aD rfl hS1;refine Oc ?_;refine O0 (Rd.ext hS.keeps hv) ?_;refine Oc ?_;refine Oo [3,18,19,20] ?_;refine OB ?_;refine Kg (X:=Nat × HA) (fun x=>[(3,x.2.po),(18,v),(19,.int .i64 (ls.length:Int)),(20,.int .i64 (x.1:Int))]) (fun x h'=>x.1≤ls.length∧HAk x.2∧St h h' (hsO x.2 (QU (ls.take x.1)))) (fun x=>ls.length - x.1) (0,⟨p17,.nils,.nils,v11,v12,v13,.nils,v14,v15,.nils⟩) ?_ ?_;exact⟨fR _,⟨hp17,hv11,hv12,hv13,hv14,hv15⟩,hS2⟩;rintro⟨i,A⟩ h2 ⟨hi,hA,hS⟩;dsimp only at hi hA hS⊢;obtain⟨H,hH⟩:∃ H,QU (ls.take i)=H:=⟨_,rfl⟩;rw[hH] at hS;have hr:HRl (after (ls.take i)) H:=hH ▸ (hD.take i).hr;obtain⟨hsm1,hsm2,hsm3,hsm4⟩:=hr.small (hD.take i).wf.1;replace hS:St h h2 (⟨A.po,0,[A.vr,A.vw,A.ve,A.vt,A.vp,A.vc,A.vk,A.vs,A.vo],true⟩::⟨A.vr,1,wcs H.rooms,true⟩::⟨A.vw,1,wcs H.ways,true⟩::mapO A.ve (entL kstr prV H.ends)::mapO A.vt (entL kstr prV H.told)::mapO A.vp (entL kstr kint H.paid)::⟨A.vc,1,wcs H.claims,true⟩::mapO A.vk (entL kint kstr H.packs)::mapO A.vs (entL kint kint H.state)::⟨A.vo,1,ints H.order,true⟩ :: []):=hS;refine Ov ?_;refine QF ?_;refine b8 ?_;refine Om ?_ ?_
 ·intro c21;have hlt:i<ls.length:=by omega
  have hx:=hD.one i hlt;obtain⟨hx1,hx2,_⟩:=Zg hx;have wt:=wt_of hx1;have hxl:(ls.getD i []).length≤1000000:=fN (hD.small _ (getD_mem hlt)) aA;have hno:=fun hk=>pack_no hr wt hx2 hk
  obtain⟨hw1,hw2,hw0⟩:=wt_words wt;obtain⟨W,hW⟩:∃ W,OO 32 (ls.getD i [])=W:=⟨_,rfl⟩;rw[hW] at wt hw1 hw2 hw0 hno;refine OC [3,18,19,20] ?_;refine cj ?_;refine Ow (Rd.ext hS.keeps hv) (j:=i) rfl aB ?_;intro p22 hp22;refine OM hp22 (Rd.ext hS.keeps hv) aB ?_;refine Oq ?_;refine Oo [3,5,18,19,20] ?_;refine bt ?_;refine Ol rfl (split_c (c:=32) (hV.ext hS.keeps).mx hxl) ?_;rintro v25 h25 ⟨hsl25,hS25⟩;rw[hW] at hS25;replace hS:St _ _ (⟨v25,1,wcs W,true⟩::⟨A.po,0,[A.vr,A.vw,A.ve,A.vt,A.vp,A.vc,A.vk,A.vs,A.vo],true⟩::⟨A.vr,1,wcs H.rooms,true⟩::⟨A.vw,1,wcs H.ways,true⟩::mapO A.ve (entL kstr prV H.ends)::mapO A.vt (entL kstr prV H.told)::mapO A.vp (entL kstr kint H.paid)::⟨A.vc,1,wcs H.claims,true⟩::mapO A.vk (entL kint kstr H.packs)::mapO A.vs (entL kint kint H.state)::⟨A.vo,1,ints H.order,true⟩ :: []):=St.trans hS hS25;refine bu ?_;intro v26 h' hS;replace hS:St _ _ (⟨v26,1,wcs [[],[],[],[]],true⟩::_):=hS;refine KOps.appendW hS (fun _=>rfl) (i:=0) rfl (by have:=Wk 32 (ls.getD i []); rw[hW] at this; simp; omega) ?_;intro r27 h' hr27 hS;refine cF ?_;have hz:=pad_get W;have hZl : 4<(W ++ [[],[],[],[]]).length:=by simp; omega
  obtain⟨Z,hZ⟩:∃ Z,W ++ [[],[],[],[]]=Z:=⟨_,rfl⟩;rw[hZ] at hS hz hZl;rw[←hz] at hw1 hw2;refine Of ?_;refine Ot [3,6,18,19,20] ?_;refine bt ?_;refine Ow (hS.rd 0 rfl) (j:=2) rfl aB ?_;intro p30 hp30;refine OM hp30 (hS.rd 0 rfl) aB ?_;refine Ol rfl (atoi_c (hE.ext hS.keeps) hw2) ?_;rintro _ _ ⟨rfl,rfl⟩;refine cL ?_;refine Oo [3,6,7,18,19,20] ?_;refine bt ?_;refine Ow (hS.rd 0 rfl) (j:=1) rfl aB ?_;intro p37 hp37;refine OM hp37 (hS.rd 0 rfl) aB ?_;refine Ol rfl (atoi_c (hE.ext hS.keeps) hw1) ?_;rintro _ _ ⟨rfl,rfl⟩;refine cL ?_;refine Oo [3,6,7,9,18,19,20] ?_;refine bt ?_;refine Ow (hS.rd 0 rfl) (j:=0) rfl aB ?_;intro p43 hp43;refine OM hp43 (hS.rd 0 rfl) aB ?_;refine Oo [3,6,7,9,18,19,20,44] ?_;refine OB ?_;refine cY ?_;refine Oo [3,6,7,9,18,19,20,44,45] ?_;refine Om ?_ ?_
  ·intro c45;refine OT [9] mixed rfl aE ?_;refine Oc ?_;refine bg ?_;intro p50 hp50;refine Oh hp50 (hS.rd 1 rfl) rfl ?_;refine b9 ?_;intro p53 hp53;refine OM hp53 (hS.rd 0 rfl) aB ?_;refine bu ?_;intro v55 h' hS;refine Kw hS (fun _=>rfl) (i:=2) rfl aB ?_;intro r56 h' hr56 hS;refine On hA.po ?_;refine Ob hA.po ?_;intro p58 hp58;refine KK hS rfl (i:=1) rfl hp58 aH aX ?_;intro h' hS;simp only[dY,dW,dX] at hS;refine bo ?_
   try simp only[dY,dW,dX] at hS
   have e:QU (ls.take (i+1)) = {H with rooms:=H.rooms ++ [(Z.getD 1 [])]}:=by
    rw[←Qu (d:=[]) hlt,Zb,hH,hW];unfold K9;dsimp only;simp only[←hz];rw[if_pos (show Z.getD 0 []=OR from c45)]
   exact lpN (i+1,{A with vr:=r56}) ⟨by dsimp only; omega,⟨hA.po,hA.ve,hA.vt,hA.vp,hA.vk,hA.vs⟩,by dsimp only; rw[e]; exact St.drop (A:=[_]) hS⟩ aI
  ·intro c45;refine cY ?_;refine Oo [3,6,7,9,18,19,20,44,59] ?_;refine Om ?_ ?_
   ·intro c59;refine Ox ?_;refine OT [9] mixed rfl aE ?_;refine Oc ?_;refine bg ?_;intro p64 hp64;refine Oh hp64 (hS.rd 1 rfl) rfl ?_;refine b9 ?_;intro p67 hp67;refine OM hp67 (hS.rd 0 rfl) aB ?_;refine bu ?_;intro v69 h' hS;refine Kw hS (fun _=>rfl) (i:=3) rfl aB ?_;intro r70 h' hr70 hS;refine On hA.po ?_;refine Ob hA.po ?_;intro p72 hp72;refine KK hS rfl (i:=1) rfl hp72 aH aX ?_;intro h' hS;simp only[dY,dW,dX] at hS;refine Oo [3,6,18,19,20] ?_;refine Ox ?_;refine OT [14,22] mixed rfl aE ?_;refine bg ?_;intro p75 hp75;refine Oh hp75 (hS.rd 1 rfl) rfl ?_;refine b9 ?_;intro p78 hp78;refine OM hp78 (hS.rd 0 rfl) aB ?_;refine bg ?_;intro p82 hp82;refine Oh hp82 (hS.rd 1 rfl) rfl ?_;refine Oc ?_;refine Ow (hS.rd 0 rfl) (j:=2) rfl aB ?_;intro p85 hp85;refine OM hp85 (hS.rd 0 rfl) aB ?_;refine Ks aK (X7 (hS.rd 2 rfl) aA) ?_;rintro _ _ ⟨rfl,rfl⟩;refine bg ?_;intro p90 hp90;refine Oh hp90 (hS.rd 1 rfl) rfl ?_;refine Oc ?_;refine Ow (hS.rd 0 rfl) (j:=3) rfl aB ?_;intro p93 hp93;refine OM hp93 (hS.rd 0 rfl) aB ?_;refine Ks aK (X7 (hS.rd 2 rfl) aA) ?_;rintro _ _ ⟨rfl,rfl⟩;refine bS ?_;refine Qq (kf:=kstr) (vf:=prV) (l:=H.ends) (i:=4) (b:=(ixE H.rooms (Z.getD 2 []),ixE H.rooms (Z.getD 3 []))) EvK.eq rfl hS hA.ve rfl rfl ?_;intro h' hS;simp only[dY,dW,dX] at hS;refine Oo [3,6,18,19,20] ?_;refine dD ?_;refine bg ?_;intro p99 hp99;refine Oh hp99 (hS.rd 1 rfl) rfl ?_;refine b9 ?_;intro p102 hp102;refine OM hp102 (hS.rd 0 rfl) aB ?_;refine bS ?_;refine Qq (kf:=kstr) (vf:=prV) (l:=H.told) (i:=5) (b:=(0,99)) EvK.eq rfl hS hA.vt rfl rfl ?_;intro h' hS;simp only[dY,dW,dX] at hS;refine bo ?_
    try simp only[dY,dW,dX] at hS
    have e:QU (ls.take (i+1)) = {H with ways:=H.ways ++ [(Z.getD 1 [])],ends:=Ke H.ends (Z.getD 1 []) (ixE H.rooms (Z.getD 2 []),ixE H.rooms (Z.getD 3 [])),told:=Ke H.told (Z.getD 1 []) (0,99)}:=by
     rw[←Qu (d:=[]) hlt,Zb,hH,hW];unfold K9;dsimp only;simp only[←hz];rw[if_neg (show¬ Z.getD 0 []=OR from c45),if_pos (show Z.getD 0 []=O3 from c59)]
    exact lpN (i+1,{A with vw:=r70}) ⟨by dsimp only; omega,⟨hA.po,hA.ve,hA.vt,hA.vp,hA.vk,hA.vs⟩,by dsimp only; rw[e]; exact St.drop (A:=[_]) hS⟩ aI
   ·intro c59;refine cY ?_;refine Oo [3,6,7,9,18,19,20,44,105] ?_;refine Om ?_ ?_
    ·intro c105;refine dD ?_;refine bg ?_;intro p109 hp109;refine Oh hp109 (hS.rd 1 rfl) rfl ?_;refine b9 ?_;intro p112 hp112;refine OM hp112 (hS.rd 0 rfl) aB ?_;refine Oc ?_;refine bg ?_;intro p117 hp117;refine Oh hp117 (hS.rd 1 rfl) rfl ?_;refine b9 ?_;intro p120 hp120;refine OM hp120 (hS.rd 0 rfl) aB ?_;refine Qm (kf:=kstr) (vf:=prV) (l:=H.told) (w:=(0,0)) EvK.eq (St.rdM hS 5 rfl hA.vt) rfl rfl ?_;refine dQ ?_;refine bS ?_;refine Qq (kf:=kstr) (vf:=prV) (l:=H.told) (i:=5) (b:=(atV (Z.getD 2 []),(H.tolds (Z.getD 1 [])).2)) EvK.eq rfl hS hA.vt rfl rfl ?_;intro h' hS;simp only[dY,dW,dX] at hS;refine bo ?_
     try simp only[dY,dW,dX] at hS
     have e:QU (ls.take (i+1)) = {H with told:=Ke H.told (Z.getD 1 []) (atV (Z.getD 2 []),(H.tolds (Z.getD 1 [])).2)}:=by
      rw[←Qu (d:=[]) hlt,Zb,hH,hW];unfold K9;dsimp only;simp only[←hz];rw[if_neg (show¬ Z.getD 0 []=OR from c45),if_neg (show¬ Z.getD 0 []=O3 from c59),if_pos (show Z.getD 0 []=OI from c105)]
     exact lpN (i+1,A) ⟨by dsimp only; omega,hA,by dsimp only; rw[e]; exact St.drop (A:=[_]) hS⟩ aI
    ·intro c105;refine cY ?_;refine Oo [3,6,7,9,18,19,20,44,125] ?_;refine Om ?_ ?_
     ·intro c125;refine dD ?_;refine bg ?_;intro p129 hp129;refine Oh hp129 (hS.rd 1 rfl) rfl ?_;refine b9 ?_;intro p132 hp132;refine OM hp132 (hS.rd 0 rfl) aB ?_;refine bg ?_;intro p136 hp136;refine Oh hp136 (hS.rd 1 rfl) rfl ?_;refine b9 ?_;intro p139 hp139;refine OM hp139 (hS.rd 0 rfl) aB ?_;refine Qm (kf:=kstr) (vf:=prV) (l:=H.told) (w:=(0,0)) EvK.eq (St.rdM hS 5 rfl hA.vt) rfl rfl ?_;refine dR ?_;refine Oc ?_;refine bS ?_;refine Qq (kf:=kstr) (vf:=prV) (l:=H.told) (i:=5) (b:=((H.tolds (Z.getD 1 [])).1,atV (Z.getD 2 []))) EvK.eq rfl hS hA.vt rfl rfl ?_;intro h' hS;simp only[dY,dW,dX] at hS;refine bo ?_
      try simp only[dY,dW,dX] at hS
      have e:QU (ls.take (i+1)) = {H with told:=Ke H.told (Z.getD 1 []) ((H.tolds (Z.getD 1 [])).1,atV (Z.getD 2 []))}:=by
       rw[←Qu (d:=[]) hlt,Zb,hH,hW];unfold K9;dsimp only;simp only[←hz];rw[if_neg (show¬ Z.getD 0 []=OR from c45),if_neg (show¬ Z.getD 0 []=O3 from c59),if_neg (show¬ Z.getD 0 []=OI from c105),if_pos (show Z.getD 0 []=OS from c125)]
      exact lpN (i+1,A) ⟨by dsimp only; omega,hA,by dsimp only; rw[e]; exact St.drop (A:=[_]) hS⟩ aI
     ·intro c125;refine cY ?_;refine Oo [3,6,7,9,18,19,20,44,145] ?_;refine Om ?_ ?_
      ·intro c145;refine dD ?_;refine bg ?_;intro p149 hp149;refine Oh hp149 (hS.rd 1 rfl) rfl ?_;refine b9 ?_;intro p152 hp152;refine OM hp152 (hS.rd 0 rfl) aB ?_;refine bS ?_;refine Qq (kf:=kstr) (vf:=prV) (l:=H.told) (i:=5) (b:=(0,99)) EvK.eq rfl hS hA.vt rfl rfl ?_;intro h' hS;simp only[dY,dW,dX] at hS;refine bo ?_
       try simp only[dY,dW,dX] at hS
       have e:QU (ls.take (i+1)) = {H with told:=Ke H.told (Z.getD 1 []) (0,99)}:=by
        rw[←Qu (d:=[]) hlt,Zb,hH,hW];unfold K9;dsimp only;simp only[←hz];rw[if_neg (show¬ Z.getD 0 []=OR from c45),if_neg (show¬ Z.getD 0 []=O3 from c59),if_neg (show¬ Z.getD 0 []=OI from c105),if_neg (show¬ Z.getD 0 []=OS from c125),if_pos (show Z.getD 0 []=O5 from c145)]
       exact lpN (i+1,A) ⟨by dsimp only; omega,hA,by dsimp only; rw[e]; exact St.drop (A:=[_]) hS⟩ aI
      ·intro c145;refine cY ?_;refine Oo [3,6,7,9,18,19,20,44,155] ?_;refine Om ?_ ?_
       ·intro c155;refine bf ?_;refine bg ?_;intro p159 hp159;refine Oh hp159 (hS.rd 1 rfl) rfl ?_;refine b9 ?_;intro p162 hp162;refine OM hp162 (hS.rd 0 rfl) aB ?_;refine Oc ?_;refine Qq (kf:=kstr) (vf:=kint) (l:=H.paid) (i:=6) (b:=atV (Z.getD 2 [])) EvK.eq rfl hS hA.vp rfl rfl ?_;intro h' hS;simp only[dY,dW,dX] at hS;refine Oo [3,6,18,19,20] ?_;refine OT [9] mixed rfl aE ?_;refine Oc ?_;refine bg ?_;intro p168 hp168;refine Oh hp168 (hS.rd 1 rfl) rfl ?_;refine b9 ?_;intro p171 hp171;refine OM hp171 (hS.rd 0 rfl) aB ?_;refine bu ?_;intro v173 h' hS;refine Kw hS (fun _=>rfl) (i:=7) rfl aB ?_;intro r174 h' hr174 hS;refine On hA.po ?_;refine Ob hA.po ?_;intro p176 hp176;refine KK hS rfl (i:=1) rfl hp176 aH aX ?_;intro h' hS;simp only[dY,dW,dX] at hS;refine bo ?_
        try simp only[dY,dW,dX] at hS
        have e:QU (ls.take (i+1)) = {H with paid:=Ke H.paid (Z.getD 1 []) (atV (Z.getD 2 [])),claims:=H.claims ++ [(Z.getD 1 [])]}:=by
         rw[←Qu (d:=[]) hlt,Zb,hH,hW];unfold K9;dsimp only;simp only[←hz];rw[if_neg (show¬ Z.getD 0 []=OR from c45),if_neg (show¬ Z.getD 0 []=O3 from c59),if_neg (show¬ Z.getD 0 []=OI from c105),if_neg (show¬ Z.getD 0 []=OS from c125),if_neg (show¬ Z.getD 0 []=O5 from c145),if_pos (show Z.getD 0 []=OK from c155)]
        exact lpN (i+1,{A with vc:=r174}) ⟨by dsimp only; omega,⟨hA.po,hA.ve,hA.vt,hA.vp,hA.vk,hA.vs⟩,by dsimp only; rw[e]; exact St.drop (A:=[_]) hS⟩ aI
       ·intro c155;refine cY ?_;refine Oo [3,6,9,18,19,20,44,177] ?_;refine Om ?_ ?_
        ·intro c177;obtain⟨hno1,hno2⟩:=hno ((hz 0).symm.trans c177);rw[←hz] at hno1 hno2;refine Ox ?_;refine KA.drawS (c:=13) (r:=12) (t:=9) (a:=190) (d:=191) [] mixed rfl rfl rfl aE rfl rfl rfl aD aD aE ?_;refine bg ?_;intro p181 hp181;refine Oh hp181 (hS.rd 1 rfl) rfl ?_;refine Oc ?_;refine bg ?_;intro p186 hp186;refine Oh hp186 (hS.rd 1 rfl) rfl ?_;refine Oc ?_;refine Oc ?_;refine Ow (hS.rd 0 rfl) (j:=2) rfl aB ?_;intro p190 hp190;refine OM hp190 (hS.rd 0 rfl) aB ?_;refine KOps.mapEntryN (kf:=kint) (vf:=kstr) (l:=H.packs) (b:=[]) (i:=8) EvK.eq rfl hS hA.vk rfl hno1 rfl ?_;intro h' hS;simp only[dY,dW,dX] at hS;refine KOps.doneS rfl rfl hp190 (hS.rd 0 rfl) (wcs_at aA) ?_;refine OY ?_;refine KOps.entryStoreN (kf:=kint) (vf:=kstr) (l:=H.packs) (a:=atV (Z.getD 1 [])) (b0:=[]) (b:=(Z.getD 2 [])) (i:=8) rfl hS hA.vk rfl rfl ?_;intro h' hS;simp only[dY,dW,dX] at hS;refine KOps.mapEntryN (kf:=kint) (vf:=kint) (l:=H.state) (b:=0) (i:=9) EvK.eq rfl hS hA.vs rfl hno2 rfl ?_;intro h' hS;simp only[dY,dW,dX] at hS;refine OY ?_;refine KOps.entryStoreN (kf:=kint) (vf:=kint) (l:=H.state) (a:=atV (Z.getD 1 [])) (b0:=0) (b:=1) (i:=9) rfl hS hA.vs rfl rfl ?_;intro h' hS;simp only[dY,dW,dX] at hS;refine Oo [3,9,18,19,20] ?_;refine OE rfl ?_;refine Oc ?_;refine bg ?_;intro p199 hp199;refine Oh hp199 (hS.rd 1 rfl) rfl ?_;refine Oc ?_;refine bu ?_;intro v202 h' hS;refine ZV hS (fun _=>rfl) (i:=10) rfl aB ?_;intro r203 h' hr203 hS;refine On hA.po ?_;refine Ob hA.po ?_;intro p205 hp205;refine KK hS rfl (i:=1) rfl hp205 aH aX ?_;intro h' hS;simp only[dY,dW,dX] at hS;refine bo ?_
         try simp only[dY,dW,dX] at hS
         rw[←W0 hno1,←W0 hno2] at hS;have e:QU (ls.take (i+1)) = {H with packs:=Ke H.packs (atV (Z.getD 1 [])) (Z.getD 2 []),state:=Ke H.state (atV (Z.getD 1 [])) 1,order:=H.order ++ [atV (Z.getD 1 [])]}:=by
          rw[←Qu (d:=[]) hlt,Zb,hH,hW];unfold K9;dsimp only;simp only[←hz];rw[if_neg (show¬ Z.getD 0 []=OR from c45),if_neg (show¬ Z.getD 0 []=O3 from c59),if_neg (show¬ Z.getD 0 []=OI from c105),if_neg (show¬ Z.getD 0 []=OS from c125),if_neg (show¬ Z.getD 0 []=O5 from c145),if_neg (show¬ Z.getD 0 []=OK from c155),if_pos (show Z.getD 0 []=OQ from c177)]
         exact lpN (i+1,{A with vo:=r203}) ⟨by dsimp only; omega,⟨hA.po,hA.ve,hA.vt,hA.vp,hA.vk,hA.vs⟩,by dsimp only; rw[e]; exact St.drop (A:=[_]) hS⟩ aI
        ·intro c177;refine cY ?_;refine Oo [3,9,18,19,20,44,206] ?_;refine Om ?_ ?_
         ·intro c206;refine OE rfl ?_;refine bg ?_;intro p210 hp210;refine Oh hp210 (hS.rd 1 rfl) rfl ?_;refine Oc ?_;refine Qq (kf:=kint) (vf:=kint) (l:=H.state) (i:=9) (b:=2) EvK.eq rfl hS hA.vs rfl rfl ?_;intro h' hS;simp only[dY,dW,dX] at hS;refine bo ?_
          try simp only[dY,dW,dX] at hS
          have e:QU (ls.take (i+1)) = {H with state:=Ke H.state (atV (Z.getD 1 [])) 2}:=by
           rw[←Qu (d:=[]) hlt,Zb,hH,hW];unfold K9;dsimp only;simp only[←hz];rw[if_neg (show¬ Z.getD 0 []=OR from c45),if_neg (show¬ Z.getD 0 []=O3 from c59),if_neg (show¬ Z.getD 0 []=OI from c105),if_neg (show¬ Z.getD 0 []=OS from c125),if_neg (show¬ Z.getD 0 []=O5 from c145),if_neg (show¬ Z.getD 0 []=OK from c155),if_neg (show¬ Z.getD 0 []=OQ from c177),if_pos (show Z.getD 0 []=OV from c206)]
          exact lpN (i+1,A) ⟨by dsimp only; omega,hA,by dsimp only; rw[e]; exact St.drop (A:=[_]) hS⟩ aI
         ·intro c206;refine cY ?_;refine Oo [3,9,18,19,20,44,213] ?_;refine Om ?_ ?_
          ·intro c213;refine OE rfl ?_;refine bg ?_;intro p217 hp217;refine Oh hp217 (hS.rd 1 rfl) rfl ?_;refine Oc ?_;refine Qq (kf:=kint) (vf:=kint) (l:=H.state) (i:=9) (b:=3) EvK.eq rfl hS hA.vs rfl rfl ?_;intro h' hS;simp only[dY,dW,dX] at hS;refine bo ?_
           try simp only[dY,dW,dX] at hS
           have e:QU (ls.take (i+1)) = {H with state:=Ke H.state (atV (Z.getD 1 [])) 3}:=by
            rw[←Qu (d:=[]) hlt,Zb,hH,hW];unfold K9;dsimp only;simp only[←hz];rw[if_neg (show¬ Z.getD 0 []=OR from c45),if_neg (show¬ Z.getD 0 []=O3 from c59),if_neg (show¬ Z.getD 0 []=OI from c105),if_neg (show¬ Z.getD 0 []=OS from c125),if_neg (show¬ Z.getD 0 []=O5 from c145),if_neg (show¬ Z.getD 0 []=OK from c155),if_neg (show¬ Z.getD 0 []=OQ from c177),if_neg (show¬ Z.getD 0 []=OV from c206),if_pos (show Z.getD 0 []=OW from c213)]
           exact lpN (i+1,A) ⟨by dsimp only; omega,hA,by dsimp only; rw[e]; exact St.drop (A:=[_]) hS⟩ aI
          ·intro c213;refine cY ?_;refine Oo [3,9,18,19,20,44,220] ?_;refine Om ?_ ?_
           ·intro c220;refine OE rfl ?_;refine bg ?_;intro p224 hp224;refine Oh hp224 (hS.rd 1 rfl) rfl ?_;refine Oc ?_;refine Qq (kf:=kint) (vf:=kint) (l:=H.state) (i:=9) (b:=1) EvK.eq rfl hS hA.vs rfl rfl ?_;intro h' hS;simp only[dY,dW,dX] at hS;refine bo ?_
            try simp only[dY,dW,dX] at hS
            have e:QU (ls.take (i+1)) = {H with state:=Ke H.state (atV (Z.getD 1 [])) 1}:=by
             rw[←Qu (d:=[]) hlt,Zb,hH,hW];unfold K9;dsimp only;simp only[←hz];rw[if_neg (show¬ Z.getD 0 []=OR from c45),if_neg (show¬ Z.getD 0 []=O3 from c59),if_neg (show¬ Z.getD 0 []=OI from c105),if_neg (show¬ Z.getD 0 []=OS from c125),if_neg (show¬ Z.getD 0 []=O5 from c145),if_neg (show¬ Z.getD 0 []=OK from c155),if_neg (show¬ Z.getD 0 []=OQ from c177),if_neg (show¬ Z.getD 0 []=OV from c206),if_neg (show¬ Z.getD 0 []=OW from c213),if_pos (show Z.getD 0 []=OX from c220)]
            exact lpN (i+1,A) ⟨by dsimp only; omega,hA,by dsimp only; rw[e]; exact St.drop (A:=[_]) hS⟩ aI
           ·intro c220;refine cY ?_;refine Oo [3,9,18,19,20,227] ?_;refine Om ?_ ?_
            ·intro c227;refine OE rfl ?_;refine bg ?_;intro p231 hp231;refine Oh hp231 (hS.rd 1 rfl) rfl ?_;refine Oc ?_;refine Qq (kf:=kint) (vf:=kint) (l:=H.state) (i:=9) (b:=0) EvK.eq rfl hS hA.vs rfl rfl ?_;intro h' hS;simp only[dY,dW,dX] at hS;refine bo ?_
             try simp only[dY,dW,dX] at hS
             have e:QU (ls.take (i+1)) = {H with state:=Ke H.state (atV (Z.getD 1 [])) 0}:=by
              rw[←Qu (d:=[]) hlt,Zb,hH,hW];unfold K9;dsimp only;simp only[←hz];rw[if_neg (show¬ Z.getD 0 []=OR from c45),if_neg (show¬ Z.getD 0 []=O3 from c59),if_neg (show¬ Z.getD 0 []=OI from c105),if_neg (show¬ Z.getD 0 []=OS from c125),if_neg (show¬ Z.getD 0 []=O5 from c145),if_neg (show¬ Z.getD 0 []=OK from c155),if_neg (show¬ Z.getD 0 []=OQ from c177),if_neg (show¬ Z.getD 0 []=OV from c206),if_neg (show¬ Z.getD 0 []=OW from c213),if_neg (show¬ Z.getD 0 []=OX from c220),if_pos (show Z.getD 0 []=OZ from c227)]
             exact lpN (i+1,A) ⟨by dsimp only; omega,hA,by dsimp only; rw[e]; exact St.drop (A:=[_]) hS⟩ aI
            intro c227;refine cE ?_;refine bZ ?_;refine Ot [3,18,19,20] ?_;refine bW ?_;exfalso;rcases wt_kind wt with q|q|q|q|q|q|q|q|q|q|q <;> rw[←hz] at q
            exact c45 q;exact c59 q;exact c105 q;exact c125 q;exact c145 q;exact c155 q;exact c177 q;exact c206 q;exact c213 q;exact c220 q;exact c227 q
 intro c21;refine bT ?_;refine Ot [3] ?_;refine bt ?_;refine Oq ?_;refine Oo [2] ?_;refine KW ?_;refine K3 ?_;have hie:i=ls.length:=by omega
 subst hie;rw[fS] at hH;subst hH;exact⟨A,rfl,hA,hS⟩
end Go.Am
namespace Go.Am
def Hs.pkB (H:Hs) (w:Str) (j:Nat):Bool:=match H.packs[j]? with
  | some p=>decide (p.2=w) && decide (0<H.stt p.1)
  | none=>false
def Hs.cntD (H:Hs) (w:Str) (D:List Nat):Nat:=(D.filter (H.pkB w)).length
def Hs.cntP (H:Hs) (w:Str):Nat:=H.cntD w (fJ H.packs.length)
def Hs.bLo (H:Hs) (w:Str):Int:=match Ou H.paid w with
  | some n=>n
  | none=>max (H.tolds w).1 (H.cntP w:Int)
def Hs.bHi (H:Hs) (w:Str):Int:=match Ou H.paid w with
  | some n=>n
  | none=>(H.tolds w).2
theorem UQ (h:AHeap) (x y:Thing):(h.allocT x).set h.next (.obj h.nfam y)=h.allocT y:=by
 unfold AHeap.allocT AHeap.set AHeap.pushFam AHeap.push AHeap.next AHeap.nfam;dsimp only;congr 1;rw[List.set_append_right _ _ (fC _)];simp
theorem V9 {h:AHeap} {Q:HA} {H:Hs} {w:Str} (rh:RHs h Q H) (hp:H.packs.length≤1000):ACalls Go.Proofs.Tryz.prog 58 [Q.po,.str (wd w)] h (fun q h'=>q = .tup [.int .i64 (H.bLo w),.int .i64 (H.bHi w)]∧Keeps h h'):=by
 obtain⟨bm,Fm,hvk,hgm⟩:=id rh.packs;have hmap:Z8 Go.Proofs.Tryz.prog 80=some (3,9):=by kernel_rfl
 have hlen:(entL kint kstr H.packs).length=H.packs.length:=fO _;have hgetI:∀ D,(h.allocT (.mwalk bm (entL kint kstr H.packs).length D)).get h.next=some (.obj h.nfam (.mwalk bm (entL kint kstr H.packs).length D)):=fun D=>by rw[AHeap.get_allocT,if_pos rfl]
 have hgetM:∀ D,(h.allocT (.mwalk bm (entL kint kstr H.packs).length D)).get bm=some (.obj Fm (.map (entL kint kstr H.packs))):=fun D=>by
  rw[AHeap.get_allocT,if_neg (by have:=AHeap.get_lt hgm; omega)]; exact hgm
 refine ON 63 [.tmp 4,.tmp 5] Go.Proofs.Tryz.func58 rfl aD rfl rfl (fK rfl) ?_;show KA _ 63 _ _ [(0,Q.po),(1,.str (wd w))] _;refine bz ?_;refine b5 ?_;intro p14 hp14;refine Oh hp14 rh.rd rfl ?_;refine Oc ?_;refine KOps.lookupD2 (kf:=kstr) (vf:=kint) (l:=H.paid) (w:=0) EvK.eq rh.paid rfl rfl ?_;refine Oa [0,1,6,7] ?_;refine Oa [0,1,6,20] ?_;refine Km ?_ ?_;intro c20;refine cA ?_;obtain⟨n,hn⟩:=Option.isSome_iff_exists.1 c20;refine⟨?_,Keeps.refl _⟩;unfold Hs.bLo Hs.bHi;rw[hn]; rfl;intro c20;refine OC [0,1] ?_;refine bj ?_;refine Od ?_;refine b5 ?_;intro p25 hp25;refine Oh hp25 rh.rd rfl ?_;refine ZK (Ur rfl hmap (EvK.eq.trans hvk) hgm) ?_;refine Oo [0,1,8,27] ?_;refine OB ?_;have hc0:H.cntD w []=0:=rfl;refine KA.mapLoop (b:=h.next) (F:=h.nfam) (bm:=bm) (Fm:=Fm) (es:=entL kint kstr H.packs) (id:=0) (fun D=>[(0,Q.po),(1,.str (wd w)),(8,.int .i64 ((H.cntD w D:Nat):Int)),(27,.it h.next)]) (fun D=>h.allocT (.mwalk bm (entL kint kstr H.packs).length D)) (KE:=[(0,Q.po),(1,.str (wd w)),(8,.int .i64 ((H.cntP w:Nat):Int))]) (HE:=h.allocT .gone) rfl (fun _ _=>EvK.eq) (fun D _=>hgetI D) (fun D _=>hgetM D) ?_ ?_ aT rfl ?_;intro D j k v hD hj hjk;rw[UQ];have hjl:=(List.getElem?_eq_some_iff.1 hjk).1;have hpj:H.packs[j]? = some H.packs[j]:=fA aA;generalize H.packs[j]'aA=p at hpj;have hkv:k=kint p.1∧v=kstr p.2:=by
  simp only[entL,fG,hpj,Option.map_some,Option.some.injEq,Prod.mk.injEq] at hjk;exact⟨hjk.1.symm,hjk.2.symm⟩
 obtain⟨rfl,rfl⟩:=hkv;have hDl:D.length≤1000:=by
  have:=Z1 (m:=fJ (entL kint kstr H.packs).length) hD.1 (fun x hx=>fF.2 (hD.2 x hx));rw[List.length_range] at this;omega
 have hcl:H.cntD w D≤1000:=fN (List.length_filter_le _ _) hDl;have hcs:H.cntD w (D ++ [j])=H.cntD w D+if (decide (p.2=w) && decide (0<H.stt p.1))=true then 1 else 0:=by
  unfold Hs.cntD;rw[YI,fI];have e:H.pkB w j=(decide (p.2=w) && decide (0<H.stt p.1)):=by unfold Hs.pkB; rw[hpj]
  rw[e];split <;> rfl
 have rh2:RHs (h.allocT (.mwalk bm (entL kint kstr H.packs).length (D ++ [j]))) Q H:=rh.ext (Yi _ _);refine OY ?_;refine Og ?_;refine Ox ?_;refine KQ ?_;refine OC [0,1,8,27] ?_;refine OB ?_;refine Ov ?_;refine ZK (Uq rfl EvK.eq (hgetI _) (hgetM _) hjk) ?_;refine Oa [0,1,8,9,10,27] ?_;refine Od ?_;refine Oz (dj:=36) rfl rfl true false rfl ?_ ?_;intro g36;have g36:=of_decide_eq_true g36;refine Od ?_;refine On rh.ok.po ?_;refine Oe (dj:=36) rfl rfl ?_;refine Ob rh.ok.po ?_;intro p39 hp39;refine Oe (dj:=36) rfl rfl ?_;refine Oh hp39 rh2.rd rfl ?_;refine Od ?_;refine Qm (kf:=kint) (vf:=kint) (l:=H.state) (w:=0) EvK.eq rh2.state rfl rfl ?_;refine Oa [0,1,8,27,37,38,39,40,41,42,43,44] ?_;refine Om ?_ ?_;intro c44;refine dS ?_;rw[if_pos (by rw[decide_eq_true g36,decide_eq_true (show 0<H.stt p.1 from c44)]; rfl)] at hcs;exact⟨rfl,aT,rfl⟩;intro c44;refine cE ?_;rw[if_neg (by rw[decide_eq_false (show¬ 0<H.stt p.1 from c44),Bool.and_false]; decide)] at hcs;exact⟨rfl,aT,rfl⟩;intro g36;have g36:=of_decide_eq_false g36;refine Oa [0,1,8,27,37,38,39,40,41,42,43,44] ?_;refine OP ?_;refine cE ?_;rw[if_neg (by rw[decide_eq_false g36,Bool.false_and]; decide)] at hcs;exact⟨rfl,aT,rfl⟩;intro D hD hf;have hperm:D.Perm (fJ H.packs.length):=(List.perm_ext_iff_of_nodup hD.1 List.nodup_range).2 fun i=>⟨fun hi=>fF.2 (by have:=hD.2 i hi; omega),fun hi=>hf i (by rw[hlen]; exact fF.1 hi)⟩
 have hce:H.cntD w D=H.cntP w:=(hperm.filter _).length_eq;refine OY ?_;refine Og ?_;refine Ox ?_;refine OP ?_;refine Kf ?_;refine O1 ?_;exact⟨rfl,aT,⟨_,hgetI D⟩,UQ _ _ _⟩;have rh2:RHs (h.allocT .gone) Q H:=rh.ext (Yi _ _);refine O4 ?_;refine Of ?_;refine Ot [0,1,8] ?_;refine ct ?_;refine b5 ?_;intro p49 hp49;refine Oh hp49 rh2.rd rfl ?_;refine Oc ?_;refine Qm (kf:=kstr) (vf:=prV) (l:=H.told) (w:=(0,0)) EvK.eq rh2.told rfl rfl ?_;refine dR ?_;refine Oc ?_;refine KOps.max ?_;refine Oc ?_;refine b5 ?_;intro p58 hp58;refine Oh hp58 rh2.rd rfl ?_;refine Oc ?_;refine Qm (kf:=kstr) (vf:=prV) (l:=H.told) (w:=(0,0)) EvK.eq rh2.told rfl rfl ?_;refine dQ ?_;refine cA ?_;refine⟨?_,Yi _ _⟩;have hn:Ou H.paid w=none:=by cases hm:Ou H.paid w with|none=>rfl|some n=>rw[hm] at c20; cases c20
 unfold Hs.bLo Hs.bHi;rw[hn]; rfl
end Go.Am
namespace Go.Am
section
variable {h h0 h1 h2:AHeap} {b o:AV} {l m:List Str} {G:List Obj}
theorem Bk.lift {X:List Obj} (st:St h h1 X) (hB:Bk h1 h2 b l []):Bk h h2 b l []:=by
 obtain⟨vl,A,hb,hS⟩:=hB;exact⟨vl,A,hb,St.drop (A:=X) (St.perm List.perm_append_comm (St.trans st hS))⟩
end
theorem yLine_len (u:Bool) (q:Q4) (hq:q.Ok):(Qk u q).length≤60:=by
 have h1:(Zp waysL q.b).length≤4:=Zc aD;have h2:(fD ((q.c % 10:Nat):Int)).length≤21:=fP _ aA aA;have h3:(fD ((1+q.c % 5:Nat):Int)).length≤21:=fP _ aA aA;have h4:(Zp roomsL q.c).length≤5:=Zc aD;have h5:(Zp roomsL q.d).length≤5:=Zc aD;have h6:(Zp [[118,97,117,108,116],[116,97,98,108,101]] q.d).length≤5:=Zc aD;have h7:(Zp [[115,101,97,108,32],[98,117,114,110,32]] q.d).length≤5:=Zc aD;have h8:(Zp [[100,101,97,108,32],[98,97,99,107,32]] q.d).length≤5:=Zc aD;unfold Qk yW yN yP;dsimp only
 repeat' split
 all_goals simp only[fI,fT,List.length_nil]
 all_goals omega
theorem Tk {u:Bool} {y:List Q4} (hy:∀ q∈y,q.Ok):∀ x∈XY u y,x.length≤1000000:=by
 intro x hx;rcases fY.1 hx with h|h
 have:∀ x∈Yl,x.length≤1000000:=by decide
 exact this x h;obtain⟨q,hq,rfl⟩:=fQ.1 h;have:=yLine_len u q (hy q (List.mem_of_mem_take hq));omega
theorem Rh (u:Bool) (y:List Q4):(XY u y).length≤30:=by
 unfold XY;rw[fI,fO,List.length_take];show 6+_≤30;omega
end Go.Am
namespace Go.Am
def tOk : Tell → Bool
  | .room r=>decide (r∈roomsL ++ [[118,97,117,108,116],[116,97,98,108,101]])
  | .way w f t=>decide (w∈waysL) && decide (f∈roomsL) && decide (t∈roomsL)
  | .bound w n _=>decide (w∈waysL) && decide (0≤n) && decide (n≤9)
  | .pack p w=>decide (1≤p) && decide (p≤5) && decide (w∈waysL)
  | .move p _=>decide (1≤p) && decide (p≤5)
  | .claim w n=>decide (w∈waysL) && decide (0≤n) && decide (n≤9)
  | .free w=>decide (w∈waysL)
theorem yk1:∀ b,b<5→∀ c,c<10→tOk (KU ([108,101,97,115,116,32] ++ waysL.getD b [] ++ [32] ++ fD ((c:Nat):Int)))=true:=by decide +kernel
theorem yk2:∀ b,b<5→∀ c,c<10→tOk (KU ([109,111,115,116,32] ++ waysL.getD b [] ++ [32] ++ fD ((c:Nat):Int)))=true:=by decide +kernel
theorem yk3:∀ b,b<5→∀ c,c<5→tOk (KU ([112,97,99,107,32] ++ fD ((1+c:Nat):Int) ++ [32] ++ waysL.getD b []))=true:=by decide +kernel
theorem yk4:∀ d,d<2→∀ c,c<5→tOk (KU ([[115,101,97,108,32],[98,117,114,110,32]].getD d [] ++ fD ((1+c:Nat):Int)))=true:=by decide +kernel
theorem yk5:∀ d,d<2→∀ c,c<5→tOk (KU ([[100,101,97,108,32],[98,97,99,107,32]].getD d [] ++ fD ((1+c:Nat):Int)))=true:=by decide +kernel
theorem yk6:∀ b,b<5→∀ c,c<10→tOk (KU ([99,108,97,105,109,32] ++ waysL.getD b [] ++ [32] ++ fD ((c:Nat):Int)))=true:=by decide +kernel
theorem yk7:∀ b,b<5→tOk (KU ([102,114,101,101,32] ++ waysL.getD b []))=true:=by decide +kernel
theorem yk8:∀ b,b<5→∀ c,c<3→∀ d,d<3→tOk (KU ([119,97,121,32] ++ waysL.getD b [] ++ [32] ++ roomsL.getD c [] ++ [32] ++ roomsL.getD d []))=true:=by decide +kernel
theorem yk9:∀ d,d<2→tOk (KU ([114,111,111,109,32] ++ [[118,97,117,108,116],[116,97,98,108,101]].getD d []))=true:=by decide +kernel
theorem yk0:∀ x∈Yl,tOk (KU x)=true:=by decide +kernel
theorem yLine_ok (u:Bool) (q:Q4):Qk u q=VG∨tOk (KU (Qk u q))=true:=by
 have hb:q.b % 5<5:=fH _ aD;have h10:q.c % 10<10:=fH _ aD;have h5:q.c % 5<5:=fH _ aD;have h3:q.c % 3<3:=fH _ aD;have hd3:q.d % 3<3:=fH _ aD;have hd2:q.d % 2<2:=fH _ aD;unfold Qk;dsimp only;split;exact .inr (yk1 _ hb _ h10);split;exact .inr (yk2 _ hb _ h10);split;exact .inr (yk3 _ hb _ h5);split;exact .inr (yk4 _ hd2 _ h5);split;exact .inr (yk5 _ hd2 _ h5);split;exact .inr (yk6 _ hb _ h10);split;exact .inr (yk7 _ hb);split;exact .inr (yk8 _ hb _ h3 _ hd3);split;exact .inl rfl;exact .inr (yk9 _ hd2)
theorem yLines_ok {u:Bool} {y:List Q4}:∀ x∈XY u y,x=VG∨tOk (KU x)=true:=by
 intro x hx;rcases fY.1 hx with h|h
 exact .inr (yk0 x h);obtain⟨q,_,rfl⟩:=fQ.1 h;exact yLine_ok u q
theorem doL_mem {ls:List Str} {x z:Str} (h:z∈doL ls x):z∈ls∨z=x:=by
 unfold doL at h;split at h;simpa using h;exact .inl h
theorem bookTo_mem {xs:List Str}:∀ i,i≤xs.length→∀ z∈XT xs i,z∈xs:=by
 intro i
 induction i with
 | zero=>intro _ z hz; cases hz
 | succ i ih=>
  intro hi z hz;rw[XT] at hz;by_cases hx:xs.getD i []=VG;rw[Ww hx] at hz;exact ih aA z ((List.dropLast_sublist _).subset hz);rw[bk_do hx] at hz;rcases doL_mem hz with h|h
  exact ih aA z h;rw[h]; exact getD_mem aA
theorem bookTo_len {xs:List Str}:∀ i,(XT xs i).length≤i:=by
 intro i
 induction i with
 | zero=>exact fC _
 | succ i ih=>
  rw[XT];by_cases hx:xs.getD i []=VG;rw[Ww hx,List.length_dropLast]; omega;rw[bk_do hx];unfold doL;split;rw[fI,List.length_singleton]; omega;omega
structure YL (L:List Str):Prop where
  done:Done L
  ok:∀ x∈L,tOk (KU x)=true
  len:L.length≤30
theorem Done.noUndo {L:List Str} (hD:Done L):∀ x∈L,x≠VG:=by
 induction hD with
 | nil=>intro x hx; cases hx
 | @snoc lines line h he ih=>
  intro x hx;rcases fY.1 hx with h1|h1
  exact ih x h1;rw[fB.1 h1];rintro rfl;have:=(Zg he).1;revert this;decide +kernel
theorem YL.book {u:Bool} {y:List Q4} (hD:Done (JG (XY u y))):YL (JG (XY u y)):=by
 refine⟨hD,?_,fN (bookTo_len _) (Rh u y)⟩;intro x hx;rcases yLines_ok (u:=u) (y:=y) x (bookTo_mem _ (fC _) x hx) with h|h
 exact absurd h (hD.noUndo x hx);exact h
structure YOff (O:Off):Prop where
  ways:∀ w∈O.ways.map (·.1),w∈waysL
  ever:∀ k∈O.ever,1≤k∧k≤5
  rooms:∀ r∈O.rooms,r∈roomsL ++ [[118,97,117,108,116],[116,97,98,108,101]]
theorem yoff_tell {O:Off} (hY:YOff O) {t:Tell} (h0:O.wrong t=0) (ht:tOk t=true):YOff (O.tell t):=by
 cases t with
 | room r=>
  refine⟨hY.ways,hY.ever,fun x hx=>?_⟩;have hx2:x∈O.rooms ++ [r]:=hx;rcases fY.1 hx2 with h|h
  exact hY.rooms x h;rw[fB.1 h]; exact of_decide_eq_true ht
 | way w f t=>
  refine⟨fun x hx=>?_,hY.ever,hY.rooms⟩;have hx2:x∈(O.ways ++ [(w,(⟨O.ways.length,O2 O.rooms f,O2 O.rooms t,none,none,[],false⟩:Lane))]).map (·.1):=hx;rw[List.map_append] at hx2;rcases fY.1 hx2 with h|h
  exact hY.ways x h;rw[fB.1 h];simp only[tOk,fE,decide_eq_true_eq] at ht;exact ht.1.1
 | bound w n g=>exact⟨by rw[show(O.tell (.bound w n g)).ways=Qh O.ways w (chB n g) from rfl,Qw]; exact hY.ways,hY.ever,hY.rooms⟩
 | pack p w=>
  refine⟨by rw[show(O.tell (.pack p w)).ways=Qh O.ways w (chP p) from rfl,Qw]; exact hY.ways,fun x hx=>?_,hY.rooms⟩;have hx2:x∈O.ever ++ [p]:=hx;rcases fY.1 hx2 with h|h
  exact hY.ever x h;rw[fB.1 h];simp only[tOk,fE,decide_eq_true_eq] at ht;exact ht.1
 | move p s=>
  obtain⟨d,hd⟩:=XM h0;unfold Off.tell;dsimp only;rw[hd];dsimp only;split;exact⟨by rw[show(O.mod d.1 _).ways=Qh O.ways d.1 _ from rfl,Qw]; exact hY.ways,hY.ever,hY.rooms⟩;exact⟨hY.ways,hY.ever,hY.rooms⟩
 | claim w n=>exact⟨by rw[show(O.tell (.claim w n)).ways=Qh O.ways w (fun l=>{l with paid:=true,told:=some n}) from rfl,Qw]; exact hY.ways,hY.ever,hY.rooms⟩
 | free w=>exact⟨by rw[show(O.tell (.free w)).ways=Qh O.ways w (fun l=>{l with told:=none,top:=none}) from rfl,Qw]; exact hY.ways,hY.ever,hY.rooms⟩
theorem yoff_of {L:List Str} (hD:Done L) (h:∀ x∈L,tOk (KU x)=true):YOff (after L):=by
 induction hD with
 | nil=>exact⟨fun w hw=>(by cases hw),fun k hk=>(by cases hk),fun r hr=>(by cases hr)⟩
 | @snoc lines line hd he ih=>
  rw[Zx];exact yoff_tell (ih fun x hx=>h x (List.mem_append_left _ hx)) (Zg he).2.1 (h line (List.mem_append_right _ (fB.2 rfl)))
theorem YL.off {L:List Str} (h:YL L):YOff (after L):=yoff_of h.done h.ok
theorem nodup_five {l:List Str} (hn:l.Nodup) (h:∀ w∈l,w∈waysL):l.length≤5:=by
 have:l.length≤waysL.length:=by
  have key:∀ (m l:List Str),l.Nodup→(∀ w∈l,w∈m)→l.length≤m.length:=by
   intro m
   induction m with
   | nil=>intro l _ h; cases l with
    | nil=>exact fC _
    | cons a l=>exact absurd (h a List.mem_cons_self) aU
   | cons b m ih=>
    intro l hn h;have h1:=ih (l.erase b) (hn.erase b) fun w hw=>by
     have h2:=(List.Nodup.mem_erase_iff hn).1 hw;exact(List.mem_cons.1 (h w h2.2)).resolve_left h2.1
    have h3:l.length≤(l.erase b).length+1:=by
     rw[List.length_erase]; split <;> omega
    rw[fT]; omega
  exact key waysL l hn h
 exact this
end Go.Am
namespace Go.Am
theorem Rx {L:List Str} {x:Str} (hx:KH x=0) (hl:L.length≤60):O7 L x=(after L).wrong (KU x):=by
 unfold O7;dsimp only;rw[if_pos hx,if_neg aA]
end Go.Am
namespace Go.Am
theorem WF.plM {O:Off} (hW:WF O) {w:Str} {l:Lane} (h:Ou O.ways w=some l):l.pl<O.ways.length∧O.ways[l.pl]? = some (w,l):=by
 obtain⟨i,h1,h2⟩:=JY h;have:=hW.pl i h1;rw[show O.ways.getD i default=(w,l) by rw[dZ,h2]; rfl] at this;have e:l.pl=i:=this;rw[e]; exact⟨h1,h2⟩
theorem sp_is {O:Off} (hW:WF O) (hF:Fit O) {w:Str} {l:Lane} (h:Ou O.ways w=some l):IsLo O.ws l.pl (O.spLo l.pl)∧IsHi O.ws l.pl (O.spHi l.pl):=by
 obtain⟨h1,h2⟩:=hW.plM h;have ha:=J5 hW hF h1;have e1:O.spLo l.pl=YD O.ws l.pl:=if_pos ha;have e2:O.spHi l.pl=YX O.ws l.pl:=if_pos ha;rw[e1,e2];have hi:l.pl<O.ws.length:=by rw[O.ws_len]; exact h1
 exact⟨Vc hF hi,VY hF hi⟩
theorem sp_lane {O:Off} (hW:WF O) (hF:Fit O) {w:Str} {l:Lane} (h:Ou O.ways w=some l):l.lo≤O.spLo l.pl∧O.spLo l.pl≤O.spHi l.pl∧O.spHi l.pl≤l.hi:=by
 obtain⟨⟨⟨n,hn,e1⟩,h1⟩,⟨m,hm,e2⟩,h2⟩:=sp_is hW hF h;obtain⟨_,h3⟩:=hW.plM h;have a:=XJ hn h3;have b:=XJ hm h3;have c:=h1 m hm;omega
def sClm (w:Str) (a:Int):Str:=[99,108,97,105,109,32] ++ w ++ [32] ++ fD a
def Wz : Tell → Option (Str × Int)
  | .claim w n=>some (w,n)
  | _=>none
theorem JI {t:Tell} {w:Str} {n:Int} (h:Wz t=some (w,n)):t = .claim w n:=by
 cases t <;> cases h; rfl
theorem clm_is:∀ b,b<5→∀ c,c<100→KH (sClm (waysL.getD b []) ((c:Nat):Int))=0∧Wz (KU (sClm (waysL.getD b []) ((c:Nat):Int)))=some (waysL.getD b [],((c:Nat):Int)):=by decide +kernel
end Go.Am
namespace Go.Am
theorem R0 {κ ν:Type} [DecidableEq κ]:∀ {l:List (κ × ν)},(l.map (·.1)).Nodup→∀ p∈l,Ou l p.1=some p.2:=by
 intro l
 induction l with
 | nil=>intro _ p hp; cases hp
 | cons a l ih=>
  intro hn p hp;rw[List.map_cons,List.nodup_cons] at hn;rcases List.mem_cons.1 hp with rfl|h
  rw[Ou,if_pos rfl];rw[Ou,if_neg (fun e=>hn.1 (by rw[←e]; exact fQ.2 ⟨p,h,rfl⟩))];exact ih hn.2 p h
theorem mget_map {α β:Type} {l:List (Str × α)} {g : α→β} (w:Str):Ou (l.map fun p=>(p.1,g p.2)) w=(Ou l w).map g:=by
 induction l with
 | nil=>rfl
 | cons a l ih=>
  rw[List.map_cons,Ou,Ou];split;rfl;exact ih
theorem R7 {α:Type} (l:List α) (q : α→Bool):∀ i,i≤l.length→((fJ i).filter fun j=>match l[j]? with|some p=>q p|none=>false).length=((l.take i).filter q).length:=by
 intro i
 induction i with
 | zero=>intro _; rfl
 | succ i ih=>
  intro hi;have e1:l.take (i+1)=l.take i ++ [l[i]]:=by rw[List.take_add_one,fA aA]; rfl
  rw[fW,YI,fI,ih aA,e1,YI,fI,fA aA];dsimp only;by_cases hq:q l[i]=true;rw[if_pos hq,if_pos hq]; rfl;rw[if_neg hq,if_neg hq]; rfl
theorem cnt_is {O:Off} {H:Hs} (hr:HRl O H) (w:Str):H.cntP w=(H.pks w).length:=by
 have e1:H.cntP w=(H.packs.filter fun p=>decide (p.2=w) && decide (0<H.stt p.1)).length:=by
  have:=R7 H.packs (fun p=>decide (p.2=w) && decide (0<H.stt p.1)) _ (fC _);rw[fS] at this;have e:H.pkB w=fun j=>match H.packs[j]? with|some p=>decide (p.2=w) && decide (0<H.stt p.1)|none=>false:=by
   funext j; unfold Hs.pkB; cases H.packs[j]? <;> rfl
  unfold Hs.cntP Hs.cntD;rw[e,←this];congr 2;funext j
  cases H.packs[j]? <;> rfl
 have ho:H.order=H.packs.map (·.1):=by rw[hr.order,hr.packs]
 have hn:(H.packs.map (·.1)).Nodup:=by rw[hr.packs]; exact hr.ever
 rw[e1];unfold Hs.pks;rw[ho,List.filter_map,fO];congr 1;refine List.filter_congr fun p hp=>?_
 show _=(decide ((Ou H.packs p.1).getD []=w) && decide (0<H.stt p.1));rw[R0 hn p hp]; rfl
theorem bnd_is {O:Off} {H:Hs} (hr:HRl O H) {w:Str} {l:Lane} (hm:Ou O.ways w=some l):H.bLo w=l.lo∧H.bHi w=l.hi:=by
 have hp:=hr.paid w l hm;have hc:=cnt_is hr w;rw[←hr.lane w l hm] at hc;unfold Hs.bLo Hs.bHi
 cases hpd:l.paid with
 | true=>
  rw[hp,if_pos hpd];unfold Lane.lo Lane.hi;rw[if_pos hpd,if_pos hpd];exact⟨rfl,rfl⟩
 | false=>
  rw[hp,if_neg (by rw[hpd]; decide)];unfold Hs.tolds;rw[hr.toldU w l hm hpd,hc];unfold Lane.lo Lane.hi;rw[if_neg (by rw[hpd]; decide),if_neg (by rw[hpd]; decide)];refine⟨?_,rfl⟩
  cases ht:l.told with
  | none=>dsimp only[Option.getD_some,Option.getD_none]; omega
  | some t=>dsimp only[Option.getD_some]; omega
def Hs.endsV (H:Hs) (w:Str):Int × Int:=(Ou H.ends w).getD (0,0)
def Hs.way (H:Hs) (w:Str):W:=⟨(H.endsV w).1,(H.endsV w).2,H.bLo w,H.bHi w⟩
def Hs.wsL (H:Hs):List W:=H.ways.map H.way
theorem ends_is {O:Off} {H:Hs} (hr:HRl O H) {w:Str} {l:Lane} (hm:Ou O.ways w=some l):H.endsV w=((l.fr:Int),(l.to:Int)):=by
 unfold Hs.endsV;rw[hr.ends,mget_map (g:=fun l:Lane=>((l.fr:Int),(l.to:Int))),hm]; rfl
theorem ws_is {O:Off} {H:Hs} (hr:HRl O H) (nd:(O.ways.map (·.1)).Nodup):H.wsL=O.ws:=by
 unfold Hs.wsL Off.ws;rw[hr.ways,List.map_map];refine fM fun p hp=>?_
 have hm:=R0 nd p hp;show H.way p.1=_;unfold Hs.way;rw[ends_is hr hm,(bnd_is hr hm).1,(bnd_is hr hm).2]
theorem YH (H:Hs):H.wsL.length=H.ways.length:=fO _
theorem Ui (H:Hs) {i:Nat} (h:i<H.ways.length):H.wsL.getD i default=H.way (H.ways.getD i []):=by
 unfold Hs.wsL;rw[dZ,fG,dZ,fA h]; rfl
def J1 (ws:List W) (s:Nat):Bool:=decide (QB ws s (-1) ws.length≤QC ws s (-1) ws.length)
def XR (ws:List W) (s:Nat):Bool:=(fJ s).all fun s=>decide (s=0) || J1 ws s
theorem Tm {ws:List W} {s:Nat} (h0:s≠0):XR ws (s+1)=(XR ws s && J1 ws s):=by
 unfold XR;rw[fW,List.all_append,List.all_cons,List.all_nil,Bool.and_true,decide_eq_false h0,Bool.false_or]
theorem net_sums (ws:List W) (s:Nat):∀ k,Q9 ws s k=QB ws s (-1) k - QC ws s (-1) k:=by
 intro k
 induction k with
 | zero=>rfl
 | succ k ih=>
  rw[Q9,QB,QC,ih];have hk:((k:Nat):Int)≠-1:=by omega
  simp only[hk,ne_eq,not_false_eq_true,true_and]
  cases hl:lvs (ws.getD k default) s <;> cases he:ens (ws.getD k default) s <;> simp <;> omega
theorem Rt (ws:List W) (s:Nat):J1 ws s = !ZR ws s:=by
 unfold J1 ZR;rw[net_sums,←decide_not,decide_eq_decide];omega
theorem proof_zero (ws:List W):ZR ws 0=false:=by
 have key:∀ k,Q9 ws 0 k=0:=by
  intro k
  induction k with
  | zero=>rfl
  | succ k ih=>rw[Q9,ih]; unfold lvs ens inS; simp
 rw[ZR,key]; rfl
theorem RD:∀ r:Nat,r≤6→∀ x:Nat,x<r→(2 ^ r - 1).testBit x=true:=by decide +kernel
theorem proof_full {r:Nat} {ws:List W} (hr:r≤6) (hB:InR r ws):ZR ws (2 ^ r - 1)=false:=by
 have key:∀ k,k≤ws.length→Q9 ws (2 ^ r - 1) k=0:=by
  intro k
  induction k with
  | zero=>intro _; rfl
  | succ k ih=>
   intro hk;obtain⟨h1,h2,h3,h4⟩:=hB k aA;have e1:inS (2 ^ r - 1) (ws.getD k default).f=true:=RD r hr _ aA;have e2:inS (2 ^ r - 1) (ws.getD k default).t=true:=RD r hr _ aA;rw[Q9,ih aA];unfold lvs ens;rw[e1,e2]; rfl
 rw[ZR,key _ (fC _)]; rfl
theorem able_can {r:Nat} {ws:List W} (hr:r≤6) (hB:InR r ws):XR ws (2 ^ r - 1)=X1 r ws:=by
 have hp : 0<2 ^ r:=Nat.two_pow_pos r;rw[fX];unfold XR;rw[canB_iff,fV];constructor;intro h s hs;by_cases h0:s=0;rw[h0]; exact proof_zero ws;by_cases h1:s=2 ^ r - 1;rw[h1]; exact proof_full hr hB;have:=h s (fF.2 aA);rw[decide_eq_false h0,Bool.false_or,Rt] at this;simpa using this;intro h s hs;have hs:=fF.1 hs;rw[Rt,h s aA];simp
theorem able_flow {O : Off} {H : Hs} (hr : HRl O H) (hW : WF O) (hF : Fit O) {w : Str} {l : Lane} (hm : Ou O.ways w = some l) {k : Int} (h1 : l.lo ≤ k) (h2 : k ≤ l.hi) :
    XR (Qz H.wsL l.pl k) (2 ^ H.rooms.length - 1)=decide (O.spLo l.pl≤k∧k≤O.spHi l.pl):=by
 obtain⟨hi,hx⟩:=hW.plM hm;have hB:=JZ hW aA;have hrm:O.rm=(O.rooms.length:Int):=rfl;rw[ws_is hr hW.nd,hr.rooms];have hin:InR (O.rooms.length:Int) O.ws:=fun i hi=>by
  have w:=hB.way i hi;exact⟨w.f0,w.f1,w.t0,w.t1⟩
 have hlm:LM O.ws:=fun i hi=>(hB.way i hi).lm
 have hil:l.pl<O.ws.length:=by rw[O.ws_len]; exact hi
 have hg:O.ws.getD l.pl default=⟨l.fr,l.to,l.lo,l.hi⟩:=by rw[Off.ws_get hi,show O.ways.getD l.pl default=(w,l) by rw[dZ,hx]; rfl]
 rw[able_can hW.rooms (Rg hil hin),fX,Xz hin hlm hil (by rw[hg]; exact h1) (by rw[hg]; exact h2),decide_eq_true_eq];obtain⟨⟨⟨n,hn,e1⟩,hlo⟩,⟨m,hm2,e2⟩,hhi⟩:=sp_is hW hF hm;constructor;rintro⟨q,hq,rfl⟩;exact⟨hlo q hq,hhi q hq⟩
 ·rintro⟨h3,h4⟩;have c1:X1 O.rooms.length (Qz O.ws l.pl (O.spLo l.pl))=true:=(Xz hin hlm hil (by rw[hg,←e1]; exact(XJ hn hx).1) (by rw[hg,←e1]; exact(XJ hn hx).2)).2 ⟨n,hn,e1⟩;have c2:X1 O.rooms.length (Qz O.ws l.pl (O.spHi l.pl))=true:=(Xz hin hlm hil (by rw[hg,←e2]; exact(XJ hm2 hx).1) (by rw[hg,←e2]; exact(XJ hm2 hx).2)).2 ⟨m,hm2,e2⟩;refine(Xz hin hlm hil (by rw[hg]; exact h1) (by rw[hg]; exact h2)).1 ?_;rw[canB_iff] at c1 c2⊢;intro s hs;have d1:=c1 s hs;have d2:=c2 s hs;unfold ZR at d1 d2⊢;rw[QR] at d1 d2⊢;have d1:=of_decide_eq_false d1;have d2:=of_decide_eq_false d2;refine decide_eq_false ?_;have key:∀ j,j≤O.ws.length→∃ c:Int,(c=0∨c=1∨c = -1)∧∀ v,Q9 (Qz O.ws l.pl v) s j=Q9 (Qz O.ws l.pl 0) s j+c*v:=by
   intro j
   induction j with
   | zero=>intro _; exact⟨0,.inl rfl,fun v=>by simp[Q9]⟩
   | succ j ih=>
    intro hj;obtain⟨c,hc,he⟩:=ih aA;by_cases hji:j=l.pl
    ·
      have hz:∀ q,q≤j→∀ v,Q9 (Qz O.ws l.pl v) s q=Q9 (Qz O.ws l.pl 0) s q:=by
        intro q
        induction q with
        | zero=>intro _ v; rfl
        | succ q ihq=>
          intro hq v;have hne:q≠l.pl:=by omega
          rw[Q9,Q9,ihq aA,QI hil,QI hil,if_neg hne,if_neg hne]
      refine⟨(if lvs ⟨l.fr,l.to,l.lo,l.hi⟩ s then 1 else 0) - (if ens ⟨l.fr,l.to,l.lo,l.hi⟩ s then 1 else 0),?_,fun v=>?_⟩;unfold lvs ens
      cases inS s (l.fr:Int) <;> cases inS s (l.to:Int) <;> simp
      rw[Q9,Q9,hz j (fC _) v,QI hil,QI hil,if_pos hji,if_pos hji,hg];unfold lvs ens
      cases inS s (l.fr:Int) <;> cases inS s (l.to:Int) <;> simp <;> omega
    refine⟨c,hc,fun v=>?_⟩;rw[Q9,Q9,he v,QI hil,QI hil,if_neg hji,if_neg hji];omega
  obtain⟨c,hc,he⟩:=key _ (fC _);rw[he] at d1 d2⊢;rcases hc with rfl|rfl|rfl <;> omega
end Go.Am
namespace Go.Am
theorem chk_of_B {rm:Int} {ws:List W} (hB:BOk rm ws):Kx rm ws=0:=hB.chk
theorem rooms_ok:∀ r:Nat,r≤6→∀ k:Nat,k<2 ^ r→Qy (r:Int) (Ki k 6) (Ki k 6).length=0∧Yt (Ki k 6) (Ki k 6).length=k:=by decide +kernel
theorem TE:∀ s:Nat,s<64→Ki s 6 = []→s=0:=by decide +kernel
theorem Wh:∀ s:Nat,s<64→∀ x:Nat,x<6→s.testBit x=true→((x:Nat):Int)∈Ki s 6:=by decide +kernel
theorem bestTo_p {p:Nat→Bool}:∀ {k b:Nat},QP p k=some b→b<k∧p b=true:=by
 intro k
 induction k with
 | zero=>intro b h; cases h
 | succ k ih=>
  intro b h;rw[QP] at h;split at h;rename_i hc;cases h;rw[fE] at hc;exact⟨Nat.lt_succ_self _,hc.1⟩;obtain⟨h1,h2⟩:=ih h;exact⟨by omega,h2⟩
theorem W9 {r:Nat} {ws:List W} (hB:BOk (r:Int) ws) {i s:Nat} (hi:i<ws.length) (hs:s<2 ^ r) (hc:QA ws s i=true):Z9 (r:Int) ws (Ki s 6) (i:Int)=0∧Ys (r:Int) ws (Ki s 6) (i:Int)=XN ws s i:=by
 have h6:=hB.r6;have h:=rooms_ok r aA s hs;have hk:ZX (r:Int) ws (i:Int)=0:=by rw[ZX,if_pos (chk_of_B hB),if_pos aA]
 have hse:setE (r:Int) (Ki s 6)=s:=by rw[setE,if_pos h.1,h.2]
 have:=say_ok (rm:=(r:Int)) (ws:=ws) (l:=Ki s 6) (i:=(i:Int)) hk h.1 (by rw[hse,fU]; exact hc);rw[hse,fU] at this;exact this
theorem Ts {r : Nat} {ws : List W} {i : Nat} (hB : BOk (r : Int) ws) (hx : ∃ n, Flow ws n) (ha : Zm (r : Int) ws (i : Int) = 0) (hi : i < ws.length) (g : Bool) :
    (Kv (r:Int) ws (i:Int) g = []∧X5 ws i g=Vq ws i g)∨(Kv (r:Int) ws (i:Int) g≠[]∧∃ s,s<2 ^ r∧pB ws i g s=true∧Kv (r:Int) ws (i:Int) g=Ki s 6):=by
 have hr6:=hB.r6;have hpw : 2 ^ r≤2 ^ 6:=fL aD aA;by_cases he:X5 ws i g=Vq ws i g;refine .inl ⟨?_,he⟩;rw[Kv,if_pos ha,fU,if_pos he];refine .inr ?_;obtain⟨s,hs,hp⟩:=bound_some hB hx hi he;obtain⟨b,hb⟩:=Tq (p:=pB ws i g) hp hs;obtain⟨h1,h2⟩:=bestTo_p hb;have e:Kv (r:Int) ws (i:Int) g=Ki b 6:=by
  rw[Kv,if_pos ha,fU,if_neg he,fU];unfold JJ;rw[hb]
 refine⟨?_,b,h1,h2,e⟩;rw[e];intro h0;have:=TE b aA h0;subst this;unfold pB lvs ens inS at h2
 cases g <;> simp at h2
theorem nodup_tell {O:Off} (hn:O.rooms.Nodup) {t:Tell} (h0:O.wrong t=0):(O.tell t).rooms.Nodup:=by
 cases t with
 | room r=>exact Y4 hn (Wg h0).1
 | move p s=>
  unfold Off.tell;dsimp only;split;exact hn;split <;> exact hn
 | way w f t=>exact hn
 | bound w n g=>exact hn
 | pack p w=>exact hn
 | claim w n=>exact hn
 | free w=>exact hn
theorem Done.rnd {L:List Str} (hD:Done L):(after L).rooms.Nodup:=by
 induction hD with
 | nil=>exact List.nodup_nil
 | @snoc lines line h he ih=>
  rw[Zx];exact nodup_tell ih (Zg he).2.1
theorem J8 {l:List Str} (hn:l.Nodup) {i:Nat} (hi:i<l.length):ixE l (l.getD i [])=(i:Int):=by
 have hm:l.getD i []∈l:=getD_mem hi;unfold ixE;rw[if_pos hm];have h1:=Vl hm;have h2:=YC hm;have h3:l[i]? = some (l.getD i []):=by rw[dZ,fA hi]; rfl
 have:=(List.getElem?_inj h2 hn).1 (h1.trans h3.symm);omega
theorem rn_back {O:Off} (hn:O.rooms.Nodup) {l:List Int} (hl:∀ x∈l,0≤x∧x<(O.rooms.length:Int)):(O.rn l).map (ixE O.rooms)=l:=by
 unfold Off.rn;rw[List.map_map];have:l.map (ixE O.rooms ∘ fun x=>O.rooms.getD x.toNat [])=l.map id:=by
  refine fM fun x hx=>?_
  obtain⟨h1,h2⟩:=hl x hx;show ixE O.rooms (O.rooms.getD x.toNat [])=x;rw[J8 hn aA];omega
 rw[this,List.map_id]
structure WhyS (O:Off) (H:Hs) (w:Str) (n a b x z:Int):Prop where
  inE:a≤n→n≤b→O.whyE w n=13∧O.whyL w n = []
  outE:¬ (a≤n∧n≤b)→O.whyE w n=0
  len:(O.whyL w n).length≤6
  nil:¬ (a≤n∧n≤b)→O.whyL w n = []→(z<n∨n<x)∧(n<a∨b=z)∧(b<n∨a=x)
  up:b<n→O.whyL w n≠[]→Z9 O.rm O.ws ((O.whyL w n).map (ixE O.rooms)) (ixE H.ways w)=0∧Ys O.rm O.ws ((O.whyL w n).map (ixE O.rooms)) (ixE H.ways w)=b∧(H.endsV w).1∈(O.whyL w n).map (ixE O.rooms)
  down:n<a→O.whyL w n≠[]→Z9 O.rm O.ws ((O.whyL w n).map (ixE O.rooms)) (ixE H.ways w)=0∧Ys O.rm O.ws ((O.whyL w n).map (ixE O.rooms)) (ixE H.ways w)=a∧(H.endsV w).2∈(O.whyL w n).map (ixE O.rooms)
theorem why_is {L:List Str} (hD:Done L) {w:Str} {l:Lane} (hm:Ou (after L).ways w=some l) (n:Int):WhyS (after L) (QU L) w n ((after L).spLo l.pl) ((after L).spHi l.pl) l.lo l.hi:=by
 have hW:=hD.wf.1;have hF:=hD.fit;have hr:=hD.hr;obtain⟨hi,hx⟩:=hW.plM hm;have hB:=JZ hW aA;have hrm:(after L).rm=((after L).rooms.length:Int):=rfl;rw[hrm] at hB;have hil:l.pl<(after L).ws.length:=by rw[Off.ws_len]; exact hi
 have ha:=J5 hW hF hi;rw[hrm] at ha;have hg:(after L).ws.getD l.pl default=⟨l.fr,l.to,l.lo,l.hi⟩:=by rw[Off.ws_get hi,show(after L).ways.getD l.pl default=(w,l) by rw[dZ,hx]; rfl]
 have hlane:=sp_lane hW hF hm;have e1:(after L).spLo l.pl=YD (after L).ws l.pl:=if_pos (by rw[hrm]; exact ha);have e2:(after L).spHi l.pl=YX (after L).ws l.pl:=if_pos (by rw[hrm]; exact ha);have hwix:ixE (QU L).ways w=(l.pl:Int):=by
  have hnm:(QU L).ways.getD l.pl []=w:=by
   rw[hr.ways,dZ,fG,hx]; rfl
  have hnd:(QU L).ways.Nodup:=by rw[hr.ways]; exact hW.nd
  have:=J8 hnd (i:=l.pl) (by rw[hr.ways,fO]; exact hi);rwa [hnm] at this
 have hend:=ends_is hr hm;have hwe:(after L).whyE w n=if (after L).spLo l.pl≤n∧n≤(after L).spHi l.pl then 13 else 0:=by unfold Off.whyE; rw[hm]
 have hwl:(after L).whyL w n=if (after L).spLo l.pl≤n∧n≤(after L).spHi l.pl then [] else (after L).rn (Kv (after L).rm (after L).ws l.pl (decide ((after L).spHi l.pl<n))):=by unfold Off.whyL; rw[hm]
 rw[hrm] at hwl;have hr6:=hW.rooms;have hpw : 2 ^ (after L).rooms.length≤2 ^ 6:=fL aD hr6;have key:=fun g=>Ts hB hF ha hil g
 have hall:∀ s,s<2 ^ (after L).rooms.length→∀ x∈Ki s 6,0≤x∧x<((after L).rooms.length:Int):=by
  intro s hs x hx;exact of_decide_eq_true (fV.1 (Wi _ hr6 s hs) x hx)
 refine⟨fun h1 h2=>⟨by rw[hwe,if_pos ⟨h1,h2⟩],by rw[hwl,if_pos ⟨h1,h2⟩]⟩,fun h=>by rw[hwe,if_neg h],?_,?_,?_,?_⟩;rw[hwl];split;exact fR _;unfold Off.rn;rw[fO];rcases key (decide ((after L).spHi l.pl<n)) with ⟨h1,_⟩|⟨_,s,hs,_,h1⟩
 rw[h1]; exact fR _;rw[h1]; exact XX _ _;intro h h0;rw[hwl,if_neg h] at h0;rcases key (decide ((after L).spHi l.pl<n)) with ⟨_,h2⟩|⟨h1,_⟩
 by_cases hg2:(after L).spHi l.pl<n;rw[decide_eq_true hg2] at h2;unfold X5 Vq at h2;rw[if_pos rfl,if_pos rfl,hg,←e2] at h2;dsimp only at h2;omega;rw[decide_eq_false hg2] at h2;unfold X5 Vq at h2;rw[if_neg aD,if_neg aD,hg,←e1] at h2;dsimp only at h2;omega;unfold Off.rn at h0;exact absurd (List.map_eq_nil_iff.1 h0) h1;intro h h0;have hno:¬ ((after L).spLo l.pl≤n∧n≤(after L).spHi l.pl):=by omega
 rw[hwl,if_neg hno,decide_eq_true h] at h0⊢;rcases key true with ⟨h1,_⟩|⟨_,s,hs,hp,h1⟩
 rw[h1] at h0; exact absurd rfl h0;rw[h1,rn_back hD.rnd (hall s hs),hwix,hrm,hend];unfold pB at hp;rw[if_pos rfl,fE,decide_eq_true_eq] at hp;have hc:QA (after L).ws s l.pl=true:=by unfold QA; rw[hp.1]; rfl
 obtain⟨q1,q2⟩:=W9 hB hil hs hc;refine⟨q1,by rw[q2,hp.2,e2],?_⟩;have hl:=hp.1;rw[hg] at hl;unfold lvs inS at hl;rw[fE] at hl;have hfr:=(hB.way l.pl hil);rw[hg] at hfr;have hf1:=hfr.f1;have:=Wh s aA l.fr (by have h5:(l.fr:Int)<_:=hf1; omega) (by simpa using hl.1);exact this;intro h h0;have hno:¬ ((after L).spLo l.pl≤n∧n≤(after L).spHi l.pl):=by omega
 have hng:¬ (after L).spHi l.pl<n:=by omega
 rw[hwl,if_neg hno,decide_eq_false hng] at h0⊢;rcases key false with ⟨h1,_⟩|⟨_,s,hs,hp,h1⟩
 rw[h1] at h0; exact absurd rfl h0;rw[h1,rn_back hD.rnd (hall s hs),hwix,hrm,hend];unfold pB at hp;rw[if_neg aD,fE,decide_eq_true_eq] at hp;have hc:QA (after L).ws s l.pl=true:=by unfold QA; rw[hp.1,Bool.or_true]
 obtain⟨q1,q2⟩:=W9 hB hil hs hc;refine⟨q1,by rw[q2,hp.2,e1],?_⟩;have hl:=hp.1;rw[hg] at hl;unfold ens inS at hl;rw[fE] at hl;have hfr:=(hB.way l.pl hil);rw[hg] at hfr;have hf1:=hfr.t1;have:=Wh s aA l.to (by have h5:(l.to:Int)<_:=hf1; omega) (by simpa using hl.2);exact this
theorem claim_is {L : List Str} (hY : YL L) {i : Nat} (hi : i < 5) {c : Nat} (hc : c < 100) {l : Lane} (hm : Ou (after L).ways (waysL.getD i []) = some l) :
    O7 L (sClm (waysL.getD i []) (c:Int))=if (Ou (QU L).paid (waysL.getD i [])).isSome then 20 else if (c:Int)<(after L).spLo l.pl∨(after L).spHi l.pl<(c:Int) then 14 else if (after L).spLo l.pl<(after L).spHi l.pl then 21 else 0:=by
 obtain⟨h2,h3⟩:=clm_is i hi c hc;generalize waysL.getD i []=w at *;rw[Rx h2 (by have:=hY.len; omega),JI h3,hY.done.hr.paid w l hm]
 cases hp:l.paid with
 | true=>
  unfold Off.wrong;dsimp only;rw[hm];exact if_pos hp
 | false=>
  rw[Zk hm hp]; rfl
def s5:Str:=[32,53]
theorem clm5_is:∀ b,b<5→KH ([99,108,97,105,109,32] ++ waysL.getD b [] ++ s5)=0∧Wz (KU ([99,108,97,105,109,32] ++ waysL.getD b [] ++ s5))=some (waysL.getD b [],5):=by decide +kernel
theorem claim_none {L:List Str} (hY:YL L) {i:Nat} (hi:i<5) (hm:Ou (after L).ways (waysL.getD i [])=none):O7 L ([99,108,97,105,109,32] ++ waysL.getD i [] ++ s5)=2:=by
 obtain⟨h2,h3⟩:=clm5_is i hi;rw[Rx h2 (by have:=hY.len; omega),JI h3];unfold Off.wrong;dsimp only;rw[hm]
theorem ways_five {L:List Str} (hY:YL L):(QU L).ways.length≤5:=by
 rw[hY.done.hr.ways];exact nodup_five hY.done.wf.1.nd hY.off.ways
def Xr (a b k:Int):Int:=if k≤a then 0 else min k (b+1) - a
def Xs (a k:Int):Int:=if k≤a then -1 else a
def YP (a b k:Int):Int:=if k≤a then -1 else min (k - 1) b
end Go.Am
