/-
  Layer 14: the house of lines that were done.
  Conditions: none.
-/
import Derived.Test.YtgnogfjajnnaoaaGreatDoorAnj
import Derived.Test.YtgnogfjajnnaoaaGreatDoorSh3
open Go.Lib renaming itoa → dY, itoa_length_le → dK
open List renaming set_cons_zero → dE, set_cons_succ → dI, getD_eq_getElem?_getD → dU, length_append → dG, getElem?_eq_some_iff → dH, mem_append → dJ, take_length → dM, length_map → dN, length_set → dP
open Nat renaming zero_add → dO, mod_lt → dF, le_refl → dL
namespace Go.Am
theorem wt_kind {W:List Str} {t:Tell} (h:WT W t):W.getD 0 []=ON∨W.getD 0 []=OZ∨W.getD 0 []=OH∨W.getD 0 []=OO∨W.getD 0 []=O2∨W.getD 0 []=OI∨W.getD 0 []=OL∨W.getD 0 []=OS∨W.getD 0 []=OT∨W.getD 0 []=OU∨W.getD 0 []=OW:=by
 cases h with
 | move k m s hk e1=>subst e1; rcases hk with ⟨rfl,_⟩|⟨rfl,_⟩|⟨rfl,_⟩|⟨rfl,_⟩ <;> simp
 | room a e1=>subst e1; simp
 | way a b c e1=>subst e1; simp
 | least a m e1=>subst e1; simp
 | most a m e1=>subst e1; simp
 | free a e1=>subst e1; simp
 | claim a m e1=>subst e1; simp
 | pack m a e1=>subst e1; simp
theorem wt_words {W:List Str} {t:Tell} (h:WT W t):WordA (W.getD 1 [])∧WordA (W.getD 2 [])∧1≤W.length:=by
 cases h with
 | move k m s hk e1 _ hm=>subst e1; exact⟨.inl hm,.inr (.inr rfl),by simp⟩
 | room a e1 _ ha=>subst e1; exact⟨.inr (.inl ha),.inr (.inr rfl),by simp⟩
 | way a b c e1 _ ha hb=>subst e1; exact⟨.inr (.inl ha),.inr (.inl hb),by simp⟩
 | least a m e1 _ ha hm=>subst e1; exact⟨.inr (.inl ha),.inl hm,by simp⟩
 | most a m e1 _ ha hm=>subst e1; exact⟨.inr (.inl ha),.inl hm,by simp⟩
 | free a e1 _ ha=>subst e1; exact⟨.inr (.inl ha),.inr (.inr rfl),by simp⟩
 | claim a m e1 _ ha hm=>subst e1; exact⟨.inr (.inl ha),.inl hm,by simp⟩
 | pack m a e1 _ hm ha=>subst e1; exact⟨.inl hm,.inr (.inl ha),by simp⟩
theorem pack_no {O:Off} {H:Hs} {W:List Str} {t:Tell} (hr:HRl O H) (wt:WT W t) (h0:O.wrong t=0) (hk:W.getD 0 []=OL):Ot H.packs (atV (W.getD 1 []))=none∧Ot H.state (atV (W.getD 1 []))=none:=by
 cases wt with
 | move k m s hx e1=>subst e1; have hk2:k=OL:=hk; rcases hx with ⟨rfl,_⟩|⟨rfl,_⟩|⟨rfl,_⟩|⟨rfl,_⟩ <;> exact absurd hk2 aD
 | room a e1=>subst e1; exact absurd (show ON=OL from hk) aD
 | way a b c e1=>subst e1; exact absurd (show OZ=OL from hk) aD
 | least a m e1=>subst e1; exact absurd (show OH=OL from hk) aD
 | most a m e1=>subst e1; exact absurd (show OO=OL from hk) aD
 | free a e1=>subst e1; exact absurd (show O2=OL from hk) aD
 | claim a m e1=>subst e1; exact absurd (show OI=OL from hk) aD
 | pack m a e1 e2 hm=>
  subst e1; subst e2;obtain⟨hev,_⟩:=XX h0;show Ot H.packs (atV m)=none∧Ot H.state (atV m)=none;rw[X0 hm];exact⟨XJ (by rw[hr.packs]; exact hev),XJ (by rw[hr.state]; exact hev)⟩
theorem pad_get (W:List Str) (k:Nat):(W ++ [[],[],[],[]]).getD k []=W.getD k []:=by
 rw[dU,dU,List.getElem?_append];split;rfl
 ·rw[List.getElem?_eq_none (l:=W) aA]
  match k - W.length with
  | 0=>rfl
  | 1=>rfl
  | 2=>rfl
  | 3=>rfl
  | n+4=>rfl
theorem wcs_at {l:List Str} {i:Nat} (h:i<l.length):(wcs l)[i]? = some (.str (wd (l.getD i []))):=by
 rw[List.getElem?_map,dU,List.getElem?_eq_getElem h]; rfl
structure HA where
  po:AV
  vr:AV
  vw:AV
  ve:AV
  vt:AV
  vp:AV
  vc:AV
  vk:AV
  vs:AV
  vo:AV
abbrev prV (p:Int × Int):AV:=.agg [.int .i64 p.1,.int .i64 p.2]
def hsO (A:HA) (H:Hs):List Obj:=[⟨A.po,0,[A.vr,A.vw,A.ve,A.vt,A.vp,A.vc,A.vk,A.vs,A.vo],true⟩,⟨A.vr,1,wcs H.rooms,true⟩,⟨A.vw,1,wcs H.ways,true⟩,mapO A.ve (entL kstr prV H.ends),mapO A.vt (entL kstr prV H.told),mapO A.vp (entL kstr kint H.paid),⟨A.vc,1,wcs H.claims,true⟩,mapO A.vk (entL kint kstr H.packs),mapO A.vs (entL kint kint H.state),⟨A.vo,1,ints H.order,true⟩]
structure HAk (A:HA):Prop where
  po:AddrOf A.po A.po 0 0
  ve:Q7 A.ve
  vt:Q7 A.vt
  vp:Q7 A.vp
  vk:Q7 A.vk
  vs:Q7 A.vs
structure RHs (h:AHeap) (A:HA) (H:Hs):Prop where
  ok:HAk A
  rd:Rd h A.po 0 [A.vr,A.vw,A.ve,A.vt,A.vp,A.vc,A.vk,A.vs,A.vo]
  rooms:WRow h A.vr H.rooms
  ways:WRow h A.vw H.ways
  ends:RdM h A.ve (entL kstr prV H.ends)
  told:RdM h A.vt (entL kstr prV H.told)
  paid:RdM h A.vp (entL kstr kint H.paid)
  claims:WRow h A.vc H.claims
  packs:RdM h A.vk (entL kint kstr H.packs)
  state:RdM h A.vs (entL kint kint H.state)
  order:Row h A.vo H.order
theorem RHs.ext {h h':AHeap} {A:HA} {H:Hs} (r:RHs h A H) (k:Keeps h h'):RHs h' A H:=⟨r.ok,r.rd.ext k,r.rooms.ext k,r.ways.ext k,RdM.ext k r.ends,RdM.ext k r.told,RdM.ext k r.paid,r.claims.ext k,RdM.ext k r.packs,RdM.ext k r.state,r.order.ext k⟩
theorem St.rhs {h0 h:AHeap} {A:HA} {H:Hs} {G:List Obj} (st:St h0 h (hsO A H ++ G)) (ok:HAk A):RHs h A H:=
  ⟨ok,st.rd 0 rfl,st.rd 1 rfl,st.rd 2 rfl,st.rdM 3 rfl ok.ve,st.rdM 4 rfl ok.vt,st.rdM 5 rfl ok.vp,st.rd 6 rfl,st.rdM 7 rfl ok.vk,st.rdM 8 rfl ok.vs,st.rd 9 rfl⟩
structure HSm (H:Hs):Prop where
  rooms:H.rooms.length≤6
  ways:H.ways.length≤12
  claims:H.claims.length≤100
  order:H.order.length≤100
theorem HRl.small {O:Off} {H:Hs} (hr:HRl O H) (hW:WF O):HSm H:=⟨by rw[hr.rooms]; exact hW.rooms,by rw[hr.ways,dN]; exact hW.ways,by rw[hr.claims]; exact hW.claims,by rw[hr.order]; exact hW.ever⟩
section
variable {P:Program} {n:Nat} {ops:Array Oper} {ex:List Nat} {Q:KF→AHeap→Prop} {k:Nat} {os:List Oper} {K:KF} {h:AHeap} {d:Nat} {ty:TypeId} {pos:String} {after:Array Edge}
theorem KOps.indexG {x ix : Operand} {t e : TypeId} {m : Nat} {kd : IntKind} {i : Int} {j : Nat} {xs : List AV} {v : AV} [hx : EvK h.globs n K x (.agg xs)] [hi : EvK h.globs n K ix (.int kd i)] (ht : XR P t = some (m, e)) [hs : ScT P e] (hj : i = (j : Int)) (hlt : j < m) (hv : xs[j]? = some v)
    (hk:KOps P n ops ex Q (k+1) os ((d,v)::K) h):KOps P n ops ex Q k (⟨some d,.index t x ix,ty,pos,after,none⟩::os) K h:=by
 subst hj;refine Kh rfl (v:=v) ?_ hk;simp only[KZ,hx.eq,hi.eq,V8,ht,hs.sz,apart,hs.sc,Option.bind_eq_bind,Option.bind_some];rw[if_pos ⟨by omega,by omega⟩,Int.toNat_natCast,Nat.mul_one,if_neg aD];exact hv
end
theorem Wd {κ ν:Type} [DecidableEq κ] {l:List (κ × ν)} {a : κ} {b : ν} (h:Ot l a=none):O9 l a b=l ++ [(a,b)]:=YQ (VN h)
set_option synthInstance.maxSize 2000 in
set_option synthInstance.maxHeartbeats 200000 in
theorem inside_c {h:AHeap} {v:AV} {ls:List Str} (hv:WRow h v ls) (hD:Done ls) (hV:Vs h) (hE:Er h):ACalls Go.Proofs.Tryz.prog 51 [v] h (fun q h'=>∃ A,q=A.po∧HAk A∧St h h' (hsO A (ZF ls))):=by
 refine OP 236 [.tmp 2] Go.Proofs.Tryz.func51 rfl aD rfl rfl (Nat.le_of_ble_eq_true rfl) ?_;have hS:=St.refl h;have hll:=hD.wf.2.1;show KA _ 236 _ _ [(0,v)] _;refine Ow ?_;refine Ov ?_;refine Oo [0] ?_;refine Ow ?_;refine Zn hS rfl ?_;intro v11 h' hv11 hS;refine Zn hS rfl ?_;intro v12 h' hv12 hS;refine Zn hS rfl ?_;intro v13 h' hv13 hS;refine Zn hS rfl ?_;intro v14 h' hv14 hS;refine Zn hS rfl ?_;intro v15 h' hv15 hS;have ho11:v11.one=true:=by obtain⟨_,rfl⟩:=hv11; rfl
 have ho12:v12.one=true:=by obtain⟨_,rfl⟩:=hv12; rfl
 have ho13:v13.one=true:=by obtain⟨_,rfl⟩:=hv13; rfl
 have ho14:v14.one=true:=by obtain⟨_,rfl⟩:=hv14; rfl
 have ho15:v15.one=true:=by obtain⟨_,rfl⟩:=hv15; rfl
 refine Kc (zs:=[.nils,.nils,.nilm,.nilm,.nilm,.nils,.nilm,.nilm,.nils]) (cs:=[_,_,_,_,_,_,_,_,_]) aE aM aE (.cons (off:=2) (s:=1) aE (AV.cells_one aH) rfl aD (.cons (off:=3) (s:=1) aE (AV.cells_one aH) rfl aD (.cons (off:=4) (s:=1) aE (AV.cells_one aH) rfl aD (.cons (off:=6) (s:=1) aE (AV.cells_one aH) rfl aD (.cons (off:=7) (s:=1) aE (AV.cells_one aH) rfl aD .nil))))) aM ?_;refine O6 hS (by show(true && (true && (v11.one && (v12.one && (v13.one && (true && (v14.one && (v15.one && (true && true)))))))))=true; rw[ho11,ho12,ho13,ho14,ho15]; rfl) ?_;intro p17 h' hp17 hS;refine Ov ?_;refine Oo [0,3] ?_;refine bw ?_;have hS1:=St.addNil 1 true (St.addNil 1 true (St.addNil 1 true (St.addNil 1 true hS)));have hS2:=St.pick (objs':=hsO ⟨p17,.nils,.nils,v11,v12,v13,.nils,v14,v15,.nils⟩ hs0) [0,6,7,5,4,3,8,2,1,9] aD rfl hS1;refine Oe ?_;refine O4 (Rd.ext hS.keeps hv) ?_;refine Oe ?_;refine Oo [3,18,19,20] ?_;refine OB ?_;refine Kk (X:=Nat × HA) (fun x=>[(3,x.2.po),(18,v),(19,.int .i64 (ls.length:Int)),(20,.int .i64 (x.1:Int))]) (fun x h'=>x.1≤ls.length∧HAk x.2∧St h h' (hsO x.2 (ZF (ls.take x.1)))) (fun x=>ls.length - x.1) (0,⟨p17,.nils,.nils,v11,v12,v13,.nils,v14,v15,.nils⟩) ?_ ?_;exact⟨Nat.zero_le _,⟨hp17,hv11,hv12,hv13,hv14,hv15⟩,hS2⟩;rintro⟨i,A⟩ h2 ⟨hi,hA,hS⟩;dsimp only at hi hA hS⊢;obtain⟨H,hH⟩:∃ H,ZF (ls.take i)=H:=⟨_,rfl⟩;rw[hH] at hS;have hr:HRl (after (ls.take i)) H:=hH ▸ (hD.take i).hr;obtain⟨hsm1,hsm2,hsm3,hsm4⟩:=hr.small (hD.take i).wf.1;replace hS:St h h2 (⟨A.po,0,[A.vr,A.vw,A.ve,A.vt,A.vp,A.vc,A.vk,A.vs,A.vo],true⟩::⟨A.vr,1,wcs H.rooms,true⟩::⟨A.vw,1,wcs H.ways,true⟩::mapO A.ve (entL kstr prV H.ends)::mapO A.vt (entL kstr prV H.told)::mapO A.vp (entL kstr kint H.paid)::⟨A.vc,1,wcs H.claims,true⟩::mapO A.vk (entL kint kstr H.packs)::mapO A.vs (entL kint kint H.state)::⟨A.vo,1,ints H.order,true⟩ :: []):=hS;refine Ow ?_;refine QG ?_;refine br ?_;refine Om ?_ ?_
 ·intro c21;have hlt:i<ls.length:=by omega
  have hx:=hD.one i hlt;obtain⟨hx1,hx2,_⟩:=Q8 hx;have wt:=wt_of hx1;have hxl:(ls.getD i []).length≤1000000:=Nat.le_trans (hD.small _ (getD_mem hlt)) aA;have hno:=fun hk=>pack_no hr wt hx2 hk
  obtain⟨hw1,hw2,hw0⟩:=wt_words wt;obtain⟨W,hW⟩:∃ W,OK 32 (ls.getD i [])=W:=⟨_,rfl⟩;rw[hW] at wt hw1 hw2 hw0 hno;refine Oz [3,18,19,20] ?_;refine cT ?_;refine Ou (Rd.ext hS.keeps hv) (j:=i) rfl aB ?_;intro p22 hp22;refine OJ hp22 (Rd.ext hS.keeps hv) aB ?_;refine Ov ?_;refine Oo [3,5,18,19,20] ?_;refine cJ ?_;refine Ol rfl (split_c (c:=32) (hV.ext hS.keeps).mx hxl) ?_;rintro v25 h25 ⟨hsl25,hS25⟩;rw[hW] at hS25;replace hS:St _ _ (⟨v25,1,wcs W,true⟩::⟨A.po,0,[A.vr,A.vw,A.ve,A.vt,A.vp,A.vc,A.vk,A.vs,A.vo],true⟩::⟨A.vr,1,wcs H.rooms,true⟩::⟨A.vw,1,wcs H.ways,true⟩::mapO A.ve (entL kstr prV H.ends)::mapO A.vt (entL kstr prV H.told)::mapO A.vp (entL kstr kint H.paid)::⟨A.vc,1,wcs H.claims,true⟩::mapO A.vk (entL kint kstr H.packs)::mapO A.vs (entL kint kint H.state)::⟨A.vo,1,ints H.order,true⟩ :: []):=St.trans hS hS25;refine bf ?_;intro v26 h' hS;replace hS:St _ _ (⟨v26,1,wcs [[],[],[],[]],true⟩::_):=hS;refine KOps.appendW hS (fun _=>rfl) (i:=0) rfl (by have:=UD 32 (ls.getD i []); rw[hW] at this; simp; omega) ?_;intro r27 h' hr27 hS;refine cU ?_;have hz:=pad_get W;have hZl : 4<(W ++ [[],[],[],[]]).length:=by simp; omega
  obtain⟨Z,hZ⟩:∃ Z,W ++ [[],[],[],[]]=Z:=⟨_,rfl⟩;rw[hZ] at hS hz hZl;rw[←hz] at hw1 hw2;refine Od ?_;refine Oq [3,6,18,19,20] ?_;refine cJ ?_;refine Ou (hS.rd 0 rfl) (j:=2) rfl aB ?_;intro p30 hp30;refine OJ hp30 (hS.rd 0 rfl) aB ?_;refine Ol rfl (atoi_c (hE.ext hS.keeps) hw2) ?_;rintro _ _ ⟨rfl,rfl⟩;refine Oe ?_;refine OY ?_;refine OY ?_;refine Ov ?_;refine Ov ?_;refine Oo [3,6,7,18,19,20] ?_;refine Ow ?_;refine bp ?_;intro p37 hp37;refine OJ hp37 (hS.rd 0 rfl) aB ?_;refine Ol rfl (atoi_c (hE.ext hS.keeps) hw1) ?_;rintro _ _ ⟨rfl,rfl⟩;refine Oe ?_;refine OY ?_;refine OY ?_;refine Ov ?_;refine Ov ?_;refine Oo [3,6,7,9,18,19,20] ?_;refine cJ ?_;refine Ou (hS.rd 0 rfl) (j:=0) rfl aB ?_;intro p43 hp43;refine OJ hp43 (hS.rd 0 rfl) aB ?_;refine Oo [3,6,7,9,18,19,20,44] ?_;refine OB ?_;refine cI ?_;refine Oo [3,6,7,9,18,19,20,44,45] ?_;refine Om ?_ ?_
  ·intro c45;refine OV [9] mixed rfl aE ?_;refine Oe ?_;refine bY ?_;intro p50 hp50;refine Og hp50 (hS.rd 1 rfl) rfl ?_;refine bp ?_;intro p53 hp53;refine OJ hp53 (hS.rd 0 rfl) aB ?_;refine bf ?_;intro v55 h' hS;refine Ks hS (fun _=>rfl) (i:=2) rfl aB ?_;intro r56 h' hr56 hS;refine On hA.po ?_;refine Ob hA.po ?_;intro p58 hp58;refine KG hS rfl (i:=1) rfl hp58 aH aW ?_;intro h' hS;simp only[dE,dI,dO] at hS;refine bd ?_
   try simp only[dE,dI,dO] at hS
   have e:ZF (ls.take (i+1)) = {H with rooms:=H.rooms ++ [(Z.getD 1 [])]}:=by
    rw[←Qp (d:=[]) hlt,QS,hH,hW];unfold K7;dsimp only;simp only[←hz];rw[if_pos (show Z.getD 0 []=ON from c45)]
   exact lpN (i+1,{A with vr:=r56}) ⟨by dsimp only; omega,⟨hA.po,hA.ve,hA.vt,hA.vp,hA.vk,hA.vs⟩,by dsimp only; rw[e]; exact St.drop (A:=[_]) hS⟩ aI
  ·intro c45;refine cI ?_;refine Oo [3,6,7,9,18,19,20,44,59] ?_;refine Om ?_ ?_
   ·intro c59;refine Ox ?_;refine OV [9] mixed rfl aE ?_;refine Oe ?_;refine bY ?_;intro p64 hp64;refine Og hp64 (hS.rd 1 rfl) rfl ?_;refine bp ?_;intro p67 hp67;refine OJ hp67 (hS.rd 0 rfl) aB ?_;refine bf ?_;intro v69 h' hS;refine Ks hS (fun _=>rfl) (i:=3) rfl aB ?_;intro r70 h' hr70 hS;refine On hA.po ?_;refine Ob hA.po ?_;intro p72 hp72;refine KG hS rfl (i:=1) rfl hp72 aH aW ?_;intro h' hS;simp only[dE,dI,dO] at hS;refine Oo [3,6,18,19,20] ?_;refine Ox ?_;refine OV [14,22] mixed rfl aE ?_;refine bY ?_;intro p75 hp75;refine Og hp75 (hS.rd 1 rfl) rfl ?_;refine bp ?_;intro p78 hp78;refine OJ hp78 (hS.rd 0 rfl) aB ?_;refine bY ?_;intro p82 hp82;refine Og hp82 (hS.rd 1 rfl) rfl ?_;refine Oe ?_;refine Ou (hS.rd 0 rfl) (j:=2) rfl aB ?_;intro p85 hp85;refine OJ hp85 (hS.rd 0 rfl) aB ?_;refine Kq aJ (YM (hS.rd 2 rfl) aA) ?_;rintro _ _ ⟨rfl,rfl⟩;refine bY ?_;intro p90 hp90;refine Og hp90 (hS.rd 1 rfl) rfl ?_;refine Oe ?_;refine Ou (hS.rd 0 rfl) (j:=3) rfl aB ?_;intro p93 hp93;refine OJ hp93 (hS.rd 0 rfl) aB ?_;refine Kq aJ (YM (hS.rd 2 rfl) aA) ?_;rintro _ _ ⟨rfl,rfl⟩;refine bP ?_;refine Qm (kf:=kstr) (vf:=prV) (l:=H.ends) (i:=4) (b:=(ixE H.rooms (Z.getD 2 []),ixE H.rooms (Z.getD 3 []))) EvK.eq rfl hS hA.ve rfl rfl ?_;intro h' hS;simp only[dE,dI,dO] at hS;refine Oo [3,6,18,19,20] ?_;refine cd ?_;refine bY ?_;intro p99 hp99;refine Og hp99 (hS.rd 1 rfl) rfl ?_;refine bp ?_;intro p102 hp102;refine OJ hp102 (hS.rd 0 rfl) aB ?_;refine bP ?_;refine Qm (kf:=kstr) (vf:=prV) (l:=H.told) (i:=5) (b:=(0,99)) EvK.eq rfl hS hA.vt rfl rfl ?_;intro h' hS;simp only[dE,dI,dO] at hS;refine bd ?_
    try simp only[dE,dI,dO] at hS
    have e:ZF (ls.take (i+1)) = {H with ways:=H.ways ++ [(Z.getD 1 [])],ends:=O9 H.ends (Z.getD 1 []) (ixE H.rooms (Z.getD 2 []),ixE H.rooms (Z.getD 3 [])),told:=O9 H.told (Z.getD 1 []) (0,99)}:=by
     rw[←Qp (d:=[]) hlt,QS,hH,hW];unfold K7;dsimp only;simp only[←hz];rw[if_neg (show¬ Z.getD 0 []=ON from c45),if_pos (show Z.getD 0 []=OZ from c59)]
    exact lpN (i+1,{A with vw:=r70}) ⟨by dsimp only; omega,⟨hA.po,hA.ve,hA.vt,hA.vp,hA.vk,hA.vs⟩,by dsimp only; rw[e]; exact St.drop (A:=[_]) hS⟩ aI
   ·intro c59;refine cI ?_;refine Oo [3,6,7,9,18,19,20,44,105] ?_;refine Om ?_ ?_
    ·intro c105;refine cd ?_;refine bY ?_;intro p109 hp109;refine Og hp109 (hS.rd 1 rfl) rfl ?_;refine bp ?_;intro p112 hp112;refine OJ hp112 (hS.rd 0 rfl) aB ?_;refine Oe ?_;refine bY ?_;intro p117 hp117;refine Og hp117 (hS.rd 1 rfl) rfl ?_;refine bp ?_;intro p120 hp120;refine OJ hp120 (hS.rd 0 rfl) aB ?_;refine KOps.lookupD (kf:=kstr) (vf:=prV) (l:=H.told) (w:=(0,0)) EvK.eq (St.rdM hS 5 rfl hA.vt) rfl rfl ?_;refine KOps.indexG (j:=1) (m:=2) (e:=3) aE rfl aD rfl ?_;refine bP ?_;refine Qm (kf:=kstr) (vf:=prV) (l:=H.told) (i:=5) (b:=(atV (Z.getD 2 []),(H.tolds (Z.getD 1 [])).2)) EvK.eq rfl hS hA.vt rfl rfl ?_;intro h' hS;simp only[dE,dI,dO] at hS;refine bd ?_
     try simp only[dE,dI,dO] at hS
     have e:ZF (ls.take (i+1)) = {H with told:=O9 H.told (Z.getD 1 []) (atV (Z.getD 2 []),(H.tolds (Z.getD 1 [])).2)}:=by
      rw[←Qp (d:=[]) hlt,QS,hH,hW];unfold K7;dsimp only;simp only[←hz];rw[if_neg (show¬ Z.getD 0 []=ON from c45),if_neg (show¬ Z.getD 0 []=OZ from c59),if_pos (show Z.getD 0 []=OH from c105)]
     exact lpN (i+1,A) ⟨by dsimp only; omega,hA,by dsimp only; rw[e]; exact St.drop (A:=[_]) hS⟩ aI
    ·intro c105;refine cI ?_;refine Oo [3,6,7,9,18,19,20,44,125] ?_;refine Om ?_ ?_
     ·intro c125;refine cd ?_;refine bY ?_;intro p129 hp129;refine Og hp129 (hS.rd 1 rfl) rfl ?_;refine bp ?_;intro p132 hp132;refine OJ hp132 (hS.rd 0 rfl) aB ?_;refine bY ?_;intro p136 hp136;refine Og hp136 (hS.rd 1 rfl) rfl ?_;refine bp ?_;intro p139 hp139;refine OJ hp139 (hS.rd 0 rfl) aB ?_;refine KOps.lookupD (kf:=kstr) (vf:=prV) (l:=H.told) (w:=(0,0)) EvK.eq (St.rdM hS 5 rfl hA.vt) rfl rfl ?_;refine KOps.indexG (j:=0) (m:=2) (e:=3) aE rfl aD rfl ?_;refine Oe ?_;refine bP ?_;refine Qm (kf:=kstr) (vf:=prV) (l:=H.told) (i:=5) (b:=((H.tolds (Z.getD 1 [])).1,atV (Z.getD 2 []))) EvK.eq rfl hS hA.vt rfl rfl ?_;intro h' hS;simp only[dE,dI,dO] at hS;refine bd ?_
      try simp only[dE,dI,dO] at hS
      have e:ZF (ls.take (i+1)) = {H with told:=O9 H.told (Z.getD 1 []) ((H.tolds (Z.getD 1 [])).1,atV (Z.getD 2 []))}:=by
       rw[←Qp (d:=[]) hlt,QS,hH,hW];unfold K7;dsimp only;simp only[←hz];rw[if_neg (show¬ Z.getD 0 []=ON from c45),if_neg (show¬ Z.getD 0 []=OZ from c59),if_neg (show¬ Z.getD 0 []=OH from c105),if_pos (show Z.getD 0 []=OO from c125)]
      exact lpN (i+1,A) ⟨by dsimp only; omega,hA,by dsimp only; rw[e]; exact St.drop (A:=[_]) hS⟩ aI
     ·intro c125;refine cI ?_;refine Oo [3,6,7,9,18,19,20,44,145] ?_;refine Om ?_ ?_
      ·intro c145;refine cd ?_;refine bY ?_;intro p149 hp149;refine Og hp149 (hS.rd 1 rfl) rfl ?_;refine bp ?_;intro p152 hp152;refine OJ hp152 (hS.rd 0 rfl) aB ?_;refine bP ?_;refine Qm (kf:=kstr) (vf:=prV) (l:=H.told) (i:=5) (b:=(0,99)) EvK.eq rfl hS hA.vt rfl rfl ?_;intro h' hS;simp only[dE,dI,dO] at hS;refine bd ?_
       try simp only[dE,dI,dO] at hS
       have e:ZF (ls.take (i+1)) = {H with told:=O9 H.told (Z.getD 1 []) (0,99)}:=by
        rw[←Qp (d:=[]) hlt,QS,hH,hW];unfold K7;dsimp only;simp only[←hz];rw[if_neg (show¬ Z.getD 0 []=ON from c45),if_neg (show¬ Z.getD 0 []=OZ from c59),if_neg (show¬ Z.getD 0 []=OH from c105),if_neg (show¬ Z.getD 0 []=OO from c125),if_pos (show Z.getD 0 []=O2 from c145)]
       exact lpN (i+1,A) ⟨by dsimp only; omega,hA,by dsimp only; rw[e]; exact St.drop (A:=[_]) hS⟩ aI
      ·intro c145;refine cI ?_;refine Oo [3,6,7,9,18,19,20,44,155] ?_;refine Om ?_ ?_
       ·intro c155;refine ba ?_;refine bY ?_;intro p159 hp159;refine Og hp159 (hS.rd 1 rfl) rfl ?_;refine bp ?_;intro p162 hp162;refine OJ hp162 (hS.rd 0 rfl) aB ?_;refine Oe ?_;refine Qm (kf:=kstr) (vf:=kint) (l:=H.paid) (i:=6) (b:=atV (Z.getD 2 [])) EvK.eq rfl hS hA.vp rfl rfl ?_;intro h' hS;simp only[dE,dI,dO] at hS;refine Oo [3,6,18,19,20] ?_;refine OV [9] mixed rfl aE ?_;refine Oe ?_;refine bY ?_;intro p168 hp168;refine Og hp168 (hS.rd 1 rfl) rfl ?_;refine bp ?_;intro p171 hp171;refine OJ hp171 (hS.rd 0 rfl) aB ?_;refine bf ?_;intro v173 h' hS;refine Ks hS (fun _=>rfl) (i:=7) rfl aB ?_;intro r174 h' hr174 hS;refine On hA.po ?_;refine Ob hA.po ?_;intro p176 hp176;refine KG hS rfl (i:=1) rfl hp176 aH aW ?_;intro h' hS;simp only[dE,dI,dO] at hS;refine bd ?_
        try simp only[dE,dI,dO] at hS
        have e:ZF (ls.take (i+1)) = {H with paid:=O9 H.paid (Z.getD 1 []) (atV (Z.getD 2 [])),claims:=H.claims ++ [(Z.getD 1 [])]}:=by
         rw[←Qp (d:=[]) hlt,QS,hH,hW];unfold K7;dsimp only;simp only[←hz];rw[if_neg (show¬ Z.getD 0 []=ON from c45),if_neg (show¬ Z.getD 0 []=OZ from c59),if_neg (show¬ Z.getD 0 []=OH from c105),if_neg (show¬ Z.getD 0 []=OO from c125),if_neg (show¬ Z.getD 0 []=O2 from c145),if_pos (show Z.getD 0 []=OI from c155)]
        exact lpN (i+1,{A with vc:=r174}) ⟨by dsimp only; omega,⟨hA.po,hA.ve,hA.vt,hA.vp,hA.vk,hA.vs⟩,by dsimp only; rw[e]; exact St.drop (A:=[_]) hS⟩ aI
       ·intro c155;refine cI ?_;refine Oo [3,6,9,18,19,20,44,177] ?_;refine Om ?_ ?_
        ·intro c177;obtain⟨hno1,hno2⟩:=hno ((hz 0).symm.trans c177);rw[←hz] at hno1 hno2;refine Ox ?_;refine KA.drawS (c:=13) (r:=12) (t:=9) (a:=190) (d:=191) [] mixed rfl rfl rfl aE rfl rfl rfl aD aD aE ?_;refine bY ?_;intro p181 hp181;refine Og hp181 (hS.rd 1 rfl) rfl ?_;refine Oe ?_;refine bY ?_;intro p186 hp186;refine Og hp186 (hS.rd 1 rfl) rfl ?_;refine Oe ?_;refine Oe ?_;refine Ou (hS.rd 0 rfl) (j:=2) rfl aB ?_;intro p190 hp190;refine OJ hp190 (hS.rd 0 rfl) aB ?_;refine KOps.mapEntryN (kf:=kint) (vf:=kstr) (l:=H.packs) (b:=[]) (i:=8) EvK.eq rfl hS hA.vk rfl hno1 rfl ?_;intro h' hS;simp only[dE,dI,dO] at hS;refine KOps.doneS rfl rfl hp190 (hS.rd 0 rfl) (wcs_at aA) ?_;refine OY ?_;refine KOps.entryStoreN (kf:=kint) (vf:=kstr) (l:=H.packs) (a:=atV (Z.getD 1 [])) (b0:=[]) (b:=(Z.getD 2 [])) (i:=8) rfl hS hA.vk rfl rfl ?_;intro h' hS;simp only[dE,dI,dO] at hS;refine KOps.mapEntryN (kf:=kint) (vf:=kint) (l:=H.state) (b:=0) (i:=9) EvK.eq rfl hS hA.vs rfl hno2 rfl ?_;intro h' hS;simp only[dE,dI,dO] at hS;refine OY ?_;refine KOps.entryStoreN (kf:=kint) (vf:=kint) (l:=H.state) (a:=atV (Z.getD 1 [])) (b0:=0) (b:=1) (i:=9) rfl hS hA.vs rfl rfl ?_;intro h' hS;simp only[dE,dI,dO] at hS;refine Oo [3,9,18,19,20] ?_;refine OE rfl ?_;refine Oe ?_;refine bY ?_;intro p199 hp199;refine Og hp199 (hS.rd 1 rfl) rfl ?_;refine Oe ?_;refine bf ?_;intro v202 h' hS;refine KOps.appendI hS (fun _=>rfl) (i:=10) rfl aB ?_;intro r203 h' hr203 hS;refine On hA.po ?_;refine Ob hA.po ?_;intro p205 hp205;refine KG hS rfl (i:=1) rfl hp205 aH aW ?_;intro h' hS;simp only[dE,dI,dO] at hS;refine bd ?_
         try simp only[dE,dI,dO] at hS
         rw[←Wd hno1,←Wd hno2] at hS;have e:ZF (ls.take (i+1)) = {H with packs:=O9 H.packs (atV (Z.getD 1 [])) (Z.getD 2 []),state:=O9 H.state (atV (Z.getD 1 [])) 1,order:=H.order ++ [atV (Z.getD 1 [])]}:=by
          rw[←Qp (d:=[]) hlt,QS,hH,hW];unfold K7;dsimp only;simp only[←hz];rw[if_neg (show¬ Z.getD 0 []=ON from c45),if_neg (show¬ Z.getD 0 []=OZ from c59),if_neg (show¬ Z.getD 0 []=OH from c105),if_neg (show¬ Z.getD 0 []=OO from c125),if_neg (show¬ Z.getD 0 []=O2 from c145),if_neg (show¬ Z.getD 0 []=OI from c155),if_pos (show Z.getD 0 []=OL from c177)]
         exact lpN (i+1,{A with vo:=r203}) ⟨by dsimp only; omega,⟨hA.po,hA.ve,hA.vt,hA.vp,hA.vk,hA.vs⟩,by dsimp only; rw[e]; exact St.drop (A:=[_]) hS⟩ aI
        ·intro c177;refine cI ?_;refine Oo [3,9,18,19,20,44,206] ?_;refine Om ?_ ?_
         ·intro c206;refine OE rfl ?_;refine bY ?_;intro p210 hp210;refine Og hp210 (hS.rd 1 rfl) rfl ?_;refine Oe ?_;refine Qm (kf:=kint) (vf:=kint) (l:=H.state) (i:=9) (b:=2) EvK.eq rfl hS hA.vs rfl rfl ?_;intro h' hS;simp only[dE,dI,dO] at hS;refine bd ?_
          try simp only[dE,dI,dO] at hS
          have e:ZF (ls.take (i+1)) = {H with state:=O9 H.state (atV (Z.getD 1 [])) 2}:=by
           rw[←Qp (d:=[]) hlt,QS,hH,hW];unfold K7;dsimp only;simp only[←hz];rw[if_neg (show¬ Z.getD 0 []=ON from c45),if_neg (show¬ Z.getD 0 []=OZ from c59),if_neg (show¬ Z.getD 0 []=OH from c105),if_neg (show¬ Z.getD 0 []=OO from c125),if_neg (show¬ Z.getD 0 []=O2 from c145),if_neg (show¬ Z.getD 0 []=OI from c155),if_neg (show¬ Z.getD 0 []=OL from c177),if_pos (show Z.getD 0 []=OS from c206)]
          exact lpN (i+1,A) ⟨by dsimp only; omega,hA,by dsimp only; rw[e]; exact St.drop (A:=[_]) hS⟩ aI
         ·intro c206;refine cI ?_;refine Oo [3,9,18,19,20,44,213] ?_;refine Om ?_ ?_
          ·intro c213;refine OE rfl ?_;refine bY ?_;intro p217 hp217;refine Og hp217 (hS.rd 1 rfl) rfl ?_;refine Oe ?_;refine Qm (kf:=kint) (vf:=kint) (l:=H.state) (i:=9) (b:=3) EvK.eq rfl hS hA.vs rfl rfl ?_;intro h' hS;simp only[dE,dI,dO] at hS;refine bd ?_
           try simp only[dE,dI,dO] at hS
           have e:ZF (ls.take (i+1)) = {H with state:=O9 H.state (atV (Z.getD 1 [])) 3}:=by
            rw[←Qp (d:=[]) hlt,QS,hH,hW];unfold K7;dsimp only;simp only[←hz];rw[if_neg (show¬ Z.getD 0 []=ON from c45),if_neg (show¬ Z.getD 0 []=OZ from c59),if_neg (show¬ Z.getD 0 []=OH from c105),if_neg (show¬ Z.getD 0 []=OO from c125),if_neg (show¬ Z.getD 0 []=O2 from c145),if_neg (show¬ Z.getD 0 []=OI from c155),if_neg (show¬ Z.getD 0 []=OL from c177),if_neg (show¬ Z.getD 0 []=OS from c206),if_pos (show Z.getD 0 []=OT from c213)]
           exact lpN (i+1,A) ⟨by dsimp only; omega,hA,by dsimp only; rw[e]; exact St.drop (A:=[_]) hS⟩ aI
          ·intro c213;refine cI ?_;refine Oo [3,9,18,19,20,44,220] ?_;refine Om ?_ ?_
           ·intro c220;refine OE rfl ?_;refine bY ?_;intro p224 hp224;refine Og hp224 (hS.rd 1 rfl) rfl ?_;refine Oe ?_;refine Qm (kf:=kint) (vf:=kint) (l:=H.state) (i:=9) (b:=1) EvK.eq rfl hS hA.vs rfl rfl ?_;intro h' hS;simp only[dE,dI,dO] at hS;refine bd ?_
            try simp only[dE,dI,dO] at hS
            have e:ZF (ls.take (i+1)) = {H with state:=O9 H.state (atV (Z.getD 1 [])) 1}:=by
             rw[←Qp (d:=[]) hlt,QS,hH,hW];unfold K7;dsimp only;simp only[←hz];rw[if_neg (show¬ Z.getD 0 []=ON from c45),if_neg (show¬ Z.getD 0 []=OZ from c59),if_neg (show¬ Z.getD 0 []=OH from c105),if_neg (show¬ Z.getD 0 []=OO from c125),if_neg (show¬ Z.getD 0 []=O2 from c145),if_neg (show¬ Z.getD 0 []=OI from c155),if_neg (show¬ Z.getD 0 []=OL from c177),if_neg (show¬ Z.getD 0 []=OS from c206),if_neg (show¬ Z.getD 0 []=OT from c213),if_pos (show Z.getD 0 []=OU from c220)]
            exact lpN (i+1,A) ⟨by dsimp only; omega,hA,by dsimp only; rw[e]; exact St.drop (A:=[_]) hS⟩ aI
           ·intro c220;refine cI ?_;refine Oo [3,9,18,19,20,227] ?_;refine Om ?_ ?_
            ·intro c227;refine OE rfl ?_;refine bY ?_;intro p231 hp231;refine Og hp231 (hS.rd 1 rfl) rfl ?_;refine Oe ?_;refine Qm (kf:=kint) (vf:=kint) (l:=H.state) (i:=9) (b:=0) EvK.eq rfl hS hA.vs rfl rfl ?_;intro h' hS;simp only[dE,dI,dO] at hS;refine bd ?_
             try simp only[dE,dI,dO] at hS
             have e:ZF (ls.take (i+1)) = {H with state:=O9 H.state (atV (Z.getD 1 [])) 0}:=by
              rw[←Qp (d:=[]) hlt,QS,hH,hW];unfold K7;dsimp only;simp only[←hz];rw[if_neg (show¬ Z.getD 0 []=ON from c45),if_neg (show¬ Z.getD 0 []=OZ from c59),if_neg (show¬ Z.getD 0 []=OH from c105),if_neg (show¬ Z.getD 0 []=OO from c125),if_neg (show¬ Z.getD 0 []=O2 from c145),if_neg (show¬ Z.getD 0 []=OI from c155),if_neg (show¬ Z.getD 0 []=OL from c177),if_neg (show¬ Z.getD 0 []=OS from c206),if_neg (show¬ Z.getD 0 []=OT from c213),if_neg (show¬ Z.getD 0 []=OU from c220),if_pos (show Z.getD 0 []=OW from c227)]
             exact lpN (i+1,A) ⟨by dsimp only; omega,hA,by dsimp only; rw[e]; exact St.drop (A:=[_]) hS⟩ aI
            intro c227;refine b4 ?_;refine bW ?_;refine Oq [3,18,19,20] ?_;refine bS ?_;exfalso;rcases wt_kind wt with q|q|q|q|q|q|q|q|q|q|q <;> rw[←hz] at q
            exact c45 q;exact c59 q;exact c105 q;exact c125 q;exact c145 q;exact c155 q;exact c177 q;exact c206 q;exact c213 q;exact c220 q;exact c227 q
 intro c21;refine bQ ?_;refine Oq [3] ?_;refine cJ ?_;refine Ov ?_;refine Oo [2] ?_;refine KA.ret ?_;refine fnQ.ret1 ?_;have hie:i=ls.length:=by omega
 subst hie;rw[dM] at hH;subst hH;exact⟨A,rfl,hA,hS⟩
end Go.Am
namespace Go.Am
section
variable {h h0 h1 h2:AHeap} {b o:AV} {l m:List Str} {G:List Obj}
theorem Bk.lift {X:List Obj} (st:St h h1 X) (hB:Bk h1 h2 b l []):Bk h h2 b l []:=by
 obtain⟨vl,A,hb,hS⟩:=hB;exact⟨vl,A,hb,St.drop (A:=X) (St.perm List.perm_append_comm (St.trans st hS))⟩
end
theorem yLine_len (u:Bool) (q:Q4) (hq:q.Ok):(Qg u q).length≤60:=by
 have h1:(Zg waysL q.b).length≤4:=QT aD;have h2:(dY ((q.c % 10:Nat):Int)).length≤21:=dK _ aA aA;have h3:(dY ((1+q.c % 5:Nat):Int)).length≤21:=dK _ aA aA;have h4:(Zg roomsL q.c).length≤5:=QT aD;have h5:(Zg roomsL q.d).length≤5:=QT aD;have h6:(Zg [[118,97,117,108,116],[116,97,98,108,101]] q.d).length≤5:=QT aD;have h7:(Zg [[115,101,97,108,32],[98,117,114,110,32]] q.d).length≤5:=QT aD;have h8:(Zg [[100,101,97,108,32],[98,97,99,107,32]] q.d).length≤5:=QT aD;unfold Qg yW yN yP;dsimp only
 repeat' split
 all_goals simp only[dG,List.length_cons,List.length_nil]
 all_goals omega
theorem Jz {u:Bool} {y:List Q4} (hy:∀ q∈y,q.Ok):∀ x∈QR u y,x.length≤1000000:=by
 intro x hx;rcases dJ.1 hx with h|h
 have:∀ x∈XS,x.length≤1000000:=by decide
 exact this x h;obtain⟨q,hq,rfl⟩:=List.mem_map.1 h;have:=yLine_len u q (hy q (List.mem_of_mem_take hq));omega
theorem Jy (u:Bool) (y:List Q4):(QR u y).length≤30:=by
 unfold QR;rw[dG,dN,List.length_take];show 6+_≤30;omega
end Go.Am
namespace Go.Am
def tOk : Tell → Bool
  | .room r=>decide (r∈roomsL ++ [[118,97,117,108,116],[116,97,98,108,101]])
  | .way w f t=>decide (w∈waysL) && decide (f∈roomsL) && decide (t∈roomsL)
  | .bound w n _=>decide (w∈waysL) && decide (0≤n) && decide (n≤9)
  | .pack p w=>decide (1≤p) && decide (p≤5) && decide (w∈waysL)
  | .move p _=>decide (1≤p) && decide (p≤5)
  | .claim w n=>decide (w∈waysL) && decide (0≤n) && decide (n≤9)
  | .free w=>decide (w∈waysL)
theorem yk1:∀ b,b<5→∀ c,c<10→tOk (KV ([108,101,97,115,116,32] ++ waysL.getD b [] ++ [32] ++ dY ((c:Nat):Int)))=true:=by decide +kernel
theorem yk2:∀ b,b<5→∀ c,c<10→tOk (KV ([109,111,115,116,32] ++ waysL.getD b [] ++ [32] ++ dY ((c:Nat):Int)))=true:=by decide +kernel
theorem yk3:∀ b,b<5→∀ c,c<5→tOk (KV ([112,97,99,107,32] ++ dY ((1+c:Nat):Int) ++ [32] ++ waysL.getD b []))=true:=by decide +kernel
theorem yk4:∀ d,d<2→∀ c,c<5→tOk (KV ([[115,101,97,108,32],[98,117,114,110,32]].getD d [] ++ dY ((1+c:Nat):Int)))=true:=by decide +kernel
theorem yk5:∀ d,d<2→∀ c,c<5→tOk (KV ([[100,101,97,108,32],[98,97,99,107,32]].getD d [] ++ dY ((1+c:Nat):Int)))=true:=by decide +kernel
theorem yk6:∀ b,b<5→∀ c,c<10→tOk (KV ([99,108,97,105,109,32] ++ waysL.getD b [] ++ [32] ++ dY ((c:Nat):Int)))=true:=by decide +kernel
theorem yk7:∀ b,b<5→tOk (KV ([102,114,101,101,32] ++ waysL.getD b []))=true:=by decide +kernel
theorem yk8:∀ b,b<5→∀ c,c<3→∀ d,d<3→tOk (KV ([119,97,121,32] ++ waysL.getD b [] ++ [32] ++ roomsL.getD c [] ++ [32] ++ roomsL.getD d []))=true:=by decide +kernel
theorem yk9:∀ d,d<2→tOk (KV ([114,111,111,109,32] ++ [[118,97,117,108,116],[116,97,98,108,101]].getD d []))=true:=by decide +kernel
theorem yk0:∀ x∈XS,tOk (KV x)=true:=by decide +kernel
theorem yLine_ok (u:Bool) (q:Q4):Qg u q=Y6∨tOk (KV (Qg u q))=true:=by
 have hb:q.b % 5<5:=dF _ aD;have h10:q.c % 10<10:=dF _ aD;have h5:q.c % 5<5:=dF _ aD;have h3:q.c % 3<3:=dF _ aD;have hd3:q.d % 3<3:=dF _ aD;have hd2:q.d % 2<2:=dF _ aD;unfold Qg;dsimp only;split;exact .inr (yk1 _ hb _ h10);split;exact .inr (yk2 _ hb _ h10);split;exact .inr (yk3 _ hb _ h5);split;exact .inr (yk4 _ hd2 _ h5);split;exact .inr (yk5 _ hd2 _ h5);split;exact .inr (yk6 _ hb _ h10);split;exact .inr (yk7 _ hb);split;exact .inr (yk8 _ hb _ h3 _ hd3);split;exact .inl rfl;exact .inr (yk9 _ hd2)
theorem yLines_ok {u:Bool} {y:List Q4}:∀ x∈QR u y,x=Y6∨tOk (KV x)=true:=by
 intro x hx;rcases dJ.1 hx with h|h
 exact .inr (yk0 x h);obtain⟨q,_,rfl⟩:=List.mem_map.1 h;exact yLine_ok u q
theorem doL_mem {ls:List Str} {x z:Str} (h:z∈doL ls x):z∈ls∨z=x:=by
 unfold doL at h;split at h;simpa using h;exact .inl h
theorem bookTo_mem {xs:List Str}:∀ i,i≤xs.length→∀ z∈ZC xs i,z∈xs:=by
 intro i
 induction i with
 | zero=>intro _ z hz; cases hz
 | succ i ih=>
  intro hi z hz;rw[ZC] at hz;by_cases hx:xs.getD i []=Y6;rw[UN hx] at hz;exact ih aA z ((List.dropLast_sublist _).subset hz);rw[bk_do hx] at hz;rcases doL_mem hz with h|h
  exact ih aA z h;rw[h]; exact getD_mem aA
theorem bookTo_len {xs:List Str}:∀ i,(ZC xs i).length≤i:=by
 intro i
 induction i with
 | zero=>exact dL _
 | succ i ih=>
  rw[ZC];by_cases hx:xs.getD i []=Y6;rw[UN hx,List.length_dropLast]; omega;rw[bk_do hx];unfold doL;split;rw[dG,List.length_singleton]; omega;omega
structure YL (L:List Str):Prop where
  done:Done L
  ok:∀ x∈L,tOk (KV x)=true
  len:L.length≤30
theorem Done.noUndo {L:List Str} (hD:Done L):∀ x∈L,x≠Y6:=by
 induction hD with
 | nil=>intro x hx; cases hx
 | @snoc lines line h he ih=>
  intro x hx;rcases dJ.1 hx with h1|h1
  exact ih x h1;rw[List.mem_singleton.1 h1];rintro rfl;have:=(Q8 he).1;revert this;decide +kernel
theorem YL.book {u:Bool} {y:List Q4} (hD:Done (YG (QR u y))):YL (YG (QR u y)):=by
 refine⟨hD,?_,Nat.le_trans (bookTo_len _) (Jy u y)⟩;intro x hx;rcases yLines_ok (u:=u) (y:=y) x (bookTo_mem _ (dL _) x hx) with h|h
 exact absurd h (hD.noUndo x hx);exact h
end Go.Am
namespace Go.Am
theorem asked_is {L:List Str} {x:Str} (hx:Kx x=0) (hl:L.length≤60):O3 L x=(after L).wrong (KV x):=by
 unfold O3;dsimp only;rw[if_pos hx,if_neg aA]
end Go.Am
namespace Go.Am
theorem WF.plM {O:Off} (hW:WF O) {w:Str} {l:Lane} (h:Ot O.ways w=some l):l.pl<O.ways.length∧O.ways[l.pl]? = some (w,l):=by
 obtain⟨i,h1,h2⟩:=Jw h;have:=hW.pl i h1;rw[show O.ways.getD i default=(w,l) by rw[dU,h2]; rfl] at this;have e:l.pl=i:=this;rw[e]; exact⟨h1,h2⟩
theorem sp_is {O:Off} (hW:WF O) (hF:Fit O) {w:Str} {l:Lane} (h:Ot O.ways w=some l):IsLo O.ws l.pl (O.spLo l.pl)∧IsHi O.ws l.pl (O.spHi l.pl):=by
 obtain⟨h1,h2⟩:=hW.plM h;have ha:=UP hW hF h1;have e1:O.spLo l.pl=YO O.ws l.pl:=if_pos ha;have e2:O.spHi l.pl=Vi O.ws l.pl:=if_pos ha;rw[e1,e2];have hi:l.pl<O.ws.length:=by rw[O.ws_len]; exact h1
 exact⟨Vp hF hi,JF hF hi⟩
theorem sp_lane {O:Off} (hW:WF O) (hF:Fit O) {w:Str} {l:Lane} (h:Ot O.ways w=some l):l.lo≤O.spLo l.pl∧O.spLo l.pl≤O.spHi l.pl∧O.spHi l.pl≤l.hi:=by
 obtain⟨⟨⟨n,hn,e1⟩,h1⟩,⟨m,hm,e2⟩,h2⟩:=sp_is hW hF h;obtain⟨_,h3⟩:=hW.plM h;have a:=YB hn h3;have b:=YB hm h3;have c:=h1 m hm;omega
theorem span_le {O O' : Off} (hW : WF O) (hF : Fit O) (hW' : WF O') (hF' : Fit O') {w : Str} {l l' : Lane} (h : Ot O.ways w = some l) (h' : Ot O'.ways w = some l') (hpl : l'.pl = l.pl)
    (hf:∀ n,Flow O'.ws n→∃ m,Flow O.ws m∧m.getD l.pl 0=n.getD l.pl 0):O.spLo l.pl≤O'.spLo l'.pl∧O'.spHi l'.pl≤O.spHi l.pl:=by
 obtain⟨⟨_,h1⟩,⟨_,h2⟩⟩:=sp_is hW hF h;obtain⟨⟨⟨n,hn,e1⟩,_⟩,⟨m,hm,e2⟩,_⟩:=sp_is hW' hF' h';obtain⟨n',hn',e3⟩:=hf n hn;obtain⟨m',hm',e4⟩:=hf m hm;have a:=h1 n' hn';have b:=h2 m' hm';rw[hpl] at e1 e2⊢;omega
theorem spn_eq {O O':Off} (hW:WF O) (hF:Fit O) (hW':WF O') (hF':Fit O') (hn:∀ v,(Ot O'.ways v).map Lane.pl=(Ot O.ways v).map Lane.pl) (h1:∀ n,Flow O'.ws n→Flow O.ws n) (h2:∀ n,Flow O.ws n→Flow O'.ws n) (v:Str):O'.spn v=O.spn v:=by
 have hv:=hn v
 cases hm:Ot O.ways v with
 | none=>
  rw[hm] at hv;have hm':Ot O'.ways v=none:=by
   cases h:Ot O'.ways v with
   | none=>rfl
   | some l=>rw[h] at hv; cases hv
  rw[VY hm,VY hm']
 | some l=>
  rw[hm] at hv
  cases hm':Ot O'.ways v with
  | none=>rw[hm'] at hv; cases hv
  | some l'=>
   rw[hm'] at hv;have hpl:l'.pl=l.pl:=Option.some.inj hv;have a:=span_le hW hF hW' hF' hm hm' hpl fun n hn=>⟨n,h1 n hn,rfl⟩
   have b:=span_le hW' hF' hW hF hm' hm hpl.symm fun n hn=>⟨n,h2 n hn,rfl⟩
   rw[X7 hm,X7 hm'];have e1:O'.spLo l'.pl=O.spLo l.pl:=by omega
   have e2:O'.spHi l'.pl=O.spHi l.pl:=by omega
   rw[e1,e2]
theorem flow_back {O:Off} (nd:(O.ways.map (·.1)).Nodup) {i:Nat} {w:Str} {l:Lane} (h:O.ways[i]? = some (w,l)) {f:Lane→Lane} (h1:(f l).fr=l.fr) (h2:(f l).to=l.to) {n:List Int} (hF:Flow (O.mod w f).ws n) (h3:l.lo≤n.getD i 0) (h4:n.getD i 0≤l.hi):Flow O.ws n:=by
 have hl:i<O.ways.length:=(dH.1 h).1;have hg:O.ways.getD i default=(w,l):=by rw[dU,h]; rfl
 have hlen:(O.mod w f).ws.length=O.ws.length:=by rw[Off.ws_len,Off.ws_len,VO nd h f,dP]
 refine hF.move hlen.symm (fun j hj=>?_) (fun j hj=>?_);rw[hlen,O.ws_len] at hj;rw[Jj nd h f hj];by_cases hji:j=i;subst hji; rw[if_pos rfl,Off.ws_get hj,hg,h1,h2]; exact⟨rfl,rfl⟩;rw[if_neg hji]; exact⟨rfl,rfl⟩;have hj':=hj;rw[hlen,O.ws_len] at hj;have a:=hF.lo j hj';have b:=hF.hi j hj';rw[Jj nd h f hj] at a b;by_cases hji:j=i;subst hji; rw[Off.ws_get hj,hg]; exact⟨h3,h4⟩;rw[if_neg hji] at a b; exact⟨a,b⟩
theorem mod_in {O:Off} (nd:(O.ways.map (·.1)).Nodup) {i:Nat} {w:Str} {l:Lane} (h:O.ways[i]? = some (w,l)) {f:Lane→Lane} {n:List Int} (hF:Flow (O.mod w f).ws n):(f l).lo≤n.getD i 0∧n.getD i 0≤(f l).hi:=by
 have hl:i<O.ways.length:=(dH.1 h).1;have hlen:(O.mod w f).ws.length=O.ws.length:=by rw[Off.ws_len,Off.ws_len,VO nd h f,dP]
 have a:=hF.lo i (by rw[hlen,O.ws_len]; exact hl);have b:=hF.hi i (by rw[hlen,O.ws_len]; exact hl);rw[Jj nd h f hl,if_pos rfl] at a b;exact⟨a,b⟩
theorem mod_pl (O:Off) (w:Str) (f:Lane→Lane) (hf:∀ l,(f l).pl=l.pl) (v:Str):(Ot (O.mod w f).ways v).map Lane.pl=(Ot O.ways v).map Lane.pl:=by
 show(Ot (Qi O.ways w f) v).map Lane.pl=_;rw[Zx];split
 ·cases Ot O.ways v with
  | none=>rfl
  | some l=>show some (f l).pl=some l.pl; rw[hf]
 rfl
def Xg (w:Str) (a:Int):Str:=[99,108,97,105,109,32] ++ w ++ [32] ++ dY a
def claimOf : Tell → Option (Str × Int)
  | .claim w n=>some (w,n)
  | _=>none
theorem Jf {t:Tell} {w:Str} {n:Int} (h:claimOf t=some (w,n)):t = .claim w n:=by
 cases t <;> cases h; rfl
theorem clm_is:∀ b,b<5→∀ c,c<100→Kx (Xg (waysL.getD b []) ((c:Nat):Int))=0∧claimOf (KV (Xg (waysL.getD b []) ((c:Nat):Int)))=some (waysL.getD b [],((c:Nat):Int)):=by decide +kernel
def XN (O:Off) (w:Str) (a:Int):Prop:=∃ l,Ot O.ways w=some l∧l.paid=true∧l.told=some a
theorem paid_tell {O:Off} {w:Str} {a:Int} (hp:XN O w a) {t:Tell} (h0:O.wrong t=0):XN (O.tell t) w a:=by
 obtain⟨l,hm,h1,h2⟩:=hp;have key:∀ (v:Str) (f:Lane→Lane),(v=w→(f l).paid=true∧(f l).told=some a)→XN (O.mod v f) w a:=by
  intro v f hf;show ∃ l,Ot (Qi O.ways v f) w=some l∧_;rw[Zx];by_cases hv:w=v;rw[if_pos hv,hm]; exact⟨f l,rfl,hf hv.symm⟩;rw[if_neg hv]; exact⟨l,hm,h1,h2⟩
 have no:∀ {v:Str} {l2:Lane},Ot O.ways v=some l2→l2.paid=false→v≠w:=by
  intro v l2 hv hp2 e;rw[e,hm] at hv; cases hv;rw[h1] at hp2; cases hp2
 cases t with
 | room r=>exact⟨l,hm,h1,h2⟩
 | way v f t=>exact⟨l,Wc hm,h1,h2⟩
 | bound v n g=>
  obtain⟨l2,h3,h4,_⟩:=ZA h0;exact key v (chB n g) fun e=>absurd e (no h3 h4)
 | pack p v=>exact key v (chP p) fun _=>⟨h1,h2⟩
 | move p s=>
  obtain⟨d,hd⟩:=Xt h0;unfold Off.tell;dsimp only;rw[hd];dsimp only;split;obtain⟨l3,h3,h4⟩:=key d.1 (fun l=>{l with packs:=l.packs.filter fun q=>!decide (q=p)}) fun _=>⟨h1,h2⟩
  exact⟨l3,h3,h4⟩;exact⟨l,hm,h1,h2⟩
 | claim v n=>
  obtain⟨l2,h3,h4⟩:=ZX h0;obtain⟨l5,h5,h6⟩:=key v (fun l=>{l with paid:=true,told:=some n}) fun e=>absurd e (no h3 h4)
  exact⟨l5,h5,h6⟩
 | free v=>
  obtain⟨l2,h3,h4⟩:=Xs h0;exact key v (fun l=>{l with told:=none,top:=none}) fun e=>absurd e (no h3 h4)
theorem paid_doL {L:List Str} {w:Str} {a:Int} (hp:XN (after L) w a) (x:Str):XN (after (doL L x)) w a:=by
 unfold doL;split;rename_i he;rw[Zd]; exact paid_tell hp (Q8 he).2.1;exact hp
theorem Wg {L:List Str} (hD:Done L) {w:Str} {a:Int} (hp:XN (after L) w a):(after L).spn w=(a,a,0):=by
 obtain⟨l,hm,h1,h2⟩:=hp;have hs:=sp_lane hD.wf.1 hD.fit hm;have e1:l.lo=a:=by unfold Lane.lo; rw[if_pos h1,h2]; rfl
 have e2:l.hi=a:=by unfold Lane.hi; rw[if_pos h1,h2]; rfl
 rw[X7 hm];have e3:(after L).spLo l.pl=a:=by omega
 have e4:(after L).spHi l.pl=a:=by omega
 rw[e3,e4]
theorem spn_zero {O:Off} {w:Str} {a b e:Int} (h:O.spn w=(a,b,e)) (he:e=0):∃ l,Ot O.ways w=some l∧O.spLo l.pl=a∧O.spHi l.pl=b:=by
 cases hm:Ot O.ways w with
 | none=>rw[VY hm] at h; cases h; cases he
 | some l=>rw[X7 hm] at h; cases h; exact⟨l,rfl,rfl,rfl⟩
theorem claim_spn {O:Off} (hW:WF O) (hF:Fit O) {w:Str} {a:Int} {l:Lane} (hm:Ot O.ways w=some l) (h1:O.spLo l.pl=a) (h2:O.spHi l.pl=a) (hW':WF (O.tell (.claim w a))) (hF':Fit (O.tell (.claim w a))) (v:Str):(O.tell (.claim w a)).spn v=O.spn v:=by
 obtain⟨_,h3⟩:=hW.plM hm;obtain⟨⟨⟨n0,hn0,e0⟩,h5⟩,⟨_,h6⟩⟩:=sp_is hW hF hm;have hw0:=YB hn0 h3;refine spn_eq hW hF hW' hF' (mod_pl O w (fun l=>{l with paid:=true,told:=some a}) fun _=>rfl) (fun n hn=>?_) (fun n hn=>?_) v;have hn2:Flow (O.mod w fun l=>{l with paid:=true,told:=some a}).ws n:=hn;have hin:=mod_in hW.nd h3 hn2;have hin2:a≤n.getD l.pl 0∧n.getD l.pl 0≤a:=hin;exact flow_back hW.nd h3 (f:=fun l=>{l with paid:=true,told:=some a}) rfl rfl hn2 aA aA;have ha:=h5 n hn;have hb:=h6 n hn;have key:Flow (O.mod w fun l=>{l with paid:=true,told:=some a}).ws n:=JD (f:=fun l=>{l with paid:=true,told:=some a}) hW.nd h3 rfl rfl hn (show a≤_ by omega) (show _≤a by omega);exact key
theorem Ru {L : List Str} (hY : YL L) {i : Nat} (hi : i < 5) {a : Int} (h0 : 0 ≤ a) (h1 : a ≤ 99) (hs : (after L).spn (waysL.getD i []) = (a, a, 0)) :
    (O3 L (Xg (waysL.getD i []) a)=0∨O3 L (Xg (waysL.getD i []) a)=20)∧XN (after (doL L (Xg (waysL.getD i []) a))) (waysL.getD i []) a∧∀ v,(after (doL L (Xg (waysL.getD i []) a))).spn v=(after L).spn v:=by
 obtain⟨c,rfl⟩:∃ c:Nat,a=c:=⟨a.toNat,by omega⟩;obtain⟨h2,h3⟩:=clm_is i hi c aA;generalize waysL.getD i []=w at *;obtain⟨l,hm,h4,h5⟩:=spn_zero hs rfl;have hD:=hY.done;have he:=asked_is (L:=L) h2 (by have:=hY.len; omega);rw[Jf h3] at he
 cases hp:l.paid with
 | true=>
  have e:O3 L (Xg w c)=20:=by
   rw[he];unfold Off.wrong;dsimp only;rw[hm];exact if_pos hp
  have ed:doL L (Xg w c)=L:=YJ e aD;rw[ed];refine⟨.inr e,?_,fun _=>rfl⟩;obtain⟨n,hn⟩:=Option.isSome_iff_exists.1 (hD.wf.1.paidM hm hp);have hs2:=Wg hD ⟨l,hm,hp,hn⟩;rw[hs] at hs2;cases hs2;exact⟨l,hm,hp,hn⟩
 | false=>
  have e:O3 L (Xg w c)=0:=by
   rw[he,Q1 hm hp,h4,h5,if_neg aA,if_neg aA]
  have ed:doL L (Xg w c)=L ++ [Xg w c]:=Xk e;have hD2:Done (L ++ [Xg w c]):=.snoc hD e;have ea:after (L ++ [Xg w c])=(after L).tell (.claim w c):=by rw[Zd,Jf h3]
  rw[ed];refine⟨.inl e,?_,fun v=>?_⟩;rw[ea];show ∃ l2,Ot (Qi (after L).ways w (fun l=>{l with paid:=true,told:=some ((c:Nat):Int)})) w=some l2∧_;rw[Zx,if_pos rfl,hm];exact⟨_,rfl,rfl,rfl⟩;rw[ea];exact claim_spn hD.wf.1 hD.fit hm h4 h5 (ea ▸ hD2.wf.1) (ea ▸ hD2.fit) v
def Hs.paidTo (H : Hs) : Nat → Int
  | 0=>0
  | i+1=>H.paidTo i+(Ot H.paid (H.claims.getD i [])).getD 0
theorem Re {L:List Str} (hD:Done L):∀ i,i≤(after L).claims.length→(ZF L).paidTo i=(after L).sumTo i:=by
 intro i
 induction i with
 | zero=>intro _; rfl
 | succ i ih=>
  intro hi;rw[Hs.paidTo,Off.sumTo,ih aA,hD.hr.claims];have hc:(after L).claims.getD i []∈(after L).claims:=getD_mem aA;obtain⟨l,h1,h2⟩:=hD.clm _ hc;rw[hD.hr.paid _ l h1,if_pos h2];unfold Off.toldN;rw[h1]; rfl
theorem paid_in {L:List Str} (hD:Done L) {w:Str} {a:Int} (hp:XN (after L) w a):w∈(after L).claims:=by
 obtain⟨l,h1,h2,_⟩:=hp;have h3:=hD.hr.paid w l h1;rw[if_pos h2] at h3;rw[←hD.hr.paidK]; exact J8 h3
theorem book_done {L:List Str} (hD:Done L):YG L=L:=by
 have key:∀ i,i≤L.length→ZC L i=L.take i:=by
  intro i
  induction i with
  | zero=>intro _; rw[ZC,List.take_zero]
  | succ i ih=>
   intro hi;rw[ZC,ih aA,bk_do (hD.noUndo _ (getD_mem aA)),Xk (hD.one i aA),Qp aA]
 rw[YG,key _ (dL _),dM]
end Go.Am
