/-
  Layer 14: the house of lines that were done.
  Conditions: none.
-/
import Derived.Test.YtgnogfjajnnaoaaGreatDoorAnj
import Derived.Test.YtgnogfjajnnaoaaGreatDoorSh3
open Go.Lib renaming itoa → dR, itoa_length_le → fA
open Int renaming le_refl → dP
open List renaming set_cons_zero → dO, set_cons_succ → dU, getD_eq_getElem?_getD → dN, length_append → dQ, getElem?_eq_some_iff → dT, mem_append → dV, getElem?_eq_none → dW, length_singleton → dX, getElem?_append → dZ, take_length → fI, length_map → fO, length_set → fU
open Nat renaming zero_add → dY, mod_lt → dS, le_refl → fE
namespace Go.Am
theorem wt_kind {W:List Str} {t:Tell} (h:WT W t):W.getD 0 []=OO∨W.getD 0 []=OX∨W.getD 0 []=OE∨W.getD 0 []=OK∨W.getD 0 []=OY∨W.getD 0 []=OJ∨W.getD 0 []=ON∨W.getD 0 []=OS∨W.getD 0 []=OU∨W.getD 0 []=OW∨W.getD 0 []=OT:=by
 cases h with
 | move k m s hk e1=>subst e1; rcases hk with ⟨rfl,_⟩|⟨rfl,_⟩|⟨rfl,_⟩|⟨rfl,_⟩ <;> simp
 | room a e1=>subst e1; simp
 | way a b c e1=>subst e1; simp
 | least a m e1=>subst e1; simp
 | most a m e1=>subst e1; simp
 | free a e1=>subst e1; simp
 | claim a m e1=>subst e1; simp
 | pack m a e1=>subst e1; simp
theorem Rz {W:List Str} {t:Tell} (h:WT W t):WordA (W.getD 1 [])∧WordA (W.getD 2 [])∧1≤W.length:=by
 cases h with
 | move k m s hk e1 _ hm=>subst e1; exact⟨.inl hm,.inr (.inr rfl),by simp⟩
 | room a e1 _ ha=>subst e1; exact⟨.inr (.inl ha),.inr (.inr rfl),by simp⟩
 | way a b c e1 _ ha hb=>subst e1; exact⟨.inr (.inl ha),.inr (.inl hb),by simp⟩
 | least a m e1 _ ha hm=>subst e1; exact⟨.inr (.inl ha),.inl hm,by simp⟩
 | most a m e1 _ ha hm=>subst e1; exact⟨.inr (.inl ha),.inl hm,by simp⟩
 | free a e1 _ ha=>subst e1; exact⟨.inr (.inl ha),.inr (.inr rfl),by simp⟩
 | claim a m e1 _ ha hm=>subst e1; exact⟨.inr (.inl ha),.inl hm,by simp⟩
 | pack m a e1 _ hm ha=>subst e1; exact⟨.inl hm,.inr (.inl ha),by simp⟩
theorem pack_no {O:Off} {H:Hs} {W:List Str} {t:Tell} (hr:HRl O H) (wt:WT W t) (h0:O.wrong t=0) (hk:W.getD 0 []=ON):Ot H.packs (atV (W.getD 1 []))=none∧Ot H.state (atV (W.getD 1 []))=none:=by
 cases wt with
 | move k m s hx e1=>subst e1; have hk2:k=ON:=hk; rcases hx with ⟨rfl,_⟩|⟨rfl,_⟩|⟨rfl,_⟩|⟨rfl,_⟩ <;> exact absurd hk2 aD
 | room a e1=>subst e1; exact absurd (show OO=ON from hk) aD
 | way a b c e1=>subst e1; exact absurd (show OX=ON from hk) aD
 | least a m e1=>subst e1; exact absurd (show OE=ON from hk) aD
 | most a m e1=>subst e1; exact absurd (show OK=ON from hk) aD
 | free a e1=>subst e1; exact absurd (show OY=ON from hk) aD
 | claim a m e1=>subst e1; exact absurd (show OJ=ON from hk) aD
 | pack m a e1 e2 hm=>
  subst e1; subst e2;obtain⟨hev,_⟩:=XB h0;show Ot H.packs (atV m)=none∧Ot H.state (atV m)=none;rw[ZY hm];exact⟨XQ (by rw[hr.packs]; exact hev),XQ (by rw[hr.state]; exact hev)⟩
theorem pad_get (W:List Str) (k:Nat):(W ++ [[],[],[],[]]).getD k []=W.getD k []:=by
 rw[dN,dN,dZ];split;rfl
 ·rw[dW (l:=W) aA]
  match k - W.length with
  | 0=>rfl
  | 1=>rfl
  | 2=>rfl
  | 3=>rfl
  | n+4=>rfl
theorem wcs_at {l:List Str} {i:Nat} (h:i<l.length):(wcs l)[i]? = some (.str (wd (l.getD i []))):=by
 rw[List.getElem?_map,dN,List.getElem?_eq_getElem h]; rfl
structure HA where
  po:AV
  vr:AV
  vw:AV
  ve:AV
  vt:AV
  vp:AV
  vc:AV
  vk:AV
  vs:AV
  vo:AV
abbrev prV (p:Int × Int):AV:=.agg [.int .i64 p.1,.int .i64 p.2]
def hsO (A:HA) (H:Hs):List Obj:=[⟨A.po,0,[A.vr,A.vw,A.ve,A.vt,A.vp,A.vc,A.vk,A.vs,A.vo],true⟩,⟨A.vr,1,wcs H.rooms,true⟩,⟨A.vw,1,wcs H.ways,true⟩,mapO A.ve (entL kstr prV H.ends),mapO A.vt (entL kstr prV H.told),mapO A.vp (entL kstr kint H.paid),⟨A.vc,1,wcs H.claims,true⟩,mapO A.vk (entL kint kstr H.packs),mapO A.vs (entL kint kint H.state),⟨A.vo,1,ints H.order,true⟩]
structure HAk (A:HA):Prop where
  po:AddrOf A.po A.po 0 0
  ve:Q7 A.ve
  vt:Q7 A.vt
  vp:Q7 A.vp
  vk:Q7 A.vk
  vs:Q7 A.vs
structure RHs (h:AHeap) (A:HA) (H:Hs):Prop where
  ok:HAk A
  rd:Rd h A.po 0 [A.vr,A.vw,A.ve,A.vt,A.vp,A.vc,A.vk,A.vs,A.vo]
  rooms:WRow h A.vr H.rooms
  ways:WRow h A.vw H.ways
  ends:RdM h A.ve (entL kstr prV H.ends)
  told:RdM h A.vt (entL kstr prV H.told)
  paid:RdM h A.vp (entL kstr kint H.paid)
  claims:WRow h A.vc H.claims
  packs:RdM h A.vk (entL kint kstr H.packs)
  state:RdM h A.vs (entL kint kint H.state)
  order:Row h A.vo H.order
theorem RHs.ext {h h':AHeap} {A:HA} {H:Hs} (r:RHs h A H) (k:Keeps h h'):RHs h' A H:=⟨r.ok,r.rd.ext k,r.rooms.ext k,r.ways.ext k,RdM.ext k r.ends,RdM.ext k r.told,RdM.ext k r.paid,r.claims.ext k,RdM.ext k r.packs,RdM.ext k r.state,r.order.ext k⟩
theorem St.rhs {h0 h:AHeap} {A:HA} {H:Hs} {G:List Obj} (st:St h0 h (hsO A H ++ G)) (ok:HAk A):RHs h A H:=
  ⟨ok,st.rd 0 rfl,st.rd 1 rfl,st.rd 2 rfl,st.rdM 3 rfl ok.ve,st.rdM 4 rfl ok.vt,st.rdM 5 rfl ok.vp,st.rd 6 rfl,st.rdM 7 rfl ok.vk,st.rdM 8 rfl ok.vs,st.rd 9 rfl⟩
structure HSm (H:Hs):Prop where
  rooms:H.rooms.length≤6
  ways:H.ways.length≤12
  claims:H.claims.length≤100
  order:H.order.length≤100
theorem HRl.small {O:Off} {H:Hs} (hr:HRl O H) (hW:WF O):HSm H:=⟨by rw[hr.rooms]; exact hW.rooms,by rw[hr.ways,fO]; exact hW.ways,by rw[hr.claims]; exact hW.claims,by rw[hr.order]; exact hW.ever⟩
section
variable {P:Program} {n:Nat} {ops:Array Oper} {ex:List Nat} {Q:KF→AHeap→Prop} {k:Nat} {os:List Oper} {K:KF} {h:AHeap} {d:Nat} {ty:TypeId} {pos:String} {after:Array Edge}
theorem ZW {x ix : Operand} {t e : TypeId} {m : Nat} {kd : IntKind} {i : Int} {j : Nat} {xs : List AV} {v : AV} [hx : EvK h.globs n K x (.agg xs)] [hi : EvK h.globs n K ix (.int kd i)] (ht : XX P t = some (m, e)) [hs : ScT P e] (hj : i = (j : Int)) (hlt : j < m) (hv : xs[j]? = some v)
    (hk:KOps P n ops ex Q (k+1) os ((d,v)::K) h):KOps P n ops ex Q k (⟨some d,.index t x ix,ty,pos,after,none⟩::os) K h:=by
 subst hj;refine Ke rfl (v:=v) ?_ hk;simp only[K6,hx.eq,hi.eq,Jd,ht,hs.sz,apart,hs.sc,Option.bind_eq_bind,Option.bind_some];rw[if_pos ⟨by omega,by omega⟩,Int.toNat_natCast,Nat.mul_one,if_neg aD];exact hv
end
theorem Wj {κ ν:Type} [DecidableEq κ] {l:List (κ × ν)} {a : κ} {b : ν} (h:Ot l a=none):O5 l a b=l ++ [(a,b)]:=YV (VS h)
set_option synthInstance.maxSize 2000 in
set_option synthInstance.maxHeartbeats 200000 in
theorem inside_c {h:AHeap} {v:AV} {ls:List Str} (hv:WRow h v ls) (hD:Done ls) (hV:Vs h) (hE:Er h):ACalls Go.Proofs.Tryz.prog 51 [v] h (fun q h'=>∃ A,q=A.po∧HAk A∧St h h' (hsO A (Q8 ls))):=by
 refine OP 236 [.tmp 2] Go.Proofs.Tryz.func51 rfl aD rfl rfl (Nat.le_of_ble_eq_true rfl) ?_;have hS:=St.refl h;have hll:=hD.wf.2.1;show KA _ 236 _ _ [(0,v)] _;refine Ow ?_;refine Ov ?_;refine Oo [0] ?_;refine Ow ?_;refine Zo hS rfl ?_;intro v11 h' hv11 hS;refine Zo hS rfl ?_;intro v12 h' hv12 hS;refine Zo hS rfl ?_;intro v13 h' hv13 hS;refine Zo hS rfl ?_;intro v14 h' hv14 hS;refine Zo hS rfl ?_;intro v15 h' hv15 hS;have ho11:v11.one=true:=by obtain⟨_,rfl⟩:=hv11; rfl
 have ho12:v12.one=true:=by obtain⟨_,rfl⟩:=hv12; rfl
 have ho13:v13.one=true:=by obtain⟨_,rfl⟩:=hv13; rfl
 have ho14:v14.one=true:=by obtain⟨_,rfl⟩:=hv14; rfl
 have ho15:v15.one=true:=by obtain⟨_,rfl⟩:=hv15; rfl
 refine Ka (zs:=[.nils,.nils,.nilm,.nilm,.nilm,.nils,.nilm,.nilm,.nils]) (cs:=[_,_,_,_,_,_,_,_,_]) aE aN aE (.cons (off:=2) (s:=1) aE (AV.cells_one aH) rfl aD (.cons (off:=3) (s:=1) aE (AV.cells_one aH) rfl aD (.cons (off:=4) (s:=1) aE (AV.cells_one aH) rfl aD (.cons (off:=6) (s:=1) aE (AV.cells_one aH) rfl aD (.cons (off:=7) (s:=1) aE (AV.cells_one aH) rfl aD .nil))))) aN ?_;refine O0 hS (by show(true && (true && (v11.one && (v12.one && (v13.one && (true && (v14.one && (v15.one && (true && true)))))))))=true; rw[ho11,ho12,ho13,ho14,ho15]; rfl) ?_;intro p17 h' hp17 hS;refine Ov ?_;refine Oo [0,3] ?_;refine b5 ?_;have hS1:=St.addNil 1 true (St.addNil 1 true (St.addNil 1 true (St.addNil 1 true hS)));have hS2:=St.pick (objs':=hsO ⟨p17,.nils,.nils,v11,v12,v13,.nils,v14,v15,.nils⟩ hs0) [0,6,7,5,4,3,8,2,1,9] aD rfl hS1;refine Oe ?_;refine O6 (Rd.ext hS.keeps hv) ?_;refine Oe ?_;refine Oo [3,18,19,20] ?_;refine OD ?_;refine Kn (X:=Nat × HA) (fun x=>[(3,x.2.po),(18,v),(19,.int .i64 (ls.length:Int)),(20,.int .i64 (x.1:Int))]) (fun x h'=>x.1≤ls.length∧HAk x.2∧St h h' (hsO x.2 (Q8 (ls.take x.1)))) (fun x=>ls.length - x.1) (0,⟨p17,.nils,.nils,v11,v12,v13,.nils,v14,v15,.nils⟩) ?_ ?_;exact⟨Nat.zero_le _,⟨hp17,hv11,hv12,hv13,hv14,hv15⟩,hS2⟩;rintro⟨i,A⟩ h2 ⟨hi,hA,hS⟩;dsimp only at hi hA hS⊢;obtain⟨H,hH⟩:∃ H,Q8 (ls.take i)=H:=⟨_,rfl⟩;rw[hH] at hS;have hr:HRl (after (ls.take i)) H:=hH ▸ (hD.take i).hr;obtain⟨hsm1,hsm2,hsm3,hsm4⟩:=hr.small (hD.take i).wf.1;replace hS:St h h2 (⟨A.po,0,[A.vr,A.vw,A.ve,A.vt,A.vp,A.vc,A.vk,A.vs,A.vo],true⟩::⟨A.vr,1,wcs H.rooms,true⟩::⟨A.vw,1,wcs H.ways,true⟩::mapO A.ve (entL kstr prV H.ends)::mapO A.vt (entL kstr prV H.told)::mapO A.vp (entL kstr kint H.paid)::⟨A.vc,1,wcs H.claims,true⟩::mapO A.vk (entL kint kstr H.packs)::mapO A.vs (entL kint kint H.state)::⟨A.vo,1,ints H.order,true⟩ :: []):=hS;refine Ow ?_;refine QP ?_;refine cC ?_;refine Ol ?_ ?_
 ·intro c21;have hlt:i<ls.length:=by omega
  have hx:=hD.one i hlt;obtain⟨hx1,hx2,_⟩:=QX hx;have wt:=wt_of hx1;have hxl:(ls.getD i []).length≤1000000:=Nat.le_trans (hD.small _ (getD_mem hlt)) aA;have hno:=fun hk=>pack_no hr wt hx2 hk
  obtain⟨hw1,hw2,hw0⟩:=Rz wt;obtain⟨W,hW⟩:∃ W,OL 32 (ls.getD i [])=W:=⟨_,rfl⟩;rw[hW] at wt hw1 hw2 hw0 hno;refine OB [3,18,19,20] ?_;refine dI ?_;refine Oq (Rd.ext hS.keeps hv) (j:=i) rfl aB ?_;intro p22 hp22;refine OI hp22 (Rd.ext hS.keeps hv) aB ?_;refine Ov ?_;refine Oo [3,5,18,19,20] ?_;refine cT ?_;refine Om rfl (UZ (c:=32) (hV.ext hS.keeps).mx hxl) ?_;rintro v25 h25 ⟨hsl25,hS25⟩;rw[hW] at hS25;replace hS:St _ _ (⟨v25,1,wcs W,true⟩::⟨A.po,0,[A.vr,A.vw,A.ve,A.vt,A.vp,A.vc,A.vk,A.vs,A.vo],true⟩::⟨A.vr,1,wcs H.rooms,true⟩::⟨A.vw,1,wcs H.ways,true⟩::mapO A.ve (entL kstr prV H.ends)::mapO A.vt (entL kstr prV H.told)::mapO A.vp (entL kstr kint H.paid)::⟨A.vc,1,wcs H.claims,true⟩::mapO A.vk (entL kint kstr H.packs)::mapO A.vs (entL kint kint H.state)::⟨A.vo,1,ints H.order,true⟩ :: []):=St.trans hS hS25;refine bl ?_;intro v26 h' hS;replace hS:St _ _ (⟨v26,1,wcs [[],[],[],[]],true⟩::_):=hS;refine KOps.appendW hS (fun _=>rfl) (i:=0) rfl (by have:=V3 32 (ls.getD i []); rw[hW] at this; simp; omega) ?_;intro r27 h' hr27 hS;refine cL ?_;have hz:=pad_get W;have hZl : 4<(W ++ [[],[],[],[]]).length:=by simp; omega
  obtain⟨Z,hZ⟩:∃ Z,W ++ [[],[],[],[]]=Z:=⟨_,rfl⟩;rw[hZ] at hS hz hZl;rw[←hz] at hw1 hw2;refine Od ?_;refine Ou [3,6,18,19,20] ?_;refine cT ?_;refine Oq (hS.rd 0 rfl) (j:=2) rfl aB ?_;intro p30 hp30;refine OI hp30 (hS.rd 0 rfl) aB ?_;refine Om rfl (atoi_c (hE.ext hS.keeps) hw2) ?_;rintro _ _ ⟨rfl,rfl⟩;refine Oe ?_;refine O7 ?_;refine O7 ?_;refine Ov ?_;refine Ov ?_;refine Oo [3,6,7,18,19,20] ?_;refine Ow ?_;refine bo ?_;intro p37 hp37;refine OI hp37 (hS.rd 0 rfl) aB ?_;refine Om rfl (atoi_c (hE.ext hS.keeps) hw1) ?_;rintro _ _ ⟨rfl,rfl⟩;refine Oe ?_;refine O7 ?_;refine O7 ?_;refine Ov ?_;refine Ov ?_;refine Oo [3,6,7,9,18,19,20] ?_;refine cT ?_;refine ch ?_;intro p43 hp43;refine OI hp43 (hS.rd 0 rfl) aB ?_;refine Oo [3,6,7,9,18,19,20,44] ?_;refine OD ?_;refine cO ?_;refine Oo [3,6,7,9,18,19,20,44,45] ?_;refine Ol ?_ ?_
  ·intro c45;refine OQ [9] mixed rfl aE ?_;refine Oe ?_;refine dB ?_;intro p50 hp50;refine Of hp50 (hS.rd 1 rfl) rfl ?_;refine bo ?_;intro p53 hp53;refine OI hp53 (hS.rd 0 rfl) aB ?_;refine bl ?_;intro v55 h' hS;refine Kr hS (fun _=>rfl) (i:=2) rfl aB ?_;intro r56 h' hr56 hS;refine br ?_;intro p58 hp58;refine KH hS rfl (i:=1) rfl hp58 aH aY ?_;intro h' hS;simp only[dO,dU,dY] at hS;refine bh ?_
   try simp only[dO,dU,dY] at hS
   have e:Q8 (ls.take (i+1)) = {H with rooms:=H.rooms ++ [(Z.getD 1 [])]}:=by
    rw[←Qp (d:=[]) hlt,QR,hH,hW];unfold K9;dsimp only;simp only[←hz];rw[if_pos (show Z.getD 0 []=OO from c45)]
   exact lpN (i+1,{A with vr:=r56}) ⟨by dsimp only; omega,⟨hA.po,hA.ve,hA.vt,hA.vp,hA.vk,hA.vs⟩,by dsimp only; rw[e]; exact St.drop (A:=[_]) hS⟩ aI
  ·intro c45;refine cO ?_;refine Oo [3,6,7,9,18,19,20,44,59] ?_;refine Ol ?_ ?_
   ·intro c59;refine Ox ?_;refine OQ [9] mixed rfl aE ?_;refine Oe ?_;refine dB ?_;intro p64 hp64;refine Of hp64 (hS.rd 1 rfl) rfl ?_;refine bo ?_;intro p67 hp67;refine OI hp67 (hS.rd 0 rfl) aB ?_;refine bl ?_;intro v69 h' hS;refine Kr hS (fun _=>rfl) (i:=3) rfl aB ?_;intro r70 h' hr70 hS;refine br ?_;intro p72 hp72;refine KH hS rfl (i:=1) rfl hp72 aH aY ?_;intro h' hS;simp only[dO,dU,dY] at hS;refine Oo [3,6,18,19,20] ?_;refine Ox ?_;refine OQ [14,22] mixed rfl aE ?_;refine dB ?_;intro p75 hp75;refine Of hp75 (hS.rd 1 rfl) rfl ?_;refine bo ?_;intro p78 hp78;refine OI hp78 (hS.rd 0 rfl) aB ?_;refine dB ?_;intro p82 hp82;refine Of hp82 (hS.rd 1 rfl) rfl ?_;refine Oe ?_;refine Oq (hS.rd 0 rfl) (j:=2) rfl aB ?_;intro p85 hp85;refine OI hp85 (hS.rd 0 rfl) aB ?_;refine Ko aK (YQ (hS.rd 2 rfl) aA) ?_;rintro _ _ ⟨rfl,rfl⟩;refine dB ?_;intro p90 hp90;refine Of hp90 (hS.rd 1 rfl) rfl ?_;refine Oe ?_;refine Oq (hS.rd 0 rfl) (j:=3) rfl aB ?_;intro p93 hp93;refine OI hp93 (hS.rd 0 rfl) aB ?_;refine Ko aK (YQ (hS.rd 2 rfl) aA) ?_;rintro _ _ ⟨rfl,rfl⟩;refine bU ?_;refine Ql (kf:=kstr) (vf:=prV) (l:=H.ends) (i:=4) (b:=(ixE H.rooms (Z.getD 2 []),ixE H.rooms (Z.getD 3 []))) EvK.eq rfl hS hA.ve rfl rfl ?_;intro h' hS;simp only[dO,dU,dY] at hS;refine Oo [3,6,18,19,20] ?_;refine be ?_;refine br ?_;intro p99 hp99;refine Of hp99 (hS.rd 1 rfl) rfl ?_;refine bo ?_;intro p102 hp102;refine OI hp102 (hS.rd 0 rfl) aB ?_;refine bU ?_;refine Ql (kf:=kstr) (vf:=prV) (l:=H.told) (i:=5) (b:=(0,99)) EvK.eq rfl hS hA.vt rfl rfl ?_;intro h' hS;simp only[dO,dU,dY] at hS;refine bh ?_
    try simp only[dO,dU,dY] at hS
    have e:Q8 (ls.take (i+1)) = {H with ways:=H.ways ++ [(Z.getD 1 [])],ends:=O5 H.ends (Z.getD 1 []) (ixE H.rooms (Z.getD 2 []),ixE H.rooms (Z.getD 3 [])),told:=O5 H.told (Z.getD 1 []) (0,99)}:=by
     rw[←Qp (d:=[]) hlt,QR,hH,hW];unfold K9;dsimp only;simp only[←hz];rw[if_neg (show¬ Z.getD 0 []=OO from c45),if_pos (show Z.getD 0 []=OX from c59)]
    exact lpN (i+1,{A with vw:=r70}) ⟨by dsimp only; omega,⟨hA.po,hA.ve,hA.vt,hA.vp,hA.vk,hA.vs⟩,by dsimp only; rw[e]; exact St.drop (A:=[_]) hS⟩ aI
   ·intro c59;refine cO ?_;refine Oo [3,6,7,9,18,19,20,44,105] ?_;refine Ol ?_ ?_
    ·intro c105;refine be ?_;refine br ?_;intro p109 hp109;refine Of hp109 (hS.rd 1 rfl) rfl ?_;refine bo ?_;intro p112 hp112;refine OI hp112 (hS.rd 0 rfl) aB ?_;refine Oe ?_;refine dB ?_;intro p117 hp117;refine Of hp117 (hS.rd 1 rfl) rfl ?_;refine bo ?_;intro p120 hp120;refine OI hp120 (hS.rd 0 rfl) aB ?_;refine ZE (kf:=kstr) (vf:=prV) (l:=H.told) (w:=(0,0)) EvK.eq (St.rdM hS 5 rfl hA.vt) rfl rfl ?_;refine ZW (j:=1) (m:=2) (e:=3) aE rfl aD rfl ?_;refine bU ?_;refine Ql (kf:=kstr) (vf:=prV) (l:=H.told) (i:=5) (b:=(atV (Z.getD 2 []),(H.tolds (Z.getD 1 [])).2)) EvK.eq rfl hS hA.vt rfl rfl ?_;intro h' hS;simp only[dO,dU,dY] at hS;refine bh ?_
     try simp only[dO,dU,dY] at hS
     have e:Q8 (ls.take (i+1)) = {H with told:=O5 H.told (Z.getD 1 []) (atV (Z.getD 2 []),(H.tolds (Z.getD 1 [])).2)}:=by
      rw[←Qp (d:=[]) hlt,QR,hH,hW];unfold K9;dsimp only;simp only[←hz];rw[if_neg (show¬ Z.getD 0 []=OO from c45),if_neg (show¬ Z.getD 0 []=OX from c59),if_pos (show Z.getD 0 []=OE from c105)]
     exact lpN (i+1,A) ⟨by dsimp only; omega,hA,by dsimp only; rw[e]; exact St.drop (A:=[_]) hS⟩ aI
    ·intro c105;refine cO ?_;refine Oo [3,6,7,9,18,19,20,44,125] ?_;refine Ol ?_ ?_
     ·intro c125;refine be ?_;refine br ?_;intro p129 hp129;refine Of hp129 (hS.rd 1 rfl) rfl ?_;refine bo ?_;intro p132 hp132;refine OI hp132 (hS.rd 0 rfl) aB ?_;refine dB ?_;intro p136 hp136;refine Of hp136 (hS.rd 1 rfl) rfl ?_;refine bo ?_;intro p139 hp139;refine OI hp139 (hS.rd 0 rfl) aB ?_;refine ZE (kf:=kstr) (vf:=prV) (l:=H.told) (w:=(0,0)) EvK.eq (St.rdM hS 5 rfl hA.vt) rfl rfl ?_;refine ZW (j:=0) (m:=2) (e:=3) aE rfl aD rfl ?_;refine Oe ?_;refine bU ?_;refine Ql (kf:=kstr) (vf:=prV) (l:=H.told) (i:=5) (b:=((H.tolds (Z.getD 1 [])).1,atV (Z.getD 2 []))) EvK.eq rfl hS hA.vt rfl rfl ?_;intro h' hS;simp only[dO,dU,dY] at hS;refine bh ?_
      try simp only[dO,dU,dY] at hS
      have e:Q8 (ls.take (i+1)) = {H with told:=O5 H.told (Z.getD 1 []) ((H.tolds (Z.getD 1 [])).1,atV (Z.getD 2 []))}:=by
       rw[←Qp (d:=[]) hlt,QR,hH,hW];unfold K9;dsimp only;simp only[←hz];rw[if_neg (show¬ Z.getD 0 []=OO from c45),if_neg (show¬ Z.getD 0 []=OX from c59),if_neg (show¬ Z.getD 0 []=OE from c105),if_pos (show Z.getD 0 []=OK from c125)]
      exact lpN (i+1,A) ⟨by dsimp only; omega,hA,by dsimp only; rw[e]; exact St.drop (A:=[_]) hS⟩ aI
     ·intro c125;refine cO ?_;refine Oo [3,6,7,9,18,19,20,44,145] ?_;refine Ol ?_ ?_
      ·intro c145;refine be ?_;refine br ?_;intro p149 hp149;refine Of hp149 (hS.rd 1 rfl) rfl ?_;refine bo ?_;intro p152 hp152;refine OI hp152 (hS.rd 0 rfl) aB ?_;refine bU ?_;refine Ql (kf:=kstr) (vf:=prV) (l:=H.told) (i:=5) (b:=(0,99)) EvK.eq rfl hS hA.vt rfl rfl ?_;intro h' hS;simp only[dO,dU,dY] at hS;refine bh ?_
       try simp only[dO,dU,dY] at hS
       have e:Q8 (ls.take (i+1)) = {H with told:=O5 H.told (Z.getD 1 []) (0,99)}:=by
        rw[←Qp (d:=[]) hlt,QR,hH,hW];unfold K9;dsimp only;simp only[←hz];rw[if_neg (show¬ Z.getD 0 []=OO from c45),if_neg (show¬ Z.getD 0 []=OX from c59),if_neg (show¬ Z.getD 0 []=OE from c105),if_neg (show¬ Z.getD 0 []=OK from c125),if_pos (show Z.getD 0 []=OY from c145)]
       exact lpN (i+1,A) ⟨by dsimp only; omega,hA,by dsimp only; rw[e]; exact St.drop (A:=[_]) hS⟩ aI
      ·intro c145;refine cO ?_;refine Oo [3,6,7,9,18,19,20,44,155] ?_;refine Ol ?_ ?_
       ·intro c155;refine cZ ?_;refine br ?_;intro p159 hp159;refine Of hp159 (hS.rd 1 rfl) rfl ?_;refine bo ?_;intro p162 hp162;refine OI hp162 (hS.rd 0 rfl) aB ?_;refine Oe ?_;refine Ql (kf:=kstr) (vf:=kint) (l:=H.paid) (i:=6) (b:=atV (Z.getD 2 [])) EvK.eq rfl hS hA.vp rfl rfl ?_;intro h' hS;simp only[dO,dU,dY] at hS;refine Oo [3,6,18,19,20] ?_;refine OQ [9] mixed rfl aE ?_;refine Oe ?_;refine dB ?_;intro p168 hp168;refine Of hp168 (hS.rd 1 rfl) rfl ?_;refine bo ?_;intro p171 hp171;refine OI hp171 (hS.rd 0 rfl) aB ?_;refine bl ?_;intro v173 h' hS;refine Kr hS (fun _=>rfl) (i:=7) rfl aB ?_;intro r174 h' hr174 hS;refine br ?_;intro p176 hp176;refine KH hS rfl (i:=1) rfl hp176 aH aY ?_;intro h' hS;simp only[dO,dU,dY] at hS;refine bh ?_
        try simp only[dO,dU,dY] at hS
        have e:Q8 (ls.take (i+1)) = {H with paid:=O5 H.paid (Z.getD 1 []) (atV (Z.getD 2 [])),claims:=H.claims ++ [(Z.getD 1 [])]}:=by
         rw[←Qp (d:=[]) hlt,QR,hH,hW];unfold K9;dsimp only;simp only[←hz];rw[if_neg (show¬ Z.getD 0 []=OO from c45),if_neg (show¬ Z.getD 0 []=OX from c59),if_neg (show¬ Z.getD 0 []=OE from c105),if_neg (show¬ Z.getD 0 []=OK from c125),if_neg (show¬ Z.getD 0 []=OY from c145),if_pos (show Z.getD 0 []=OJ from c155)]
        exact lpN (i+1,{A with vc:=r174}) ⟨by dsimp only; omega,⟨hA.po,hA.ve,hA.vt,hA.vp,hA.vk,hA.vs⟩,by dsimp only; rw[e]; exact St.drop (A:=[_]) hS⟩ aI
       ·intro c155;refine cO ?_;refine Oo [3,6,9,18,19,20,44,177] ?_;refine Ol ?_ ?_
        ·intro c177;obtain⟨hno1,hno2⟩:=hno ((hz 0).symm.trans c177);rw[←hz] at hno1 hno2;refine Ox ?_;refine KA.drawS (c:=13) (r:=12) (t:=9) (a:=190) (d:=191) [] mixed rfl rfl rfl aE rfl rfl rfl aD aD aE ?_;refine dB ?_;intro p181 hp181;refine Of hp181 (hS.rd 1 rfl) rfl ?_;refine Oe ?_;refine dB ?_;intro p186 hp186;refine Of hp186 (hS.rd 1 rfl) rfl ?_;refine Oe ?_;refine Oe ?_;refine Oq (hS.rd 0 rfl) (j:=2) rfl aB ?_;intro p190 hp190;refine OI hp190 (hS.rd 0 rfl) aB ?_;refine KOps.mapEntryN (kf:=kint) (vf:=kstr) (l:=H.packs) (b:=[]) (i:=8) EvK.eq rfl hS hA.vk rfl hno1 rfl ?_;intro h' hS;simp only[dO,dU,dY] at hS;refine KOps.doneS rfl rfl hp190 (hS.rd 0 rfl) (wcs_at aA) ?_;refine O7 ?_;refine KOps.entryStoreN (kf:=kint) (vf:=kstr) (l:=H.packs) (a:=atV (Z.getD 1 [])) (b0:=[]) (b:=(Z.getD 2 [])) (i:=8) rfl hS hA.vk rfl rfl ?_;intro h' hS;simp only[dO,dU,dY] at hS;refine KOps.mapEntryN (kf:=kint) (vf:=kint) (l:=H.state) (b:=0) (i:=9) EvK.eq rfl hS hA.vs rfl hno2 rfl ?_;intro h' hS;simp only[dO,dU,dY] at hS;refine O7 ?_;refine KOps.entryStoreN (kf:=kint) (vf:=kint) (l:=H.state) (a:=atV (Z.getD 1 [])) (b0:=0) (b:=1) (i:=9) rfl hS hA.vs rfl rfl ?_;intro h' hS;simp only[dO,dU,dY] at hS;refine Oo [3,9,18,19,20] ?_;refine OH rfl ?_;refine Oe ?_;refine dB ?_;intro p199 hp199;refine Of hp199 (hS.rd 1 rfl) rfl ?_;refine Oe ?_;refine bl ?_;intro v202 h' hS;refine KOps.appendI hS (fun _=>rfl) (i:=10) rfl aB ?_;intro r203 h' hr203 hS;refine br ?_;intro p205 hp205;refine KH hS rfl (i:=1) rfl hp205 aH aY ?_;intro h' hS;simp only[dO,dU,dY] at hS;refine bh ?_
         try simp only[dO,dU,dY] at hS
         rw[←Wj hno1,←Wj hno2] at hS;have e:Q8 (ls.take (i+1)) = {H with packs:=O5 H.packs (atV (Z.getD 1 [])) (Z.getD 2 []),state:=O5 H.state (atV (Z.getD 1 [])) 1,order:=H.order ++ [atV (Z.getD 1 [])]}:=by
          rw[←Qp (d:=[]) hlt,QR,hH,hW];unfold K9;dsimp only;simp only[←hz];rw[if_neg (show¬ Z.getD 0 []=OO from c45),if_neg (show¬ Z.getD 0 []=OX from c59),if_neg (show¬ Z.getD 0 []=OE from c105),if_neg (show¬ Z.getD 0 []=OK from c125),if_neg (show¬ Z.getD 0 []=OY from c145),if_neg (show¬ Z.getD 0 []=OJ from c155),if_pos (show Z.getD 0 []=ON from c177)]
         exact lpN (i+1,{A with vo:=r203}) ⟨by dsimp only; omega,⟨hA.po,hA.ve,hA.vt,hA.vp,hA.vk,hA.vs⟩,by dsimp only; rw[e]; exact St.drop (A:=[_]) hS⟩ aI
        ·intro c177;refine cO ?_;refine Oo [3,9,18,19,20,44,206] ?_;refine Ol ?_ ?_
         ·intro c206;refine OH rfl ?_;refine dB ?_;intro p210 hp210;refine Of hp210 (hS.rd 1 rfl) rfl ?_;refine Oe ?_;refine Ql (kf:=kint) (vf:=kint) (l:=H.state) (i:=9) (b:=2) EvK.eq rfl hS hA.vs rfl rfl ?_;intro h' hS;simp only[dO,dU,dY] at hS;refine bh ?_
          try simp only[dO,dU,dY] at hS
          have e:Q8 (ls.take (i+1)) = {H with state:=O5 H.state (atV (Z.getD 1 [])) 2}:=by
           rw[←Qp (d:=[]) hlt,QR,hH,hW];unfold K9;dsimp only;simp only[←hz];rw[if_neg (show¬ Z.getD 0 []=OO from c45),if_neg (show¬ Z.getD 0 []=OX from c59),if_neg (show¬ Z.getD 0 []=OE from c105),if_neg (show¬ Z.getD 0 []=OK from c125),if_neg (show¬ Z.getD 0 []=OY from c145),if_neg (show¬ Z.getD 0 []=OJ from c155),if_neg (show¬ Z.getD 0 []=ON from c177),if_pos (show Z.getD 0 []=OS from c206)]
          exact lpN (i+1,A) ⟨by dsimp only; omega,hA,by dsimp only; rw[e]; exact St.drop (A:=[_]) hS⟩ aI
         ·intro c206;refine cO ?_;refine Oo [3,9,18,19,20,44,213] ?_;refine Ol ?_ ?_
          ·intro c213;refine OH rfl ?_;refine dB ?_;intro p217 hp217;refine Of hp217 (hS.rd 1 rfl) rfl ?_;refine Oe ?_;refine Ql (kf:=kint) (vf:=kint) (l:=H.state) (i:=9) (b:=3) EvK.eq rfl hS hA.vs rfl rfl ?_;intro h' hS;simp only[dO,dU,dY] at hS;refine bh ?_
           try simp only[dO,dU,dY] at hS
           have e:Q8 (ls.take (i+1)) = {H with state:=O5 H.state (atV (Z.getD 1 [])) 3}:=by
            rw[←Qp (d:=[]) hlt,QR,hH,hW];unfold K9;dsimp only;simp only[←hz];rw[if_neg (show¬ Z.getD 0 []=OO from c45),if_neg (show¬ Z.getD 0 []=OX from c59),if_neg (show¬ Z.getD 0 []=OE from c105),if_neg (show¬ Z.getD 0 []=OK from c125),if_neg (show¬ Z.getD 0 []=OY from c145),if_neg (show¬ Z.getD 0 []=OJ from c155),if_neg (show¬ Z.getD 0 []=ON from c177),if_neg (show¬ Z.getD 0 []=OS from c206),if_pos (show Z.getD 0 []=OU from c213)]
           exact lpN (i+1,A) ⟨by dsimp only; omega,hA,by dsimp only; rw[e]; exact St.drop (A:=[_]) hS⟩ aI
          ·intro c213;refine cO ?_;refine Oo [3,9,18,19,20,44,220] ?_;refine Ol ?_ ?_
           ·intro c220;refine OH rfl ?_;refine dB ?_;intro p224 hp224;refine Of hp224 (hS.rd 1 rfl) rfl ?_;refine Oe ?_;refine Ql (kf:=kint) (vf:=kint) (l:=H.state) (i:=9) (b:=1) EvK.eq rfl hS hA.vs rfl rfl ?_;intro h' hS;simp only[dO,dU,dY] at hS;refine bh ?_
            try simp only[dO,dU,dY] at hS
            have e:Q8 (ls.take (i+1)) = {H with state:=O5 H.state (atV (Z.getD 1 [])) 1}:=by
             rw[←Qp (d:=[]) hlt,QR,hH,hW];unfold K9;dsimp only;simp only[←hz];rw[if_neg (show¬ Z.getD 0 []=OO from c45),if_neg (show¬ Z.getD 0 []=OX from c59),if_neg (show¬ Z.getD 0 []=OE from c105),if_neg (show¬ Z.getD 0 []=OK from c125),if_neg (show¬ Z.getD 0 []=OY from c145),if_neg (show¬ Z.getD 0 []=OJ from c155),if_neg (show¬ Z.getD 0 []=ON from c177),if_neg (show¬ Z.getD 0 []=OS from c206),if_neg (show¬ Z.getD 0 []=OU from c213),if_pos (show Z.getD 0 []=OW from c220)]
            exact lpN (i+1,A) ⟨by dsimp only; omega,hA,by dsimp only; rw[e]; exact St.drop (A:=[_]) hS⟩ aI
           ·intro c220;refine cO ?_;refine Oo [3,9,18,19,20,227] ?_;refine Ol ?_ ?_
            ·intro c227;refine OH rfl ?_;refine dB ?_;intro p231 hp231;refine Of hp231 (hS.rd 1 rfl) rfl ?_;refine Oe ?_;refine Ql (kf:=kint) (vf:=kint) (l:=H.state) (i:=9) (b:=0) EvK.eq rfl hS hA.vs rfl rfl ?_;intro h' hS;simp only[dO,dU,dY] at hS;refine bh ?_
             try simp only[dO,dU,dY] at hS
             have e:Q8 (ls.take (i+1)) = {H with state:=O5 H.state (atV (Z.getD 1 [])) 0}:=by
              rw[←Qp (d:=[]) hlt,QR,hH,hW];unfold K9;dsimp only;simp only[←hz];rw[if_neg (show¬ Z.getD 0 []=OO from c45),if_neg (show¬ Z.getD 0 []=OX from c59),if_neg (show¬ Z.getD 0 []=OE from c105),if_neg (show¬ Z.getD 0 []=OK from c125),if_neg (show¬ Z.getD 0 []=OY from c145),if_neg (show¬ Z.getD 0 []=OJ from c155),if_neg (show¬ Z.getD 0 []=ON from c177),if_neg (show¬ Z.getD 0 []=OS from c206),if_neg (show¬ Z.getD 0 []=OU from c213),if_neg (show¬ Z.getD 0 []=OW from c220),if_pos (show Z.getD 0 []=OT from c227)]
             exact lpN (i+1,A) ⟨by dsimp only; omega,hA,by dsimp only; rw[e]; exact St.drop (A:=[_]) hS⟩ aI
            intro c227;refine b9 ?_;refine bc ?_;refine Ou [3,18,19,20] ?_;refine bX ?_;exfalso;rcases wt_kind wt with q|q|q|q|q|q|q|q|q|q|q <;> rw[←hz] at q
            exact c45 q;exact c59 q;exact c105 q;exact c125 q;exact c145 q;exact c155 q;exact c177 q;exact c206 q;exact c213 q;exact c220 q;exact c227 q
 intro c21;refine bW ?_;refine Ou [3] ?_;refine cT ?_;refine Ov ?_;refine Oo [2] ?_;refine Zn ?_;refine fnQ.ret1 ?_;have hie:i=ls.length:=by omega
 subst hie;rw[fI] at hH;subst hH;exact⟨A,rfl,hA,hS⟩
end Go.Am
namespace Go.Am
section
variable {h h0 h1 h2:AHeap} {b o:AV} {l m:List Str} {G:List Obj}
theorem Bk.lift {X:List Obj} (st:St h h1 X) (hB:Bk h1 h2 b l []):Bk h h2 b l []:=by
 obtain⟨vl,A,hb,hS⟩:=hB;exact⟨vl,A,hb,St.drop (A:=X) (St.perm List.perm_append_comm (St.trans st hS))⟩
end
theorem Wr (u:Bool) (q:Q4) (hq:q.Ok):(Qf u q).length≤60:=by
 have h1:(Zg waysL q.b).length≤4:=QS aD;have h2:(dR ((q.c % 10:Nat):Int)).length≤21:=fA _ aA aA;have h3:(dR ((1+q.c % 5:Nat):Int)).length≤21:=fA _ aA aA;have h4:(Zg roomsL q.c).length≤5:=QS aD;have h5:(Zg roomsL q.d).length≤5:=QS aD;have h6:(Zg [[118,97,117,108,116],[116,97,98,108,101]] q.d).length≤5:=QS aD;have h7:(Zg [[115,101,97,108,32],[98,117,114,110,32]] q.d).length≤5:=QS aD;have h8:(Zg [[100,101,97,108,32],[98,97,99,107,32]] q.d).length≤5:=QS aD;unfold Qf yW yN yP;dsimp only
 repeat' split
 all_goals simp only[dQ,List.length_cons,List.length_nil]
 all_goals omega
theorem RB {u:Bool} {y:List Q4} (hy:∀ q∈y,q.Ok):∀ x∈ZT u y,x.length≤1000000:=by
 intro x hx;rcases dV.1 hx with h|h
 have:∀ x∈XY,x.length≤1000000:=by decide
 exact this x h;obtain⟨q,hq,rfl⟩:=List.mem_map.1 h;have:=Wr u q (hy q (List.mem_of_mem_take hq));omega
theorem Ws (u:Bool) (y:List Q4):(ZT u y).length≤30:=by
 unfold ZT;rw[dQ,fO,List.length_take];show 6+_≤30;omega
end Go.Am
namespace Go.Am
def tOk : Tell → Bool
  | .room r=>decide (r∈roomsL ++ [[118,97,117,108,116],[116,97,98,108,101]])
  | .way w f t=>decide (w∈waysL) && decide (f∈roomsL) && decide (t∈roomsL)
  | .bound w n _=>decide (w∈waysL) && decide (0≤n) && decide (n≤9)
  | .pack p w=>decide (1≤p) && decide (p≤5) && decide (w∈waysL)
  | .move p _=>decide (1≤p) && decide (p≤5)
  | .claim w n=>decide (w∈waysL) && decide (0≤n) && decide (n≤9)
  | .free w=>decide (w∈waysL)
theorem yk1:∀ b,b<5→∀ c,c<10→tOk (KZ ([108,101,97,115,116,32] ++ waysL.getD b [] ++ [32] ++ dR ((c:Nat):Int)))=true:=by decide +kernel
theorem yk2:∀ b,b<5→∀ c,c<10→tOk (KZ ([109,111,115,116,32] ++ waysL.getD b [] ++ [32] ++ dR ((c:Nat):Int)))=true:=by decide +kernel
theorem yk3:∀ b,b<5→∀ c,c<5→tOk (KZ ([112,97,99,107,32] ++ dR ((1+c:Nat):Int) ++ [32] ++ waysL.getD b []))=true:=by decide +kernel
theorem yk4:∀ d,d<2→∀ c,c<5→tOk (KZ ([[115,101,97,108,32],[98,117,114,110,32]].getD d [] ++ dR ((1+c:Nat):Int)))=true:=by decide +kernel
theorem yk5:∀ d,d<2→∀ c,c<5→tOk (KZ ([[100,101,97,108,32],[98,97,99,107,32]].getD d [] ++ dR ((1+c:Nat):Int)))=true:=by decide +kernel
theorem yk6:∀ b,b<5→∀ c,c<10→tOk (KZ ([99,108,97,105,109,32] ++ waysL.getD b [] ++ [32] ++ dR ((c:Nat):Int)))=true:=by decide +kernel
theorem yk7:∀ b,b<5→tOk (KZ ([102,114,101,101,32] ++ waysL.getD b []))=true:=by decide +kernel
theorem yk8:∀ b,b<5→∀ c,c<3→∀ d,d<3→tOk (KZ ([119,97,121,32] ++ waysL.getD b [] ++ [32] ++ roomsL.getD c [] ++ [32] ++ roomsL.getD d []))=true:=by decide +kernel
theorem yk9:∀ d,d<2→tOk (KZ ([114,111,111,109,32] ++ [[118,97,117,108,116],[116,97,98,108,101]].getD d []))=true:=by decide +kernel
theorem yk0:∀ x∈XY,tOk (KZ x)=true:=by decide +kernel
theorem yLine_ok (u:Bool) (q:Q4):Qf u q=Vb∨tOk (KZ (Qf u q))=true:=by
 have hb:q.b % 5<5:=dS _ aD;have h10:q.c % 10<10:=dS _ aD;have h5:q.c % 5<5:=dS _ aD;have h3:q.c % 3<3:=dS _ aD;have hd3:q.d % 3<3:=dS _ aD;have hd2:q.d % 2<2:=dS _ aD;unfold Qf;dsimp only;split;exact .inr (yk1 _ hb _ h10);split;exact .inr (yk2 _ hb _ h10);split;exact .inr (yk3 _ hb _ h5);split;exact .inr (yk4 _ hd2 _ h5);split;exact .inr (yk5 _ hd2 _ h5);split;exact .inr (yk6 _ hb _ h10);split;exact .inr (yk7 _ hb);split;exact .inr (yk8 _ hb _ h3 _ hd3);split;exact .inl rfl;exact .inr (yk9 _ hd2)
theorem yLines_ok {u:Bool} {y:List Q4}:∀ x∈ZT u y,x=Vb∨tOk (KZ x)=true:=by
 intro x hx;rcases dV.1 hx with h|h
 exact .inr (yk0 x h);obtain⟨q,_,rfl⟩:=List.mem_map.1 h;exact yLine_ok u q
theorem doL_mem {ls:List Str} {x z:Str} (h:z∈doL ls x):z∈ls∨z=x:=by
 unfold doL at h;split at h;simpa using h;exact .inl h
theorem bookTo_mem {xs:List Str}:∀ i,i≤xs.length→∀ z∈ZG xs i,z∈xs:=by
 intro i
 induction i with
 | zero=>intro _ z hz; cases hz
 | succ i ih=>
  intro hi z hz;rw[ZG] at hz;by_cases hx:xs.getD i []=Vb;rw[UQ hx] at hz;exact ih aA z ((List.dropLast_sublist _).subset hz);rw[bk_do hx] at hz;rcases doL_mem hz with h|h
  exact ih aA z h;rw[h]; exact getD_mem aA
theorem bookTo_len {xs:List Str}:∀ i,(ZG xs i).length≤i:=by
 intro i
 induction i with
 | zero=>exact fE _
 | succ i ih=>
  rw[ZG];by_cases hx:xs.getD i []=Vb;rw[UQ hx,List.length_dropLast]; omega;rw[bk_do hx];unfold doL;split;rw[dQ,dX]; omega;omega
structure YL (L:List Str):Prop where
  done:Done L
  ok:∀ x∈L,tOk (KZ x)=true
  len:L.length≤30
theorem Done.noUndo {L:List Str} (hD:Done L):∀ x∈L,x≠Vb:=by
 induction hD with
 | nil=>intro x hx; cases hx
 | @snoc lines line h he ih=>
  intro x hx;rcases dV.1 hx with h1|h1
  exact ih x h1;rw[List.mem_singleton.1 h1];rintro rfl;have:=(QX he).1;revert this;decide +kernel
theorem YL.book {u:Bool} {y:List Q4} (hD:Done (YK (ZT u y))):YL (YK (ZT u y)):=by
 refine⟨hD,?_,Nat.le_trans (bookTo_len _) (Ws u y)⟩;intro x hx;rcases yLines_ok (u:=u) (y:=y) x (bookTo_mem _ (fE _) x hx) with h|h
 exact absurd h (hD.noUndo x hx);exact h
end Go.Am
namespace Go.Am
theorem WF.plM {O:Off} (hW:WF O) {w:Str} {l:Lane} (h:Ot O.ways w=some l):l.pl<O.ways.length∧O.ways[l.pl]? = some (w,l):=by
 obtain⟨i,h1,h2⟩:=Jz h;have:=hW.pl i h1;rw[show O.ways.getD i default=(w,l) by rw[dN,h2]; rfl] at this;have e:l.pl=i:=this;rw[e]; exact⟨h1,h2⟩
theorem sp_is {O:Off} (hW:WF O) (hF:Fit O) {w:Str} {l:Lane} (h:Ot O.ways w=some l):IsLo O.ws l.pl (O.spLo l.pl)∧IsHi O.ws l.pl (O.spHi l.pl):=by
 obtain⟨h1,h2⟩:=hW.plM h;have ha:=US hW hF h1;have e1:O.spLo l.pl=YS O.ws l.pl:=if_pos ha;have e2:O.spHi l.pl=Vn O.ws l.pl:=if_pos ha;rw[e1,e2];have hi:l.pl<O.ws.length:=by rw[O.ws_len]; exact h1
 exact⟨Vx hF hi,JF hF hi⟩
theorem sp_lane {O:Off} (hW:WF O) (hF:Fit O) {w:Str} {l:Lane} (h:Ot O.ways w=some l):l.lo≤O.spLo l.pl∧O.spLo l.pl≤O.spHi l.pl∧O.spHi l.pl≤l.hi:=by
 obtain⟨⟨⟨n,hn,e1⟩,h1⟩,⟨m,hm,e2⟩,h2⟩:=sp_is hW hF h;obtain⟨_,h3⟩:=hW.plM h;have a:=X8 hn h3;have b:=X8 hm h3;have c:=h1 m hm;omega
theorem JN {O O' : Off} (hW : WF O) (hF : Fit O) (hW' : WF O') (hF' : Fit O') {w : Str} {l l' : Lane} (h : Ot O.ways w = some l) (h' : Ot O'.ways w = some l') (hpl : l'.pl = l.pl)
    (hf:∀ n,Flow O'.ws n→∃ m,Flow O.ws m∧m.getD l.pl 0=n.getD l.pl 0):O.spLo l.pl≤O'.spLo l'.pl∧O'.spHi l'.pl≤O.spHi l.pl:=by
 obtain⟨⟨_,h1⟩,⟨_,h2⟩⟩:=sp_is hW hF h;obtain⟨⟨⟨n,hn,e1⟩,_⟩,⟨m,hm,e2⟩,_⟩:=sp_is hW' hF' h';obtain⟨n',hn',e3⟩:=hf n hn;obtain⟨m',hm',e4⟩:=hf m hm;have a:=h1 n' hn';have b:=h2 m' hm';rw[hpl] at e1 e2⊢;omega
theorem spn_eq {O O':Off} (hW:WF O) (hF:Fit O) (hW':WF O') (hF':Fit O') (hn:∀ v,(Ot O'.ways v).map Lane.pl=(Ot O.ways v).map Lane.pl) (h1:∀ n,Flow O'.ws n→Flow O.ws n) (h2:∀ n,Flow O.ws n→Flow O'.ws n) (v:Str):O'.spn v=O.spn v:=by
 have hv:=hn v
 cases hm:Ot O.ways v with
 | none=>
  rw[hm] at hv;have hm':Ot O'.ways v=none:=by
   cases h:Ot O'.ways v with
   | none=>rfl
   | some l=>rw[h] at hv; cases hv
  rw[Uf hm,Uf hm']
 | some l=>
  rw[hm] at hv
  cases hm':Ot O'.ways v with
  | none=>rw[hm'] at hv; cases hv
  | some l'=>
   rw[hm'] at hv;have hpl:l'.pl=l.pl:=Option.some.inj hv;have a:=JN hW hF hW' hF' hm hm' hpl fun n hn=>⟨n,h1 n hn,rfl⟩
   have b:=JN hW' hF' hW hF hm' hm hpl.symm fun n hn=>⟨n,h2 n hn,rfl⟩
   rw[Xn hm,Xn hm'];have e1:O'.spLo l'.pl=O.spLo l.pl:=by omega
   have e2:O'.spHi l'.pl=O.spHi l.pl:=by omega
   rw[e1,e2]
theorem Wa {O:Off} (nd:(O.ways.map (·.1)).Nodup) {i:Nat} {w:Str} {l:Lane} (h:O.ways[i]? = some (w,l)) {f:Lane→Lane} (h1:(f l).fr=l.fr) (h2:(f l).to=l.to) {n:List Int} (hF:Flow (O.mod w f).ws n) (h3:l.lo≤n.getD i 0) (h4:n.getD i 0≤l.hi):Flow O.ws n:=by
 have hl:i<O.ways.length:=(dT.1 h).1;have hg:O.ways.getD i default=(w,l):=by rw[dN,h]; rfl
 have hlen:(O.mod w f).ws.length=O.ws.length:=by rw[Off.ws_len,Off.ws_len,VT nd h f,fU]
 refine hF.move hlen.symm (fun j hj=>?_) (fun j hj=>?_);rw[hlen,O.ws_len] at hj;rw[Jn nd h f hj];by_cases hji:j=i;subst hji; rw[if_pos rfl,Off.ws_get hj,hg,h1,h2]; exact⟨rfl,rfl⟩;rw[if_neg hji]; exact⟨rfl,rfl⟩;have hj':=hj;rw[hlen,O.ws_len] at hj;have a:=hF.lo j hj';have b:=hF.hi j hj';rw[Jn nd h f hj] at a b;by_cases hji:j=i;subst hji; rw[Off.ws_get hj,hg]; exact⟨h3,h4⟩;rw[if_neg hji] at a b; exact⟨a,b⟩
theorem mod_in {O:Off} (nd:(O.ways.map (·.1)).Nodup) {i:Nat} {w:Str} {l:Lane} (h:O.ways[i]? = some (w,l)) {f:Lane→Lane} {n:List Int} (hF:Flow (O.mod w f).ws n):(f l).lo≤n.getD i 0∧n.getD i 0≤(f l).hi:=by
 have hl:i<O.ways.length:=(dT.1 h).1;have hlen:(O.mod w f).ws.length=O.ws.length:=by rw[Off.ws_len,Off.ws_len,VT nd h f,fU]
 have a:=hF.lo i (by rw[hlen,O.ws_len]; exact hl);have b:=hF.hi i (by rw[hlen,O.ws_len]; exact hl);rw[Jn nd h f hl,if_pos rfl] at a b;exact⟨a,b⟩
theorem mod_pl (O:Off) (w:Str) (f:Lane→Lane) (hf:∀ l,(f l).pl=l.pl) (v:Str):(Ot (O.mod w f).ways v).map Lane.pl=(Ot O.ways v).map Lane.pl:=by
 show(Ot (Qm O.ways w f) v).map Lane.pl=_;rw[Xk];split
 ·cases Ot O.ways v with
  | none=>rfl
  | some l=>show some (f l).pl=some l.pl; rw[hf]
 rfl
theorem claim_spn {O:Off} (hW:WF O) (hF:Fit O) {w:Str} {a:Int} {l:Lane} (hm:Ot O.ways w=some l) (h1:O.spLo l.pl=a) (h2:O.spHi l.pl=a) (hW':WF (O.tell (.claim w a))) (hF':Fit (O.tell (.claim w a))) (v:Str):(O.tell (.claim w a)).spn v=O.spn v:=by
 obtain⟨_,h3⟩:=hW.plM hm;obtain⟨⟨⟨n0,hn0,e0⟩,h5⟩,⟨_,h6⟩⟩:=sp_is hW hF hm;have hw0:=X8 hn0 h3;refine spn_eq hW hF hW' hF' (mod_pl O w (fun l=>{l with paid:=true,told:=some a}) fun _=>rfl) (fun n hn=>?_) (fun n hn=>?_) v;have hn2:Flow (O.mod w fun l=>{l with paid:=true,told:=some a}).ws n:=hn;have hin:=mod_in hW.nd h3 hn2;have hin2:a≤n.getD l.pl 0∧n.getD l.pl 0≤a:=hin;exact Wa hW.nd h3 (f:=fun l=>{l with paid:=true,told:=some a}) rfl rfl hn2 aA aA;have ha:=h5 n hn;have hb:=h6 n hn;have key:Flow (O.mod w fun l=>{l with paid:=true,told:=some a}).ws n:=Vw (f:=fun l=>{l with paid:=true,told:=some a}) hW.nd h3 rfl rfl hn (show a≤_ by omega) (show _≤a by omega);exact key
theorem book_done {L:List Str} (hD:Done L):YK L=L:=by
 have key:∀ i,i≤L.length→ZG L i=L.take i:=by
  intro i
  induction i with
  | zero=>intro _; rw[ZG,List.take_zero]
  | succ i ih=>
   intro hi;rw[ZG,ih aA,bk_do (hD.noUndo _ (getD_mem aA)),Xr (hD.one i aA),Qp aA]
 rw[YK,key _ (fE _),fI]
end Go.Am
namespace Go.Am
def mN1 (Z:List Str):Bool:=decide (Z.getD 0 []=ON)
def mW1 (Z:List Str):Bool:=decide (Z.getD 0 []=OY) || decide (Z.getD 0 []=OT)
def mN2 (H:Hs) (Z:List Str):Bool:=if Z.getD 0 []=OE then decide ((H.tolds (Z.getD 1 [])).1≤atV (Z.getD 2 [])) else mN1 Z
def mW2 (H:Hs) (Z:List Str):Bool:=if Z.getD 0 []=OE then decide (atV (Z.getD 2 [])≤(H.tolds (Z.getD 1 [])).1) else mW1 Z
def mN3 (H:Hs) (Z:List Str):Bool:=if Z.getD 0 []=OK then decide (atV (Z.getD 2 [])≤(H.tolds (Z.getD 1 [])).2) else mN2 H Z
def mW3 (H:Hs) (Z:List Str):Bool:=if Z.getD 0 []=OK then decide ((H.tolds (Z.getD 1 [])).2≤atV (Z.getD 2 [])) else mW2 H Z
def mW4 (H:Hs) (Z:List Str):Bool:=if Z.getD 0 []=OX then true else mW3 H Z
theorem isNum_nn {m:Str} (h:KQ m 3=true) : 0≤atV m:=by rw[ZY h]; exact numV_nn h
theorem Ue {O O' : Off} (hW : WF O) (hF : Fit O) (hW' : WF O') (hF' : Fit O') {v : Str} {l l' : Lane} (h : Ot O.ways v = some l) (h' : Ot O'.ways v = some l') (hpl : l'.pl = l.pl) {N W : Bool}
    (hn:W=false→∀ n,Flow O'.ws n→∃ m,Flow O.ws m∧m.getD l.pl 0=n.getD l.pl 0) (hw:N=false→∀ n,Flow O.ws n→∃ m,Flow O'.ws m∧m.getD l.pl 0=n.getD l.pl 0) :
    ∃ a c d f:Int,O.spn v=(a,c,0)∧O'.spn v=(d,f,0)∧(W=false→a≤d∧f≤c)∧(N=false→d≤a∧c≤f):=by
 refine⟨_,_,_,_,Xn h,Xn h',fun e=>JN hW hF hW' hF' h h' hpl (hn e),fun e=>JN hW' hF' hW hF h' h hpl.symm ?_⟩;rw[hpl]; exact hw e
theorem YU {O : Off} (hW : WF O) (hF : Fit O) {w : Str} {lw : Lane} (hm : Ot O.ways w = some lw) {f : Lane → Lane} (h1 : (f lw).fr = lw.fr) (h2 : (f lw).to = lw.to) (h3 : ∀ l, (f l).pl = l.pl) {O' : Off} (e : O'.ws = (O.mod w f).ws) (ew : O'.ways = (O.mod w f).ways) (hW' : WF O') (hF' : Fit O') {v : Str} {l : Lane} (h : Ot O.ways v = some l) {N W : Bool}
    (hn:W=false→lw.lo≤(f lw).lo∧(f lw).hi≤lw.hi) (hw:N=false→(f lw).lo≤lw.lo∧lw.hi≤(f lw).hi) :
    ∃ a c d f:Int,O.spn v=(a,c,0)∧O'.spn v=(d,f,0)∧(W=false→a≤d∧f≤c)∧(N=false→d≤a∧c≤f):=by
 have hp:=mod_pl O w f h3 v;rw[h,←ew] at hp
 cases h':Ot O'.ways v with
 | none=>rw[h'] at hp; cases hp
 | some l'=>
  rw[h'] at hp;have hpl:l'.pl=l.pl:=Option.some.inj hp;obtain⟨_,hx⟩:=hW.plM hm;refine Ue hW hF hW' hF' h h' hpl (fun e0 n hn2=>⟨n,?_,rfl⟩) (fun e0 n hn2=>⟨n,?_,rfl⟩);rw[e] at hn2;have hin:=mod_in hW.nd hx hn2;have:=hn e0;exact Wa hW.nd hx h1 h2 hn2 aA aA;rw[e];have hin:=X8 hn2 hx;have:=hw e0;exact Vw hW.nd hx h1 h2 hn2 aA aA
theorem Wi {O O' : Off} (hW : WF O) (hF : Fit O) (hW' : WF O') (hF' : Fit O') (e : O'.ways = O.ways) {v : Str} {l : Lane} (h : Ot O.ways v = some l) {N W : Bool} :
    ∃ a c d f:Int,O.spn v=(a,c,0)∧O'.spn v=(d,f,0)∧(W=false→a≤d∧f≤c)∧(N=false→d≤a∧c≤f):=by
 have ews:O'.ws=O.ws:=by unfold Off.ws; rw[e]
 exact Ue hW hF hW' hF' h (by rw[e]; exact h) rfl (fun _ n hn=>⟨n,ews ▸ hn,rfl⟩) (fun _ n hn=>⟨n,by rw[ews]; exact hn,rfl⟩)
theorem getD_app0 {n:List Int} {i:Nat}:(n ++ [0]).getD i 0=n.getD i 0:=by
 rw[dN,dN,dZ];split;rfl
 ·rw[dW (l:=n) aA]
  match i - n.length with
  | 0=>rfl
  | k+1=>rfl
theorem more_tell {O : Off} {H : Hs} {W : List Str} {t : Tell} (hW : WF O) (hF : Fit O) (hr : HRl O H) (wt : WT W t) (h0 : O.wrong t = 0) (hW' : WF (O.tell t)) (hF' : Fit (O.tell t)) {Z : List Str} (hz : ∀ k, Z.getD k [] = W.getD k []) {v : Str} {l : Lane} (h : Ot O.ways v = some l) :
    ∃ a c d f:Int,O.spn v=(a,c,0)∧(O.tell t).spn v=(d,f,0)∧(mW4 H Z=false→a≤d∧f≤c)∧(mN3 H Z=false→d≤a∧c≤f):=by
 have z0:=hz 0;have z1:=hz 1;have z2:=hz 2
 cases wt with
 | room a e1 e2=>
  subst e2;exact Wi hW hF hW' hF' rfl h
 | way a b c e1 e2=>
  subst e1; subst e2;have z0:Z.getD 0 []=OX:=z0;have hw:mW4 H Z=true:=by unfold mW4; rw[if_pos z0]
  refine Ue hW hF hW' hF' h (Wh h) rfl (fun e=>absurd (hw.symm.trans e) aD) (fun _ n hn=>⟨n ++ [0],?_,getD_app0⟩);have:=W9 (w:=⟨(OZ O.rooms b:Nat),(OZ O.rooms c:Nat),0,99⟩) hn (dP _) (show(0:Int)≤99 by decide);show Flow (Off.ws {O with ways:=O.ways ++ [_]}) _;unfold Off.ws;rw[List.map_append]; exact this
 | least a m e1 e2 _ hm=>
  subst e1; subst e2;have z0:Z.getD 0 []=OE:=z0;have z1:Z.getD 1 []=a:=z1;have z2:Z.getD 2 []=m:=z2;obtain⟨lw,hl,hp,_⟩:=Zk h0;have ht:H.tolds a=(lw.told.getD 0,lw.top.getD 99):=by unfold Hs.tolds; rw[hr.toldU a lw hl hp]; rfl
  have hnn:=isNum_nn hm;have eW:mW4 H Z=decide (atV m≤lw.told.getD 0):=by
   unfold mW4 mW3 mW2;rw[if_neg ai,if_neg ai,if_pos z0,z1,z2,ht]
  have eN:mN3 H Z=decide (lw.told.getD 0≤atV m):=by
   unfold mN3 mN2;rw[if_neg ai,if_pos z0,z1,z2,ht]
  rw[eW,eN];rw[ZY hm] at hnn⊢;refine YU hW hF hl (f:=chB (Kt m) false) rfl rfl (fun _=>rfl) rfl rfl hW' hF' h (fun e=>?_) (fun e=>?_)
  ·have e:=of_decide_eq_false e;unfold Lane.lo Lane.hi;rw[if_neg (show¬ lw.paid=true by rw[hp]; decide),if_neg (show¬ (chB (Kt m) false lw).paid=true by rw[YN hp]; decide),if_neg (show¬ (chB (Kt m) false lw).paid=true by rw[YN hp]; decide),if_neg (show¬ lw.paid=true by rw[hp]; decide)];refine⟨?_,dP _⟩;show _≤max ((lw.packs.length:Int)) (Kt m)
   cases ht2:lw.told with
   | none=>dsimp only; omega
   | some t=>rw[ht2] at e; dsimp only[Option.getD_some] at e⊢; omega
  ·have e:=of_decide_eq_false e;unfold Lane.lo Lane.hi;rw[if_neg (show¬ lw.paid=true by rw[hp]; decide),if_neg (show¬ (chB (Kt m) false lw).paid=true by rw[YN hp]; decide),if_neg (show¬ (chB (Kt m) false lw).paid=true by rw[YN hp]; decide),if_neg (show¬ lw.paid=true by rw[hp]; decide)];refine⟨?_,dP _⟩;show max ((lw.packs.length:Int)) (Kt m)≤_
   cases ht2:lw.told with
   | none=>rw[ht2] at e; dsimp only[Option.getD_none] at e; omega
   | some t=>rw[ht2] at e; dsimp only[Option.getD_some] at e⊢; omega
 | most a m e1 e2 _ hm=>
  subst e1; subst e2;have z0:Z.getD 0 []=OK:=z0;have z1:Z.getD 1 []=a:=z1;have z2:Z.getD 2 []=m:=z2;obtain⟨lw,hl,hp,_⟩:=Zk h0;have ht:H.tolds a=(lw.told.getD 0,lw.top.getD 99):=by unfold Hs.tolds; rw[hr.toldU a lw hl hp]; rfl
  have eW:mW4 H Z=decide (lw.top.getD 99≤atV m):=by
   unfold mW4 mW3;rw[if_neg ai,if_pos z0,z1,z2,ht]
  have eN:mN3 H Z=decide (atV m≤lw.top.getD 99):=by
   unfold mN3;rw[if_pos z0,z1,z2,ht]
  rw[eW,eN,ZY hm];have key:(chB (Kt m) true lw).lo=lw.lo∧(chB (Kt m) true lw).hi=Kt m∧lw.hi=lw.top.getD 99:=by
   unfold Lane.lo Lane.hi;rw[if_neg (show¬ (chB (Kt m) true lw).paid=true by rw[YN hp]; decide),if_neg (show¬ (chB (Kt m) true lw).paid=true by rw[YN hp]; decide),if_neg al,if_neg al];exact⟨rfl,rfl,rfl⟩
  obtain⟨k1,k2,k3⟩:=key;refine YU hW hF hl (f:=chB (Kt m) true) rfl rfl (fun _=>rfl) rfl rfl hW' hF' h (fun e=>?_) (fun e=>?_);have e:=of_decide_eq_false e;omega;have e:=of_decide_eq_false e;omega
 | free a e1 e2=>
  subst e1; subst e2;have z0:Z.getD 0 []=OY:=z0;obtain⟨lw,hl,hp⟩:=Xz h0;have hw:mW4 H Z=true:=by
   unfold mW4 mW3 mW2 mW1;rw[if_neg ai,if_neg ai,if_neg ai,decide_eq_true z0]; rfl
  rw[hw];refine YU hW hF hl (f:=fun l=>{l with told:=none,top:=none}) rfl rfl (fun _=>rfl) rfl rfl hW' hF' h (fun e=>by cases e) (fun _=>?_);have h99:=(hW.rgM hl).2.2;unfold Lane.lo Lane.hi at *;dsimp only at h99⊢;rw[if_neg al,if_neg al];rw[if_neg al] at h99⊢;rw[if_neg al];refine⟨?_,h99⟩;split <;> omega
 | claim a m e1 e2 _ hm=>
  subst e1; subst e2;obtain⟨lw,hl,hp⟩:=Z1 h0;have h2:=h0;rw[Q1 hl hp] at h2;have hs:=sp_lane hW hF hl;have e1:O.spLo lw.pl=Kt m:=by
   split at h2;cases h2;split at h2;cases h2;omega
  have e2:O.spHi lw.pl=Kt m:=by
   split at h2;cases h2;split at h2;cases h2;omega
  have he:=claim_spn hW hF hl e1 e2 hW' hF' v;exact⟨_,_,_,_,Xn h,by rw[he]; exact Xn h,fun _=>⟨dP _,dP _⟩,fun _=>⟨dP _,dP _⟩⟩
 | pack m a e1 e2 hm=>
  subst e1; subst e2;have z0:Z.getD 0 []=ON:=z0;obtain⟨_,lw,hl,_⟩:=XB h0;have hn:mN3 H Z=true:=by
   unfold mN3 mN2 mN1;rw[if_neg ai,if_neg ai,decide_eq_true z0]
  rw[hn];refine YU (O':=O.tell (.pack (Kt m) a)) hW hF hl (f:=chP (Kt m)) rfl rfl (fun _=>rfl) rfl rfl hW' hF' h (fun _=>?_) (fun e=>by cases e);refine⟨?_,dP _⟩;unfold Lane.lo chP;dsimp only;split;exact dP _;rw[dQ,dX];split <;> omega
 | move k m s hk e1 e2 hm=>
  subst e1; subst e2;have z0:Z.getD 0 []=k:=z0;obtain⟨d,hd⟩:=XA h0;by_cases hs:s=0;subst hs;have hk2:k=OT:=by rcases hk with ⟨_,e⟩|⟨_,e⟩|⟨_,e⟩|⟨e,_⟩ <;> first|exact e|(exfalso; revert e; decide)
  rw[hk2] at z0;have hw:mW4 H Z=true:=by
   unfold mW4 mW3 mW2 mW1;rw[if_neg ai,if_neg ai,if_neg ai,decide_eq_true z0,Bool.or_true]
  obtain⟨lw,hl⟩:=hW.homeM hd;have e:O.tell (.move (Kt m) 0) = {O.mod d.1 (fun l=>{l with packs:=l.packs.filter fun q=>!decide (q=Kt m)}) with packs:=Xj O.packs (Kt m)}:=by
   unfold Off.tell; dsimp only; rw[hd]; dsimp only; rw[if_pos rfl]
  rw[hw];refine YU hW hF hl (f:=fun l=>{l with packs:=l.packs.filter fun q=>!decide (q=Kt m)}) rfl rfl (fun _=>rfl) (by rw[e]; rfl) (by rw[e]) hW' hF' h (fun e=>by cases e) (fun _=>?_);refine⟨?_,dP _⟩;have hle:=List.length_filter_le (fun q=>!decide (q=Kt m)) lw.packs;unfold Lane.lo;dsimp only;split;exact dP _;split <;> omega;have e:O.tell (.move (Kt m) s) = {O with packs:=O5 O.packs (Kt m) (d.1,s)}:=by
   unfold Off.tell; dsimp only; rw[hd]; dsimp only; rw[if_neg hs]
  exact Wi hW hF hW' hF' (by rw[e]) h
theorem more_ok {L : List Str} (hD : Done L) {x : Str} (he : O2 L x = 0) {Z : List Str} (hz : ∀ k, Z.getD k [] = (OL 32 x).getD k []) {i : Nat} (hi : i < (Q8 L).ways.length) :
    ∃ a c d f:Int,(after L).spn ((Q8 L).ways.getD i [])=(a,c,0)∧(after (doL L x)).spn ((Q8 L).ways.getD i [])=(d,f,0)∧(mW4 (Q8 L) Z=false→a≤d∧f≤c)∧(mN3 (Q8 L) Z=false→d≤a∧c≤f):=by
 have hm:(Q8 L).ways.getD i []∈(after L).ways.map (·.1):=by rw[←hD.hr.ways]; exact getD_mem hi
 obtain⟨l,hl⟩:=Option.isSome_iff_exists.1 (Ua hm);obtain⟨h1,h2,_⟩:=QX he;have hD2:Done (L ++ [x]):=.snoc hD he;rw[Xr he,Zd];have ea:=Zd L x;exact more_tell hD.wf.1 hD.fit hD.hr (wt_of h1) h2 (ea ▸ hD2.wf.1) (ea ▸ hD2.fit) hz hl
end Go.Am
