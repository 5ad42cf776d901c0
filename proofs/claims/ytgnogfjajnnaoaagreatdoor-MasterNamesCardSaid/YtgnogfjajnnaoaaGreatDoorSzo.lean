/-
  Layer 14: the law of names.
  Conditions: none.
-/
import Derived.Test.YtgnogfjajnnaoaaGreatDoorNb
import Derived.Shelf.Strconv.AtoiAll
import Derived.Test.YtgnogfjajnnaoaaGreatDoorProg
import Derived.Test.YtgnogfjajnnaoaaGreatDoorCn
import Derived.Test.YtgnogfjajnnaoaaGreatDoorOi
import Derived.Test.YtgnogfjajnnaoaaGreatDoorOp
open List renaming getD_eq_getElem?_getD → dA, mem_append_left → dE, length_map → dI, set_cons_zero → dO, append_assoc → dU, length_take → dY, map_congr_left → dC, set_cons_succ → dD, map_append → dF, getElem?_eq_getElem → dG, take_length → dH, nil_append → dL, mem_append_right → dM, length_append → dP, getElem?_drop → dQ, mem_map → dR, length_drop → dS, perm_middle → dT, range_succ → dV, append_nil → dW
open Nat renaming zero_le → dB, le_trans → dJ, zero_add → dK, le_of_ble_eq_true → dN
set_option maxRecDepth 99999
set_option maxHeartbeats 4000000
namespace Go.Am
theorem nmR_keys:∀ i,i<3→∀ m,m<15→roomsL.getD i [] ∉ (nm2 ++ nmR m i).map (·.1):=by decide +kernel
theorem nmW_keys:∀ i,i<5→∀ m,m<15→waysL.getD i [] ∉ (nm2 ++ nmR m 3 ++ nmW m i).map (·.1):=by decide +kernel
theorem nmR_mod (n k:Nat):nmR n k=nmR (n % 15) k:=by
 have h3:∀ k,(k+n) % 3=(k+n % 15) % 3:=fun k=>by omega
 unfold nmR;simp only[h3]
theorem nmW_mod (n k:Nat):nmW n k=nmW (n % 15) k:=by
 have h5:∀ k,(k+n) % 5=(k+n % 15) % 5:=fun k=>by omega
 unfold nmW;simp only[h5]
theorem nmR_next {n i:Nat} (hi:i<3):Ka (nm2 ++ nmR n i) (roomsL.getD i []) (rooms2.getD ((i+n) % 3) [])=nm2 ++ nmR n (i+1):=by
 rw[X6 (by have:=nmR_keys i hi (n % 15) (Nat.mod_lt _ aD); rw[←nmR_mod] at this; exact this),dU];congr 1;unfold nmR;rw[dV,dF]; rfl
theorem nmW_next {n i:Nat} (hi:i<5):Ka (nm2 ++ nmR n 3 ++ nmW n i) (waysL.getD i []) (ways2.getD ((i+n) % 5) [])=nm2 ++ nmR n 3 ++ nmW n (i+1):=by
 rw[X6 (by have:=nmW_keys i hi (n % 15) (Nat.mod_lt _ aD); rw[←nmR_mod,←nmW_mod] at this; exact this),dU];congr 1;unfold nmW;rw[dV,dF]; rfl
theorem YF (T:List (Str × Str)) (W:List Str):(rnW T W).length=W.length:=by
 unfold rnW;rw[dP,dI,dY,dS]; omega
def ZM (T:List (Str × Str)) (W:List Str) (j:Nat):List Str:=(rnW T W).take j ++ W.drop j
theorem Ry (T:List (Str × Str)) (W:List Str) {j:Nat} (h:j≤W.length):(ZM T W j).length=W.length:=by
 unfold ZM;rw[dP,dY,dS,YF]; omega
theorem rnTo_at (T:List (Str × Str)) {W:List Str} {j:Nat} (h:j<W.length):(ZM T W j).getD j []=W.getD j []:=by
 unfold ZM;rw[dA,dA,List.getElem?_append_right ay,dY,YF,dQ];congr 2;omega
theorem rnW_at (T:List (Str × Str)) {W:List Str} {j:Nat} (h:j<W.length):(rnW T W).getD j []=if 0<j then (Oo T (W.getD j [])).getD (W.getD j []) else W.getD j []:=by
 unfold rnW;rw[dA,List.getElem?_append,dY];by_cases h0 : 0<j;rw[if_pos h0,if_neg aA,List.getElem?_map,dQ];have e : 1+(j - min 1 W.length)=j:=by omega
 rw[e,dA,dG h]; rfl;have e:j=0:=by omega
 subst e;rw[if_neg h0,if_pos aA,List.getElem?_take,if_pos aA,dA]
theorem Wx (T:List (Str × Str)) {W:List Str} {j:Nat} (h:j<W.length):ZM T W (j+1)=(ZM T W j).set j ((rnW T W).getD j []):=by
 unfold ZM;have h2:j<(rnW T W).length:=by rw[YF]; exact h
 rw[←Xb (d:=[]) h2,List.drop_eq_getElem_cons h,List.set_append_right _ _ ay,dY,Nat.min_eq_left aA,Nat.sub_self,dO,dU]; rfl
theorem Wy (T:List (Str × Str)) {W:List Str} {j:Nat} (h:j<W.length) (e:(rnW T W).getD j []=W.getD j []):ZM T W (j+1)=ZM T W j:=by
 rw[Wx T h,e,←rnTo_at T h];refine List.ext_getElem? fun i=>?_
 rw[List.getElem?_set];split;rename_i hij;subst hij;have h3:j<(ZM T W j).length:=by rw[Ry T W aA]; exact h
 rw[if_pos h3,dA,dG h3]; rfl;rfl
theorem rnTo_end (T:List (Str × Str)) (W:List Str):ZM T W W.length=rnW T W:=by
 unfold ZM;rw[List.drop_length,dW,←YF T W,dH]
theorem why_len {L:List Str} (hD:Done L) (w:Str) (n:Int):((after L).whyL w n).length≤1000:=by
 cases hm:Oo (after L).ways w with
 | none=>unfold Off.whyL; rw[hm]; exact dB _
 | some l=>have:=(why_is hD hm n).len; omega
theorem why_nm {L:List Str} (hY:YL L) (n1:Nat) {w:Str} {n:Int} {x:Str} (hx:x∈(after L).whyL w n):nmF (nmT n1) x=gN (nmT n1) x:=by
 refine Jk n1 ?_;unfold Off.whyL at hx;have key:∀ l,x∈(after L).rn l→x∈waysL ++ roomsL ++ [[118,97,117,108,116],[116,97,98,108,101]]∨x = []:=by
  intro l hx;obtain⟨i,_,e⟩:=dR.1 hx;by_cases hi:i.toNat<(after L).rooms.length;left;have:=hY.off.rooms x (by rw[←e]; exact getD_mem hi);rw[dU];exact dM _ this;right;rw[←e,dA,List.getElem?_eq_none aA]; rfl
 split at hx;cases hx;split at hx;cases hx;exact key _ hx
theorem spn_100 {O:Off} (hW:WF O) (hF:Fit O) (w:Str) : 0≤(O.spn w).1∧(O.spn w).1≤99:=by
 cases hm:Oo O.ways w with
 | none=>rw[RB hm]; exact⟨Int.le_refl _,by decide⟩
 | some l=>
  rw[Uf hm];obtain⟨h1,h2,h3⟩:=sp_lane hW hF hm;obtain⟨hi,hx⟩:=hW.plM hm;have hB:=UW hW aA;have hg:O.ws.getD l.pl default=⟨l.fr,l.to,l.lo,l.hi⟩:=by rw[Off.ws_get hi,show O.ways.getD l.pl default=(w,l) by rw[dA,hx]; rfl]
  have h4:=hB.way l.pl (by rw[Off.ws_len]; exact hi);rw[hg] at h4;have h5:=h4.l0;have h6:=h4.m1;dsimp only at h5 h6⊢;omega
set_option synthInstance.maxSize 2000 in
set_option synthInstance.maxHeartbeats 200000 in
theorem JH {h:AHeap} {v p vm:AV} {T:List (Str × Str)} {l:List Str} (hv:WRow h v l) (hl:l.length≤1000) (hp:AddrOf p p 0 0) (hc:Rd h p 0 [vm]) (hvm:ZE vm) (hm:RdM h vm (entL kstr kstr T)):ACalls Go.Proofs.Tryz.prog 45 [v,p] h (fun q h'=>St h h' [⟨q,1,wcs (l.map (nmF T)),true⟩]):=by
 refine OL 21 [.tmp 3] Go.Proofs.Tryz.func45 rfl aD rfl rfl (dN rfl) ?_;have hS:=St.refl h;show KA _ 21 _ _ [(0,v),(1,p)] _;refine Ox ?_;refine OE ?_;refine Ot [0,1] ?_;refine Ox ?_;have hS:=St.addNil 1 true hS;refine OE ?_;refine bl ?_;refine Ox ?_;refine Oh ?_;refine O1 (Rd.ext hS.keeps hv) ?_;refine Oh ?_;refine Ot [1,4,7,8,9] ?_;refine Oz ?_;refine Kd (X:=Nat × AV) (fun x=>[(1,p),(4,x.2),(7,v),(8,.int .i64 (l.length:Int)),(9,.int .i64 (x.1:Int))]) (fun x h'=>x.1≤l.length∧St h h' [⟨x.2,1,wcs ((l.take x.1).map (nmF T)),true⟩]) (fun x=>l.length - x.1) (0,.nils) ?_ ?_;exact⟨dB _,hS⟩;rintro⟨i,vo⟩ h3 ⟨hi,hS⟩;dsimp only at hi hS⊢;refine cN ?_;refine Om ?_ ?_
 ·intro c10;have hlt:i<l.length:=by omega
  refine OB [1,4,7,8,9] ?_;refine cS ?_;refine Ow (Rd.ext hS.keeps hv) (j:=i) rfl aC ?_;intro p11 hp11;refine OY hp11 (Rd.ext hS.keeps hv) aC ?_;refine OE ?_;refine Ot [1,4,6,7,8,9] ?_;refine OH rfl ?_;refine Oh ?_;refine Oe hp (Rd.ext hS.keeps hc) rfl ?_;refine Oh ?_;refine KOps.lookupD (kf:=kstr) (vf:=kstr) (l:=T) (w:=[]) EvK.eq (RdM.ext hS.keeps hm) rfl rfl ?_;refine bd ?_;intro v17 h' hS;refine KC hS (fun _=>rfl) (i:=0) rfl aC ?_;intro r18 h' hr18 hS;refine OE ?_;refine cO ?_;refine Oq [1,4,7,8,9] ?_;refine bg ?_;have e:(l.take (i+1)).map (nmF T)=(l.take i).map (nmF T) ++ [(Oo T (l.getD i [])).getD []]:=by rw[←Xb (d:=[]) hlt,dF]; rfl
  refine lpN (i+1,r18) ⟨by dsimp only; omega,?_⟩ aK;dsimp only;rw[e];exact hS
 intro c10;have hie:i=l.length:=by omega
 subst hie;rw[dH] at hS;refine bQ ?_;refine Oq [4] ?_;refine Ox ?_;refine Oh ?_;refine OE ?_;refine Ot [3] ?_;refine KA.ret ?_;refine fnQ.ret1 ?_;exact hS
theorem WQ {h:AHeap} {v1:AV} {y1:List Q4} {n1:Nat} (hv1:Rd h v1 4 (flr qc y1)) (hy1:∀ q∈y1,q.Ok) (hn1:n1<256) (hV:Vs h):ACalls Go.Proofs.Tryz.prog 7 [v1,.int .u8 (n1:Int)] h (fun q h'=>q = .bool true∧Keeps h h'):=by
 refine OL 227 [.tmp 4] Go.Proofs.Tryz.func7 rfl aD rfl rfl (dN rfl) ?_;have hS:=St.refl h;show KA _ 227 _ _ [(0,v1),(1,.int .u8 (n1:Int))] _;refine OK [0,1] ?_;refine Ou ?_;refine Oi rfl (yLines_c hv1 hy1 hV) ?_;rintro v36 h36 hS;refine Oi rfl (book_c (hS.rd 0 rfl) (dJ (WH _ _) aA) (RK hy1) (hV.ext hS.keeps)) ?_;rintro b h37 hB;have hB:=Bk.lift hS hB;have hY:YL (YK (ZP false y1)):=by obtain⟨_,_,hb,_⟩:=hB; exact YL.book hb.done
 have hRn:∀ x∈YK (ZP false y1),RnS n1 x:=rn_year;clear hS;obtain⟨L,hL0⟩:∃ L,YK (ZP false y1)=L:=⟨_,rfl⟩;rw[hL0] at hB hY hRn;obtain⟨vl,A,hb,hS0⟩:=hB;have r:=St.rbk hS0 hb;have hk0:=hS0.keeps;have hV1:=hV.ext hk0;have hlL:=hY.len;have hW:=hY.done.wf.1;have hF:=hY.done.fit;have hR:=gN_ren n1;have hAf:after (L.map (rnL (nmT n1)))=(after L).ren (gN (nmT n1)):=Wg hR fun x hx=>(hRn x hx).t
 have hS:=St.refl h37;refine OK [1,5] ?_;refine Ox ?_;refine KOps.makeMap hS rfl ?_;intro v38 h' hv38 hS;refine KOps.insertK (kf:=kstr) (vf:=kstr) (l:=[]) (a:=[118,97,117,108,116]) (b:=[99,101,108,108,97,114]) (i:=0) rfl rfl hS hv38 rfl rfl ?_;intro h' hS;simp only[dO,dD,dK] at hS;refine KOps.insertK (kf:=kstr) (vf:=kstr) (l:=[([118,97,117,108,116],[99,101,108,108,97,114])]) (a:=[116,97,98,108,101]) (b:=[100,101,115,107]) (i:=0) rfl rfl hS hv38 rfl rfl ?_;intro h' hS;simp only[dO,dD,dK] at hS;have hS1:St h37 h' (mapO v38 (entL kstr kstr nm2) :: []):=hS;clear hS;have hS:=hS1;clear hS1;refine Oh ?_;refine Kx hS ?_;intro p6 h' hp6 hS;refine KW hS rfl (i:=0) rfl hp6 ar ?_;intro h' hS;refine Ot [1,5,6] ?_;refine bt ?_;refine Oi rfl (Uh) ?_;rintro v40 h40 hS40;have hS1:St _ _ (_::_):=St.trans hS hS40;clear hS;have hS:=hS1;clear hS1;refine cP ?_;refine Kd (X:=Nat) (fun i=>[(1,.int .u8 (n1:Int)),(5,b),(6,p6),(40,v40),(41,.int .i64 (roomsL.length:Int)),(42,.int .i64 ((i:Nat):Int))]) (fun i h'=>i≤3∧St h37 h' [⟨v40,1,wcs roomsL,true⟩,⟨p6,0,[v38],true⟩,mapO v38 (entL kstr kstr (nm2 ++ nmR n1 i))]) (fun i=>3 - i) 0 ?_ ?_;exact⟨dB _,hS⟩;rintro i h3 ⟨hi,hS⟩;have hrl3:roomsL.length=3:=rfl;refine cN ?_;refine Om ?_ ?_
 ·intro c43;have hr2:rooms2.length=3:=rfl;have hlt:i<3:=by omega
  have hrm:Int.tmod ((i:Int)+(n1:Int)) 3=(((i+n1) % 3:Nat):Int):=by rw[Int.tmod_eq_emod_of_nonneg aA]; omega
  refine OB [1,5,6,40,41,42] ?_;refine bh ?_;refine Ou ?_;refine Ow (hS.rd 0 rfl) (j:=i) rfl aC ?_;intro p45 hp45;refine OY hp45 (hS.rd 0 rfl) aC ?_;refine OK [1,5,6,7,8,40,41,42] ?_;refine OX [3] mixed rfl aE ?_;refine O0 hS (i:=1) rfl hp6 ?_;refine Oh ?_;refine bd ?_;intro v49 h' hS;refine Kn aI (Zj) ?_;rintro r50 _ ⟨rfl,rfl⟩;replace hS:St _ _ (⟨r50,1,wcs rooms2,true⟩::_):=hS;refine Ou ?_;refine Zt aA aA ?_;refine Ko aB aB ?_;refine KOps.rem (by first|decide|omega) (by rw[hrm]; omega) (by rw[hrm]; omega) ?_;rw[hrm];refine Ow (hS.rd 0 rfl) (j:=(i+n1) % 3) aB aC ?_;intro p56 hp56;refine OY hp56 (hS.rd 0 rfl) aC ?_;refine KOps.mapPutK (kf:=kstr) (vf:=kstr) (l:=nm2 ++ nmR n1 i) (a:=roomsL.getD i []) (b:=rooms2.getD ((i+n1) % 3) []) (i:=3) EvK.eq rfl hS hv38 rfl rfl ?_;intro h' hS;simp only[dO,dD,dK] at hS;refine cO ?_;refine Oq [1,5,6,40,41,42] ?_;refine bg ?_;rw[nmR_next hlt] at hS;exact lpN (i+1) ⟨by omega,St.drop (A:=[_]) hS⟩ aA
 ·intro c43;have hie:i=3:=by omega
  subst hie;refine bQ ?_;refine Oq [1,5,6] ?_;refine bt ?_;refine Oi rfl (We) ?_;rintro v59 h59 hS59;have hS1:St _ _ (_::_):=St.trans hS hS59;clear hS;have hS:=hS1;clear hS1;refine cP ?_;refine Kd (X:=Nat) (fun i=>[(1,.int .u8 (n1:Int)),(5,b),(6,p6),(59,v59),(60,.int .i64 (waysL.length:Int)),(61,.int .i64 ((i:Nat):Int))]) (fun i h'=>i≤5∧St h37 h' [⟨v59,1,wcs waysL,true⟩,⟨p6,0,[v38],true⟩,mapO v38 (entL kstr kstr (nm2 ++ nmR n1 3 ++ nmW n1 i))]) (fun i=>5 - i) 0 ?_ ?_;exact⟨dB _,St.pick [0,2,3] aD rfl hS⟩;rintro i h3 ⟨hi,hS⟩;have hwl5:waysL.length=5:=rfl;refine cN ?_;refine Om ?_ ?_
  ·intro c62;have hr2:ways2.length=5:=rfl;have hlt:i<5:=by omega
   have hrm:Int.tmod ((i:Int)+(n1:Int)) 5=(((i+n1) % 5:Nat):Int):=by rw[Int.tmod_eq_emod_of_nonneg aA]; omega
   refine OB [1,5,6,59,60,61] ?_;refine bh ?_;refine Ou ?_;refine Ow (hS.rd 0 rfl) (j:=i) rfl aC ?_;intro p64 hp64;refine OY hp64 (hS.rd 0 rfl) aC ?_;refine OK [1,5,6,9,10,59,60,61] ?_;refine OX [3] mixed rfl aE ?_;refine O0 hS (i:=1) rfl hp6 ?_;refine Oh ?_;refine bd ?_;intro v68 h' hS;refine Kn aI (Zj) ?_;rintro r69 _ ⟨rfl,rfl⟩;replace hS:St _ _ (⟨r69,1,wcs ways2,true⟩::_):=hS;refine Ou ?_;refine Zt aA aA ?_;refine Ko aB aB ?_;refine KOps.rem (by first|decide|omega) (by rw[hrm]; omega) (by rw[hrm]; omega) ?_;rw[hrm];refine Ow (hS.rd 0 rfl) (j:=(i+n1) % 5) aB aC ?_;intro p75 hp75;refine OY hp75 (hS.rd 0 rfl) aC ?_;refine KOps.mapPutK (kf:=kstr) (vf:=kstr) (l:=nm2 ++ nmR n1 3 ++ nmW n1 i) (a:=waysL.getD i []) (b:=ways2.getD ((i+n1) % 5) []) (i:=3) EvK.eq rfl hS hv38 rfl rfl ?_;intro h' hS;simp only[dO,dD,dK] at hS;refine cO ?_;refine Oq [1,5,6,59,60,61] ?_;refine bg ?_;rw[nmW_next hlt] at hS;exact lpN (i+1) ⟨by omega,St.drop (A:=[_]) hS⟩ aA
  ·intro c62;have hie:i=5:=by omega
   subst hie;refine bQ ?_;refine Oq [5,6] ?_;refine Ox ?_;refine Oi rfl (new_c) ?_;rintro o h78 hO;obtain⟨vo,B,ho,hSO⟩:=hO;have hSx:St h37 h78 (Zp o vo B [] ++ ⟨v59,1,wcs waysL,true⟩ :: [⟨p6,0,[v38],true⟩,mapO v38 (entL kstr kstr (nmT n1))]):=by have:=St.trans hS hSO; rwa [dW] at this
   have hSB:St h37 h78 (Zp o vo B [] ++ [⟨p6,0,[v38],true⟩,mapO v38 (entL kstr kstr (nmT n1))]):=by
    have hSy:=St.perm dT hSx;exact St.drop (A:=[_]) hSy
   clear hS hSx;have hS:=St.refl h78;refine OK [5,6,11] ?_;refine Ou ?_;refine Oi rfl (linesB_c (r.ext (hSB.keeps.trans hS.keeps))) ?_;rintro v80 h80 hS80;have hSC:St h37 h80 (Zp o vo B [] ++ [⟨v80,1,wcs L,true⟩,⟨p6,0,[v38],true⟩,mapO v38 (entL kstr kstr (nmT n1))]):=St.perm dT.symm (St.trans (St.on hSB hS.keeps) hS80);clear hS hSB;have hw80:WRow h80 v80 L:=hS80.rd 0 rfl;have hS:=St.refl h80;refine O1 (hw80.ext hS.keeps) ?_;refine OK [5,6,11,80,81,82] ?_;refine Oz ?_;refine Kd (X:=Nat) (fun i=>[(5,b),(6,p6),(11,o),(80,v80),(81,.int .i64 (L.length:Int)),(82,.int .i64 ((i:Nat):Int))]) (fun i h'=>i≤L.length∧Bk h37 h' o ((L.take i).map (rnL (nmT n1))) [⟨v80,1,wcs L,true⟩,⟨p6,0,[v38],true⟩,mapO v38 (entL kstr kstr (nmT n1))]) (fun i=>L.length - i) 0 ?_ ?_;exact⟨dB _,vo,B,ho,hSC⟩;rintro i h3 ⟨hi,hB⟩;obtain⟨vo,B,ho,hSB⟩:=hB;have hSG:=St.drop (A:=Zp o vo B _) hSB;have hw3:WRow h3 v80 L:=hSG.rd 0 rfl;have hc6:Rd h3 p6 0 [v38]:=hSG.rd 1 rfl;have hm6:RdM h3 v38 (entL kstr kstr (nmT n1)):=hSG.rdM 2 rfl hv38;have hV3:=hV1.ext hSB.keeps;have r3:=r.ext hSB.keeps;clear hSG;have hS:=St.refl h3;refine cN ?_;refine Om ?_ ?_
   ·intro c83;have hlt:i<L.length:=by omega
    have hx0:=hY.done.one i hlt;have hxm:=getD_mem (l:=L) (i:=i) (d:=[]) hlt;have hrn:=hRn _ hxm;have hxl:(L.getD i []).length≤1000000:=dJ (hY.done.small _ hxm) aA;have hask:O2 ((L.take i).map (rnL (nmT n1))) (rnL (nmT n1) (L.getD i []))=0:=by
     rw[asked_ren hR (fun x hx=>(hRn x (List.mem_of_mem_take hx)).t) hrn.t (QS hx0).1 hrn.e];exact hx0
    obtain⟨x,hx⟩:∃ x,L.getD i []=x:=⟨_,rfl⟩;have hnext:(L.take (i+1)).map (rnL (nmT n1))=(L.take i).map (rnL (nmT n1)) ++ [rnL (nmT n1) x]:=by rw[←Xb (d:=[]) hlt,dF,hx]; rfl
    rw[hx] at hxl hask hrn;have hk24:=hrn.k;obtain⟨W,hWx⟩:∃ W,OG 32 x=W:=⟨_,rfl⟩;have hline:jnT (rnW (nmT n1) W) (W.length - 1)=rnL (nmT n1) x:=by rw[←hWx]; rfl
    rw[hWx] at hk24;refine OB [5,6,11,80,81,82] ?_;refine cS ?_;refine Ow (hw3.ext hS.keeps) (j:=i) rfl aC ?_;intro p84 hp84;refine OY hp84 (hw3.ext hS.keeps) aC ?_;rw[hx];refine OK [5,6,11,13,80,81,82] ?_;refine Ou ?_;refine Oi rfl (split_c (c:=32) (hV3.ext hS.keeps).mx hxl) ?_;rintro v87 h87 ⟨hsl87,hS87⟩;rw[hWx] at hS87;have hS1:St _ _ (_::_):=St.trans hS hS87;clear hS;have hS:=hS1;clear hS1;refine OK [5,6,11,14,80,81,82] ?_;refine Ou ?_;refine O1 (hS.rd 0 rfl) ?_;refine OK [5,6,11,14,80,81,82,89,90] ?_;refine Oz ?_;refine Kd (X:=Nat) (fun j=>[(5,b),(6,p6),(11,o),(14,v87),(80,v80),(81,.int .i64 (L.length:Int)),(82,.int .i64 ((i:Nat):Int)),(89,.int .i64 (W.length:Int)),(90,.int .i64 ((j:Nat):Int))]) (fun j h'=>j≤W.length∧St h3 h' [⟨v87,1,wcs (ZM (nmT n1) W j),true⟩]) (fun j=>W.length - j) 0 ?_ ?_;exact⟨dB _,hS⟩;rintro j h4 ⟨hj,hS⟩;refine cN ?_;refine Om ?_ ?_
    ·intro c91;have hlj:j<W.length:=by omega
     have hrl:=Ry (nmT n1) W hj;refine OB [5,6,11,14,80,81,82,89,90] ?_;refine bh ?_;refine OK [5,6,11,14,15,80,81,82,89,90] ?_;refine bY ?_;refine Oe hp6 (Rd.ext hS.keeps hc6) rfl ?_;refine Ou ?_;refine Ow (hS.rd 0 rfl) (j:=j) rfl aC ?_;intro p97 hp97;refine OY hp97 (hS.rd 0 rfl) aC ?_;rw[rnTo_at (nmT n1) hlj];refine KOps.lookupD2 (kf:=kstr) (vf:=kstr) (l:=nmT n1) (w:=[]) EvK.eq (RdM.ext hS.keeps hm6) rfl rfl ?_;refine OK [5,6,11,14,15,16,17,80,81,82,89,90] ?_;refine Ou ?_;refine OC (dj:=103) rfl rfl true false rfl ?_ ?_
     ·intro g103;refine Ou ?_;refine KOps.gtr ?_;refine KQ ?_;refine Ot [5,6,11,14,15,16,80,81,82,89,90,104,105,106] ?_;refine Om ?_ ?_
      ·intro c106;refine Ou ?_;refine Ow (hS.rd 0 rfl) (j:=j) rfl aC ?_;intro p110 hp110;refine KOps.storeW hS rfl (i:=0) rfl hp110 aC ?_;intro h' hS;refine cO ?_;refine Oq [5,6,11,14,80,81,82,89,90,104,105] ?_;refine bg ?_;have e:ZM (nmT n1) W (j+1)=(ZM (nmT n1) W j).set j ((Oo (nmT n1) (W.getD j [])).getD []):=by
        rw[Wx _ hlj,rnW_at _ hlj,if_pos aA];obtain⟨z,hz⟩:=Option.isSome_iff_exists.1 g103;rw[hz]; rfl
       exact lpN (j+1) ⟨by omega,by rw[e]; exact hS⟩ aA
      intro c106;refine bz ?_;refine Oq [5,6,11,14,80,81,82,89,90,104,105] ?_;refine bg ?_;have e:ZM (nmT n1) W (j+1)=ZM (nmT n1) W j:=Wy _ hlj (by rw[rnW_at _ hlj,if_neg aA]);exact lpN (j+1) ⟨by omega,by rw[e]; exact hS⟩ aA
     ·intro g103;refine QK (dj:=103) rfl rfl rfl ?_;refine OU ?_;refine Ot [5,6,11,14,15,16,80,81,82,89,90,104,105,106] ?_;refine ON ?_;refine bz ?_;refine Oq [5,6,11,14,80,81,82,89,90,104,105] ?_;refine bg ?_;have hz:Oo (nmT n1) (W.getD j [])=none:=by
       cases hm:Oo (nmT n1) (W.getD j []) with
       | none=>rfl
       | some a=>rw[hm] at g103; cases g103
      have e:ZM (nmT n1) W (j+1)=ZM (nmT n1) W j:=Wy _ hlj (by rw[rnW_at _ hlj,hz]; split <;> rfl);exact lpN (j+1) ⟨by omega,by rw[e]; exact hS⟩ aA
    intro c91;have hje:j=W.length:=by omega
    subst hje;rw[rnTo_end] at hS;refine bQ ?_;refine Oq [5,6,11,14,80,81,82] ?_;refine Ou ?_;refine Oi rfl (join_c (hS.rd 0 rfl) (by rw[YF]; exact hk24) (fun w hw=>by have:=hrn.w w (by rw[hWx]; exact hw); omega)) ?_;rintro _ _ ⟨rfl,rfl⟩;rw[YF,hline];refine Oi rfl (Xq ho (St.on hSB hS.keeps) (hV3.ext hS.keeps) (by have:=hrn.l; omega)) ?_;rintro _ h115 ⟨rfl,hO⟩;unfold doL at hO;rw[if_pos hask] at hO;have hS:=St.refl h115;refine Kk hask ?_;refine Ot [5,6,11,80,81,82,116] ?_;refine ON ?_;refine bz ?_;refine Oq [5,6,11,80,81,82] ?_;refine bg ?_;exact lpN (i+1) ⟨by omega,by rw[hnext]; exact hO⟩ aA
   ·intro c83;have hie:i=L.length:=by omega
    subst hie;rw[dH] at ho hSB;have ro3:=St.rbk hSB ho;refine bQ ?_;refine Oq [5,6,11] ?_;refine Ox ?_;refine QZ ?_;refine OK [5,6,11,18] ?_;refine bt ?_;refine Oi rfl (We) ?_;rintro v119 h119 hS119;have hk119:=hS.keeps.trans hS119.keeps;have r9:RBk h119 b vl A L:=r3.ext hk119;have ro9:=ro3.ext hk119;have hc9:=Rd.ext hk119 hc6;have hm9:=RdM.ext hk119 hm6;have hV9:=hV3.ext hk119;have hw9:WRow h119 v119 waysL:=hS119.rd 0 rfl;have hk37:=hSB.keeps.trans hk119;have hk9:=Keeps.refl h119;clear hS;have hS:=St.refl h119;refine O1 (hw9.ext (hk9.trans hS.keeps)) ?_;refine Oh ?_;refine Of ?_;refine Od ?_;refine Oz ?_;refine Kd (X:=Nat) (fun k=>[(5,b),(6,p6),(11,o),(18,.fn 45 [p6]),(119,v119),(120,.int .i64 (waysL.length:Int)),(121,.int .i64 ((k:Nat):Int))]) (fun k h'=>k≤5∧Keeps h119 h') (fun k=>5 - k) 0 ?_ ?_;exact⟨dB _,hk9.trans hS.keeps⟩;rintro k h4 ⟨hk,hk9⟩;have hwl5:waysL.length=5:=rfl;have hS:=St.refl h4;refine cN ?_;refine Om ?_ ?_
    ·intro c122;have hlt:k<5:=by omega
     have hwm:=getD_mem (l:=waysL) (i:=k) (d:=[]) hlt;have hfw:nmF (nmT n1) (waysL.getD k [])=gN (nmT n1) (waysL.getD k []):=Jk n1 (.inl (dE _ (dE _ hwm)));obtain⟨w,hw⟩:∃ w,waysL.getD k []=w:=⟨_,rfl⟩;rw[hw] at hfw;refine OB [5,6,11,18,119,120,121] ?_;refine cS ?_;refine Ow (hw9.ext (hk9.trans hS.keeps)) (j:=k) rfl aC ?_;intro p123 hp123;refine OY hp123 (hw9.ext (hk9.trans hS.keeps)) aC ?_;rw[hw];refine OK [5,6,11,18,20,119,120,121] ?_;refine Ou ?_;refine Oi rfl (Wc (r9.ext (hk9.trans hS.keeps))) ?_;rintro _ h128 ⟨rfl,hK⟩;replace hS:St _ _ _:=St.trans hS (St.ofK hK)
     try simp only[dL] at hS
     obtain⟨⟨sa,sb,se⟩,hsp⟩:∃ q,(after L).spn w=q:=⟨_,rfl⟩;have hsp0:=spn_100 hW hF w;rw[hsp] at hsp0⊢;unfold tup3;dsimp only at hsp0;refine OK [5,6,11,18,20,21,22,23,119,120,121] ?_;refine cZ ?_;rw[show(Oo (nmT n1) w).getD []=gN (nmT n1) w from hfw];refine Oi rfl (Wc (ro9.ext (hk9.trans hS.keeps))) ?_;rintro _ h137 ⟨rfl,hK⟩;replace hS:St _ _ _:=St.trans hS (St.ofK hK)
     try simp only[dL] at hS
     rw[hAf,ren_spn hR,hsp];unfold tup3;refine OK [5,6,11,18,20,21,22,23,24,25,26,119,120,121] ?_;refine Ou ?_;refine Zl aB aB ?_;refine Oi rfl (UY (r9.ext (hk9.trans hS.keeps)) (hV9.ext (hk9.trans hS.keeps))) ?_;rintro _ h146 ⟨v146,rfl,hS146⟩;have hS1:St _ _ (_::_):=St.trans hS hS146;clear hS;have hS:=hS1;clear hS1;refine OK [5,6,11,18,20,21,22,23,24,25,26,27,28,119,120,121] ?_;refine cZ ?_;rw[show(Oo (nmT n1) w).getD []=gN (nmT n1) w from hfw];refine Oh ?_;refine Zl aB aB ?_;refine Oi rfl (UY (ro9.ext (hk9.trans hS.keeps)) (hV9.ext (hk9.trans hS.keeps))) ?_;rintro _ h156 ⟨v156,rfl,hS156⟩;have hS1:St _ _ (_::_):=St.trans hS hS156;clear hS;have hS:=hS1;clear hS1;refine OK [5,6,11,18,21,22,23,24,25,26,27,28,29,30,119,120,121] ?_;refine Ou ?_;refine Kk rfl ?_;refine Ou ?_;refine Kk rfl ?_;refine OU ?_;refine Ou ?_;refine Kk rfl ?_;refine OU ?_;refine Ou ?_;refine Kk (by rw[hAf,ren_whyE hR]) ?_;refine OU ?_;have hwl:((after L).whyL w (sa - 1)).map (nmF (nmT n1))=(after (L.map (rnL (nmT n1)))).whyL (gN (nmT n1) w) (sa - 1):=by
      rw[hAf,ren_whyL hR];exact dC fun x hx=>why_nm hY n1 hx
     refine Ou ?_;refine Oi rfl (JH (hS.rd 1 rfl) (why_len hY.done _ _) hp6 (Rd.ext (hk9.trans hS.keeps) hc9) hv38 (RdM.ext (hk9.trans hS.keeps) hm9)) ?_;rintro v180 h180 hS180;have hS1:St _ _ (_::_):=St.trans hS hS180;clear hS;have hS:=hS1;clear hS1;refine Ou ?_;refine Oi rfl (XL (hS.rd 0 rfl) (hS.rd 1 rfl) (by rw[dI]; exact dJ (why_len hY.done _ _) aA)) ?_;rintro _ _ ⟨rfl,rfl⟩;rw[decide_eq_true hwl];refine Ol (dj:=177) rfl rfl ?_;refine KOps.not ?_;refine OU ?_;refine Ot [5,6,11,18,119,120,121,163,164,165,168,169,170,173,174,175,178,179,180,181,182,183,184] ?_;refine ON ?_;refine bz ?_;refine Oq [5,6,11,18,119,120,121,163,164,165,168,169,170,173,174,175,178,179,180,181,182,183] ?_;refine bg ?_;exact lpN (k+1) ⟨by omega,hk9.trans hS.keeps⟩ aA
    ·intro c122;refine bQ ?_;refine Oq [5,11,18] ?_;refine Ou ?_;refine Oi rfl (Wa (r9.ext (hk9.trans hS.keeps))) ?_;rintro _ h188 ⟨v188,rfl,hS188⟩;have hS1:St _ _ (_::_):=St.trans hS hS188;clear hS;have hS:=hS1;clear hS1;refine OK [5,11,18,31,32] ?_;refine Ou ?_;refine Oi rfl (Wa (ro9.ext (hk9.trans hS.keeps))) ?_;rintro _ h193 ⟨v193,rfl,hS193⟩;have hS1:St _ _ (_::_):=St.trans hS hS193;clear hS;have hS:=hS1;clear hS1;refine OK [5,11,18,31,32,33,34] ?_;refine Ox ?_;have hO:=hY.off;have hll:=hY.done.wf.2.1;have hroom:=hW.rooms;have hclm:=hW.claims;have hsl:(after L).sureL.length≤12:=dJ (by unfold Off.sureL; rw[dI]; exact List.length_filter_le _ _) hW.ways;have hqr:(after L).rooms.map (nmF (nmT n1))=(after (L.map (rnL (nmT n1)))).rooms:=by
      rw[hAf];exact dC fun x hx=>Jk n1 (.inl (by rw[dU]; exact dM _ (hO.rooms x hx)))
     have hqs:(after L).sureL.map (nmF (nmT n1))=(after (L.map (rnL (nmT n1)))).sureL:=by
      rw[hAf,ren_sureL];refine dC fun x hx=>Jk n1 (.inl (dE _ (dE _ (hO.ways x ?_))))
      obtain⟨p,hp,e⟩:=dR.1 hx;exact e ▸ dR.2 ⟨p,(List.mem_filter.1 hp).1,rfl⟩
     have hqp:(after L).claims.map (nmF (nmT n1))=(after (L.map (rnL (nmT n1)))).claims:=by
      rw[hAf];refine dC fun x hx=>Jk n1 (.inl (dE _ (dE _ (hO.ways x ?_))))
      obtain⟨l,hl,_⟩:=hY.done.clm x hx;exact J9 hl
     refine Ou ?_;refine Oi rfl (Uc (r9.ext (hk9.trans hS.keeps))) ?_;rintro v198 h198 hS198;have hS1:St _ _ (_::_):=St.trans hS hS198;clear hS;have hS:=hS1;clear hS1;refine Oi rfl (JH (hS.rd 0 rfl) aA hp6 (Rd.ext (hk9.trans hS.keeps) hc9) hv38 (RdM.ext (hk9.trans hS.keeps) hm9)) ?_;rintro v199 h199 hS199;have hS1:St _ _ (_::_):=St.trans hS hS199;clear hS;have hS:=hS1;clear hS1;refine Oh ?_;refine Oi rfl (Uc (ro9.ext (hk9.trans hS.keeps))) ?_;rintro v201 h201 hS201;have hS1:St _ _ (_::_):=St.trans hS hS201;clear hS;have hS:=hS1;clear hS1;refine Oi rfl (XL (hS.rd 1 rfl) (hS.rd 0 rfl) (by rw[dI]; omega)) ?_;rintro _ _ ⟨rfl,rfl⟩;rw[decide_eq_true hqr];refine Ou ?_;refine Oi rfl (JM (r9.ext (hk9.trans hS.keeps))) ?_;rintro v206 h206 hS206;have hS1:St _ _ (_::_):=St.trans hS hS206;clear hS;have hS:=hS1;clear hS1;refine Ol (dj:=203) rfl rfl ?_;refine Oi rfl (JH (hS.rd 0 rfl) aA hp6 (Rd.ext (hk9.trans hS.keeps) hc9) hv38 (RdM.ext (hk9.trans hS.keeps) hm9)) ?_;rintro v207 h207 hS207;have hS1:St _ _ (_::_):=St.trans hS hS207;clear hS;have hS:=hS1;clear hS1;refine Ou ?_;refine Oi rfl (JM (ro9.ext (hk9.trans hS.keeps))) ?_;rintro v209 h209 hS209;have hS1:St _ _ (_::_):=St.trans hS hS209;clear hS;have hS:=hS1;clear hS1;refine Ol (dj:=203) rfl rfl ?_;refine Oi rfl (XL (hS.rd 1 rfl) (hS.rd 0 rfl) (by rw[dI]; omega)) ?_;rintro _ _ ⟨rfl,rfl⟩;rw[decide_eq_true hqs];refine KQ ?_;refine Ou ?_;refine Oi rfl (JH (hS.rd 7 rfl) aA hp6 (Rd.ext (hk9.trans hS.keeps) hc9) hv38 (RdM.ext (hk9.trans hS.keeps) hm9)) ?_;rintro v215 h215 hS215;have hS1:St _ _ (_::_):=St.trans hS hS215;clear hS;have hS:=hS1;clear hS1;refine Ou ?_;refine Oi rfl (XL (hS.rd 0 rfl) (hS.rd 7 rfl) (by rw[dI]; omega)) ?_;rintro _ _ ⟨rfl,rfl⟩;rw[decide_eq_true hqp];refine KQ ?_;refine Ou ?_;refine KOps.eqlV (by rw[hAf,ren_sum hR]) ?_;refine KQ ?_;refine Ou ?_;refine Oi rfl (works_c (hV9.ext (hk9.trans hS.keeps))) ?_;rintro _ hw ⟨rfl,hK⟩;replace hS:St _ _ _:=St.trans hS (St.ofK hK)
     try simp only[dL] at hS
     refine KQ ?_;refine OK [4] ?_;refine Og ?_;exact⟨rfl,hk0.trans (hk37.trans (hk9.trans hS.keeps))⟩
end Go.Am
namespace Go.Am
theorem law_names {h : AHeap} {v1 : AV} {y1 : List Q4} {a : Int} (hv1 : Rd h v1 4 (flr qc y1)) (hy1 : ∀ q ∈ y1, q.Ok) (ha : (Lit.int .u8 a).wf = true) (hz : Vs h) :
    ACalls Go.Proofs.Tryz.prog 7 [v1,.int .u8 a] h (fun q h'=>q = .bool true∧Keeps h h'):=by
 obtain⟨a,rfl,ha2⟩:=UD (UX ha);exact WQ hv1 hy1 ha2 hz
end Go.Am
