/-
  Tops: turned from layer 14: Ck.
  Conditions: none.
-/
import Derived.Test.YtdfhmdhjeiipfaaGreatDoorQCj
open Bool renaming false_eq_true → fB
open Classical renaming not_not → fD
open List renaming getD_eq_getElem?_getD → dO, length_append → dU, set_cons_succ → dY, length_singleton → dQ, set_cons_zero → dR, getElem?_eq_getElem → dS, append_assoc → dT, perm_middle → dW, mem_of_getElem? → dX, map_append → dZ, perm_append_comm → fI, length_map → fU, mem_map → fY, eraseIdx_cons_succ → fC, length_set → fF, length_eraseIdx → fG, map_cons → fH, mem_cons → fJ, drop_eq_getElem_cons → fK, getElem?_eq_some_iff → fL, mem_or_eq_of_mem_set → fM, getElem?_set_self → fQ, map → fR, mem_append_left → fS, take_succ_cons → fT, mem_singleton → fW, getElem?_map → fX, take_add_one → fZ, getElem?_set → gA, map_fst_zip → gE, length_take → gI, length_zip → gO, zip_append → gU, mem_append → gB
open List.Perm renaming append_right → fA, append_left → fO, trans → fN, of_eq → gY, swap → gC, cons → gD
open Nat renaming le_of_ble_eq_true → dP, zero_add → dV, le_succ → fE, le_refl → fP, min_self → fV
set_option maxRecDepth 99999
set_option maxHeartbeats 4000000
namespace Go.Am
theorem KOps.lookEver {P : Program} {n : Nat} {ops : Array Oper} {ex : List Nat} {Q : KF → AHeap → Prop} {k : Nat} {os : List Oper} {K : KF} {h : AHeap} {d : Nat} {ty : TypeId} {pos : String} {after : Array Edge} {t kt : TypeId} {l : List Int} {v : AV} {x ix : Operand} {p : Int} [hx : EvK h.globs n K x v] (hi : KK h.globs n K ix = .int .i64 p) [ht : MpT P t kt (.bool false)] [hkt : KeyT P kt (AV.int .i64)] (hr : RdD h v (entL kintQ AV.bool (l.map fun x => (x, true))))
    (hk:KOps P n ops ex Q (k+1) os ((d,.bool (decide (p∈l)))::K) h):KOps P n ops ex Q k (⟨some d,.lookup t x ix false,ty,pos,after,none⟩::os) K h:=by
 have hmap:(l.map fun x=>(x,true)).map (·.1)=l:=by rw[List.map_map]; exact List.map_id l
 by_cases hp:p∈l;have hg:OE (l.map fun x=>(x,true)) p=some true:=by
  rw[Vt,hmap,if_pos hp,fX,dS (Y9 hp)];rfl
 rw[decide_eq_true hp] at hk;exact KOps.lookDS (kf:=kintQ) (a:=p) hi hr hg hk;have hg:OE (l.map fun x=>(x,true)) p=none:=by rw[Vt,hmap,if_neg hp]
 rw[decide_eq_false hp] at hk;exact KOps.lookDN (kf:=kintQ) (a:=p) hi hr hg hk
theorem Uo {O:Off} {w:Str} {n:Int} {g:Bool} (h:opE O w≠0):O.wrong (.bound w n g)=opE O w:=by
 rcases Ja h with ⟨l,hm,hp,he⟩|⟨hm,he⟩
 rw[he]; unfold Off.wrong; dsimp only; rw[hm]; exact if_pos hp;rw[he]; unfold Off.wrong; dsimp only; rw[hm]
theorem U4 {O:Off} {w:Str} {n:Int} {g:Bool} {l:Lane} (hm:OE O.ways w=some l) (hp:l.paid=false):O.wrong (.bound w n g)=O.tries w (chB n g) l:=by
 unfold Off.wrong; dsimp only; rw[hm]; exact if_neg (by rw[hp]; decide)
theorem U5 {O:Off} {w:Str} {p:Int} (h:p∈O.ever):O.wrong (.pack p w)=6:=if_pos h
theorem U6 {O:Off} {w:Str} {p:Int} (h:p ∉ O.ever) (hm:OE O.ways w=none):O.wrong (.pack p w)=2:=by
 unfold Off.wrong; dsimp only; rw[if_neg h,hm]
theorem Y6 {O:Off} {w:Str} {p:Int} {l:Lane} (h:p ∉ O.ever) (hm:OE O.ways w=some l):O.wrong (.pack p w)=if O.packs.length=20 then 3 else if l.hi≤l.packs.length then 15 else O.tries w (chP p) l:=by
 unfold Off.wrong; dsimp only; rw[if_neg h,hm]
theorem SP {h0 h:AHeap} {A:OA} {O:Off} {G:List Obj} (st:St h0 h (Kt A O ++ G)) (ok:AOk A O) (hW:WF O) {w:Str} {n:Int} {g:Bool}:ACalls Go.Proofs.Tryz.prog 295 [.agg [.str (wdQ w),.int .i64 n,.bool g],A.po] h (fun q h'=>q = .int .i64 (O.wrong (.bound w n g))∧St h0 h' (Kt A O ++ G)):=by
 refine OK 22 [.tmp 4] Go.Proofs.Tryz.func295 rfl aE rfl rfl (dP rfl) ?_;have hS:=st;have hp20:=hW.packs;show KA _ 22 _ _ [(0,.agg [.str (wdQ w),.int .i64 n,.bool g]),(1,A.po)] _;refine be ?_;intro p2 h' hp2 hS;refine Oa [1,2] ?_;refine Oc ?_;refine cZ ?_;intro p9 hp9;refine dF ?_;refine Oo rfl (open_c (St.roff (St.drop (A:=[_]) hS) ok)) ?_;rintro _ _ ⟨rfl,rfl⟩;refine Oa [1,2,5,6] ?_;refine Oa [1,2,5,6,15] ?_;refine Kk ?_ ?_;intro c15;refine ba ?_;exact⟨by rw[Uo c15],St.drop (A:=[_]) hS⟩;intro c15;obtain⟨l,hm,hpd⟩:=Vw c15;rw[if_pos c15,Qz hm];refine OD [1,2,5] ?_;refine Oc ?_;refine dK ?_;have r0:=(St.roff (St.drop (A:=[_]) hS) ok);refine KOps.makeMeth ?_;refine Oo rfl (tries_c (v:=.fnm 293 [.agg [.str (wdQ w),.int .i64 n,.bool g]] []) (chB n g) (St.drop (A:=[_]) hS) ok hW.wb hm rfl (by intro hx; exfalso; revert hx; cases g <;> (show l.paid=true→False; rw[hpd]; nofun)) (by have:=hW.lpM hm; have e:(chB n g l).packs=l.packs:=(by cases g <;> rfl); rw[e]; omega) (fun hS=>chB_c (r0.way hm).ok hS)) ?_;rintro _ h9 ⟨rfl,hS9⟩;refine ba ?_;exact⟨by rw[U4 hm hpd],hS9⟩
theorem Px {h0 h:AHeap} {A:OA} {O:Off} {G:List Obj} (st:St h0 h (Kt A O ++ G)) (ok:AOk A O) (hW:WF O) {p:Int} {w:Str}:ACalls Go.Proofs.Tryz.prog 301 [.agg [.int .i64 p,.str (wdQ w)],A.po] h (fun q h'=>q = .int .i64 (O.wrong (.pack p w))∧St h0 h' (Kt A O ++ G)):=by
 refine OK 50 [.tmp 4] Go.Proofs.Tryz.func301 rfl aE rfl rfl (dP rfl) ?_;have hS:=st;have hp20:=hW.packs;show KA _ 50 _ _ [(0,.agg [.int .i64 p,.str (wdQ w)]),(1,A.po)] _;refine be ?_;intro p2 h' hp2 hS;refine Oa [1,2] ?_;refine cV ?_;refine bp ?_;intro p10 hp10;refine Of hp10 (St.roff (St.drop (A:=[_]) hS) ok).off rfl ?_;refine cZ ?_;intro p12 hp12;refine Of hp12 (hS.rd 0 rfl) rfl ?_;refine QJ (A:=A) (O:=O) (w:=w) EvK.eq (St.roff (St.drop (A:=[_]) hS) ok).ways ok.ll ?_;refine Oa [1,2,5] ?_;refine bj ?_;refine cV ?_;refine bp ?_;intro p18 hp18;refine Of hp18 (St.roff (St.drop (A:=[_]) hS) ok).off rfl ?_;refine cZ ?_;intro p20 hp20;refine Of hp20 (hS.rd 0 rfl) rfl ?_;refine KOps.lookEver (p:=p) EvK.eq (St.roff (St.drop (A:=[_]) hS) ok).ever ?_;refine Oa [1,2,5,15] ?_;refine On ?_ ?_;intro c15;refine ba ?_;exact⟨by rw[U5 c15],St.drop (A:=[_]) hS⟩;intro c15;refine Oc ?_;refine KOps.ptrEqB (OE O.ways w).isNone aB (Sz (St.roff (St.drop (A:=[_]) hS) ok)) (Wl (St.roff (St.drop (A:=[_]) hS) ok)) ?_;refine Oa [1,2,5,23] ?_;refine Kz ?_ ?_;intro c23;have hm:=UE c23;refine ba ?_;exact⟨by rw[U6 c15 hm],St.drop (A:=[_]) hS⟩;intro c23;obtain⟨l,hm⟩:=UD c23;rw[Qz hm];refine Oc ?_;refine bp ?_;intro p29 hp29;refine Of hp29 (St.roff (St.drop (A:=[_]) hS) ok).off rfl ?_;refine KOps.lenD (St.roff (St.drop (A:=[_]) hS) ok).packs ?_;refine Oa [1,2,5,26] ?_;refine On ?_ ?_;intro c26;refine Ot ?_;have hpl:(entL kintQ idV (K5 A.da O.packs)).length=O.packs.length:=by unfold K5 entL; rw[fU,gO,fU,ok.dl,fV]
 rw[hpl] at c26;refine ba ?_;exact⟨by rw[Y6 c15 hm,if_pos aA],St.drop (A:=[_]) hS⟩;intro c26;refine bd ?_;refine Ow [1,2,5] ?_;refine bt ?_;have hpl:(entL kintQ idV (K5 A.da O.packs)).length=O.packs.length:=by unfold K5 entL; rw[fU,gO,fU,ok.dl,fV]
 rw[hpl] at c26;refine Oe ?_;refine Oo rfl (Wb ((St.roff (St.drop (A:=[_]) hS) ok).way hm) (hW.paidM hm) (by have:=hW.lpM hm; omega)) ?_;rintro _ _ ⟨rfl,rfl⟩;refine Oa [1,2,5,7] ?_;refine Oc ?_;refine Ox ((St.roff (St.drop (A:=[_]) hS) ok).way hm).ok.ad ?_;refine Ob ((St.roff (St.drop (A:=[_]) hS) ok).way hm).ok.ad ?_;intro p40 hp40;refine Of hp40 ((St.roff (St.drop (A:=[_]) hS) ok).way hm).rd rfl ?_;refine Kv ((St.roff (St.drop (A:=[_]) hS) ok).way hm).rpacks ?_;refine Oa [1,2,5,44] ?_;refine On ?_ ?_;intro c44;refine ba ?_;exact⟨by rw[Y6 c15 hm,if_neg aA,if_pos aA],St.drop (A:=[_]) hS⟩;intro c44;refine OD [1,2,5] ?_;refine Oc ?_;refine dK ?_;have r0:=(St.roff (St.drop (A:=[_]) hS) ok);refine KOps.makeMeth ?_;refine Oo rfl (tries_c (v:=.fnm 299 [.agg [.int .i64 p,.str (wdQ w)]] []) (chP p) (St.drop (A:=[_]) hS) ok hW.wb hm rfl (show l.paid=true→l.told.isSome=true from hW.paidM hm) (by have:=hW.lpM hm; show(l.packs ++ [p]).length≤1000000; rw[dU,dQ]; omega) (fun hS=>chP_c (r0.way hm).ok (by have:=hW.lpM hm; omega) hS)) ?_;rintro _ h9 ⟨rfl,hS9⟩;refine ba ?_;exact⟨by rw[Y6 c15 hm,if_neg aA,if_neg aA],hS9⟩
end Go.Am
namespace Go.Am
def VI (h0:AHeap) (A:OA) (O:Off) (G:List Obj) (h':AHeap):Prop:=∃ A':OA,A'.po=A.po∧AOk A' O∧St h0 h' (Kt A' O ++ G)
theorem Sx {κ ν:Type} [DecidableEq κ] {l:List (κ × ν)} {k : κ} {v : ν} (h:k ∉ l.map (·.1)):Qn l k v=l ++ [(k,v)]:=by
 induction l with
 | nil=>rfl
 | cons p l ih=>
  rw[fH,fJ,not_or] at h;rw[Qn,if_neg h.1,ih h.2];rfl
theorem Sv {κ ν:Type} [DecidableEq κ] {l:List (κ × ν)} {k : κ} (h:k∈l.map (·.1)):(OE l k).isSome=true:=by
 cases hm:OE l k with
 | some v=>rfl
 | none=>exact absurd h (Wj hm)
theorem lanes_snoc:∀ (la:List LA) (ws:List (Str × Lane)) (a:LA) (p:Str × Lane),la.length=ws.length→KQ (la ++ [a]) (ws ++ [p])=KQ la ws ++ KT a p.2:=by
 intro la
 induction la with
 | nil=>intro ws a p hl; cases ws with
  | nil=>show KT a p.2 ++ [] = [] ++ KT a p.2; rw[List.append_nil]; rfl
  | cons q ws=>simp at hl
 | cons b la ih=>intro ws a p hl; cases ws with
  | nil=>simp at hl
  | cons q ws=>
   show KT b q.2 ++ KQ (la ++ [a]) (ws ++ [p])=(KT b q.2 ++ KQ la ws) ++ KT a p.2;rw[ih ws a p ar,dT]
theorem deck_snoc:∀ (da:List AV) (ps:List (Int × (Str × Int))) (a:AV) (p:Int × (Str × Int)),da.length=ps.length→Qe (da ++ [a]) (ps ++ [p])=Qe da ps ++ [⟨a,0,[.str (wdQ p.2.1),.int .i64 p.2.2],true⟩]:=by
 intro da
 induction da with
 | nil=>intro ws a p hl; cases ws with
  | nil=>rfl
  | cons q ws=>simp at hl
 | cons b la ih=>intro ws a p hl; cases ws with
  | nil=>simp at hl
  | cons q ws=>
   show _::Qe (la ++ [a]) (ws ++ [p])=_;rw[ih ws a p ar];rfl
theorem permW {α:Type} (X OF L D G:List α):(X ++ ((OF ++ (L ++ D)) ++ G)).Perm ((OF ++ ((L ++ X) ++ D)) ++ G):=by
 have e1:X ++ ((OF ++ (L ++ D)) ++ G)=X ++ ((OF ++ L) ++ (D ++ G)):=by simp[dT]
 have e2:(OF ++ ((L ++ X) ++ D)) ++ G=(OF ++ L) ++ (X ++ (D ++ G)):=by simp[dT]
 rw[e1,e2,←dT,←dT (OF ++ L)];exact fA _ fI
theorem permD {α:Type} (X OF L D G:List α):(X ++ ((OF ++ (L ++ D)) ++ G)).Perm ((OF ++ (L ++ (D ++ X))) ++ G):=by
 have e1:X ++ ((OF ++ (L ++ D)) ++ G)=X ++ ((OF ++ L ++ D) ++ G):=by simp[dT]
 have e2:(OF ++ (L ++ (D ++ X))) ++ G=(OF ++ L ++ D) ++ (X ++ G):=by simp[dT]
 rw[e1,e2,←dT,←dT (OF ++ L ++ D)];exact fA _ fI
theorem permN {α:Type} (x o n : α) (Y:List α):((((x::o::Y) ++ [n]) ++ [n]) ++ [n]).Perm (o::([x,n,n,n] ++ Y)):=by
 have e:(((x::o::Y) ++ [n]) ++ [n]) ++ [n]=x::o::(Y ++ [n,n,n]):=by simp
 rw[e];exact(gC o x _).trans (((fI (l₁:=Y) (l₂:=[n,n,n])).cons x).cons o)
theorem Xp {α:Type} {l:List α} (m:List α) {i:Nat} {d : α} (h:i<l.length):(l ++ m).getD i d=l.getD i d:=by
 rw[dO,List.getElem?_append_left h,dO]
theorem wayP_snoc {la:List LA} {ws:List (Str × Lane)} {a:LA} {p:Str × Lane} (hl:la.length=ws.length):Q9 (la ++ [a]) (ws ++ [p])=Q9 la ws ++ [(p.1,a.p)]:=by
 unfold Q9;rw[dZ,dZ,gU bE];rfl
theorem packE_snoc {da:List AV} {ps:List (Int × (Str × Int))} {a:AV} {p:Int × (Str × Int)} (hl:da.length=ps.length):K5 (da ++ [a]) (ps ++ [p])=K5 da ps ++ [(p.1,a)]:=by
 unfold K5;rw[dZ,gU bE];rfl
theorem wayP_keys {la:List LA} {ws:List (Str × Lane)} (hl:la.length=ws.length):(Q9 la ws).map (·.1)=ws.map (·.1):=by
 unfold Q9;exact gE bE
theorem Jz {da:List AV} {ps:List (Int × (Str × Int))} (hl:da.length=ps.length):(K5 da ps).map (·.1)=ps.map (·.1):=by
 unfold K5;exact gE bE
theorem tellRoom_c {h0 h:AHeap} {A:OA} {O:Off} {G:List Obj} (st:St h0 h (Kt A O ++ G)) (ok:AOk A O) (hW:WF O) {w:Str}:ACalls Go.Proofs.Tryz.prog 289 [.agg [.str (wdQ w)],A.po] h (fun _ h'=>VI h0 A (O.tell (.room w)) G h'):=by
 refine OK 15 [] Go.Proofs.Tryz.func289 rfl aE rfl rfl (dP rfl) ?_;have hS:St h0 h (⟨A.po,0,[A.vr,A.vn,A.vw,A.vp,A.ve,A.vc],true⟩::⟨A.vr,1,wcsQ O.rooms,true⟩::⟨A.vn,1,wcsQ (O.ways.map (·.1)),true⟩::dmapO A.vw (entL kstr idV (Q9 A.la O.ways))::dmapO A.vp (entL kintQ idV (K5 A.da O.packs))::dmapO A.ve (entL kintQ AV.bool (O.ever.map fun x=>(x,true)))::⟨A.vc,1,wcsQ O.claims,true⟩::(((KQ A.la O.ways ++ Qe A.da O.packs) ++ G))):=st;have hp20:=hW.packs;have hw12:=hW.ways;have hr6:=hW.rooms;have hc12:=hW.claims;show KA _ 15 _ _ [(0,.agg [.str (wdQ w)]),(1,A.po)] _;refine be ?_;intro p2 h' hp2 hS;refine Oj [1,2] ?_;refine OQ [8] mixed rfl aB ?_;refine Oc ?_;refine bp ?_;intro p7 hp7;refine Of hp7 (hS.rd 1 rfl) rfl ?_;refine cZ ?_;intro p9 hp9;refine dF ?_;refine b5 ?_;intro v11 h' hS;refine KOps.appendW1 hS (fun _=>rfl) (i:=2) rfl aC ?_;intro r12 h' hr12 hS;refine bp ?_;intro p14 hp14;refine KR hS rfl (i:=1) rfl hp14 aG aU ?_;intro h' hS;simp only[dR,dY,dV] at hS;refine dA ?_;exact⟨{A with vr:=r12},rfl,⟨ok.po,ok.vw,ok.vp,ok.ve,ok.ll,ok.lok,ok.dl,ok.dok⟩,St.drop (A:=[_]) hS⟩
theorem tellWay_c {h0 h:AHeap} {A:OA} {O:Off} {G:List Obj} (st:St h0 h (Kt A O ++ G)) (ok:AOk A O) (hW:WF O) {w f t:Str} (hw:w ∉ O.ways.map (·.1)) (hf:f∈O.rooms) (ht:t∈O.rooms):ACalls Go.Proofs.Tryz.prog 291 [.agg [.str (wdQ w),.str (wdQ f),.str (wdQ t)],A.po] h (fun _ h'=>VI h0 A (O.tell (.way w f t)) G h'):=by
 refine OK 42 [] Go.Proofs.Tryz.func291 rfl aE rfl rfl (dP rfl) ?_;have hS:St h0 h (⟨A.po,0,[A.vr,A.vn,A.vw,A.vp,A.ve,A.vc],true⟩::⟨A.vr,1,wcsQ O.rooms,true⟩::⟨A.vn,1,wcsQ (O.ways.map (·.1)),true⟩::dmapO A.vw (entL kstr idV (Q9 A.la O.ways))::dmapO A.vp (entL kintQ idV (K5 A.da O.packs))::dmapO A.ve (entL kintQ AV.bool (O.ever.map fun x=>(x,true)))::⟨A.vc,1,wcsQ O.claims,true⟩::(((KQ A.la O.ways ++ Qe A.da O.packs) ++ G))):=st;have hp20:=hW.packs;have hw12:=hW.ways;have hr6:=hW.rooms;have hc12:=hW.claims;show KA _ 42 _ _ [(0,.agg [.str (wdQ w),.str (wdQ f),.str (wdQ t)]),(1,A.po)] _;refine be ?_;intro p2 h' hp2 hS;refine Oj [1,2] ?_;refine Ou ?_;refine OQ [17,24] mixed rfl aB ?_;refine Oe ?_;refine bp ?_;intro p6 hp6;refine Of hp6 (hS.rd 1 rfl) rfl ?_;refine cZ ?_;intro p8 hp8;refine Of hp8 (hS.rd 0 rfl) rfl ?_;refine Oe ?_;refine bp ?_;intro p12 hp12;refine Of hp12 (hS.rd 1 rfl) rfl ?_;refine Kv (hS.rd 3 rfl) ?_;refine Oe ?_;refine bp ?_;intro p17 hp17;refine Of hp17 (hS.rd 1 rfl) rfl ?_;refine cZ ?_;intro p19 hp19;refine Of hp19 (hS.rd 0 rfl) rfl ?_;refine Kl aa (We (hS.rd 2 rfl) aA) ?_;rintro _ _ ⟨rfl,rfl⟩;refine Oe ?_;refine bp ?_;intro p24 hp24;refine Of hp24 (hS.rd 1 rfl) rfl ?_;refine cZ ?_;intro p26 hp26;refine Of hp26 (hS.rd 0 rfl) rfl ?_;refine Kl aa (We (hS.rd 2 rfl) aA) ?_;rintro _ _ ⟨rfl,rfl⟩;refine OP (zs:=[.int .i64 0,.int .i64 0,.int .i64 0,.nils,.nils,.nils,.bool false]) (cs:=[_,_,_,_,_,_,_]) aB aI aB (.cons (off:=0) (s:=1) aB (AV.cells_one aG) rfl aE (.cons (off:=1) (s:=1) aB (AV.cells_one aG) rfl aE (.cons (off:=2) (s:=1) aB (AV.cells_one aG) rfl aE .nil))) aI ?_;refine OH hS aD ?_;intro p30 h' hp30 hS;refine KOps.putD (kf:=kstr) (vf:=idV) (a:=w) (b:=p30) (i:=5) EvK.eq rfl hS ok.vw rfl rfl ?_;intro h' hS;simp only[dR,dY,dV] at hS;refine Oj [1,2] ?_;refine OQ [8] mixed rfl aB ?_;refine Oc ?_;refine bp ?_;intro p34 hp34;refine Of hp34 (hS.rd 2 rfl) rfl ?_;refine cZ ?_;intro p36 hp36;refine Of hp36 (hS.rd 1 rfl) rfl ?_;refine b5 ?_;intro v38 h' hS;refine KOps.appendW1 hS (fun _=>rfl) (i:=4) rfl aC ?_;intro r39 h' hr39 hS;refine bp ?_;intro p41 hp41;refine KR hS rfl (i:=2) rfl hp41 aG aU ?_;intro h' hS;simp only[dR,dY,dV] at hS;refine dA ?_;have hif:ixE O.rooms f=(O4 O.rooms f:Int):=if_pos hf;have hit:ixE O.rooms t=(O4 O.rooms t:Int):=if_pos ht;rw[hif,hit,fU] at hS;rw[Sx (by rw[wayP_keys ok.ll]; exact hw)] at hS;have hS1:=St.addNil 1 true (St.addNil 1 true (St.addNil 1 true hS));have hS2:=St.drop (A:=[_]) (St.perm (permN _ _ _ _) hS1);refine⟨{A with vn:=r39,la:=A.la ++ [⟨p30,.nils,.nils,.nils,true,true,true⟩]},rfl,⟨ok.po,ok.vw,ok.vp,ok.ve,?_,?_,ok.dl,ok.dok⟩,?_⟩;show(A.la ++ [_]).length=(O.ways ++ [_]).length;rw[dU,dU,ok.ll]; rfl;intro i hi;show LOk ((A.la ++ [_]).getD i default) ((O.ways ++ [_]).getD i default).2;have hi2:i<O.ways.length+1:=by
  have:i<(O.ways ++ [_]).length:=hi;rwa [dU,dQ] at this
 by_cases hlt:i<O.ways.length;rw[Xp _ (by rw[ok.ll]; exact hlt),Xp _ hlt];exact ok.lok i hlt;obtain rfl:i=O.ways.length:=by omega
 have e1:(A.la ++ [(⟨p30,.nils,.nils,.nils,true,true,true⟩:LA)]).getD O.ways.length default=⟨p30,.nils,.nils,.nils,true,true,true⟩:=by
  rw[←ok.ll]; simp
 have e2:∀ x:Str × Lane,(O.ways ++ [x]).getD O.ways.length default=x:=by intro x; simp
 rw[e1,e2];exact⟨hp30,fun _=>rfl,fun _=>rfl⟩;refine St.perm (fN (permW (KT ⟨p30,.nils,.nils,.nils,true,true,true⟩ ⟨O.ways.length,O4 O.rooms f,O4 O.rooms t,none,none,[],false⟩) [_,_,_,_,_,_,_] (KQ A.la O.ways) (Qe A.da O.packs) G) (gY ?_)) hS2;show _=Kt _ _ ++ G;unfold Kt;rw[show(O.tell (.way w f t)).ways=O.ways ++ [(w,⟨O.ways.length,O4 O.rooms f,O4 O.rooms t,none,none,[],false⟩)] from rfl,lanes_snoc _ _ _ _ ok.ll];unfold Xd;rw[show(O.tell (.way w f t)).ways=O.ways ++ [(w,⟨O.ways.length,O4 O.rooms f,O4 O.rooms t,none,none,[],false⟩)] from rfl,wayP_snoc ok.ll,dZ];rfl
theorem toldMod {h0 h : AHeap} {A : OA} {O : Off} {w : Str} {l : Lane} {a' : LA} {X OLD : Obj} {G : List Obj} {f : Lane → Lane} (ok : AOk A O) (nd : (O.ways.map (·.1)).Nodup) (hm : OE O.ways w = some l) (hap : a'.p = (QG A O w).p) (hlo : LOk a' (f l))
    (hS:St h0 h (KT a' (f l) ++ OLD::X::ZF A O w G)):∃ A2:OA,A2.po=A.po∧AOk A2 (O.mod w f)∧St h0 h (X::(Kt A2 (O.mod w f) ++ G)):=by
 refine⟨VD A O w a',rfl,Rn ok nd hm hlo,?_⟩;have h1:=St.drop (A:=[OLD]) (B:=KT a' (f l) ++ X::ZF A O w G) (St.perm (dW (l₁:=KT a' (f l))) hS);exact St.perm (dW.trans ((YG ok nd hm f hap G).cons X)) h1
theorem deck_ok {da:List AV} {n:Nat} {p:AV} (hl:da.length=n) (h:∀ i,i<n→AddrOf (da.getD i .bot) (da.getD i .bot) 0 0) (hp:AddrOf p p 0 0):∀ i,i<n+1→AddrOf ((da ++ [p]).getD i .bot) ((da ++ [p]).getD i .bot) 0 0:=by
 intro i hi;by_cases hlt:i<n;rw[Xp _ (by rw[hl]; exact hlt)]; exact h i hlt;obtain rfl:i=n:=by omega
 have e1:(da ++ [p]).getD i .bot=p:=by rw[←hl]; simp
 rw[e1]; exact hp
theorem Pr {h0 h:AHeap} {A:OA} {O:Off} {G:List Obj} (st:St h0 h (Kt A O ++ G)) (ok:AOk A O) (hW:WF O) {w:Str} {l:Lane} (hm:OE O.ways w=some l) {n:Int} {g:Bool}:ACalls Go.Proofs.Tryz.prog 294 [.agg [.str (wdQ w),.int .i64 n,.bool g],A.po] h (fun _ h'=>VI h0 A (O.tell (.bound w n g)) G h'):=by
 refine OK 13 [] Go.Proofs.Tryz.func294 rfl aE rfl rfl (dP rfl) ?_;have hS3:=St.perm (X0 ok hm G) st;have hla:LOk (QG A O w) l:=((St.roff st ok).way hm).ok;obtain⟨a,ha⟩:∃ a,QG A O w=a:=⟨_,rfl⟩;rw[ha] at hS3 hla;have hS:St h0 h (⟨a.p,0,[.int .i64 (l.pl:Int),.int .i64 (l.fr:Int),.int .i64 (l.to:Int),a.told,a.top,a.packs,.bool l.paid],true⟩::⟨a.told,1,ints l.told.toList,a.t1⟩::⟨a.top,1,ints l.top.toList,a.t2⟩::⟨a.packs,1,ints l.packs,a.t3⟩::⟨A.po,0,[A.vr,A.vn,A.vw,A.vp,A.ve,A.vc],true⟩::⟨A.vr,1,wcsQ O.rooms,true⟩::⟨A.vn,1,wcsQ (O.ways.map (·.1)),true⟩::dmapO A.vw (entL kstr idV (Q9 A.la O.ways))::dmapO A.vp (entL kintQ idV (K5 A.da O.packs))::dmapO A.ve (entL kintQ AV.bool (O.ever.map fun x=>(x,true)))::⟨A.vc,1,wcsQ O.claims,true⟩::(((KQ (A.la.eraseIdx (O4 (O.ways.map (·.1)) w)) (O.ways.eraseIdx (O4 (O.ways.map (·.1)) w)) ++ Qe A.da O.packs) ++ G))):=hS3;clear hS3;have hp20:=hW.packs;have hc12:=hW.claims;show KA _ 13 _ _ [(0,.agg [.str (wdQ w),.int .i64 n,.bool g]),(1,A.po)] _;refine be ?_;intro p2 h' hp2 hS;refine Oj [1,2] ?_;refine OQ [7] mixed rfl aB ?_;refine dK ?_;refine Oe ?_;refine bp ?_;intro p7 hp7;refine Of hp7 (hS.rd 5 rfl) rfl ?_;refine cZ ?_;intro p9 hp9;refine dF ?_;refine cW ?_;rw[Qz hm,ha];refine Oo rfl (chB_c hla (St.perm (dW (l₁:=KT a l) (l₂:=ZF A O w G)).symm hS)) ?_;rintro _ h9 ⟨a',N,OLD,hap,hlo,hS9,_⟩;refine dA ?_;obtain⟨A2,hpo,ok2,hS2⟩:=toldMod ok hW.nd hm (hap.trans (by rw[ha])) hlo hS9;exact⟨A2,hpo,ok2,St.drop (A:=[_]) hS2⟩
theorem tellPack_c {h0 h:AHeap} {A:OA} {O:Off} {G:List Obj} (st:St h0 h (Kt A O ++ G)) (ok:AOk A O) (hW:WF O) {w:Str} {l:Lane} (hm:OE O.ways w=some l) {p:Int} (hp:p ∉ O.packs.map (·.1)) (he:p ∉ O.ever):ACalls Go.Proofs.Tryz.prog 300 [.agg [.int .i64 p,.str (wdQ w)],A.po] h (fun _ h'=>VI h0 A (O.tell (.pack p w)) G h'):=by
 refine OK 29 [] Go.Proofs.Tryz.func300 rfl aE rfl rfl (dP rfl) ?_;have hS3:=St.perm (X0 ok hm G) st;have hla:LOk (QG A O w) l:=((St.roff st ok).way hm).ok;obtain⟨a,ha⟩:∃ a,QG A O w=a:=⟨_,rfl⟩;rw[ha] at hS3 hla;have hS:St h0 h (⟨a.p,0,[.int .i64 (l.pl:Int),.int .i64 (l.fr:Int),.int .i64 (l.to:Int),a.told,a.top,a.packs,.bool l.paid],true⟩::⟨a.told,1,ints l.told.toList,a.t1⟩::⟨a.top,1,ints l.top.toList,a.t2⟩::⟨a.packs,1,ints l.packs,a.t3⟩::⟨A.po,0,[A.vr,A.vn,A.vw,A.vp,A.ve,A.vc],true⟩::⟨A.vr,1,wcsQ O.rooms,true⟩::⟨A.vn,1,wcsQ (O.ways.map (·.1)),true⟩::dmapO A.vw (entL kstr idV (Q9 A.la O.ways))::dmapO A.vp (entL kintQ idV (K5 A.da O.packs))::dmapO A.ve (entL kintQ AV.bool (O.ever.map fun x=>(x,true)))::⟨A.vc,1,wcsQ O.claims,true⟩::(((KQ (A.la.eraseIdx (O4 (O.ways.map (·.1)) w)) (O.ways.eraseIdx (O4 (O.ways.map (·.1)) w)) ++ Qe A.da O.packs) ++ G))):=hS3;clear hS3;have hp20:=hW.packs;have hc12:=hW.claims;show KA _ 29 _ _ [(0,.agg [.int .i64 p,.str (wdQ w)]),(1,A.po)] _;refine be ?_;intro p2 h' hp2 hS;refine Oj [1,2] ?_;refine Ou ?_;refine OQ [7] mixed rfl aB ?_;refine dK ?_;refine Oe ?_;refine bp ?_;intro p7 hp7;refine Of hp7 (hS.rd 5 rfl) rfl ?_;refine cZ ?_;intro p9 hp9;refine dF ?_;refine cW ?_;rw[Qz hm,ha];refine Oo rfl (chP_c hla (by have:=hW.lpM hm; omega) (St.perm (dW (l₁:=KT a l) (l₂:=ZF A O w G)).symm hS)) ?_;rintro _ h9 ⟨a',N,OLD,hap,hlo,hS9,_⟩;obtain⟨A2,hpo,ok2,hS2⟩:=toldMod ok hW.nd hm (hap.trans (by rw[ha])) hlo hS9;clear hS hS9;rw[←hpo];have hS:St h0 h9 (_::⟨A2.po,0,[A2.vr,A2.vn,A2.vw,A2.vp,A2.ve,A2.vc],true⟩::⟨A2.vr,1,wcsQ (O.mod w (chP p)).rooms,true⟩::⟨A2.vn,1,wcsQ ((O.mod w (chP p)).ways.map (·.1)),true⟩::dmapO A2.vw (entL kstr idV (Q9 A2.la (O.mod w (chP p)).ways))::dmapO A2.vp (entL kintQ idV (K5 A2.da (O.mod w (chP p)).packs))::dmapO A2.ve (entL kintQ AV.bool ((O.mod w (chP p)).ever.map fun x=>(x,true)))::⟨A2.vc,1,wcsQ (O.mod w (chP p)).claims,true⟩::((KQ A2.la (O.mod w (chP p)).ways ++ Qe A2.da (O.mod w (chP p)).packs) ++ G)):=hS2;refine Oj [1,2] ?_;refine cV ?_;refine Ox ok2.po ?_;refine Ob ok2.po ?_;intro p15 hp15;refine Of hp15 (hS.rd 1 rfl) rfl ?_;refine cZ ?_;intro p17 hp17;refine Of hp17 (hS.rd 0 rfl) rfl ?_;refine cZ ?_;intro p19 hp19;refine Of hp19 (hS.rd 0 rfl) rfl ?_;refine cE ?_;refine OH hS aD ?_;intro p22 h' hp22 hS;refine KOps.putD (kf:=kintQ) (vf:=idV) (a:=p) (b:=p22) (i:=6) EvK.eq rfl hS ok2.vp rfl rfl ?_;intro h' hS;simp only[dR,dY,dV] at hS;refine Oj [1,2] ?_;refine OQ [] mixed rfl aB ?_;refine Oe ?_;refine Ox ok2.po ?_;refine Ob ok2.po ?_;intro p25 hp25;refine Of hp25 (hS.rd 2 rfl) rfl ?_;refine cZ ?_;intro p27 hp27;refine Of hp27 (hS.rd 1 rfl) rfl ?_;refine KOps.putD (kf:=kintQ) (vf:=AV.bool) (a:=p) (b:=true) (i:=7) EvK.eq rfl hS ok2.ve rfl rfl ?_;intro h' hS;simp only[dR,dY,dV] at hS;refine dA ?_;rw[Sx (l:=K5 A2.da (O.mod w (chP p)).packs) (by rw[Jz ok2.dl]; exact hp),mput_set (show p ∉ (O.mod w (chP p)).ever from he)] at hS;refine⟨{A2 with da:=A2.da ++ [p22]},hpo,⟨ok2.po,ok2.vw,ok2.vp,ok2.ve,ok2.ll,ok2.lok,?_,?_⟩,?_⟩;show(A2.da ++ [_]).length=(O.packs ++ [_]).length;rw[dU,dU,ok2.dl]; rfl;intro i hi;have hi2:i<O.packs.length+1:=by
  have:i<(O.packs ++ [_]).length:=hi;rwa [dU,dQ] at this
 exact deck_ok ok2.dl ok2.dok hp22 i hi2;have hS5:=St.drop (A:=[_]) (St.perm (gC _ _ _) hS);refine St.perm (fN (permD [(⟨p22,0,[.str (wdQ w),.int .i64 1],true⟩:Obj)] [_,_,_,_,_,_,_] (KQ A2.la (O.mod w (chP p)).ways) (Qe A2.da (O.mod w (chP p)).packs) G) (gY ?_)) hS5;show _=Kt _ _ ++ G;unfold Kt;rw[show(O.tell (.pack p w)).packs=(O.mod w (chP p)).packs ++ [(p,(w,1))] from rfl,deck_snoc _ _ _ _ ok2.dl];unfold Xd;rw[show(O.tell (.pack p w)).packs=(O.mod w (chP p)).packs ++ [(p,(w,1))] from rfl,packE_snoc ok2.dl];rfl
end Go.Am
namespace Go.Am
theorem permF {α:Type} (x y n : α) (F:List α):((([x,y] ++ F) ++ [n]) ++ [n]).Perm (x::n::n::y::F):=by
 have e:(([x,y] ++ F) ++ [n]) ++ [n]=x::((y::F) ++ [n,n]):=by simp
 rw[e];exact gD x fI
theorem Ps {h0 h:AHeap} {A:OA} {O:Off} {G:List Obj} (st:St h0 h (Kt A O ++ G)) (ok:AOk A O) (hW:WF O) {w:Str} {l:Lane} (hm:OE O.ways w=some l) {n:Int}:ACalls Go.Proofs.Tryz.prog 306 [.agg [.str (wdQ w),.int .i64 n],A.po] h (fun _ h'=>VI h0 A (O.tell (.claim w n)) G h'):=by
 refine OK 32 [] Go.Proofs.Tryz.func306 rfl aE rfl rfl (dP rfl) ?_;have hS3:=St.perm (X0 ok hm G) st;have hla:LOk (QG A O w) l:=((St.roff st ok).way hm).ok;obtain⟨a,ha⟩:∃ a,QG A O w=a:=⟨_,rfl⟩;rw[ha] at hS3 hla;have hS:St h0 h (⟨a.p,0,[.int .i64 (l.pl:Int),.int .i64 (l.fr:Int),.int .i64 (l.to:Int),a.told,a.top,a.packs,.bool l.paid],true⟩::⟨a.told,1,ints l.told.toList,a.t1⟩::⟨a.top,1,ints l.top.toList,a.t2⟩::⟨a.packs,1,ints l.packs,a.t3⟩::⟨A.po,0,[A.vr,A.vn,A.vw,A.vp,A.ve,A.vc],true⟩::⟨A.vr,1,wcsQ O.rooms,true⟩::⟨A.vn,1,wcsQ (O.ways.map (·.1)),true⟩::dmapO A.vw (entL kstr idV (Q9 A.la O.ways))::dmapO A.vp (entL kintQ idV (K5 A.da O.packs))::dmapO A.ve (entL kintQ AV.bool (O.ever.map fun x=>(x,true)))::⟨A.vc,1,wcsQ O.claims,true⟩::(((KQ (A.la.eraseIdx (O4 (O.ways.map (·.1)) w)) (O.ways.eraseIdx (O4 (O.ways.map (·.1)) w)) ++ Qe A.da O.packs) ++ G))):=hS3;clear hS3;have hp20:=hW.packs;have hc12:=hW.claims;show KA _ 32 _ _ [(0,.agg [.str (wdQ w),.int .i64 n]),(1,A.po)] _;refine be ?_;intro p2 h' hp2 hS;refine Oj [1,2] ?_;refine cV ?_;refine bp ?_;intro p7 hp7;refine Of hp7 (hS.rd 5 rfl) rfl ?_;refine cZ ?_;intro p9 hp9;refine dF ?_;refine cW ?_;rw[Qz hm,ha];refine Oa [1,2,4] ?_;refine Ou ?_;refine KA.drawSA (c:=7) (r:=3) (j:=4) (t:=3) (a:=14) (d:=15) (e:=16) [] mixed rfl rfl rfl rfl rfl aB rfl rfl rfl aE aE aE aB rfl rfl rfl rfl aE aB ?_;refine Oc ?_;refine cZ ?_;intro p14 hp14;refine Of hp14 (hS.rd 0 rfl) rfl ?_;refine b5 ?_;intro v16 h' hS;refine Og ?_;refine Ox hla.ad ?_;refine Ob hla.ad ?_;intro p18 hp18;have hapt:=St.apart hS (i:=2) (k:=0) rfl rfl aE hp18 aK (Nat.succ_pos 0);refine KOps.storeG hS rfl (i:=2) rfl hp18 rfl aK ?_;intro h' hG hS;simp only[dR,dY,dV] at hS;refine KOps.doneSA rfl rfl rfl hp14 (hS.rd 1 rfl) rfl (hG _ hapt) ?_;refine Ox hla.ad ?_;refine Ob hla.ad ?_;intro p20 hp20;refine KR hS rfl (i:=2) rfl hp20 (St.one hS (k:=0) rfl) aU ?_;intro h' hS;simp only[dR,dY,dV] at hS;refine Oj [1,2] ?_;refine OQ [8] mixed rfl aB ?_;refine Oc ?_;refine bp ?_;intro p24 hp24;refine Of hp24 (hS.rd 6 rfl) rfl ?_;refine cZ ?_;intro p26 hp26;refine Of hp26 (hS.rd 1 rfl) rfl ?_;refine b5 ?_;intro v28 h' hS;refine KOps.appendW1 hS (fun _=>rfl) (i:=12) rfl aC ?_;intro r29 h' hr29 hS;refine bp ?_;intro p31 hp31;refine KR hS rfl (i:=6) rfl hp31 aG aU ?_;intro h' hS;simp only[dR,dY,dV] at hS;refine dA ?_;have hP:=St.pickF (A:=[_,_,_,_,_,_]) (A':=[_,_,_,_]) 6 [2,0,4,5] rfl aE aE rfl hS;have ok1:AOk {A with vc:=r29} {O with claims:=O.claims ++ [w]}:=⟨ok.po,ok.vw,ok.vp,ok.ve,ok.ll,ok.lok,ok.dl,ok.dok⟩;have hu:=YG (A:={A with vc:=r29}) (O:={O with claims:=O.claims ++ [w]}) ok1 hW.nd hm (fun l=>{l with paid:=true,told:=some n}) (a:={a with told:=v16,t1:=true}) (by show a.p=(QG A O w).p; rw[ha]) G;exact⟨VD {A with vc:=r29} {O with claims:=O.claims ++ [w]} w {a with told:=v16,t1:=true},rfl,Rn ok1 hW.nd hm (f:=fun l=>{l with paid:=true,told:=some n}) ⟨hla.ad,nofun,hla.top⟩,St.perm hu hP⟩
theorem tellFree_c {h0 h:AHeap} {A:OA} {O:Off} {G:List Obj} (st:St h0 h (Kt A O ++ G)) (ok:AOk A O) (hW:WF O) {w:Str} {l:Lane} (hm:OE O.ways w=some l) :ACalls Go.Proofs.Tryz.prog 308 [.agg [.str (wdQ w)],A.po] h (fun _ h'=>VI h0 A (O.tell (.free w)) G h'):=by
 refine OK 22 [] Go.Proofs.Tryz.func308 rfl aE rfl rfl (dP rfl) ?_;have hS3:=St.perm (X0 ok hm G) st;have hla:LOk (QG A O w) l:=((St.roff st ok).way hm).ok;obtain⟨a,ha⟩:∃ a,QG A O w=a:=⟨_,rfl⟩;rw[ha] at hS3 hla;have hS:St h0 h (⟨a.p,0,[.int .i64 (l.pl:Int),.int .i64 (l.fr:Int),.int .i64 (l.to:Int),a.told,a.top,a.packs,.bool l.paid],true⟩::⟨a.told,1,ints l.told.toList,a.t1⟩::⟨a.top,1,ints l.top.toList,a.t2⟩::⟨a.packs,1,ints l.packs,a.t3⟩::⟨A.po,0,[A.vr,A.vn,A.vw,A.vp,A.ve,A.vc],true⟩::⟨A.vr,1,wcsQ O.rooms,true⟩::⟨A.vn,1,wcsQ (O.ways.map (·.1)),true⟩::dmapO A.vw (entL kstr idV (Q9 A.la O.ways))::dmapO A.vp (entL kintQ idV (K5 A.da O.packs))::dmapO A.ve (entL kintQ AV.bool (O.ever.map fun x=>(x,true)))::⟨A.vc,1,wcsQ O.claims,true⟩::(((KQ (A.la.eraseIdx (O4 (O.ways.map (·.1)) w)) (O.ways.eraseIdx (O4 (O.ways.map (·.1)) w)) ++ Qe A.da O.packs) ++ G))):=hS3;clear hS3;have hp20:=hW.packs;have hc12:=hW.claims;show KA _ 22 _ _ [(0,.agg [.str (wdQ w)]),(1,A.po)] _;refine be ?_;intro p2 h' hp2 hS;refine Oj [1,2] ?_;refine OQ [6,13] mixed rfl aB ?_;refine Oe ?_;refine bp ?_;intro p6 hp6;refine Of hp6 (hS.rd 5 rfl) rfl ?_;refine cZ ?_;intro p8 hp8;refine Of hp8 (hS.rd 0 rfl) rfl ?_;refine cW ?_;rw[Qz hm,ha];refine Oe ?_;refine bp ?_;intro p13 hp13;refine Of hp13 (hS.rd 5 rfl) rfl ?_;refine cZ ?_;intro p15 hp15;refine Of hp15 (hS.rd 0 rfl) rfl ?_;refine cW ?_;rw[Qz hm,ha];refine Ox hla.ad ?_;refine Ob hla.ad ?_;intro p19 hp19;refine KR hS rfl (i:=1) rfl hp19 aG aU ?_;intro h' hS;simp only[dR,dY,dV] at hS;refine Ox hla.ad ?_;refine Ob hla.ad ?_;intro p21 hp21;refine KR hS rfl (i:=1) rfl hp21 aG aU ?_;intro h' hS;simp only[dR,dY,dV] at hS;refine dA ?_;have hP:=St.pickF (A:=[_,_,_,_,_]) (A':=[_,_]) 5 [1,4] rfl aE aE rfl hS;have hP2:=St.perm (permF _ _ _ _) (St.addNil 1 true (St.addNil 1 true hP));have hu:=YG ok hW.nd hm (fun l=>{l with told:=none,top:=none}) (a:={a with told:=.nils,top:=.nils,t1:=true,t2:=true}) (by show a.p=(QG A O w).p; rw[ha]) G;exact⟨VD A O w {a with told:=.nils,top:=.nils,t1:=true,t2:=true},rfl,Rn ok hW.nd hm (f:=fun l=>{l with told:=none,top:=none}) ⟨hla.ad,fun _=>rfl,fun _=>rfl⟩,St.perm hu hP2⟩
end Go.Am
namespace Go.Am
def Xe (p:Int) (l:List Int):List Int:=l.filter fun q=>!decide (q=p)
theorem outP_no {p:Int} {l:List Int} (h:p ∉ l):Xe p l=l:=by
 unfold Xe;rw[List.filter_eq_self];intro q hq;have:q≠p:=fun e=>h (e ▸ hq)
 simp[this]
theorem outP_ix {p:Int}:∀ {l:List Int},p∈l→Xe p (l.take (O4 l p+1))=l.take (O4 l p):=by
 intro l
 induction l with
 | nil=>intro h; cases h
 | cons a l ih=>
  intro h;simp only[O4];by_cases e:p=a;subst e;rw[if_pos rfl];simp[Xe];rw[if_neg e,fT,fT];have hm:p∈l:=(fJ.1 h).resolve_left e;have:=ih hm;unfold Xe at this⊢;rw[List.filter_cons_of_pos (by simp; exact fun e2=>e e2.symm),this]
theorem Tv {p:Int} {l:List Int} {j:Nat} (h:j<l.length):Xe p (l.take (j+1))=if l.getD j 0=p then Xe p (l.take j) else Xe p (l.take j) ++ [l.getD j 0]:=by
 unfold Xe;rw[fZ,dS h,dO,dS h,List.filter_append];by_cases e:l[j]=p;simp[e];simp[e]
theorem Tx {l m:List Int} {j:Nat} (hml:m.length=l.length) (hj:j<l.length) (hd:m.drop j=l.drop j):m.getD j 0=l.getD j 0∧m.drop (j+1)=l.drop (j+1):=by
 have h1:=fK (l:=m) (i:=j) aA;have h2:=fK (l:=l) (i:=j) hj;rw[h1,h2,List.cons.injEq] at hd;refine⟨?_,hd.2⟩;rw[dO,dO,dS hj,dS aA,hd.1]
theorem TL {m:List Int} {i:Nat} {a:Int} (h:i<m.length):(m.set i a).take (i+1)=m.take i ++ [a]:=by
 rw[fZ,List.take_set_of_le (fP _),fQ h];rfl
def ixI (l:List Int) (p:Int):Int:=if p∈l then (O4 l p:Int) else -1
theorem isPack_c {h:AHeap} {p2:AV} {p s x:Int} (ha:AddrOf p2 p2 0 0) (hr:Rd h p2 0 [.int .i64 p,.int .i64 s]):ACalls Go.Proofs.Tryz.prog 305 [.int .i64 x,p2] h (fun q h'=>q = .bool (decide (x=p))∧h=h'):=by
 refine OK 8 [.tmp 3] Go.Proofs.Tryz.func305 rfl aE rfl rfl (dP rfl) ?_;show KA _ 8 _ _ [(0,.int .i64 x),(1,p2)] _;refine b6 ?_;refine Ob ha ?_;intro p5 hp5;refine Of hp5 hr rfl ?_;refine Oa [3] ?_;refine Oi ?_;exact⟨rfl,rfl⟩
theorem indexP_c {h:AHeap} {v p2:AV} {l:List Int} {p:Int} (hv:Row h v l) (hl:l.length≤1000000) (hf:∀ q,ACalls Go.Proofs.Tryz.prog 305 [.int .i64 q,p2] h (fun r h'=>r = .bool (decide (q=p))∧h=h')):ACalls Go.Proofs.Tryz.prog 116 [v,.fn 305 [p2]] h (fun q h'=>q = .int .i64 (ixI l p)∧h=h'):=by
 refine OK 19 [.tmp 4] Go.Proofs.Tryz.func116 rfl aE rfl rfl (dP rfl) ?_;show KA _ 19 _ _ [(0,v),(1,.fn 305 [p2])] _;refine b6 ?_;refine Kv hv ?_;refine Oa [0,1,7,8] ?_;refine Oz ?_;refine Kd (X:=Nat) (fun i=>[(0,v),(1,.fn 305 [p2]),(7,.int .i64 (l.length:Int)),(8,.int .i64 (i:Int))]) (fun i h'=>i≤l.length∧(∀ j,j<i→j<l.length→l.getD j 0≠p)∧h=h') (fun i=>l.length - i) 0 ?_ ?_;exact⟨Nat.zero_le _,fun j hj=>by omega,rfl⟩;rintro i h2 ⟨hi,hno,rfl⟩;refine bg ?_;refine On ?_ ?_
 ·intro c9;refine ct ?_;refine Oy hv (j:=i) rfl aC ?_;intro p14 hp14;refine OS hp14 hv aC ?_;refine Oo rfl (hf _) ?_;rintro _ _ ⟨rfl,rfl⟩;refine Oj [0,1,5,7,8,16] ?_;refine On ?_ ?_;intro c16;refine ba ?_;have hlt:i<l.length:=by omega
  have hx:p=l[i]:=by rw[←c16,dO,dS hlt]; rfl
  have hix:=ixOf_no hlt hx (fun j hj he=>hno j hj aA (by rw[dO,dS (show j<l.length by omega)]; exact he.symm));have hm:p∈l:=by rw[hx]; exact List.getElem_mem hlt
  refine⟨?_,rfl⟩;unfold ixI;rw[if_pos hm,hix];intro c16;refine bd ?_;refine Ow [0,1,7,8] ?_;refine bX ?_;refine lpN (i+1) ⟨by omega,?_,rfl⟩ aA;intro j hj hjl;rcases Nat.lt_succ_iff_lt_or_eq.1 hj with h3|rfl
  exact hno j h3 hjl;exact c16
 intro c9;refine bx ?_;have hm:p ∉ l:=by
  intro hm;obtain⟨j,hj,he⟩:=List.getElem_of_mem hm;exact hno j aA hj (by rw[dO,dS hj]; exact he)
 refine⟨?_,rfl⟩;unfold ixI;rw[if_neg hm]
theorem deleteP_c {h0 h:AHeap} {v p2:AV} {l:List Int} {p:Int} {tip:Bool} {F:List Obj} (hl:l.length≤1000000) (st:St h0 h (⟨v,1,ints l,tip⟩::F)) (hf:∀ {h:AHeap} {xs:List AV},St h0 h (⟨v,1,xs,tip⟩::F)→∀ x,ACalls Go.Proofs.Tryz.prog 305 [.int .i64 x,p2] h (fun r h'=>r = .bool (decide (x=p))∧h=h')):ACalls Go.Proofs.Tryz.prog 304 [v,.fn 305 [p2]] h (fun r h'=>∃ tip',St h0 h' (⟨r,1,ints (Xe p l),tip'⟩::F)):=by
 refine OK 42 [.tmp 4] Go.Proofs.Tryz.func304 rfl aE rfl rfl (dP rfl) ?_;have hS:=st;show KA _ 42 _ _ [(0,v),(1,.fn 305 [p2])] _;refine b6 ?_;refine Oo rfl (indexP_c (hS.rd 0 rfl) hl (hf hS)) ?_;rintro _ _ ⟨rfl,rfl⟩;refine Oa [0,1,5] ?_;refine Oa [0,1,5,12] ?_;refine On ?_ ?_;intro c12;have hm:p ∉ l:=by
  intro hm;unfold ixI at c12;rw[if_pos hm] at c12;omega
 refine ba ?_;rw[outP_no hm]; exact⟨tip,hS⟩
 ·intro c12;have hm:p∈l:=by
   refine Decidable.byContradiction fun hm=>c12 ?_
   unfold ixI;rw[if_neg hm]
  have hix:ixI l p=(O4 l p:Int):=if_pos hm;have hil:=Y9 hm;simp only[hix];refine OD [0,1,5] ?_;refine Oa [0,1,5,6] ?_;refine Oz ?_;refine Kd (X:=Nat × Nat × List Int) (fun x=>[(0,v),(1,.fn 305 [p2]),(5,.int .i64 (x.1:Int)),(6,.int .i64 (x.2.1:Int))]) (fun x h'=>x.1<x.2.1∧x.2.1≤l.length∧x.2.2.length=l.length∧x.2.2.take x.1=Xe p (l.take x.2.1)∧(Xe p (l.take x.2.1)).length=x.1∧x.2.2.drop x.2.1=l.drop x.2.1∧St h0 h' (⟨v,1,ints x.2.2,tip⟩::F)) (fun x=>l.length - x.2.1) (O4 l p,O4 l p+1,l) ?_ ?_;exact⟨Nat.lt_succ_self _,hil,rfl,(outP_ix hm).symm,by rw[outP_ix hm,gI]; omega,rfl,hS⟩;rintro⟨i,j,m⟩ h2 ⟨hij,hj,hml,hmt,hoi,hmd,hS⟩;dsimp only at hij hj hml hmt hoi hmd hS⊢;refine Oc ?_;refine Kv (hS.rd 0 rfl) ?_;refine Oa [0,1,5,6,19] ?_;refine On ?_ ?_
  ·intro c19;have hj2:j<l.length:=by omega
   refine OD [0,1,5,6] ?_;refine bj ?_;refine Oc ?_;refine Oy (hS.rd 0 rfl) (j:=j) rfl aC ?_;intro p24 hp24;refine OS hp24 (hS.rd 0 rfl) aC ?_;refine Oa [0,1,5,6,7] ?_;refine Oc ?_;refine Oo rfl (hf hS _) ?_;rintro _ _ ⟨rfl,rfl⟩;refine Oa [0,1,5,6,7,29] ?_;refine Kk ?_ ?_
   ·intro c29;refine Oc ?_;refine Oy (hS.rd 0 rfl) (j:=i) rfl aC ?_;intro p33 hp33;refine Zz hS rfl (i:=0) rfl hp33 aC ?_;intro h' hS;refine Oj [0,1,5,6] ?_;refine ce ?_;refine Od ?_;refine Ow [0,1,5,6] ?_;refine bX ?_;obtain⟨e1,e2⟩:=Tx hml hj2 hmd;rw[e1] at c29 hS;have e3:=Tv (p:=p) hj2;rw[if_neg c29] at e3;refine lpN (i+1,j+1,m.set i (l.getD j 0)) ⟨?_,?_,?_,?_,?_,?_,hS⟩ aJ;dsimp only; omega;dsimp only; omega;dsimp only; rw[fF]; exact hml;dsimp only;rw[e3,←hmt,TL aA];dsimp only;rw[e3,dU,hoi]; rfl;dsimp only;rw[List.drop_set_of_lt aA]; exact e2
   intro c29;refine bd ?_;refine Ow [0,1,5,6] ?_;refine bX ?_;obtain⟨e1,e2⟩:=Tx hml hj2 hmd;rw[e1] at c29;have e3:=Tv (p:=p) hj2;rw[if_pos c29] at e3;refine lpN (i,j+1,m) ⟨?_,?_,hml,?_,?_,e2,hS⟩ aJ;dsimp only; omega;dsimp only; omega;dsimp only; rw[e3]; exact hmt;dsimp only; rw[e3]; exact hoi
  intro c19;refine bS ?_;refine Ow [0,5] ?_;refine Oc ?_;refine KOps.sliceLo (hS.rd 0 rfl) (m:=m.length) aK aA aA ?_;intro v38 hv38;rw[Int.toNat_natCast] at hv38;refine KOps.clearI0 aB hS rfl (i:=0) rfl (j:=i) aA hv38 ?_;intro h' hS;simp only[dR,dY,dV] at hS;refine Oj [0,5] ?_;refine Oc ?_;refine KOps.shrinkI hS (i:=0) rfl (m:=i) rfl aY ?_;intro r41 hr41 hS;refine ba ?_;have hje:j=l.length:=by omega
  subst hje;rw[List.take_of_length_le (fP _)] at hmt;have e5:(m.take i ++ List.replicate (m.length - i) 0).take i=m.take i:=by
   rw[List.take_append_of_le_length (by rw[gI]; omega),List.take_take,fV]
  rw[e5,hmt] at hS;exact⟨false,hS⟩
end Go.Am
namespace Go.Am
theorem mput_at {κ ν:Type} [DecidableEq κ]:∀ {l:List (κ × ν)} {k : κ} (v : ν),k∈l.map (·.1)→Qn l k v=l.set (O4 (l.map (·.1)) k) (k,v):=by
 intro l
 induction l with
 | nil=>intro k v h; cases h
 | cons p l ih=>
  intro k v h;simp only[Qn,fH,O4];by_cases e:k=p.1;rw[if_pos e,if_pos e]; rfl;rw[if_neg e,if_neg e,dY,ih v ((fJ.1 h).resolve_left e)]
theorem mdel_at {κ ν:Type} [DecidableEq κ]:∀ {l:List (κ × ν)} {k : κ},k∈l.map (·.1)→Jv l k=l.eraseIdx (O4 (l.map (·.1)) k):=by
 intro l
 induction l with
 | nil=>intro k h; cases h
 | cons p l ih=>
  intro k h;simp only[Jv,fH,O4];by_cases e:k=p.1;rw[if_pos e,if_pos e]; rfl;rw[if_neg e,if_neg e,fC,ih ((fJ.1 h).resolve_left e)]
theorem zip_erase {α β:Type}:∀ (l:List α) (m:List β) (i:Nat),l.length=m.length→(l.zip m).eraseIdx i=(l.eraseIdx i).zip (m.eraseIdx i):=by
 intro l
 induction l with
 | nil=>intro m i h; cases m with
  | nil=>rfl
  | cons b m=>simp at h
 | cons a l ih=>intro m i h; cases m with
  | nil=>simp at h
  | cons b m=>cases i with
   | zero=>rfl
   | succ i=>simp only[List.zip_cons_cons,fC,ih m i (by simpa using h)]
def jx (O:Off) (p:Int):Nat:=O4 (O.packs.map (·.1)) p
theorem eraseIdx_map' {α β:Type} (f : α→β):∀ (l:List α) (i:Nat),(l.eraseIdx i).map f=(l.map f).eraseIdx i:=by
 intro l
 induction l with
 | nil=>intro i; rfl
 | cons a l ih=>intro i; cases i with
  | zero=>rfl
  | succ i=>simp only[fC,fH,ih]
theorem getD_erase {α:Type} {l:List α} {i j:Nat} {d : α}:(l.eraseIdx j).getD i d=if i<j then l.getD i d else l.getD (i+1) d:=by
 rw[dO,List.getElem?_eraseIdx,dO,dO];split <;> rfl
theorem Rk {O:Off} {p:Int} {d:Str × Int} (hm:OE O.packs p=some d):O.tell (.move p 0)=({O with packs:=O.packs.eraseIdx (O4 (O.packs.map (·.1)) p)}:Off).mod d.1 (fun l=>{l with packs:=Xe p l.packs}):=by
 have hk:p∈O.packs.map (·.1):=by
  obtain⟨_,_,hx⟩:=XV hm;exact fY.2 ⟨_,dX hx,rfl⟩
 unfold Off.tell;dsimp only;rw[hm];dsimp only;rw[if_pos rfl,mdel_at hk];rfl
theorem Rl {O:Off} {p s:Int} {d:Str × Int} (hm:OE O.packs p=some d) (hs:s≠0):O.tell (.move p s) = {O with packs:=O.packs.set (O4 (O.packs.map (·.1)) p) (p,(d.1,s))}:=by
 have hk:p∈O.packs.map (·.1):=by
  obtain⟨_,_,hx⟩:=XV hm;exact fY.2 ⟨_,dX hx,rfl⟩
 unfold Off.tell;dsimp only;rw[hm];dsimp only;rw[if_neg hs,mput_at _ hk]
theorem Pj {A:OA} {O:Off} (hl:A.da.length=O.packs.length) (j:Nat):K5 (A.da.eraseIdx j) (O.packs.eraseIdx j)=(K5 A.da O.packs).eraseIdx j:=by
 unfold K5;rw[zip_erase _ _ _ bE];rw[eraseIdx_map']
theorem JI {ps:List (Int × (Str × Int))} {j:Nat} {x y:Int × (Str × Int)} (h:ps[j]? = some x) (e:y.1=x.1):(ps.set j y).map (·.1)=ps.map (·.1):=by
 rw[List.map_set,e];apply List.ext_getElem?;intro i;rw[gA];split;rename_i hi;subst hi;have hlt:=(fL.1 h).1;rw[if_pos (by simpa using hlt),fX,h];rfl;rfl
def base2 (A:OA) (O:Off) (w:Str) (j:Nat):List Obj:=Xd A O ++ (KQ (A.la.eraseIdx (O4 (O.ways.map (·.1)) w)) (O.ways.eraseIdx (O4 (O.ways.map (·.1)) w)) ++ Qe (A.da.eraseIdx j) (O.packs.eraseIdx j))
theorem W8 {A : OA} {O : Off} (ok : AOk A O) {w : Str} {l : Lane} (hm : OE O.ways w = some l) {j : Nat} {p : Int} {d : Str × Int} (hj : O.packs[j]? = some (p, d)) (G : List Obj) :
    (Kt A O ++ G).Perm (⟨A.da.getD j .bot,0,[.str (wdQ d.1),.int .i64 d.2],true⟩::(KT (QG A O w) l ++ (base2 A O w j ++ G))):=by
 have h1:=W7 ok hm;have hlt:=(fL.1 hj).1;have h2:=WH A.da O.packs j ok.dl hlt;rw[show O.packs.getD j default=(p,d) by rw[dO,hj]; rfl] at h2;refine(fA G h1).trans ?_;unfold Jj base2;have h3:(Xd A O ++ (KQ (A.la.eraseIdx (O4 (O.ways.map (·.1)) w)) (O.ways.eraseIdx (O4 (O.ways.map (·.1)) w)) ++ Qe A.da O.packs)).Perm (⟨A.da.getD j .bot,0,[.str (wdQ d.1),.int .i64 d.2],true⟩::(Xd A O ++ (KQ (A.la.eraseIdx (O4 (O.ways.map (·.1)) w)) (O.ways.eraseIdx (O4 (O.ways.map (·.1)) w)) ++ Qe (A.da.eraseIdx j) (O.packs.eraseIdx j)))):=by
  refine(fO _ (fO _ h2)).trans ?_;refine(fO _ dW).trans ?_;exact dW
 refine(fA G (fO _ h3)).trans ?_;rw[dT];exact dW
theorem tellMove_c {h0 h:AHeap} {A:OA} {O:Off} {G:List Obj} (st:St h0 h (Kt A O ++ G)) (ok:AOk A O) (hW:WF O) {p s:Int} {d:Str × Int} {l:Lane} (hm:OE O.packs p=some d) (hm2:OE O.ways d.1=some l):ACalls Go.Proofs.Tryz.prog 302 [.agg [.int .i64 p,.int .i64 s],A.po] h (fun _ h'=>VI h0 A (O.tell (.move p s)) G h'):=by
 refine OK 46 [] Go.Proofs.Tryz.func302 rfl aE rfl rfl (dP rfl) ?_;obtain⟨hjl,hjg,hjx⟩:=XV hm;have hS3:=St.perm (W8 ok hm2 hjx G) st;have hla:LOk (QG A O d.1) l:=((St.roff st ok).way hm2).ok;have hda:AddrOf (Jo A O p) (Jo A O p) 0 0:=((St.roff st ok).pack hm).1;obtain⟨a,ha⟩:∃ a,QG A O d.1=a:=⟨_,rfl⟩;rw[ha] at hS3 hla;have hS:St h0 h (⟨Jo A O p,0,[.str (wdQ d.1),.int .i64 d.2],true⟩::⟨a.p,0,[.int .i64 (l.pl:Int),.int .i64 (l.fr:Int),.int .i64 (l.to:Int),a.told,a.top,a.packs,.bool l.paid],true⟩::⟨a.told,1,ints l.told.toList,a.t1⟩::⟨a.top,1,ints l.top.toList,a.t2⟩::⟨a.packs,1,ints l.packs,a.t3⟩::⟨A.po,0,[A.vr,A.vn,A.vw,A.vp,A.ve,A.vc],true⟩::⟨A.vr,1,wcsQ O.rooms,true⟩::⟨A.vn,1,wcsQ (O.ways.map (·.1)),true⟩::dmapO A.vw (entL kstr idV (Q9 A.la O.ways))::dmapO A.vp (entL kintQ idV (K5 A.da O.packs))::dmapO A.ve (entL kintQ AV.bool (O.ever.map fun x=>(x,true)))::⟨A.vc,1,wcsQ O.claims,true⟩::(((KQ (A.la.eraseIdx (O4 (O.ways.map (·.1)) d.1)) (O.ways.eraseIdx (O4 (O.ways.map (·.1)) d.1)) ++ Qe (A.da.eraseIdx (jx O p)) (O.packs.eraseIdx (jx O p))) ++ G))):=hS3;clear hS3;have hpk:=hW.lpM hm2;show KA _ 46 _ _ [(0,.agg [.int .i64 p,.int .i64 s]),(1,A.po)] _;refine be ?_;intro p2 h' hp2 hS;refine Oj [1,2] ?_;refine cV ?_;refine bp ?_;intro p8 hp8;refine Of hp8 (hS.rd 6 rfl) rfl ?_;refine cZ ?_;intro p10 hp10;refine Of hp10 (hS.rd 0 rfl) rfl ?_;refine KOps.lookDeck (A:=A) (O:=O) (p:=p) EvK.eq (hS.rdD 10 rfl ok.vp) ok.dl ?_;rw[YY hm];refine Oa [1,2,4] ?_;refine Oc ?_;refine cZ ?_;intro p14 hp14;refine Of hp14 (hS.rd 0 rfl) rfl ?_;refine Ox hda ?_;refine Ob hda ?_;intro p17 hp17;refine KR hS rfl (i:=1) rfl hp17 aG aU ?_;intro h' hS;simp only[dR,dY,dV] at hS;refine Oj [1,2,4] ?_;refine Ot ?_;refine cZ ?_;intro p18 hp18;refine Of hp18 (hS.rd 0 rfl) rfl ?_;refine Oa [1,2,4,20] ?_;refine On ?_ ?_;intro c20;refine cV ?_;refine bp ?_;intro p23 hp23;refine Of hp23 (hS.rd 6 rfl) rfl ?_;refine Oe ?_;refine Ox hda ?_;refine Ob hda ?_;intro p27 hp27;refine Of hp27 (hS.rd 1 rfl) rfl ?_;refine QJ (A:=A) (O:=O) (w:=d.1) EvK.eq (hS.rdD 9 rfl ok.vw) ok.ll ?_;rw[Qz hm2,ha];refine Oa [1,2,5] ?_;refine Oc ?_;refine Ox hla.ad ?_;refine Ob hla.ad ?_;intro p33 hp33;refine Of hp33 (hS.rd 2 rfl) rfl ?_;refine Oo rfl (T7 (hS.rd 5 rfl) aA) ?_;rintro v35 h35 hS35;replace hS:St _ _ (_::_):=St.trans hS hS35;refine Qb ?_;refine Oo rfl (deleteP_c aA hS (fun hS x=>isPack_c hp2 (hS.rd 1 rfl))) ?_;rintro r37 h9 ⟨tip9,hS⟩;refine Ox hla.ad ?_;refine Ob hla.ad ?_;intro p39 hp39;refine KR hS rfl (i:=3) rfl hp39 (St.one hS (k:=0) rfl) aU ?_;intro h' hS;simp only[dR,dY,dV] at hS;refine Oj [1,2] ?_;refine OQ [] mixed rfl aB ?_;refine Oe ?_;refine bp ?_;intro p42 hp42;refine Of hp42 (hS.rd 7 rfl) rfl ?_;refine cZ ?_;intro p44 hp44;refine Of hp44 (hS.rd 1 rfl) rfl ?_;refine KOps.delD0 (kf:=kintQ) (a:=p) (i:=11) EvK.eq hS ok.vp rfl rfl ?_;intro h' hS;simp only[dR,dY,dV] at hS;refine dA ?_;subst c20;have hS9:St h0 h' (⟨r37,1,ints (Xe p l.packs),tip9⟩::⟨p2,0,[.int .i64 p,.int .i64 0],true⟩::⟨Jo A O p,0,[.str (wdQ d.1),.int .i64 0],true⟩::⟨a.p,0,[.int .i64 (l.pl:Int),.int .i64 (l.fr:Int),.int .i64 (l.to:Int),a.told,a.top,r37,.bool l.paid],true⟩::⟨a.told,1,ints l.told.toList,a.t1⟩::⟨a.top,1,ints l.top.toList,a.t2⟩::⟨a.packs,1,ints l.packs,a.t3⟩::⟨A.po,0,[A.vr,A.vn,A.vw,A.vp,A.ve,A.vc],true⟩::⟨A.vr,1,wcsQ O.rooms,true⟩::⟨A.vn,1,wcsQ (O.ways.map (·.1)),true⟩::dmapO A.vw (entL kstr idV (Q9 A.la O.ways))::dmapO A.vp (entL kintQ idV (Jv (K5 A.da O.packs) p))::dmapO A.ve (entL kintQ AV.bool (O.ever.map fun x=>(x,true)))::⟨A.vc,1,wcsQ O.claims,true⟩::(((KQ (A.la.eraseIdx (O4 (O.ways.map (·.1)) d.1)) (O.ways.eraseIdx (O4 (O.ways.map (·.1)) d.1)) ++ Qe (A.da.eraseIdx (jx O p)) (O.packs.eraseIdx (jx O p))) ++ G))):=hS;have hP:=St.pickF (A:=[_,_,_,_,_,_,_]) (A':=[_,_,_,_]) 7 [3,4,5,0] rfl aE aE rfl hS9;clear hS hS9;have hk:p∈(K5 A.da O.packs).map (·.1):=by rw[Jz ok.dl]; exact fY.2 ⟨_,dX hjx,rfl⟩
 rw[mdel_at hk,Jz ok.dl,←Pj ok.dl] at hP;have ok1:AOk {A with da:=A.da.eraseIdx (jx O p)} {O with packs:=O.packs.eraseIdx (jx O p)}:=by
  refine⟨ok.po,ok.vw,ok.vp,ok.ve,ok.ll,ok.lok,?_,?_⟩;show(A.da.eraseIdx (jx O p)).length=(O.packs.eraseIdx (jx O p)).length;rw[fG,fG,ok.dl];intro i hi;have hi2:i<O.packs.length - 1:=by
   have h3:i<(O.packs.eraseIdx (jx O p)).length:=hi;have h4:(O.packs.eraseIdx (jx O p)).length=O.packs.length - 1:=List.length_eraseIdx_of_lt hjl;exact Nat.lt_of_lt_of_eq h3 h4
  show AddrOf ((A.da.eraseIdx (jx O p)).getD i .bot) ((A.da.eraseIdx (jx O p)).getD i .bot) 0 0;rw[getD_erase];split;exact ok.dok i aA;exact ok.dok (i+1) aA
 have hu:=YG (A:={A with da:=A.da.eraseIdx (jx O p)}) (O:={O with packs:=O.packs.eraseIdx (jx O p)}) ok1 hW.nd hm2 (fun l=>{l with packs:=Xe p l.packs}) (a:={a with packs:=r37,t3:=tip9}) (by show a.p=(QG A O d.1).p; rw[ha]) G;rw[Rk hm];exact⟨VD {A with da:=A.da.eraseIdx (jx O p)} {O with packs:=O.packs.eraseIdx (jx O p)} d.1 {a with packs:=r37,t3:=tip9},rfl,Rn ok1 hW.nd hm2 (f:=fun l=>{l with packs:=Xe p l.packs}) ⟨hla.ad,hla.told,hla.top⟩,St.perm hu hP⟩;intro c20;refine OC ?_;refine KH ?_;have hP:=St.drop (A:=[_]) hS;have hjx2:(O.packs.set (jx O p) (p,(d.1,s)))[jx O p]? = some (p,(d.1,s)):=fQ hjl;have hks:(O.packs.set (jx O p) (p,(d.1,s))).map (·.1)=O.packs.map (·.1):=JI hjx rfl;have ok1:AOk A {O with packs:=O.packs.set (jx O p) (p,(d.1,s))}:=by
  refine⟨ok.po,ok.vw,ok.vp,ok.ve,ok.ll,ok.lok,?_,?_⟩;show A.da.length=(O.packs.set (jx O p) (p,(d.1,s))).length;rw[fF]; exact ok.dl;intro i hi;have h3:i<(O.packs.set (jx O p) (p,(d.1,s))).length:=hi;rw[fF] at h3;exact ok.dok i h3
 rw[Rl hm c20];refine⟨A,rfl,ok1,St.perm (W8 ok1 hm2 hjx2 G).symm ?_⟩;have he:(O.packs.set (jx O p) (p,(d.1,s))).eraseIdx (jx O p)=O.packs.eraseIdx (jx O p):=List.eraseIdx_set_eq;have hpe:K5 A.da (O.packs.set (jx O p) (p,(d.1,s)))=K5 A.da O.packs:=by unfold K5; rw[hks]
 unfold base2 Xd;dsimp only;rw[he,hpe,show QG A {O with packs:=O.packs.set (jx O p) (p,(d.1,s))} d.1=a from ha];exact hP
end Go.Am
namespace Go.Am
def TOk : Tell → Prop
  | .bound _ n _=>0≤n∧n≤99
  | .claim _ n=>0≤n∧n≤99
  | _=>True
theorem numV_foldl (l:Str):∀ n:Int,0≤n→(∀ c∈l,48≤c.toNat)→0≤l.foldl (fun n c=>10*n+((c.toNat:Int) - 48)) n:=by
 induction l with
 | nil=>intro n hn _; exact hn
 | cons a l ih=>
  intro n hn h;rw[List.foldl_cons];have:=h a List.mem_cons_self;exact ih _ aA (fun c hc=>h c (List.mem_cons_of_mem _ hc))
theorem numV_nn {w:Str} {m:Nat} (h:Qm w m=true) : 0≤Z0 w:=by
 unfold Qm at h;simp only[Bool.and_eq_true,List.all_eq_true,decide_eq_true_eq] at h;exact numV_foldl w 0 aE (fun c hc=>(h.2 c hc).1)
theorem two_words {l:List Str} (h:l.length=3):∃ a b c,l = [a,b,c]:=by
 match l,h with
 | [a,b,c],_=>exact⟨a,b,c,rfl⟩
theorem readT_ok {line:Str} (h:Ky line=0):TOk (K4 line):=by
 unfold Ky at h;unfold K4;dsimp only at h⊢;generalize Kf 32 line=l at *;split at h;cases h;split at h;cases h;split at h;cases h;split at h;cases h;rename_i _ _ hf hlen;have hlen2:=fD.1 hlen;have key:O3 (l.getD 0 []) = [119,110]→∀ t:Int→Tell,(∀ n,0≤n→n≤99→TOk (t n))→TOk (t (V3 (O3 (l.getD 0 [])) (l.drop 1) 0)):=by
  intro hk t ht;rw[hk] at h hlen2⊢;obtain⟨a,b,c,rfl⟩:=two_words (by simpa using hlen2);have e1:([a,b,c]:List Str).drop 1 = [b,c]:=rfl;rw[e1] at h⊢;have e2:V3 [119,110] [b,c] 0=Z0 c:=rfl;rw[e2];split at h;rename_i h9; exact absurd h h9;rename_i h9;have h10:=fD.1 h9;split at h;cases h;rename_i hfar;simp only[QT] at h10;split at h10;split at h10;rename_i hb;have hb2:Qm c 3=true:=by
   unfold Kj at hb;rw[if_neg aE] at hb;by_cases q:Qm c 3=true;exact q;rw[if_neg q] at hb; cases hb
  refine ht _ (numV_nn hb2) ?_;simp only[VY,Bool.or_false,Bool.or_eq_true,not_or] at hfar;have h11:=hfar.2;unfold Kr at h11;simp at h11;omega;rename_i hb; exact absurd h10 hb;rename_i hb; exact absurd h10 hb
 unfold Qp;dsimp only;split;trivial;split;trivial;split;rename_i h1;refine key (by unfold O3; rcases h1 with h1|h1 <;> rw[h1] <;> decide) (fun n=>.bound (l.getD 1 []) n (decide (l.getD 0 []=OT))) ?_;intro n h1 h2;exact⟨h1,h2⟩;split;trivial;split;trivial;split;trivial;split;trivial;split;trivial;split;rename_i h1;refine key (by unfold O3; rw[h1]; decide) (fun n=>.claim (l.getD 1 []) n) ?_;intro n h1 h2;exact⟨h1,h2⟩;trivial
theorem mod_mem {O:Off} (nd:(O.ways.map (·.1)).Nodup) {w:Str} {l:Lane} (hm:OE O.ways w=some l) {f:Lane→Lane}:∀ p∈(O.mod w f).ways,p∈O.ways∨p=(w,f l):=by
 obtain⟨hi,hg,hx⟩:=Z9 hm;intro p hp;rw[show(O.mod w f).ways=Zg O.ways w f from rfl,Vv f nd hx] at hp;exact fM hp
theorem Yg {O:Off} {w:Str} {l:Lane} (hm:OE O.ways w=some l):(w,l)∈O.ways:=by
 obtain⟨_,_,hx⟩:=Z9 hm;exact dX hx
theorem WF.mod {O : Off} (hW : WF O) {w : Str} {l : Lane} (hm : OE O.ways w = some l) {f : Lane → Lane} (h1 : (f l).paid = true → (f l).told.isSome = true) (h2 : (f l).pl = l.pl) (h3 : (f l).packs.length ≤ 99) (h4 : (f l).fr = l.fr) (h5 : (f l).to = l.to)
    (h6 : 0≤(f l).lo∧(f l).lo≤(f l).hi∧(f l).hi≤99):WF (O.mod w f):=by
 obtain⟨hi,hg,hx⟩:=Z9 hm;have hs:=Vv f hW.nd hx;have hmem:=mod_mem hW.nd hm (f:=f);have hn:(O.mod w f).ways.map (·.1)=O.ways.map (·.1):=Yb _ _ _;refine⟨?_,?_,?_,hW.rooms,?_,hW.packs,?_,hW.ever,hW.claims,?_,hW.pnd,?_,?_,hW.pev⟩;rw[hn]; exact hW.nd;intro p hp;rcases hmem p hp with h|rfl
 exact hW.paid p h;exact h1;intro i hi2;have hi3:i<O.ways.length:=by have:i<(Zg O.ways w f).length:=hi2; rwa [Vu] at this
 show((Zg O.ways w f).getD i default).2.pl=i;rw[hs,dO,gA];split;rename_i he;subst he;show(f l).pl=_;rw[h2];have:=hW.pl _ hi;rw[hg] at this;exact this;rw[←dO];exact hW.pl i hi3;show(Zg O.ways w f).length≤12;rw[Vu]; exact hW.ways;intro p hp;rcases hmem p hp with h|rfl
 exact hW.lp p h;exact h3;intro p hp;rw[hn]; exact hW.home p hp;intro p hp;rcases hmem p hp with h|rfl
 exact hW.rk p h;show(f l).fr<_∧(f l).to<_∧(f l).fr≠(f l).to;rw[h4,h5];exact hW.rk _ (Yg hm);intro p hp;rcases hmem p hp with h|rfl
 exact hW.rg p h;exact h6
theorem Rm {O:Off} {w:Str} {f:Lane→Lane} {l:Lane} (h:O.tries w f l=0):(f l).lo≤(f l).hi:=by
 unfold Off.tries at h;split at h;cases h;omega
theorem right_room {O:Off} {r:Str} (h:O.wrong (.room r)=0):r ∉ O.rooms∧O.rooms.length≠6:=by
 have e:O.wrong (.room r)=if r∈O.rooms then 6 else if O.rooms.length=6 then 3 else 0:=rfl
 rw[e] at h;split at h;cases h;split at h;cases h;exact⟨by assumption,by assumption⟩
theorem Tw {O:Off} {w f t:Str} (h:O.wrong (.way w f t)=0):w ∉ O.ways.map (·.1)∧f∈O.rooms∧t∈O.rooms∧f≠t∧O.ways.length≠12:=by
 rw[Xw] at h;split at h;cases h;split at h;cases h;split at h;cases h;split at h;cases h;rename_i h1 h2 h3 h4;rw[not_or,fD,fD] at h2;exact⟨fun hc=>h1 (Sv hc),h2.1,h2.2,h3,h4⟩
theorem UZ {O:Off} {w:Str} {n:Int} {g:Bool} (h:O.wrong (.bound w n g)=0):∃ l,OE O.ways w=some l∧l.paid=false∧O.tries w (chB n g) l=0:=by
 by_cases ho:opE O w=0;obtain⟨l,hm,hp⟩:=Vw ho;exact⟨l,hm,hp,by rw[U4 hm hp] at h; exact h⟩;rw[Uo ho] at h; exact absurd h ho
theorem Ri {O:Off} {p:Int} {w:Str} (h:O.wrong (.pack p w)=0):p ∉ O.ever∧∃ l,OE O.ways w=some l∧O.packs.length≠20∧l.packs.length<l.hi∧O.tries w (chP p) l=0:=by
 by_cases he:p∈O.ever;rw[U5 he] at h; cases h
 ·cases hm:OE O.ways w with
  | none=>rw[U6 he hm] at h; cases h
  | some l=>
   rw[Y6 he hm] at h;split at h;cases h;split at h;cases h;exact⟨he,l,rfl,by assumption,by omega,h⟩
theorem Rh {O:Off} {p s:Int} (h:O.wrong (.move p s)=0):∃ d,OE O.packs p=some d:=by
 cases hm:OE O.packs p with
 | none=>rw[Ki hm] at h; cases h
 | some d=>exact⟨d,rfl⟩
theorem U0 {O:Off} {w:Str} {n:Int} (h:O.wrong (.claim w n)=0):∃ l,OE O.ways w=some l∧l.paid=false:=by
 by_cases ho:opE O w=0;exact Vw ho;rw[ZN ho] at h; exact absurd h ho
theorem Rg {O:Off} {w:Str} (h:O.wrong (.free w)=0):∃ l,OE O.ways w=some l∧l.paid=false:=Vw (by rw[←wrong_free]; exact h)
theorem WF.homeM {O:Off} (hW:WF O) {p:Int} {d:Str × Int} (hm:OE O.packs p=some d):∃ l,OE O.ways d.1=some l:=by
 obtain⟨_,_,hx⟩:=XV hm;have:=Sv (hW.home _ (dX hx));exact Option.isSome_iff_exists.1 this
theorem ixOf_inj {κ:Type} [DecidableEq κ] {l:List κ} {a b : κ} (ha:a∈l) (hb:b∈l) (h:O4 l a=O4 l b):a=b:=by
 have h1:=Ju ha;have h2:=Ju hb;rw[h,h2] at h1;exact(Option.some.inj h1).symm
theorem WF.rgM {O:Off} (hW:WF O) {w:Str} {l:Lane} (hm:OE O.ways w=some l) : 0≤l.lo∧l.lo≤l.hi∧l.hi≤99:=hW.rg _ (Yg hm)
theorem Sn {α:Type} {l:List α} {x d : α} {i:Nat} (h:i<l.length):(l ++ [x]).getD i d=l.getD i d:=Xp _ h
theorem WZ {α:Type} {l:List α} {x : α} (h:l.Nodup) (hx:x ∉ l):(l ++ [x]).Nodup:=by
 rw[List.nodup_append];refine⟨h,by simp,?_⟩;intro a ha b hb;simp at hb;subst hb;exact fun e=>hx (e ▸ ha)
theorem lane_hi99 {O:Off} (hW:WF O) {w:Str} {l:Lane} (hm:OE O.ways w=some l) (hp:l.paid=false):l.top.getD 99≤99:=by
 have:=(hW.rgM hm).2.2;unfold Lane.hi at this;rw[if_neg (by rw[hp]; decide)] at this;exact this
theorem chB_lo {n:Int} {g:Bool} {l:Lane} (hp:l.paid=false):(chB n g l).paid=false:=by cases g <;> exact hp
theorem lo_nn (l:Lane) (hp:l.paid=false) : 0≤l.lo:=by
 unfold Lane.lo;rw[if_neg (by rw[hp]; decide)];split <;> omega
theorem wf_tell {O:Off} (hW:WF O) {t:Tell} (ht:TOk t) (h0:O.wrong t=0) (he:O.ever.length<100) (hc:O.claims.length<100):WF (O.tell t):=by
 cases t with
 | room r=>
  obtain⟨_,h2⟩:=right_room h0;have:=hW.rooms;refine⟨hW.nd,hW.paid,hW.pl,?_,hW.ways,hW.packs,hW.lp,hW.ever,hW.claims,hW.home,hW.pnd,?_,hW.rg,hW.pev⟩;show(O.rooms ++ [r]).length≤6;rw[dU,dQ]; omega;intro p hp;obtain⟨h3,h4,h5⟩:=hW.rk p hp;show _<(O.rooms ++ [r]).length∧_<(O.rooms ++ [r]).length∧_;rw[dU,dQ];exact⟨by omega,by omega,h5⟩
 | way w f t=>
  obtain⟨hw,hf,ht2,hft,h12⟩:=Tw h0;have:=hW.ways;have hnew:∀ p∈(O.tell (.way w f t)).ways,p∈O.ways∨p=(w,⟨O.ways.length,O4 O.rooms f,O4 O.rooms t,none,none,[],false⟩):=by
   intro p hp;have hp2:p∈O.ways ++ [(w,⟨O.ways.length,O4 O.rooms f,O4 O.rooms t,none,none,[],false⟩)]:=hp;simpa using hp2
  refine⟨?_,?_,?_,hW.rooms,?_,hW.packs,?_,hW.ever,hW.claims,?_,hW.pnd,?_,?_,hW.pev⟩;show(fR (fun p:Str × Lane=>p.1) (O.ways ++ [_])).Nodup;rw[dZ];exact WZ hW.nd hw;intro p hp;rcases hnew p hp with h|rfl
  exact hW.paid p h;intro h; cases h;intro i hi;have hi2:i<O.ways.length+1:=by
   have h3:i<(O.ways ++ [_]).length:=hi;rwa [dU,dQ] at h3
  show((O.ways ++ [_]).getD i default).2.pl=i;by_cases hlt:i<O.ways.length;rw[Sn hlt]; exact hW.pl i hlt;obtain rfl:i=O.ways.length:=by omega
  simp;show(O.ways ++ [_]).length≤12;rw[dU,dQ]; omega;intro p hp;rcases hnew p hp with h|rfl
  exact hW.lp p h;exact Nat.zero_le _;intro p hp;show p.2.1∈fR (fun p:Str × Lane=>p.1) (O.ways ++ [_]);rw[dZ];exact fS _ (hW.home p hp);intro p hp;rcases hnew p hp with h|rfl
  exact hW.rk p h;exact⟨Y9 hf,Y9 ht2,fun e=>hft (ixOf_inj hf ht2 e)⟩;intro p hp;rcases hnew p hp with h|rfl
  exact hW.rg p h;show(0:Int)≤0∧(0:Int)≤99∧(99:Int)≤99;decide
 | bound w n g=>
  obtain⟨l,hm,hp,htr⟩:=UZ h0;have htr2:=Rm htr;have hp2:(chB n g l).paid=false:=chB_lo hp;refine hW.mod hm (f:=chB n g) (fun h=>by rw[hp2] at h; cases h) (by cases g <;> rfl) (by cases g <;> exact hW.lp _ (Yg hm)) (by cases g <;> rfl) (by cases g <;> rfl) ⟨lo_nn _ hp2,htr2,?_⟩;have h99:=lane_hi99 hW hm hp;unfold Lane.hi;rw[if_neg (by rw[hp2]; decide)];cases g;exact h99;exact ht.2
 | pack p w=>
  obtain⟨hnev,l,hm,h20,hlt,htr⟩:=Ri h0;have htr2:=Rm htr;have hr:=hW.rgM hm;have hpk:=hW.packs;have hW2:WF (O.mod w (chP p)):=by
   refine hW.mod hm (f:=chP p) (hW.paid _ (Yg hm)) rfl ?_ rfl rfl ⟨?_,htr2,?_⟩;show(l.packs ++ [p]).length≤99;rw[dU,dQ]; omega
   cases hpd:l.paid
   exact lo_nn _ hpd;have h1:=hr.1;unfold Lane.lo at h1⊢;rw[if_pos hpd] at h1;rw[if_pos (show(chP p l).paid=true from hpd)];exact h1;exact hr.2.2
  refine⟨hW2.nd,hW2.paid,hW2.pl,hW2.rooms,hW2.ways,?_,hW2.lp,?_,hW2.claims,?_,?_,hW2.rk,hW2.rg,?_⟩;show(O.packs ++ [_]).length≤20;rw[dU,dQ]; omega;show(O.ever ++ [_]).length≤100;rw[dU,dQ]; omega;intro q hq;have hq2:q∈O.packs ++ [(p,(w,1))]:=hq;rw[gB,fW] at hq2;rcases hq2 with h|rfl
  exact hW2.home q h;show w∈(Zg O.ways w (chP p)).map (·.1);rw[Yb];exact fY.2 ⟨_,Yg hm,rfl⟩;show(fR (fun p:Int × (Str × Int)=>p.1) (O.packs ++ [_])).Nodup;rw[dZ];refine WZ hW.pnd ?_;intro hc2;obtain⟨q,hq,he2⟩:=fY.1 hc2;have:=hW.pev q hq;rw[he2] at this;exact hnev this;intro q hq;show q.1∈O.ever ++ [p];have hq2:q∈O.packs ++ [(p,(w,1))]:=hq;rw[gB,fW] at hq2;rcases hq2 with h|rfl
  exact fS _ (hW.pev q h);simp
 | move p s=>
  obtain⟨d,hm⟩:=Rh h0;obtain⟨l,hm2⟩:=hW.homeM hm;obtain⟨hjl,hjg,hjx⟩:=XV hm;have hhome:=hW.home _ (dX hjx);have hev:=hW.pev _ (dX hjx);by_cases hs:s=0
  ·subst hs;rw[Rk hm];have hsub:∀ q∈O.packs.eraseIdx (O4 (O.packs.map (·.1)) p),q∈O.packs:=fun q hq=>List.mem_of_mem_eraseIdx hq
   have hWp:WF {O with packs:=O.packs.eraseIdx (O4 (O.packs.map (·.1)) p)}:=by
    refine⟨hW.nd,hW.paid,hW.pl,hW.rooms,hW.ways,?_,hW.lp,hW.ever,hW.claims,fun q hq=>hW.home q (hsub q hq),?_,hW.rk,hW.rg,fun q hq=>hW.pev q (hsub q hq)⟩;show(O.packs.eraseIdx _).length≤20;have:=hW.packs;rw[fG];split <;> omega;show(fR (fun p:Int × (Str × Int)=>p.1) (O.packs.eraseIdx _)).Nodup;rw[eraseIdx_map'];exact hW.pnd.sublist (List.eraseIdx_sublist _ _)
   have hlp:=hW.lp _ (Yg hm2);have hr:=hW.rgM hm2;have hle:(Xe p l.packs).length≤l.packs.length:=List.length_filter_le _ _;refine hWp.mod hm2 (f:=fun l=>{l with packs:=Xe p l.packs}) (hW.paid _ (Yg hm2)) rfl (Nat.le_trans hle hlp) rfl rfl ?_
   cases hpd:l.paid with
   | true=>
    unfold Lane.lo Lane.hi at hr⊢;simp only[hpd,if_true] at hr⊢;exact hr
   | false=>
    refine⟨lo_nn _ rfl,?_,?_⟩
    ·unfold Lane.lo Lane.hi at hr⊢;simp only[hpd,fB,if_false] at hr⊢;have h2:=hr.2.1
     cases hto:l.told with
     | none=>rw[hto] at h2; dsimp only at h2⊢; omega
     | some n=>rw[hto] at h2; dsimp only at h2⊢; omega
    have h3:=hr.2.2;unfold Lane.hi at h3⊢;simp only[hpd,fB,if_false] at h3⊢;exact h3
  rw[Rl hm hs];have hks:(O.packs.set (O4 (O.packs.map (·.1)) p) (p,(d.1,s))).map (·.1)=O.packs.map (·.1):=JI hjx rfl;have hmem:∀ q∈O.packs.set (O4 (O.packs.map (·.1)) p) (p,(d.1,s)),q∈O.packs∨q=(p,(d.1,s)):=fun q hq=>fM hq
  refine⟨hW.nd,hW.paid,hW.pl,hW.rooms,hW.ways,?_,hW.lp,hW.ever,hW.claims,?_,?_,hW.rk,hW.rg,?_⟩;show(O.packs.set _ _).length≤20;rw[fF]; exact hW.packs;intro q hq;rcases hmem q hq with h|rfl
  exact hW.home q h;exact hhome;show(fR (fun p:Int × (Str × Int)=>p.1) (O.packs.set _ _)).Nodup;rw[hks]; exact hW.pnd;intro q hq;rcases hmem q hq with h|rfl
  exact hW.pev q h;exact hev
 | claim w n=>
  obtain⟨l,hm,hp⟩:=U0 h0;have hW2:WF (O.mod w (fun l=>{l with paid:=true,told:=some n})):=hW.mod hm (f:=fun l=>{l with paid:=true,told:=some n}) (fun _=>rfl) rfl (hW.lp _ (Yg hm)) rfl rfl ⟨ht.1,Int.le_refl _,ht.2⟩;refine⟨hW2.nd,hW2.paid,hW2.pl,hW2.rooms,hW2.ways,hW2.packs,hW2.lp,hW2.ever,?_,hW2.home,hW2.pnd,hW2.rk,hW2.rg,hW2.pev⟩;show(O.claims ++ [_]).length≤100;rw[dU,dQ]; omega
 | free w=>
  obtain⟨l,hm,hp⟩:=Rg h0;have hlp:=hW.lp _ (Yg hm);refine hW.mod hm (f:=fun l=>{l with told:=none,top:=none}) (fun h=>by have h2:l.paid=true:=h; rw[hp] at h2; cases h2) rfl hlp rfl rfl ⟨lo_nn _ hp,?_,?_⟩;unfold Lane.lo Lane.hi;simp only[hp,fB,if_false,Option.getD_none];have h3:l.packs.length≤99:=hlp;omega;unfold Lane.hi;simp only[hp,fB,if_false,Option.getD_none];decide
theorem tell_ever (O:Off) (t:Tell):(O.tell t).ever.length≤O.ever.length+1∧(O.tell t).claims.length≤O.claims.length+1:=by
 cases t with
 | pack p w=>exact⟨by show(O.ever ++ [_]).length≤_; rw[dU]; exact fP _,fE _⟩
 | claim w n=>exact⟨fE _,by show(O.claims ++ [_]).length≤_; rw[dU]; exact fP _⟩
 | move p s=>
  unfold Off.tell;dsimp only;split;exact⟨fE _,fE _⟩;split <;> exact⟨fE _,fE _⟩
 | _=>exact⟨fE _,fE _⟩
theorem Vd {lines:List Str} {line:Str} (h:KB lines line=0):Ky line=0∧(after lines).wrong (K4 line)=0∧lines.length≠100:=by
 unfold KB at h;dsimp only at h;by_cases hr:Ky line=0;simp only[if_pos hr] at h;by_cases h2:(after lines).wrong (K4 line)=0∧lines.length=100;rw[if_pos h2] at h; exact absurd h aE;rw[if_neg h2] at h;exact⟨hr,h,fun h3=>h2 ⟨h,h3⟩⟩;simp only[if_neg hr] at h;rw[if_neg (fun hx=>hr hx.1)] at h;exact absurd h hr
theorem wf_off0:WF off0:=by
 refine⟨by decide,?_,?_,by decide,by decide,by decide,?_,by decide,by decide,?_,by decide,?_,?_,?_⟩ <;> intro p hp <;> cases hp
theorem Done.wf {lines:List Str} (hD:Done lines):WF (after lines)∧lines.length≤100∧(after lines).ever.length≤lines.length∧(after lines).claims.length≤lines.length:=by
 induction hD with
 | nil=>exact⟨wf_off0,by decide,by decide,by decide⟩
 | @snoc lines line hD he ih=>
  obtain⟨h1,h2,h3⟩:=Vd he;obtain⟨ih1,ih2,ih3,ih4⟩:=ih;have ht:=tell_ever (after lines) (K4 line);rw[ZV,dU,dQ];exact⟨wf_tell ih1 (readT_ok h1) h2 aA aA,by omega,by omega,by omega⟩
end Go.Am
namespace Go.Am
theorem St.on {h0 h h':AHeap} {objs:List Obj} (st:St h0 h objs) (k:Keeps h h'):St h0 h' objs:=by
 have:=St.trans st (St.ofK k);simpa only[List.nil_append] using this
theorem wrongs {h0 h : AHeap} {A : OA} {O : Off} {G : List Obj} (st : St h0 h (Kt A O ++ G)) (ok : AOk A O) (hW : WF O) (t : Tell) :
    ∃ ty x f,KL t = .ifc ty x∧YF Go.Proofs.Tryz.prog ty "spadille/master.wrong" = some f∧ACalls Go.Proofs.Tryz.prog f [x,A.po] h (fun q h'=>q = .int .i64 (O.wrong t)∧St h0 h' (Kt A O ++ G)):=by
 have r:=St.roff st ok;have up:∀ {f:FuncId} {args:List AV} {v:AV},ACalls Go.Proofs.Tryz.prog f args h (fun q h'=>q=v∧Keeps h h')→ACalls Go.Proofs.Tryz.prog f args h (fun q h'=>q=v∧St h0 h' (Kt A O ++ G)):=
  fun hc=>hc.mono fun _ _ ⟨h1,h2⟩=>⟨h1,st.on h2⟩
 cases t with
 | room w=>exact⟨_,_,_,rfl,by kernel_rfl,up (Py r hW)⟩
 | way w f t=>exact⟨_,_,_,rfl,by kernel_rfl,up (wrongWay_c r hW)⟩
 | bound w n g=>exact⟨_,_,_,rfl,by kernel_rfl,SP st ok hW⟩
 | pack p w=>exact⟨_,_,_,rfl,by kernel_rfl,Px st ok hW⟩
 | move p s=>exact⟨_,_,_,rfl,by kernel_rfl,up (Pw r hW)⟩
 | claim w n=>exact⟨_,_,_,rfl,by kernel_rfl,up (SQ r hW)⟩
 | free w=>exact⟨_,_,_,rfl,by kernel_rfl,up (Pv r hW)⟩
theorem tells {h0 h : AHeap} {A : OA} {O : Off} {G : List Obj} (st : St h0 h (Kt A O ++ G)) (ok : AOk A O) (hW : WF O) (t : Tell) (hr : O.wrong t = 0) :
    ∃ ty x f,KL t = .ifc ty x∧YF Go.Proofs.Tryz.prog ty "spadille/master.tell" = some f∧ACalls Go.Proofs.Tryz.prog f [x,A.po] h (fun _ h'=>VI h0 A (O.tell t) G h'):=by
 cases t with
 | room w=>exact⟨_,_,_,rfl,by kernel_rfl,tellRoom_c st ok hW⟩
 | way w f t=>
  obtain⟨h1,h2,h3,_⟩:=Tw hr;exact⟨_,_,_,rfl,by kernel_rfl,tellWay_c st ok hW h1 h2 h3⟩
 | bound w n g=>
  obtain⟨l,hm,_⟩:=UZ hr;exact⟨_,_,_,rfl,by kernel_rfl,Pr st ok hW hm⟩
 | pack p w=>
  obtain⟨he,l,hm,_⟩:=Ri hr;exact⟨_,_,_,rfl,by kernel_rfl,tellPack_c st ok hW hm (fun hc=>by obtain⟨q,hq,e⟩:=fY.1 hc; exact he (e ▸ hW.pev q hq)) he⟩
 | move p s=>
  obtain⟨d,hm⟩:=Rh hr;obtain⟨l,hm2⟩:=hW.homeM hm;exact⟨_,_,_,rfl,by kernel_rfl,tellMove_c st ok hW hm hm2⟩
 | claim w n=>
  obtain⟨l,hm,_⟩:=U0 hr;exact⟨_,_,_,rfl,by kernel_rfl,Ps st ok hW hm⟩
 | free w=>
  obtain⟨l,hm,_⟩:=Rg hr;exact⟨_,_,_,rfl,by kernel_rfl,tellFree_c st ok hW hm⟩
def ZD (b vl:AV) (A:OA) (lines:List Str):List Obj:=⟨b,0,[A.po,vl],true⟩::⟨vl,1,wcsQ lines,true⟩::Kt A (after lines)
structure BOk2 (b:AV) (A:OA) (lines:List Str):Prop where
  ad:AddrOf b b 0 0
  ok:AOk A (after lines)
  done:Done lines
def Bk (h0 h:AHeap) (b:AV) (lines:List Str) (G:List Obj):Prop:=∃ vl A,BOk2 b A lines∧St h0 h (ZD b vl A lines ++ G)
theorem Rc {α:Type} (x y : α) (L G:List α):((x::y::L) ++ G).Perm (L ++ x::y::G):=by
 refine fN ?_ dW.symm;exact gD x dW.symm
structure RBk (h:AHeap) (b vl:AV) (A:OA) (lines:List Str):Prop where
  done:Done lines
  ad:AddrOf b b 0 0
  rd:Rd h b 0 [A.po,vl]
  log:WRowQ h vl lines
  off:ROff h A (after lines)
theorem RBk.bk {h:AHeap} {b vl:AV} {A:OA} {lines:List Str} (r:RBk h b vl A lines):RBook h b vl A:=⟨r.ad,r.rd⟩
theorem St.rbk {h0 h:AHeap} {b vl:AV} {A:OA} {lines:List Str} {G:List Obj} (st:St h0 h (ZD b vl A lines ++ G)) (hb:BOk2 b A lines):RBk h b vl A lines:=
  ⟨hb.done,hb.ad,st.rd 0 rfl,st.rd 1 rfl,St.roff (G:=_::_::G) (St.perm (Rc _ _ _ _) st) hb.ok⟩
end Go.Am
