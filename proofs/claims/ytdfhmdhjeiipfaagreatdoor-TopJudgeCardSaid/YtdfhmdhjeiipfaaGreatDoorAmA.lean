/-
  The abstract machine: values, memory, steps, code, calls.
  Conditions: none.
-/
import Derived.WalkKit
import Derived.ChangeKeysEq
open Array renaming ext' → fE, length_toList → fU, getElem?_eq_getElem → fD, getD_eq_getD_getElem? → gC, getElem?_toList → gS, toList_append → gX, toList_setIfInBounds → jE, size_append → jU, mapM_eq_mapM_toList → jY, foldl → jN, mem_of_getElem? → jR, getElem?_range → jW, toList_zipIdx → jZ, foldl_toList → lY, getElem?_map → lC, toList_map → lP
open Bool renaming false_eq_true → fK, and_eq_true → jB
open Go.Addr renaming add_lit → fR
open Go.Builtin renaming zeroCells → dX, append_ → fH, lenOf → gA, firstCells → gO, copy_ → gJ, len_ → jF, cap_ → lI, max_ → lO, min_ → lU
open Go.Call renaming operands → dV
open Go.Instr renaming sliceBounds → fN, sureAddr → gU, sliceAt → gH, fill → gV, indexAt → jX, makeInterface → lA, loadAt → lB, slice → lJ, index → lK, build → lL, sliceBound → lM, buildSlice → lR, makeFunc → lZ, fieldAt → mE
open Go.Op renaming operands → dY, equal → gD, equalIn → gK, bytesLess → jD, intArith → lH, eqItems → lT
open Go.Region renaming wanted → gP
open Go.Result renaming andThen_ok → dQ
open Go.Sem renaming run_bind → dW, run_pure → fI
open Go.Value renaming bool → gT, cells → jM, int → lE
open List renaming getElem?_eq_getElem → dP, getElem?_eq_some_iff → dT, getElem?_map → fY, eq_nil_of_length_eq_zero → fF, getD_eq_getElem?_getD → fJ, getElem?_take → fL, getElem?_append → fM, length_cons → fP, length_append → fQ, getElem?_append_left → fV, replicate → fW, getElem?_drop → gI, getElem?_eq_none → gY, getElem?_toArray → gB, getElem?_append_right → gG, getElem?_cons_succ → gL, map_cons → gN, all_eq_true → gQ, getElem?_range → gW, range' → gZ, contains_cons → jA, getElem?_set → jI, flatten_cons → jO, range'_succ → jH, length_take → jK, length_nil → jL, mem_iff_getElem? → jQ, range → jS, mem_of_getElem? → jT, range_eq_range' → jV, append_assoc → lD, size_toArray → lF, contains_nil → lG, getElem_mem → lN, mem_toArray → lQ, length_set → lS, length_map → lV, mem_range → lW, mapM_cons → lX
open Nat renaming le_refl → fA, mul_le_mul_right → fO, add_mul → fB, lt_of_lt_of_le → fC, add_assoc → fS, le_trans → fZ, add_zero → jC, lt_of_not_le → jG, zero_add → jJ, one_mul → jP
open Option renaming bind_eq_some_iff → dU, bind_eq_bind → dR, map_eq_some_iff → dS, map_some → dZ, bind_some → fG, isSome_iff_exists → fX, map_none → gE, getD_some → gR
open Option.some renaming injEq → dO
open Prod.mk renaming injEq → fT
namespace Go.Am
structure RunH (p:Prop):Prop where
 hw:p
theorem aA {X:Prop} (h:X:=by omega):X:=h
theorem aB {X:Prop} (h:X:=by kernel_rfl):X:=h
theorem aC {X:Prop} (h:X:=by first|omega|(simp; done)|(simp; omega)):X:=h
theorem aD {X:Prop} (h:X:=by first|rfl|(simp[AV.one]; done)|(simp[AV.one]; assumption)|(simp[AV.one, *]; done)):X:=h
theorem aE {X:Prop} (h:X:=by decide):X:=h
theorem aF {X:Prop} (h:X:=by first|omega|(simp; omega)):X:=h
theorem aG {X:Prop} (h:X:=by first|rfl|assumption):X:=h
theorem aH {X:Prop} (h:X:=by simp only[KI,List.length_append,List.length_cons,List.length_nil]; omega):X:=h
theorem aI {X:Prop} (h:X:=by rfl):X:=h
theorem aJ {X:Prop} (h:X:=by dsimp only; omega):X:=h
theorem aK {X:Prop} (h:X:=by simp):X:=h
theorem aL {X:Prop} (h:X:=by assumption):X:=h
theorem aM {X:Prop} (h:X:=by repeat (first|exact Sub.nil _|refine Sub.cons Look.eq ?_|refine Sub.cons (Eq.trans Look.eq (congrArg (AV.int _) (by rw[hms]; split <;> first|rfl|omega))) ?_)):X:=h
theorem aN {X:Prop} (h:X:=by simp[ho,Op.operands]):X:=h
theorem aO {X:Prop} (h:X:=by first|omega|(dsimp only; omega)):X:=h
theorem aP {X:Prop} (h:X:=by rintro _ _ ⟨_,rfl⟩; exact Keeps.refl _):X:=h
theorem aQ {X:Prop} (h:X:=by unfold Qa; rw[if_neg aA,if_neg aA,if_pos aA]):X:=h
theorem aR {X:Prop} (h:X:=by rw[show ws.length=i by omega]; exact hw):X:=h
theorem aS {X:Prop} (h:X:=by unfold Qa; rw[if_neg aA,if_pos aA]):X:=h
theorem aT {X:Prop} (h:X:=by unfold AHeap.valid; rw[hg]):X:=h
theorem aU {X:Prop} (h:X:=by first|decide|simp):X:=h
theorem aV {X:Prop} (h:X:=by simp[ho,Op.operands,Call.operands]):X:=h
theorem aW {X:Prop} (h:X:=by rw[KX,if_neg aA,if_pos aA]):X:=h
theorem aX {X:Prop} (h:X:=by unfold Qa; rw[if_pos aA]):X:=h
theorem aY {X:Prop} (h:X:=by simp; omega):X:=h
theorem aZ {X:Prop} (h:X:=by repeat (first|exact Sub.nil _|refine Sub.cons Look.eq ?_|refine Sub.cons (Eq.trans Look.eq (congrArg (AV.int _) aO)) ?_|refine Sub.cons (Eq.trans Look.eq (by rw[Ud hlt])) ?_)):X:=h
theorem aa {X:Prop} (h:X:=by intro _ _ hr; exact hr.2 ▸ Keeps.refl _):X:=h
theorem ab {X:Prop} (h:X:=by simpa using hi):X:=h
theorem ac {X:Prop} (h:X:=by show(true && (vC.one && true))=true; rw[hCo]; rfl):X:=h
theorem ae {X:Prop} (h:X:=by rw[KX,if_pos aA]):X:=h
theorem af {X:Prop} (h:X:=by simp only[apure,hx.eq,hy.eq,ZG]; rw[if_pos ht]):X:=h
theorem ah {X:Prop} (h:X:=by rw[decide_eq_false hab]; exact hk):X:=h
theorem ai {X:Prop} (h:X:=by rw[wd_size]; exact Nat.le_refl _):X:=h
theorem aj {X:Prop} (h:X:=by intro h0; rcases h0 with h0|h0; exact g19 h0; rw[show(fun c:UInt8=>decide (c.toNat<32∨126<c.toNat))=VX from rfl] at h0; simp[h0] at c22):X:=h
theorem ak {X:Prop} (h:X:=by show _<256; exact Jd aA):X:=h
theorem al {X:Prop} (h:X:=by intro f hf; simp only[okY,Bool.and_eq_true] at hf; exact hf.2):X:=h
theorem am {X:Prop} (h:X:=by intro f hf; simp only[okY,Bool.and_eq_true] at hf; exact hf.1):X:=h
theorem ap {X:Prop} (h:X:=by have:=XW (i:=(((fl.getD t []).getD k 0)).toNat) aA; simp only[KI,List.length_append,List.length_cons,List.length_nil]; omega):X:=h
theorem aq {X:Prop} (h:X:=by rw[h1] at h2; cases h2):X:=h
theorem ar {X:Prop} (h:X:=by simpa using hl):X:=h
theorem au {X:Prop} (h:X:=by simpa using hx):X:=h
theorem aw {X:Prop} (h:X:=by simpa using hp):X:=h
theorem ax {X:Prop} (h:X:=by simpa using hm):X:=h
theorem ay {X:Prop} (h:X:=by rw[hbl]; omega):X:=h
theorem az {X:Prop} (h:X:=by rw[List.length_set,K3]; omega):X:=h
theorem a6 {X:Prop} (h:X:=by rw[AHeap.next_allocT]; omega):X:=h
theorem a7 {X:Prop} (h:X:=by show(true && (vo.one && true))=true; rw[St.one hS (k:=2) (o:=⟨vo,4,_,true⟩) rfl]; rfl):X:=h
theorem a8 {X:Prop} (h:X:=by rw[List.getElem?_set,if_pos rfl,if_pos hlt]):X:=h
theorem bA {X:Prop} (h:X:=by rw[List.length_set]; omega):X:=h
theorem bB {X:Prop} (h:X:=by simpa using hy):X:=h
theorem bC {X:Prop} (h:X:=by rw[List.getElem?_eq_getElem hkf,←hF']):X:=h
theorem bD {X:Prop} (h:X:=by rw[K3]; omega):X:=h
theorem bE {X:Prop} (h:X:=by simp[hl]):X:=h
theorem bF {X:Prop} (h:X:=by show _<256; exact V8 _):X:=h
theorem bG {X:Prop} (h:X:=by simpa using Nat.succ_le_of_lt hj):X:=h
theorem bH {X:Prop} (h:X:=by simpa using h2):X:=h
theorem bJ {X:Prop} (h:X:=by show(true && (vC.one && (vE.one && true)))=true; rw[hCo,hEo]; rfl):X:=h
theorem bK {X:Prop} (h:X:=by rw[c5]; decide):X:=h
theorem bL {X:Prop} (h:X:=by first|assumption|decide|omega|(simp only[Qx,IntKind.bits]; omega)):X:=h
theorem bM {X:Prop} (h:X:=by decide +kernel):X:=h
theorem bN {X:Prop} (h:X:=by rw[List.getElem?_append_right (Nat.le_refl _),Nat.sub_self]; rfl):X:=h
theorem bO {X:Prop} (h:X:=by
  first
    | contradiction
    | (subst_vars; decide)
    | (unfold O3; simp only[OY,Ka,OO,OT,OU,OZ,OX,OV,OW,ON,Kh]; simp[*])
  ):X:=h
theorem bP {X:Prop} (h:X:=by
  first
    | (rw[Tz,decide_eq_true (show l.length≤12 by omega),Bool.true_and])
    | (rw[decide_eq_false (show¬ l.length≤12 by omega),Bool.false_and])
  ):X:=h
theorem bQ {X:Prop} (h:X:=by
  first
    | contradiction
    | (simp only[*]; rfl)
    | (simp[*,KL]; done)
    | (simp[*,KL]; exact absurd aL aL)
  ):X:=h
theorem bR {X G:Prop} (hg:G) (hs:RunH G→X:=by intro hg';refine OC ?_;refine Ol ?_;refine Od ?_;refine Ow [] ?_;refine Oc ?_;refine Og ?_;refine Od ?_;refine Oi ?_;exact hg'.hw):X:=hs (RunH.mk hg)
theorem bS {X G:Prop} (hg:G) (hs:RunH G→X:=by intro hg';refine Kb ?_;refine O2 ?_;refine O7 ?_;refine O5 ?_;refine Od ?_;exact hg'.hw):X:=hs (RunH.mk hg)
theorem bT {X G:Prop} (hg:G) (hs:RunH G→X:=by intro hg';refine Oc ?_;refine OP (zs:=[.int .i64 0,.int .i64 0]) (cs:=[_,_]) aB aI aB (.cons (off:=0) (s:=1) aB (AV.cells_one aG) rfl aE (.cons (off:=1) (s:=1) aB (AV.cells_one aG) rfl aE .nil)) aI ?_;refine Kq aB ?_;refine Oa [4] ?_;refine Oi ?_;refine⟨?_,rfl⟩;exact hg'.hw):X:=hs (RunH.mk hg)
theorem bU {X G:Prop} (hg:G) (hs:RunH G→X:=by intro hg';refine⟨congrArg (AV.int .i64) (Eq.symm ?_),hS.keeps⟩;exact hg'.hw):X:=hs (RunH.mk hg)
theorem bV {X G:Prop} (hg:G) (hs:RunH G→X:=by intro hg';refine OP (zs:=[.int .i64 0,.int .i64 0,.int .i64 0,.int .i64 0]) (cs:=[_,_,_,_]) aB aI aB (.cons (off:=0) (s:=1) aB (AV.cells_one aG) rfl aE (.cons (off:=1) (s:=1) aB (AV.cells_one aG) rfl aE (.cons (off:=2) (s:=1) aB (AV.cells_one aG) rfl aE (.cons (off:=3) (s:=1) aB (AV.cells_one aG) rfl aE .nil)))) aI ?_;exact hg'.hw):X:=hs (RunH.mk hg)
theorem bW {X G:Prop} (hg:G) (hs:RunH G→X:=by intro hg';refine Oq ?_;refine Oj [0] ?_;refine Ke ?_;refine Ko ?_;exact hg'.hw):X:=hs (RunH.mk hg)
theorem bX {X G:Prop} (hg:G) (hs:RunH G→X:=by intro hg';refine Oc ?_;refine Og ?_;exact hg'.hw):X:=hs (RunH.mk hg)
theorem bY {X G:Prop} (hg:G) (hs:RunH G→X:=by intro hg';refine Oa [2] ?_;refine Oi ?_;exact hg'.hw):X:=hs (RunH.mk hg)
theorem bZ {X G:Prop} (hg:G) (hs:RunH G→X:=by intro hg';refine Ou ?_;refine OQ [] mixed rfl aB ?_;exact hg'.hw):X:=hs (RunH.mk hg)
theorem ba {X G:Prop} (hg:G) (hs:RunH G→X:=by intro hg';refine Oa [4] ?_;refine Oi ?_;exact hg'.hw):X:=hs (RunH.mk hg)
theorem bc {X G:Prop} (hg:G) (hs:RunH G→X:=by intro hg';refine Oa [4,6,7,9,10,38,56,57,58,59,60,61,62,68,69,71,75,76,81,82] ?_;exact hg'.hw):X:=hs (RunH.mk hg)
theorem bd {X G:Prop} (hg:G) (hs:RunH G→X:=by intro hg';refine OC ?_;refine Ol ?_;refine Od ?_;exact hg'.hw):X:=hs (RunH.mk hg)
theorem be {X G:Prop} (hg:G) (hs:RunH G→X:=by intro hg';refine Ot ?_;refine OH hS aD ?_;exact hg'.hw):X:=hs (RunH.mk hg)
theorem bf {X G:Prop} (hg:G) (hs:RunH G→X:=by intro hg';refine Om (dj:=21) rfl rfl rfl ?_;refine Om (dj:=21) rfl rfl rfl ?_;refine OB ?_;refine Oe ?_;refine Om (dj:=26) rfl rfl rfl ?_;refine Om (dj:=26) rfl rfl rfl ?_;refine Om (dj:=26) rfl rfl rfl ?_;refine OB ?_;refine Oe ?_;exact hg'.hw):X:=hs (RunH.mk hg)
theorem bg {X G:Prop} (hg:G) (hs:RunH G→X:=by intro hg';refine bX ?_;refine Od ?_;refine Ou ?_;exact hg'.hw):X:=hs (RunH.mk hg)
theorem bh {X G:Prop} (hg:G) (hs:RunH G→X:=by intro hg';refine Oe ?_;refine OG ?_;refine OG ?_;refine Oq ?_;refine Oq ?_;exact hg'.hw):X:=hs (RunH.mk hg)
theorem bj {X G:Prop} (hg:G) (hs:RunH G→X:=by intro hg';refine Ou ?_;refine Oz ?_;exact hg'.hw):X:=hs (RunH.mk hg)
theorem bl {X G:Prop} (hg:G) (hs:RunH G→X:=by intro hg';refine Og ?_;refine Od ?_;exact hg'.hw):X:=hs (RunH.mk hg)
theorem bo {X G:Prop} (hg:G) (hs:RunH G→X:=by intro hg';refine Om (dj:=40) rfl rfl rfl ?_;refine OB ?_;refine Oe ?_;refine Om (dj:=44) rfl rfl rfl ?_;refine OB ?_;refine Oe ?_;refine Om (dj:=47) rfl rfl rfl ?_;refine OB ?_;refine bW ?_;exact hg'.hw):X:=hs (RunH.mk hg)
theorem bp {X G:Prop} (hg:G) (hs:RunH G→X:=by intro hg';refine Ox ok.po ?_;refine Ob ok.po ?_;exact hg'.hw):X:=hs (RunH.mk hg)
theorem br {X G:Prop} (hg:G) (hs:RunH G→X:=by intro hg';refine OP (zs:=[.int .i64 0,.nils]) (cs:=[_,_]) aB aI aB (.cons (off:=0) (s:=1) aB (AV.cells_one aG) rfl aE (.cons (off:=1) (s:=1) aB (AV.cells_one aG) rfl aE .nil)) aI ?_;exact hg'.hw):X:=hs (RunH.mk hg)
theorem bt {X G:Prop} (hg:G) (hs:RunH G→X:=by intro hg';refine Ou ?_;refine Ot ?_;exact hg'.hw):X:=hs (RunH.mk hg)
theorem bu {X G:Prop} (hg:G) (hs:RunH G→X:=by intro hg';refine Og ?_;refine Ol ?_;refine Od ?_;exact hg'.hw):X:=hs (RunH.mk hg)
theorem bv {X G:Prop} (hg:G) (hs:RunH G→X:=by intro hg';refine Kc rfl ?_;refine Kx aF aF ?_;refine Oe ?_;refine Og ?_;exact hg'.hw):X:=hs (RunH.mk hg)
theorem bx {X G:Prop} (hg:G) (hs:RunH G→X:=by intro hg';refine bS ?_;refine Ow [] ?_;refine bX ?_;refine Od ?_;refine Oi ?_;exact hg'.hw):X:=hs (RunH.mk hg)
theorem bz {X G:Prop} (hg:G) (hs:RunH G→X:=by intro hg';refine Oh (dj:=46) rfl rfl ?_;refine Of hp49 ((r.pack hm).2.ext hS.keeps) rfl ?_;refine Oa [32] ?_;exact hg'.hw):X:=hs (RunH.mk hg)
theorem b4 {X G:Prop} (hg:G) (hs:RunH G→X:=by intro hg';refine Oc ?_;refine Ox (r.pack hm).1 ?_;refine Oh (dj:=46) rfl rfl ?_;refine Ob (r.pack hm).1 ?_;exact hg'.hw):X:=hs (RunH.mk hg)
theorem b5 {X G:Prop} (hg:G) (hs:RunH G→X:=by intro hg';refine OL hS rfl aE rfl ?_;exact hg'.hw):X:=hs (RunH.mk hg)
theorem b6 {X G:Prop} (hg:G) (hs:RunH G→X:=by intro hg';refine Oa [0,1] ?_;refine Oc ?_;exact hg'.hw):X:=hs (RunH.mk hg)
theorem b7 {X G:Prop} (hg:G) (hs:RunH G→X:=by intro hg';refine Om (dj:=16) rfl rfl rfl ?_;refine Om (dj:=16) rfl rfl rfl ?_;refine OB ?_;refine Oe ?_;refine Om (dj:=21) rfl rfl rfl ?_;refine bf ?_;refine Om (dj:=31) rfl rfl rfl ?_;refine OB ?_;refine bW ?_;exact hg'.hw):X:=hs (RunH.mk hg)
theorem b8 {X G:Prop} (hg:G) (hs:RunH G→X:=by intro hg';refine Oa [4,6,7,9,10,38,56,57,58,59,60,61,62,68,69,71,75,76] ?_;exact hg'.hw):X:=hs (RunH.mk hg)
theorem b9 {X G:Prop} (hg:G) (hs:RunH G→X:=by intro hg';refine Ku ?_;refine O1 ?_;refine Oe ?_;exact hg'.hw):X:=hs (RunH.mk hg)
theorem cA {X G:Prop} (hg:G) (hs:RunH G→X:=by intro hg';refine Oa [2,3] ?_;refine Oi ?_;exact hg'.hw):X:=hs (RunH.mk hg)
theorem cB {X G:Prop} (hg:G) (hs:RunH G→X:=by intro hg';refine Om (dj:=14) rfl rfl rfl ?_;refine Om (dj:=14) rfl rfl rfl ?_;refine Om (dj:=14) rfl rfl rfl ?_;exact hg'.hw):X:=hs (RunH.mk hg)
theorem cC {X G:Prop} (hg:G) (hs:RunH G→X:=by intro hg';refine OP (zs:=[.int .i64 0,.int .i64 0]) (cs:=[_,_]) aB aI aB (.cons (off:=0) (s:=1) aB (AV.cells_one aG) rfl aE (.cons (off:=1) (s:=1) aB (AV.cells_one aG) rfl aE .nil)) aI ?_;refine OP (zs:=[.int .i64 0,.int .i64 0]) (cs:=[_,_]) aB aI aB (.cons (off:=0) (s:=1) aB (AV.cells_one aG) rfl aE (.cons (off:=1) (s:=1) aB (AV.cells_one aG) rfl aE .nil)) aI ?_;exact hg'.hw):X:=hs (RunH.mk hg)
theorem cD {X G:Prop} (hg:G) (hs:RunH G→X:=by intro hg';refine Ox hpf ?_;refine Ob hpf ?_;exact hg'.hw):X:=hs (RunH.mk hg)
theorem cE {X G:Prop} (hg:G) (hs:RunH G→X:=by intro hg';refine OP (zs:=[.str ⟨#[]⟩,.int .i64 0]) (cs:=[_,_]) aB aI aB (.cons (off:=0) (s:=1) aB (AV.cells_one aG) rfl aE (.cons (off:=1) (s:=1) aB (AV.cells_one aG) rfl aE .nil)) aI ?_;exact hg'.hw):X:=hs (RunH.mk hg)
theorem cF {X G:Prop} (hg:G) (hs:RunH G→X:=by intro hg';refine KO hp36 hv aC ?_;refine KOps.wEql ?_;refine OP (zs:=[.str ⟨#[]⟩,.int .i64 0,.bool false]) (cs:=[_,_,_]) aB aI aB (.cons (off:=0) (s:=1) aB (AV.cells_one aG) rfl aE (.cons (off:=1) (s:=1) aB (AV.cells_one aG) rfl aE (.cons (off:=2) (s:=1) aB (AV.cells_one aG) rfl aE .nil))) aI ?_;refine Kq aB ?_;refine ba ?_;refine⟨?_,rfl⟩;exact hg'.hw):X:=hs (RunH.mk hg)
theorem cG {X G:Prop} (hg:G) (hs:RunH G→X:=by intro hg';refine OC ?_;refine Ol ?_;exact hg'.hw):X:=hs (RunH.mk hg)
theorem cH {X G:Prop} (hg:G) (hs:RunH G→X:=by intro hg';refine Ot ?_;refine Qq ?_;refine bl ?_;refine Ou ?_;exact hg'.hw):X:=hs (RunH.mk hg)
theorem cI {X G:Prop} (hg:G) (hs:RunH G→X:=by intro hg';refine OB ?_;refine Oe ?_;exact hg'.hw):X:=hs (RunH.mk hg)
theorem cJ {X G:Prop} (hg:G) (hs:RunH G→X:=by intro hg';refine OP (zs:=[.str ⟨#[]⟩]) (cs:=[_]) aB aI aB (.cons (off:=0) (s:=1) aB (AV.cells_one aG) rfl aE .nil) aI ?_;refine Kq aB ?_;refine ba ?_;refine⟨?_,rfl⟩;exact hg'.hw):X:=hs (RunH.mk hg)
theorem cK {X G:Prop} (hg:G) (hs:RunH G→X:=by intro hg';refine Oc ?_;refine Ox r.ok.ad ?_;refine Ob r.ok.ad ?_;exact hg'.hw):X:=hs (RunH.mk hg)
theorem cL {X G:Prop} (hg:G) (hs:RunH G→X:=by intro hg';refine Kb ?_;refine O2 ?_;refine O7 ?_;refine O5 ?_;exact hg'.hw):X:=hs (RunH.mk hg)
theorem cM {X G:Prop} (hg:G) (hs:RunH G→X:=by intro hg';refine Of hp12 (Rd.ext hS.keeps hF) rfl ?_;exact hg'.hw):X:=hs (RunH.mk hg)
theorem cN {X G:Prop} (hg:G) (hs:RunH G→X:=by intro hg';refine Ox r.ok.po ?_;refine Ob r.ok.po ?_;exact hg'.hw):X:=hs (RunH.mk hg)
theorem cO {X G:Prop} (hg:G) (hs:RunH G→X:=by intro hg';refine Ow [0,1,2,3,9,10,11,14,54,55,56,92,93,94,95,96,97,98,99,100,101,104,105,106] ?_;refine bX ?_;exact hg'.hw):X:=hs (RunH.mk hg)
theorem cP {X G:Prop} (hg:G) (hs:RunH G→X:=by intro hg';refine ba ?_;refine bU ?_;exact hg'.hw):X:=hs (RunH.mk hg)
theorem cQ {X G:Prop} (hg:G) (hs:RunH G→X:=by intro hg';refine Ot ?_;refine Oq ?_;refine Oj [] ?_;refine Ot ?_;exact hg'.hw):X:=hs (RunH.mk hg)
theorem cR {X G:Prop} (hg:G) (hs:RunH G→X:=by intro hg';refine bd ?_;refine Ow [1,2,3,6,7,19,20,21,31,32,33,34,35,36,37,48,49,50,51,52] ?_;refine bX ?_;exact hg'.hw):X:=hs (RunH.mk hg)
theorem cS {X G:Prop} (hg:G) (hs:RunH G→X:=by intro hg';refine Oa [4,5] ?_;refine Oi ?_;exact hg'.hw):X:=hs (RunH.mk hg)
theorem cT {X G:Prop} (hg:G) (hs:RunH G→X:=by intro hg';refine KO hp45 hv aC ?_;refine OP (zs:=[.int .i64 0,.str ⟨#[]⟩]) (cs:=[_,_]) aB aI aB (.cons (off:=0) (s:=1) aB (AV.cells_one aG) rfl aE (.cons (off:=1) (s:=1) aB (AV.cells_one aG) rfl aE .nil)) aI ?_;refine Kq aB ?_;refine ba ?_;refine⟨?_,rfl⟩;exact hg'.hw):X:=hs (RunH.mk hg)
theorem cU {X G:Prop} (hg:G) (hs:RunH G→X:=by intro hg';refine⟨congrArg AV.bool ?_,rfl⟩;exact hg'.hw):X:=hs (RunH.mk hg)
theorem cV {X G:Prop} (hg:G) (hs:RunH G→X:=by intro hg';refine bZ ?_;refine Oe ?_;exact hg'.hw):X:=hs (RunH.mk hg)
theorem cW {X G:Prop} (hg:G) (hs:RunH G→X:=by intro hg';refine QJ (A:=A) (O:=O) (w:=w) EvK.eq (hS.rdD 8 rfl ok.vw) ok.ll ?_;exact hg'.hw):X:=hs (RunH.mk hg)
theorem cX {X G:Prop} (hg:G) (hs:RunH G→X:=by intro hg';refine Oa [32] ?_;refine OM ?_;refine bR ?_;refine bU ?_;exact hg'.hw):X:=hs (RunH.mk hg)
theorem cY {X G:Prop} (hg:G) (hs:RunH G→X:=by intro hg';refine Oh (dj:=201) rfl rfl ?_;exact hg'.hw):X:=hs (RunH.mk hg)
theorem cZ {X G:Prop} (hg:G) (hs:RunH G→X:=by intro hg';refine Ob hp2 ?_;exact hg'.hw):X:=hs (RunH.mk hg)
theorem cd {X G:Prop} (hg:G) (hs:RunH G→X:=by intro hg';refine bj ?_;refine Ot ?_;exact hg'.hw):X:=hs (RunH.mk hg)
theorem ce {X G:Prop} (hg:G) (hs:RunH G→X:=by intro hg';refine bX ?_;refine Ol ?_;exact hg'.hw):X:=hs (RunH.mk hg)
theorem cf {X G:Prop} (hg:G) (hs:RunH G→X:=by intro hg';refine Oa [1,10] ?_;refine Oc ?_;refine KOps.orN (b) (s.blk _ <<< n) rfl rfl hb36 (hcl (hyes aA aA)) ?_;refine Oc ?_;refine KOps.andN (b) (s.blk _ <<< n) rfl rfl hb36 (hcl (hyes aA aA)) ?_;refine Oa [6,7] ?_;refine Oi ?_;exact hg'.hw):X:=hs (RunH.mk hg)
theorem ch {X G:Prop} (hg:G) (hs:RunH G→X:=by intro hg';refine Om (dj:=28) rfl rfl rfl ?_;refine cI ?_;refine Om (dj:=32) rfl rfl rfl ?_;exact hg'.hw):X:=hs (RunH.mk hg)
theorem cj {X G:Prop} (hg:G) (hs:RunH G→X:=by intro hg';refine Oh (dj:=174) rfl rfl ?_;exact hg'.hw):X:=hs (RunH.mk hg)
theorem cm {X G:Prop} (hg:G) (hs:RunH G→X:=by intro hg';refine OB ?_;refine bW ?_;exact hg'.hw):X:=hs (RunH.mk hg)
theorem cn {X G:Prop} (hg:G) (hs:RunH G→X:=by intro hg';refine Qy (dj:=21) rfl rfl ?_;refine Qy (dj:=21) rfl rfl ?_;refine Qy (dj:=21) rfl rfl ?_;refine Om (dj:=17) rfl rfl rfl ?_;refine O1 ?_;refine Oj [0,26] ?_;refine KW ?_;refine O0 [4,5] ?_;refine Oi ?_;exact hg'.hw):X:=hs (RunH.mk hg)
theorem cp {X G:Prop} (hg:G) (hs:RunH G→X:=by intro hg';refine Oy (hS.rd 1 rfl) (j:=i) aF aF ?_;exact hg'.hw):X:=hs (RunH.mk hg)
theorem cq {X G:Prop} (hg:G) (hs:RunH G→X:=by intro hg';refine OD [1,2,3,6,7,10,19,20,21,31,32,33,34,35,36,37] ?_;refine Ot ?_;refine OR hS (i:=2) rfl hp3 aI aE ?_;refine Oe ?_;refine OR hS (i:=0) rfl hp10 aI aE ?_;refine Oo rfl (Sb hs hb hlt rfl rfl) ?_;exact hg'.hw):X:=hs (RunH.mk hg)
theorem ct {X G:Prop} (hg:G) (hs:RunH G→X:=by intro hg';refine OD [0,1,7,8] ?_;refine bj ?_;refine Oa [0,1,5,7,8] ?_;refine Oc ?_;exact hg'.hw):X:=hs (RunH.mk hg)
theorem cw {X G:Prop} (hg:G) (hs:RunH G→X:=by intro hg';refine bc ?_;refine OM ?_;refine cG ?_;exact hg'.hw):X:=hs (RunH.mk hg)
theorem dA {X G:Prop} (hg:G) (hs:RunH G→X:=by intro hg';refine Og ?_;refine KH ?_;exact hg'.hw):X:=hs (RunH.mk hg)
theorem dB {X G:Prop} (hg:G) (hs:RunH G→X:=by intro hg';refine OG ?_;refine bl ?_;refine Ou ?_;exact hg'.hw):X:=hs (RunH.mk hg)
theorem dC {X G:Prop} (hg:G) (hs:RunH G→X:=by intro hg';refine Oh (dj:=36) rfl rfl ?_;refine Of hp39 ((r.pack hm).2.ext hS.keeps) rfl ?_;refine Oa [2,5,32] ?_;exact hg'.hw):X:=hs (RunH.mk hg)
theorem dD {X G:Prop} (hg:G) (hs:RunH G→X:=by intro hg';refine Of hp43 (hS.rd 0 rfl) rfl ?_;refine Oc ?_;exact hg'.hw):X:=hs (RunH.mk hg)
theorem dE {X G:Prop} (hg:G) (hs:RunH G→X:=by intro hg';refine Oa [1,2,3,6,7,19,20,21,31,32,33,34,35,36,37,48,49,50,51,52,53] ?_;exact hg'.hw):X:=hs (RunH.mk hg)
theorem dF {X G:Prop} (hg:G) (hs:RunH G→X:=by intro hg';refine Of hp9 (hS.rd 0 rfl) rfl ?_;exact hg'.hw):X:=hs (RunH.mk hg)
theorem dG {X G:Prop} (hg:G) (hs:RunH G→X:=by intro hg';refine Oe ?_;refine Oe ?_;exact hg'.hw):X:=hs (RunH.mk hg)
theorem dH {X G:Prop} (hg:G) (hs:RunH G→X:=by intro hg';refine Oe ?_;refine KOps.mul aF aF ?_;refine Oe ?_;refine KOps.subK (wrap32 aF aF) ?_;refine KOps.convIn (wrap64 aA aA) ?_;refine Kx aF aF ?_;refine Oq ?_;refine Og ?_;refine Ol ?_;exact hg'.hw):X:=hs (RunH.mk hg)
theorem dI {X G:Prop} (hg:G) (hs:RunH G→X:=by intro hg';refine Oc ?_;refine Ox (r.pack hm).1 ?_;refine Oh (dj:=36) rfl rfl ?_;refine Ob (r.pack hm).1 ?_;exact hg'.hw):X:=hs (RunH.mk hg)
theorem dJ {X G:Prop} (hg:G) (hs:RunH G→X:=by intro hg';refine Oa [0,1,2,3,9,10,11,14,15,16,54,55,56,92,93,94,95,96,97,98,99,100,101,104,105,106,107] ?_;exact hg'.hw):X:=hs (RunH.mk hg)
theorem dK {X G:Prop} (hg:G) (hs:RunH G→X:=by intro hg';refine OR hS (i:=0) rfl hp2 aI aE ?_;exact hg'.hw):X:=hs (RunH.mk hg)
theorem dL {X G:Prop} (hg:G) (hs:RunH G→X:=by intro hg';refine Om (dj:=60) rfl rfl rfl ?_;refine Om (dj:=60) rfl rfl rfl ?_;refine O1 ?_;refine Oj [2,3,4,11,12,64] ?_;refine KW ?_;refine Ot ?_;refine Oo rfl (YB (hVb.ext hS.keeps)) ?_;exact hg'.hw):X:=hs (RunH.mk hg)
theorem dM {X G:Prop} (hg:G) (hs:RunH G→X:=by intro hg';refine Om (dj:=36) rfl rfl rfl ?_;refine cI ?_;refine Om (dj:=40) rfl rfl rfl ?_;refine bo ?_;exact hg'.hw):X:=hs (RunH.mk hg)
theorem dN {X G:Prop} (hg:G) (hs:RunH G→X:=by intro hg';refine Oa [1] ?_;refine Ot ?_;refine OR hS (i:=0) rfl hp1 aI aE ?_;exact hg'.hw):X:=hs (RunH.mk hg)
end Go.Am
namespace Go.Am
inductive AV where
  | bot
  | bool (b:Bool)
  | int (k:IntKind) (n:Int)
  | str (s:ByteArray)
  | ptr (b o:Nat)
  | nilp
  | slc (b o n s:Nat) (full:Bool)
  | nils
  | mp (b:Nat)
  | it (b:Nat)
  | nilm
  | fn (f:FuncId) (caps:List AV)
  | nilf
  | agg (l:List AV)
  | tup (l:List AV)
  | fnm (f:FuncId) (first caps:List AV)
  | ifc (t:TypeId) (x:AV)
  | nili
  | fmeth (name:String) (x:AV)
  deriving Inhabited
inductive Thing where
  | map (es:List (AV × AV))
  | dmap (es:List (AV × AV))
  | walk (s:ByteArray) (pos:Nat)
  | mwalk (bm n:Nat) (seen:List Nat)
  | gone
  deriving Inhabited
inductive Blk where
  | cells (fam:Option Nat) (pos:Nat) (cs:List AV)
  | obj (fam:Nat) (x:Thing)
  deriving Inhabited
structure Fam where
  ext:Nat
  live:Option (List Nat)
  deriving Inhabited
structure AHeap where
  blks:List Blk
  fams:List Fam
  globs:List Nat
  deriving Inhabited
def AHeap.next (h:AHeap):Nat:=h.blks.length
def AHeap.get (h:AHeap) (b:Nat):Option Blk:=h.blks[b]?
def AHeap.fam (h:AHeap) (F:Nat):Option Fam:=h.fams[F]?
def AHeap.nfam (h:AHeap):Nat:=h.fams.length
def AHeap.push (h:AHeap) (k:Blk):AHeap:={h with blks:=h.blks ++ [k]}
def AHeap.set (h:AHeap) (b:Nat) (k:Blk):AHeap:={h with blks:=h.blks.set b k}
def AHeap.pushFam (h:AHeap) (f:Fam):AHeap:={h with fams:=h.fams ++ [f]}
def AHeap.setFam (h:AHeap) (F:Nat) (f:Fam):AHeap:={h with fams:=h.fams.set F f}
def AHeap.alloc (h:AHeap) (cs:List AV):AHeap:=(h.push (.cells (some h.nfam) 0 cs)).pushFam ⟨cs.length,none⟩
def Fam.sees (f:Fam) (b:Nat):Bool:=match f.live with|none=>true|some l=>l.contains b
def AHeap.valid (h:AHeap) (b:Nat):Bool:=match h.get b with
  | some (.cells none _ _)=>true
  | some (.cells (some F) _ _)=>match h.fam F with|some f=>f.sees b|none=>false
  | some (.obj _ _)=>true
  | none=>false
abbrev Emb:=Nat→Option (Nat × Nat × Nat)
inductive VRel (φ:Emb):AV→Value→Prop where
  | bot (v:Value):VRel φ .bot v
  | bool (b:Bool):VRel φ (.bool b) (.bool b)
  | int (k:IntKind) (n:Int):VRel φ (.int k n) (.int k n)
  | str (s:ByteArray):VRel φ (.str s) (.string s)
  | ptr (b o k i z:Nat) (h : φ b=some (k,i,z)):VRel φ (.ptr b o) (.pointer (some ⟨k,i+o,none⟩))
  | nilp:VRel φ .nilp (.pointer none)
  | slc (b o n s : Nat) (full : Bool) (a : Addr) (c : Nat) (hn : n ≤ c) (hc : c ≤ maxLen) (hf : full = true → c = n)
      (h:c=0∨∃ k i z,φ b=some (k,i,z)∧a=⟨k,i+o,none⟩∧i+o+c*s≤z):VRel φ (.slc b o n s full) (.slice (some a) n c)
  | nils:VRel φ .nils (.slice none 0 0)
  | mp (b k i z:Nat) (h : φ b=some (k,i,z)):VRel φ (.mp b) (.map (some k))
  | it (b k z:Nat) (h : φ b=some (k,0,z)):VRel φ (.it b) (.pointer (some ⟨k,0,none⟩))
  | nilm:VRel φ .nilm (.map none)
  | fn (f : FuncId) (caps : List AV) (cs : List Value) (hl : caps.length = cs.length) (h : ∀ (j : Nat) (x : AV) (y : Value), caps[j]? = some x → cs[j]? = some y → VRel φ x y) :
      VRel φ (.fn f caps) (.func (.func f) #[] cs.toArray)
  | nilf:VRel φ .nilf .nilFunc
  | agg (l : List AV) (cs : List Value) (hl : l.length = cs.length) (h : ∀ (j : Nat) (x : AV) (y : Value), l[j]? = some x → cs[j]? = some y → VRel φ x y) :
      VRel φ (.agg l) (.agg cs.toArray)
  | tup (l : List AV) (cs : List Value) (hl : l.length = cs.length) (h : ∀ (j : Nat) (x : AV) (y : Value), l[j]? = some x → cs[j]? = some y → VRel φ x y) :
      VRel φ (.tup l) (.tuple cs.toArray)
  | fnm (f : FuncId) (first caps : List AV) (fs cs : List Value) (hl : first.length = fs.length) (h : ∀ (j : Nat) (x : AV) (y : Value), first[j]? = some x → fs[j]? = some y → VRel φ x y) (hl' : caps.length = cs.length) (h' : ∀ (j : Nat) (x : AV) (y : Value), caps[j]? = some x → cs[j]? = some y → VRel φ x y) :
      VRel φ (.fnm f first caps) (.func (.func f) fs.toArray cs.toArray)
  | ifc (t:TypeId) (x:AV) (v:Value) (h:VRel φ x v):VRel φ (.ifc t x) (.iface t v)
  | nili:VRel φ .nili .nilIface
  | fmeth (name:String) (x:AV) (v:Value) (h:VRel φ x v):VRel φ (.fmeth name x) (.func (.method name) #[v] #[])
def VRels (φ:Emb) (l:List AV) (cs:List Value):Prop:=l.length=cs.length∧∀ (j:Nat) (x:AV) (y:Value),l[j]? = some x→cs[j]? = some y→VRel φ x y
def Emb.le (φ φ':Emb):Prop:=∀ b p,φ b=some p→φ' b=some p
theorem Emb.le_refl (φ:Emb) : φ.le φ:=fun _ _ h=>h
theorem Emb.le_trans {φ φ' φ'':Emb} (h : φ.le φ') (h' : φ'.le φ'') : φ.le φ'':=fun b p hp=>h' b p (h b p hp)
theorem VRel.mono {φ φ':Emb} (hle : φ.le φ') {x:AV} {v:Value} (h:VRel φ x v):VRel φ' x v:=by
 induction h with
 | bot v=>exact .bot v
 | bool b=>exact .bool b
 | int k n=>exact .int k n
 | str s=>exact .str s
 | ptr b o k i z h=>exact .ptr b o k i z (hle _ _ h)
 | nilp=>exact .nilp
 | slc b o n s full a c hn hc hf h=>
  refine .slc b o n s full a c hn hc hf ?_;rcases h with h|⟨k,i,z,h1,h2,h3⟩
  exact .inl h;exact .inr ⟨k,i,z,hle _ _ h1,h2,h3⟩
 | nils=>exact .nils
 | mp b k i z h=>exact .mp b k i z (hle _ _ h)
 | it b k z h=>exact .it b k z (hle _ _ h)
 | nilm=>exact .nilm
 | fn f caps cs hl _ ih=>exact .fn f caps cs hl ih
 | nilf=>exact .nilf
 | agg l cs hl _ ih=>exact .agg l cs hl ih
 | tup l cs hl _ ih=>exact .tup l cs hl ih
 | fnm f first caps fs cs hl _ hl' _ ih ih'=>exact .fnm f first caps fs cs hl ih hl' ih'
 | ifc t x v _ ih=>exact .ifc t x v ih
 | nili=>exact .nili
 | fmeth name x v _ ih=>exact .fmeth name x v ih
theorem VRels.mono {φ φ':Emb} (hle : φ.le φ') {l:List AV} {cs:List Value} (h:VRels φ l cs):VRels φ' l cs:=⟨h.1,fun j x y hx hy=>(h.2 j x y hx hy).mono hle⟩
def CellsAt (φ:Emb) (cs:List AV) (c:Array Value) (i:Nat):Prop:=∀ (j:Nat) (x:AV),cs[j]? = some x→∃ v,c[i+j]? = some v∧VRel φ x v
def RowAt (w:World) (k:Nat) (c:Array Value) (e:TypeId):Prop:=∃ f:Nat × Nat,w.heap[k]? = some (.cells c e f)∧(c.size≤f.1∨f.2=0)
theorem RowAt.of {w:World} {k:Nat} {c:Array Value} {e:TypeId} (h:w.heap[k]? = some (.cells c e (0,0))):RowAt w k c e:=⟨_,h,.inr rfl⟩
theorem RowAt.new (w:World) (c:Array Value) (e:TypeId):RowAt (w.alloc (.cells c e)) w.heap.size c e:=.of (heap_alloc_new w _)
theorem RowAt.cell {w:World} {k j:Nat} {c:Array Value} {e:TypeId} (h:RowAt w k c e):w.cell? ⟨k,j,none⟩=c[j]?:=let⟨f,h,_⟩:=h; cell_of_row w k j c e f h
theorem RowAt.uniq {w:World} {k:Nat} {c c':Array Value} {e e':TypeId} (h:RowAt w k c e) (h':RowAt w k c' e'):c=c'∧e=e':=by
 obtain⟨f,h,_⟩:=h;obtain⟨f',h',_⟩:=h';rw[h] at h';cases h';exact⟨rfl,rfl⟩
theorem RowAt.old {w w':World} {k:Nat} {c:Array Value} {e:TypeId} (h:RowAt w k c e) (hk:w'.heap[k]? = w.heap[k]?):RowAt w' k c e:=let⟨f,h,hf⟩:=h; ⟨f,hk.trans h,hf⟩
theorem RowAt.lt {w:World} {k:Nat} {c:Array Value} {e:TypeId} (h:RowAt w k c e):k<w.heap.size:=let⟨_,h,_⟩:=h; (Array.getElem?_eq_some_iff.1 h).1
theorem RowAt.set {w:World} {k:Nat} {c c':Array Value} {e:TypeId} (h:RowAt w k c e) (hs:c'.size=c.size):RowAt (w.setRow k c') k c' e:=let⟨f,h,hf⟩:=h; ⟨f,setRow_heap w k c c' e f h,by rw[hs]; exact hf⟩
theorem RowAt.thaw {w:World} {k j:Nat} {c:Array Value} {e:TypeId} (h:RowAt w k c e) (hj:j<c.size):w.frozen? ⟨k,j,none⟩=false:=by
 obtain⟨⟨lo,hi⟩,h,hf⟩:=h;simp only[World.frozen?,h,Bool.and_eq_false_iff,decide_eq_false_iff_not];dsimp only at hf;omega
theorem RowAt.store {P : Program} {g o : Nat} {t : TypeId} : ∀ (vs : List Value) (i : Nat) (cur : Array Value) (w : World), RowAt w g cur t → o + i + vs.length ≤ cur.size → (∀ v ∈ vs, v.oneCell' = true) →
    (storeCells ⟨g,o,none⟩ vs i).run P w = .ok () (w.setRow g (cur.toList.take (o+i) ++ vs ++ cur.toList.drop (o+i+vs.length)).toArray):=by
 intro vs
 induction vs with
 | nil=>
  intro i cur w ⟨f,hg,_⟩ _ _;simp only[storeCells,List.append_nil,jL,jC,List.take_append_drop,Array.toArray_toList];rw[setRow_self w g cur t f hg];rfl
 | cons v vs ih=>
  intro i cur w hr hl h1;have hi:o+i<cur.size:=by simp at hl; omega
  have hadd:(⟨g,o,none⟩:Addr).add i=⟨g,o+i,none⟩:=by unfold Addr.add; split <;> simp_all
  have hst:(Go.store ((⟨g,o,none⟩:Addr).add i) v).run P w = .ok () (w.setRow g (cur.setIfInBounds (o+i) v)):=by
   obtain⟨f,hg,_⟩:=id hr;rw[hadd,run_store P w _ v _ (h1 v (by simp)),hr.cell];simp[hr.thaw hi,hi,setCell_eq_setRow w g (o+i) cur t f v hg]
  have ih:=ih (i+1) (cur.setIfInBounds (o+i) v) (w.setRow g (cur.setIfInBounds (o+i) v)) (hr.set (by simp)) (by simp at hl⊢; omega) (fun x hx=>h1 x (by simp[hx]));simp only[storeCells,dW,hst,dQ,ih,setRow_setRow];congr 3;have e:=list_seg_step cur.toList (o+i) v vs (by simp at hl⊢; omega);simpa [jE,fS] using e
def BRel (φ : Emb) (w : World) (k i z : Nat) : Blk → Prop
  | .cells none p cs=>(∀ (j:Nat) (x:AV),cs[j]? = some x→∃ v,w.cell? ⟨k,i+j,none⟩=some v∧VRel φ x v)∧(p=1→i=0∧∃ c e f,w.heap[k]? = some (.cells c e f)∧c.size=cs.length)
  | .cells (some _) _ cs=>∃ c e,RowAt w k c e∧c.size=z∧CellsAt φ cs c i
  | .obj _ (.map es)=>∃ ms,w.heap[k]? = some (.map ms ms.size)∧es.length=ms.size∧∀ (j:Nat) (x:AV × AV) (m:MapEntry),es[j]? = some x→ms[j]? = some m→m.born=j∧VRel φ x.1 m.key∧VRel φ x.2 m.val
  | .obj _ (.dmap es)=>∃ ms n,w.heap[k]? = some (.map ms n)∧es.length=ms.size∧∀ (j:Nat) (x:AV × AV) (m:MapEntry),es[j]? = some x→ms[j]? = some m→VRel φ x.1 m.key∧VRel φ x.2 m.val
  | .obj _ (.walk s pos)=>w.heap[k]? = some (.stringIter s pos)
  | .obj _ (.mwalk bm n seen)=>∃ km im zm,φ bm=some (km,im,zm)∧w.heap[k]? = some (.mapIter (some km) n seen.toArray n)
  | .obj _ .gone=>True
def AHeap.mut (h:AHeap) (φ:Emb) (k:Nat):Prop:=∃ b i z,φ b=some (k,i,z)∧((∃ F p cs,h.get b=some (.cells (some F) p cs))∨∃ F x,h.get b=some (.obj F x))
structure HRel (φ:Emb) (h:AHeap) (w:World):Prop where
  glob:∀ g∈h.globs,∃ z,φ g=some (g,0,z)
  lt:∀ b k i z,φ b=some (k,i,z)→k<w.heap.size
  blk:∀ b k i z B,φ b=some (k,i,z)→h.get b=some B→h.valid b=true→BRel φ w k i z B
  arr:∀ b k i z F p cs,φ b=some (k,i,z)→h.get b=some (.cells (some F) p cs)→∃ c e,RowAt w k c e∧c.size=z∧i+cs.length≤z
  one:∀ b b' k i i' z z' F F' p p' cs cs',φ b=some (k,i,z)→φ b'=some (k,i',z')→h.get b=some (.cells (some F) p cs)→h.get b'=some (.cells (some F') p' cs')→F=F'∧p+i'=p'+i
  sep:∀ b b' k i i' z z' F p p' cs cs',φ b=some (k,i,z)→φ b'=some (k,i',z')→h.get b=some (.cells (some F) p cs)→h.get b'=some (.cells none p' cs')→False
  map:∀ b b' k i i' z z' F x B,φ b=some (k,i,z)→φ b'=some (k,i',z')→h.get b=some (.obj F x)→h.get b'=some B→b=b'
  ext:∀ b F p cs,h.get b=some (.cells (some F) p cs)→∃ f,h.fam F=some f∧p+cs.length≤f.ext
end Go.Am
namespace Go.Am
def AV.one : AV → Bool
  | .bot | .agg _ | .tup _=>false
  | _=>true
def AV.cells? : AV → Option (List AV)
  | .agg l=>if l.all AV.one then some l else none
  | v=>if v.one then some [v] else none
def AV.of : Nat → Value → AV
  | _,.bool b=>.bool b
  | _,.int k n=>.int k n
  | _,.string s=>.str s
  | _,.pointer none=>.nilp
  | _,.slice none 0 0=>.nils
  | _,.map none=>.nilm
  | _,.nilFunc=>.nilf
  | _,.nilIface=>.nili
  | n+1,.agg cs=>.agg (cs.toList.map (AV.of n))
  | n+1,.tuple cs=>.tup (cs.toList.map (AV.of n))
  | _,_=>.bot
theorem AV.of_rel (φ:Emb):∀ (n:Nat) (v:Value),VRel φ (AV.of n v) v:=by
 intro n
 induction n with
 | zero=>
  intro v;unfold AV.of;split <;> first|exact .bool _|exact .int _ _|exact .str _|exact .nilp|exact .nils|exact .nilm|exact .nilf|exact .nili|exact .bot _|(rename_i h; cases h)
 | succ n ih=>
  intro v;unfold AV.of
  split <;> first
    | exact .bool _|exact .int _ _|exact .str _|exact .nilp|exact .nils|exact .nilm|exact .nilf|exact .nili|exact .bot _
    | (refine .agg _ (Array.toList _) (by simp) ?_
       intro j x y hx hy;simp only[fY,hy,dZ,dO] at hx;subst hx
       cases ‹n+1=_+1›
       exact ih y)
    | (refine .tup _ (Array.toList _) (by simp) ?_
       intro j x y hx hy;simp only[fY,hy,dZ,dO] at hx;subst hx
       cases ‹n+1=_+1›
       exact ih y)
def evalA (globs : List Nat) (fr : List AV) : Operand → AV
  | .tmp t=>fr.getD t .bot
  | .const v=>AV.of 4 v
  | .global g=>if globs.contains g then .ptr g 0 else .bot
  | .func f=>.fn f []
def szA (P:Program) (t:TypeId):Option Nat:=(P.info? t).map (·.size)
def Qf (P:Program) (t:TypeId):Option AV:=((P.info? t).bind (·.zero)).map (AV.of 4)
def Jf (P:Program) (t:TypeId):Option Bool:=(P.underlying t).map fun | .struct _=>true | .array _ _=>true|_=>false
def XE (P:Program) (t:TypeId):Bool:=match P.underlying t with|some .bool=>true|_=>false
def Q6 (P:Program) (t:TypeId):Bool:=match P.underlying t with|some (.slice _)=>true|_=>false
def XN (P:Program) (t:TypeId):Bool:=match P.underlying t with|some (.pointer _)=>true|_=>false
def Jn (P:Program) (t:TypeId):Bool:=match P.underlying t with|some (.interface _)=>false|some _=>true|none=>false
def notPtr : TypeDesc → Bool
  | .pointer _=>false
  | _=>true
def YF (P:Program) (t:TypeId) (name:String):Option FuncId:=
  match P.info? t with
  | some i=>match i.methods.find? (·.name == name) with
    | some m=>match P.underlying t with
      | some d=>if m.path.size=0∧notPtr d=true then (match m.func with|some (f,false)=>some f|_=>none) else none
      | none=>none
    | none=>none
  | none=>none
def ZX (P:Program) (t:TypeId):Option TypeId:=match P.underlying t with|some (.slice e)=>some e|_=>none
def X6 (P:Program) (t:TypeId):Option (Nat × TypeId):=match P.underlying t with|some (.array n e)=>some (n,e)|_=>none
def ZK (P:Program) (t:TypeId):Bool:=match P.underlying t with|some .string=>true|_=>false
def Vn (P:Program) (t:TypeId):Option IntKind:=match P.underlying t with|some (.int k)=>some k|_=>none
def Xi (op:BinOp) (k:IntKind) (a b:Int):Option AV:=
  match op with
  | .add=>some (.int k (k.wrap (a+b)))
  | .sub=>some (.int k (k.wrap (a - b)))
  | .mul=>some (.int k (k.wrap (a*b)))
  | .quo=>if b=0 then none else some (.int k (k.wrap (a.tdiv b)))
  | .rem=>if b=0 then none else some (.int k (a.tmod b))
  | .and=>some (.int k (bits .and k a b))
  | .or=>some (.int k (bits .or k a b))
  | .xor=>some (.int k (bits .xor k a b))
  | .andNot=>some (.int k (bits .andNot k a b))
  | .eql=>some (.bool (a == b))
  | .neq=>some (.bool (a != b))
  | .lss=>some (.bool (decide (a<b)))
  | .leq=>some (.bool (decide (a≤b)))
  | .gtr=>some (.bool (decide (b<a)))
  | .geq=>some (.bool (decide (b≤a)))
  | .shl=>if 0≤b then some (.int k (k.wrap (a*2 ^ min b.toNat k.bits))) else none
  | .shr=>if 0≤b then some (.int k (a.fdiv (2 ^ min b.toNat k.bits))) else none
def astr (op:BinOp) (a b:ByteArray):Option AV:=
  match op with
  | .add=>if ((a.size+b.size:Nat):Int)≤9223372036854775807 then some (.str (a ++ b)) else none
  | .eql=>some (.bool (a.toList == b.toList))
  | .neq=>some (.bool !(a.toList == b.toList))
  | .lss=>some (.bool (jD a.toList b.toList))
  | .leq=>some (.bool (jD a.toList b.toList || a.toList == b.toList))
  | .gtr=>some (.bool !(jD a.toList b.toList || a.toList == b.toList))
  | .geq=>some (.bool !(jD a.toList b.toList))
  | _=>none
def Yx (k : IntKind) : List AV → Option (List Int)
  | []=>some []
  | .int k' n::l=>if k'=k then (Yx k l).map (n :: ·) else none
  | _::_=>none
def aarr (P:Program) (t:TypeId) (a b:List AV):Option Bool:=
  match X6 P t with
  | some (n,e)=>match Vn P e with
    | some k=>match Yx k a,Yx k b with
      | some x,some y=>if P.eqGuardType P.depth t=false∧x.length=n∧y.length=n∧szA P e=some 1 then some (x == y) else none
      | _,_=>none
    | none=>none
  | none=>none
def ZG (P : Program) (op : BinOp) (t : TypeId) : AV → AV → Option AV
  | .int k a,.int k' b=>if op = .shl∨op = .shr∨k=k' then Xi op k a b else none
  | .bool a,.bool b=>if XE P t then (match op with | .eql=>some (.bool (a == b)) | .neq=>some (.bool (!(a == b)))|_=>none) else none
  | .str a,.str b=>astr op a b
  | .agg a,.agg b=>match op with | .eql=>(aarr P t a b).map .bool | .neq=>(aarr P t a b).map fun r=>.bool !r|_=>none
  | .nils,.nils=>if Q6 P t then (match op with | .eql=>some (.bool true) | .neq=>some (.bool false)|_=>none) else none
  | .slc _ _ _ _ _,.nils=>if Q6 P t then (match op with | .eql=>some (.bool false) | .neq=>some (.bool true)|_=>none) else none
  | .nilp,.nilp=>if XN P t then (match op with | .eql=>some (.bool true) | .neq=>some (.bool false)|_=>none) else none
  | .ptr _ _,.nilp=>if XN P t then (match op with | .eql=>some (.bool false) | .neq=>some (.bool true)|_=>none) else none
  | _,_=>none
def aun (op : UnOp) : AV → Option AV
  | .bool b=>match op with | .not=>some (.bool !b)|_=>none
  | .int k n=>match op with
    | .neg=>some (.int k (k.wrap (0 - n)))
    | .xor=>some (.int k (bits .xor k (if k.signed then -1 else k.max) n))
    | _=>none
  | _=>none
def QK : AV → Option Int
  | .int _ i=>some i
  | _=>none
def Z5 (n : Nat) (lo hi mx : Option AV) : Option (Nat × Nat × Option Nat) := do
  let m←match mx with
    | some v=>do let i←QK v; if 0≤i∧i≤n then some (some i.toNat) else none
    | none=>some none
  let h←match hi with
    | some v=>do let i←QK v; if 0≤i∧i≤(m.getD n) then some i.toNat else none
    | none=>if m.isSome then none else some n
  let l←match lo with
    | some v=>do let i←QK v; if 0≤i∧i≤h then some i.toNat else none
    | none=>some 0
  some (l,h,m)
def YU (n h : Nat) (full : Bool) : Option Nat → Bool
  | some m=>m == h
  | none=>full && n == h
def Ve (P:Program) (t:TypeId) (x:AV) (lo hi mx:Option AV):Option AV:=
  match x with
  | .slc b o n s full => do
    let e←ZX P t
    let s'←szA P e
    if s'=s then
      let(l,h,m)←Z5 n lo hi mx
      some (.slc b (o+l*s) (h - l) s (YU n h full m))
    else none
  | .nils => do
    let e←ZX P t
    let _←szA P e
    let(_,_,_)←Z5 0 lo hi mx
    some .nils
  | .str s => if ZK P t ∧ mx.isNone then do
      let(l,h,_)←Z5 s.size lo hi none
      some (.str (s.extract l h))
    else none
  | _=>none
def Xz (P:Program) (t:TypeId) (x ix:AV):Option AV:=
  match x,ix with
  | .slc b o n s _, .int _ i => do
    let e←ZX P t
    let s'←szA P e
    if s'=s∧0≤i∧i<n then some (.ptr b (o+i.toNat*s)) else none
  | .ptr b o, .int _ i => do
    let(n,e)←X6 P t
    let s←szA P e
    if 0≤i∧i<n then some (.ptr b (o+i.toNat*s)) else none
  | _,_=>none
def apart (P : Program) (t : TypeId) (l : List AV) (off : Nat) : Option AV := do
  let g←Jf P t
  let s←szA P t
  if g then some (.agg ((l.drop off).take s)) else l[off]?
def Wt (P:Program) (t:TypeId) (x ix:AV):Option AV:=
  match x,ix with
  | .agg l, .int _ i => do
    let(n,e)←X6 P t
    let s←szA P e
    if 0≤i∧i<n then apart P e l (i.toNat*s) else none
  | .str s,.int _ i=>if ZK P t∧0≤i then s[i.toNat]?.map fun b=>.int .u8 b.toNat else none
  | _,_=>none
def XC (P:Program) (t:TypeId):Option (Array Field):=match P.underlying t with|some (.struct fs)=>some fs|_=>none
def afield (P:Program) (t:TypeId) (x:AV) (i:Nat):Option AV:=
  match x with
  | .agg l => do
    let fs←XC P t
    let f←fs[i]?
    apart P f.type l f.offset
  | _=>none
def YT (P:Program) (t:TypeId) (x:AV) (i:Nat):Option AV:=
  match x with
  | .ptr b o => do
    let fs←XC P t
    let f←fs[i]?
    let s←szA P f.type
    if s=0 then none else some (.ptr b (o+f.offset))
  | _=>none
def putL {α:Type} (cs:List α) (o:Nat) (l:List α):List α:=cs.take o ++ l ++ cs.drop (o+l.length)
def Xy (place : Nat → Option (Nat × Nat)) (cs : List AV) : List (Nat × AV) → Option (List AV)
  | []=>some cs
  | (i,v)::rest=>match place i,v.cells? with
    | some (off,s),some l=>if l.length=s∧off+s≤cs.length then Xy place (putL cs off l) rest else none
    | _,_=>none
def QB (P:Program) (t:TypeId) (i:Nat):Option (Nat × Nat):=
  match XC P t with
  | some fs=>match fs[i]? with
    | some f=>(szA P f.type).map fun s=>(f.offset,s)
    | none=>none
  | none=>match X6 P t with
    | some (_,e)=>(szA P e).map fun s=>(i*s,s)
    | none=>none
def ZU (P:Program) (t:TypeId):Bool:=
  match XC P t with
  | some fs=>fs.toList.all fun f=>(szA P f.type).isSome
  | none=>match X6 P t with|some (_,e)=>(szA P e).isSome|none=>false
def Xh (P : Program) (t : TypeId) (parts : List (Nat × AV)) : Option AV := do
  let z←Qf P t
  let cs←z.cells?
  if ZU P t = true then do
    let r←Xy (QB P t) cs parts
    some (.agg r)
  else none
def QL (big : Bool) : AV → AV → Option AV
  | .int k x,.int _ y=>some (.int k (if big then (if y>x then y else x) else (if y<x then y else x)))
  | _,_=>none
def alen (P : Program) (t : TypeId) : AV → Option AV
  | .slc _ _ n _ _=>if Q6 P t then some (.int .i64 n) else none
  | .nils=>if Q6 P t then some (.int .i64 0) else none
  | .str s=>match P.underlying t with|some .string=>some (.int .i64 s.size)|_=>none
  | _=>none
def acap (P : Program) (t : TypeId) : AV → Option AV
  | .slc _ _ n _ true=>if Q6 P t then some (.int .i64 n) else none
  | .nils=>if Q6 P t then some (.int .i64 0) else none
  | _=>none
def apure (P:Program) (ρ:Operand→AV) (op:Op):Option AV:=
  match op with
  | .move x | .assign x=>some (ρ x)
  | .pick c a b=>match ρ c with | .bool t=>some (if t then ρ a else ρ b)|_=>none
  | .nilCheck x=>match ρ x with | .ptr b o=>some (.ptr b o) | .fn f caps=>some (.fn f caps) | .fmeth name (.ifc t y)=>if (YF P t name).isSome=true then some (.fmeth name (.ifc t y)) else none|_=>none
  | .binOp op t x y _=>ZG P op t (ρ x) (ρ y)
  | .unOp op _ x=>aun op (ρ x)
  | .convert src dst x=>match ρ x with
    | .int _ n=>if (P.underlying src).isSome then (match Vn P dst with
      | some k=>some (.int k (k.wrap n))
      | none=>if ZK P dst then some (.str (Utf8.encode n)) else none) else none
    | _=>none
  | .makeFunc (.func f) first cap=>if first.size=0 then some (.fn f (cap.toList.map ρ)) else none
  | .makeFunc (.method name) first cap=>match first.toList,cap.toList with | [x],[]=>some (.fmeth name (ρ x))|_,_=>none
  | .slice t x lo hi mx=>Ve P t (ρ x) (lo.map ρ) (hi.map ρ) (mx.map ρ)
  | .fieldAddr t x f=>YT P t (ρ x) f
  | .field t x f=>afield P t (ρ x) f
  | .build t parts=>Xh P t (parts.toList.map fun p=>(p.1,ρ p.2))
  | .indexAddr t x ix=>Xz P t (ρ x) (ρ ix)
  | .index t x ix=>Wt P t (ρ x) (ρ ix)
  | .extract x i=>match ρ x with | .tup l=>l[i]? | _=>none
  | .makeInterface t x=>if Jn P t=true then some (.ifc t (ρ x)) else none
  | .call {callee:=.builtin .len,args,argTypes}=>match args.toList,argTypes.toList with
    | [x],[t]=>alen P t (ρ x)
    | _,_=>none
  | .call {callee:=.builtin .cap,args,argTypes}=>match args.toList,argTypes.toList with
    | [x],[t]=>acap P t (ρ x)
    | _,_=>none
  | .call {callee:=.builtin .max,args,..}=>match args.toList with
    | [x,y]=>QL true (ρ x) (ρ y)
    | [x,y,z,u]=>(QL true (ρ x) (ρ y)).bind fun a=>(QL true a (ρ z)).bind fun c=>QL true c (ρ u)
    | _=>none
  | .call {callee:=.builtin .min,args,..}=>match args.toList with
    | [x,y]=>QL false (ρ x) (ρ y)
    | [x,y,z,u]=>(QL false (ρ x) (ρ y)).bind fun a=>(QL false a (ρ z)).bind fun c=>QL false c (ρ u)
    | _=>none
  | _=>none
end Go.Am
namespace Go.Am
theorem K7 {P:Program} {t:TypeId} {s:Nat} (h:szA P t=some s) (w:World):(sizeOf t).run P w = .ok s w:=by
 unfold szA at h
 cases hi:P.info? t with
 | none=>rw[hi] at h; cases h
 | some i=>rw[hi] at h; simp only[dZ,dO] at h; simp[sizeOf,typeInfo,hi,h]
theorem Zh {P:Program} {t e:TypeId} (h:ZX P t=some e):P.underlying t=some (.slice e):=by
 unfold ZX at h; split at h <;> simp_all
theorem XS {P:Program} {t:TypeId} {p:Nat × TypeId} (h:X6 P t=some p):P.underlying t=some (.array p.1 p.2):=by
 unfold X6 at h;split at h;rename_i hu; cases h; exact hu;cases h
theorem XF {P:Program} {t:TypeId} (h:ZK P t=true):P.underlying t=some .string:=by
 unfold ZK at h; split at h <;> simp_all
theorem Yq {P:Program} {t:TypeId} {k:IntKind} (h:Vn P t=some k):P.underlying t=some (.int k):=by
 unfold Vn at h; split at h <;> simp_all
theorem V1 {P:Program} {t:TypeId} (h:XE P t=true):P.underlying t=some .bool:=by
 unfold XE at h; split at h <;> simp_all
theorem ZJ {P:Program} {t:TypeId} (h:Q6 P t=true):∃ e,P.underlying t=some (.slice e):=by
 unfold Q6 at h;split at h;rename_i e hu; exact⟨e,hu⟩;cases h
theorem WP {P:Program} {t:TypeId} (h:XN P t=true):∃ e,P.underlying t=some (.pointer e):=by
 unfold XN at h;split at h;rename_i e hu; exact⟨e,hu⟩;cases h
theorem VZ {P:Program} {t:TypeId} {fs:Array Field} (h:XC P t=some fs):P.underlying t=some (.struct fs):=by
 unfold XC at h; split at h <;> simp_all
theorem aint_run {P : Program} {op : BinOp} {k k' : IntKind} {t : TypeId} {a b : Int} {v : AV} (hk : op = .shl ∨ op = .shr ∨ k = k') (h : Xi op k a b = some v) (w : World) (φ : Emb) :
    ∃ c,(binOp op t (.int k a) (.int k' b)).run P w = .ok c w∧VRel φ v c:=by
 cases op <;> simp only[Xi,dO] at h
 case shl=>
  split at h;rename_i hb; simp only[dO] at h; subst h;exact⟨_,by simp[binOp,Op.shift,show¬ b<0 by omega],.int _ _⟩;cases h
 case shr=>
  split at h;rename_i hb; simp only[dO] at h; subst h;exact⟨_,by simp[binOp,Op.shift,show¬ b<0 by omega],.int _ _⟩;cases h
 all_goals
   have hk':k=k':=by simpa using hk
   subst hk'
 case quo=>
  split at h;cases h;simp only[dO] at h; subst h; exact⟨_,by simp[binOp,Op.intDiv, *],.int _ _⟩
 case rem=>
  split at h;cases h;simp only[dO] at h; subst h; exact⟨_,by simp[binOp,Op.intDiv, *],.int _ _⟩
 all_goals subst h
 case add=>exact⟨_,by simp[binOp,lH],.int _ _⟩
 case sub=>exact⟨_,by simp[binOp,lH],.int _ _⟩
 case mul=>exact⟨_,by simp[binOp,lH],.int _ _⟩
 case and=>exact⟨_,by rw[binOp_and,intBits_and]; rfl,.int _ _⟩
 case or=>exact⟨_,by rw[binOp_or,intBits_or]; rfl,.int _ _⟩
 case xor=>exact⟨_,by rw[binOp_xor,intBits_xor]; rfl,.int _ _⟩
 case andNot=>exact⟨_,by rw[binOp_andNot,intBits_andNot]; rfl,.int _ _⟩
 case eql=>exact⟨_,by rw[binOp_eql]; rfl,.bool _⟩
 case neq=>exact⟨_,by rw[binOp_neq]; rfl,.bool _⟩
 case lss=>exact⟨_,by rw[binOp_lss]; rfl,.bool _⟩
 case leq=>exact⟨_,by rw[binOp_leq]; rfl,.bool _⟩
 case gtr=>exact⟨_,by rw[binOp_gtr]; rfl,.bool _⟩
 case geq=>exact⟨_,by rw[binOp_geq]; rfl,.bool _⟩
theorem eqIn_nils {P:Program} {t e:TypeId} (d:Nat) (h:P.underlying t=some (.slice e)) (b:Option Addr) (n c:Nat) (w:World):(gK (d+1) t (.slice b n c) (.slice none 0 0)).run P w = .ok b.isNone w:=by
 cases b <;> simp[gK,run_underlying h]
theorem eqIn_nilp {P:Program} {t e:TypeId} (d:Nat) (h:P.underlying t=some (.pointer e)) (b:Option Addr) (w:World):(gK (d+1) t (.pointer b) (.pointer none)).run P w = .ok b.isNone w:=by
 cases b <;> simp[gK,run_underlying h]
theorem eq_nils {P:Program} {t e:TypeId} (h:P.underlying t=some (.slice e)) (b:Option Addr) (n c:Nat) (w:World):(gD t (.slice b n c) (.slice none 0 0)).run P w = .ok b.isNone w:=eqIn_nils 9999 h b n c w
theorem eq_nilp {P:Program} {t e:TypeId} (h:P.underlying t=some (.pointer e)) (b:Option Addr) (w:World):(gD t (.pointer b) (.pointer none)).run P w = .ok b.isNone w:=eqIn_nilp 9999 h b w
theorem JU {P:Program} {t e:TypeId} (h:P.underlying t=some (.slice e)) (b:Option Addr) (n c:Nat) (w:World):(binOp .eql t (.slice b n c) (.slice none 0 0)).run P w = .ok (.bool b.isNone) w:=by
 show(do pure (gT (←gD t (.slice b n c) (.slice none 0 0))):Sem Value).run P w=_;simp[eq_nils h]
theorem JV {P:Program} {t e:TypeId} (h:P.underlying t=some (.slice e)) (b:Option Addr) (n c:Nat) (w:World):(binOp .neq t (.slice b n c) (.slice none 0 0)).run P w = .ok (.bool !b.isNone) w:=by
 show(do pure (gT (!(←gD t (.slice b n c) (.slice none 0 0)))):Sem Value).run P w=_;simp[eq_nils h]
theorem JS {P:Program} {t e:TypeId} (h:P.underlying t=some (.pointer e)) (b:Option Addr) (w:World):(binOp .eql t (.pointer b) (.pointer none)).run P w = .ok (.bool b.isNone) w:=by
 have:binOp .eql t (.pointer b) (.pointer none)=(do pure (gT (←gD t (.pointer b) (.pointer none))):Sem Value):=by cases b <;> rfl
 rw[this]; simp[eq_nilp h]
theorem JT {P:Program} {t e:TypeId} (h:P.underlying t=some (.pointer e)) (b:Option Addr) (w:World):(binOp .neq t (.pointer b) (.pointer none)).run P w = .ok (.bool !b.isNone) w:=by
 have:binOp .neq t (.pointer b) (.pointer none)=(do pure (gT (!(←gD t (.pointer b) (.pointer none)))):Sem Value):=by cases b <;> rfl
 rw[this]; simp[eq_nilp h]
theorem ZP {φ:Emb} {k:IntKind}:∀ {l:List AV} {xs:List Int} {cs:List Value},Yx k l=some xs→VRels φ l cs→cs=xs.map (lE k)∧l=xs.map (AV.int k):=by
 intro l
 induction l with
 | nil=>
  intro xs cs h hv;simp only[Yx,dO] at h;subst h;exact⟨fF hv.1.symm,rfl⟩
 | cons a l ih=>
  intro xs cs h hv
  cases cs with
  | nil=>have:=hv.1; simp at this
  | cons c cs=>
   cases a <;> simp only[Yx,reduceCtorEq] at h
   rename_i k' n;split at h;rename_i hk;subst hk;simp only[dS] at h;obtain⟨ys,hys,rfl⟩:=h;have h0:=hv.2 0 _ c rfl rfl;obtain⟨h1,h2⟩:=ih hys ⟨by have:=hv.1; simpa using this,fun j x y hx hy=>hv.2 (j+1) x y (by simpa using hx) (by simpa using hy)⟩;cases h0;simp only[gN];rw[←h1,←h2];exact⟨rfl,rfl⟩;cases h
theorem Sg {P : Program} {e : TypeId} {k : IntKind} (hk : P.underlying e = some (.int k)) (d n : Nat) (xs ys : List Int) (hx : xs.length = n) (hy : ys.length = n) (w : World) : ∀ (is : List Nat), (∀ i ∈ is, i < n) →
    (lT (d+1) e 1 (xs.map (lE k)).toArray (ys.map (lE k)).toArray is).run P w = .ok (is.all fun i=>xs.getD i 0 == ys.getD i 0) w:=by
 intro is
 induction is with
 | nil=>intro _; simp[lT]
 | cons i is ih=>
  intro h;have hi:=h i (by simp);have hpart:∀ zs:List Int,zs.length=n→(part e (zs.map (lE k)).toArray (i*1)).run P w = .ok (.int k (zs.getD i 0)) w:=by
   intro zs hz;have hlt:i<zs.length:=by omega
   simp[part,isAgg,run_underlying hk,hlt,fJ]
  simp only[lT,dW,hpart xs hx,hpart ys hy,dQ];have heq:(gK (d+1) e (.int k (xs.getD i 0)) (.int k (ys.getD i 0))).run P w = .ok (xs.getD i 0 == ys.getD i 0) w:=by
   simp[gK,run_underlying hk]
  rw[heq];simp only[dQ,List.all_cons]
  cases xs.getD i 0 == ys.getD i 0 with
  | false=>simp
  | true=>simpa using ih (fun j hj=>h j (by simp[hj]))
theorem TT:∀ (xs ys:List Int) (n:Nat),xs.length=n→ys.length=n→((jS n).all fun i=>xs.getD i 0 == ys.getD i 0)=(xs == ys):=by
 intro xs ys n hx hy;rw[Bool.eq_iff_iff,gQ];constructor;intro h;rw[beq_iff_eq];apply List.ext_getElem (by omega);intro i h1 h2;have:=h i (lW.2 (by omega));simpa [fJ,h1,h2] using this;intro h i _;rw[beq_iff_eq] at h;rw[h];simp
theorem U8 {P : Program} {φ : Emb} {t : TypeId} {a b : List AV} {ca cb : List Value} {r : Bool} (ha : VRels φ a ca) (hb : VRels φ b cb) (h : aarr P t a b = some r) (d : Nat) (w : World) :
    (gK (d+2) t (.agg ca.toArray) (.agg cb.toArray)).run P w = .ok r w∧P.eqGuardType P.depth t=false∧(r=true↔ca=cb):=by
 unfold aarr at h;split at h;rename_i n e hA;split at h;rename_i k hk;split at h;rename_i x y hx hy;split at h;rename_i hc;obtain⟨hg,hxl,hyl,hs⟩:=hc;simp only[dO] at h;subst h;obtain⟨rfl,-⟩:=ZP hx ha;obtain⟨rfl,-⟩:=ZP hy hb;have hu:=Yq hk;obtain⟨i,hi⟩:=info_of_underlying hu;have hcell:P.cellsOf e=1:=by
  have h1:=K7 hs w;rw[run_sizeOf w hi] at h1;simpa using h1
 refine⟨?_,hg,?_⟩;rw[run_equalIn_array w (d+1) _ _ (XS hA) hi,hcell,Sg hu d n x y hxl hyl w _ (by intro i hi; exact lW.1 hi),TT x y n hxl hyl];rw[beq_iff_eq];constructor;intro h; rw[h];intro h;exact(List.map_inj_right (by intro p q hpq; cases hpq; rfl)).1 h;cases h;cases h;cases h;cases h
theorem UQ {P:Program} {op:BinOp} {t:TypeId} {ox oy:Operand} {a b:Array Value} (h:P.eqGuardType P.depth t=false) (w:World):(eqGuard op t ox oy (.agg a) (.agg b)).run P w = .ok () w:=by
 cases op <;> simp[eqGuard,h]
theorem astr_run {P:Program} {op:BinOp} {t:TypeId} {a b:ByteArray} {v:AV} (h:astr op a b=some v) (φ:Emb) (w:World):∃ c,(binOp op t (.string a) (.string b)).run P w = .ok c w∧VRel φ v c:=by
 cases op <;> simp only[astr,dO,reduceCtorEq] at h
 case add=>
  split at h;rename_i hle;cases h;refine⟨.string (a ++ b),?_,.str _⟩;simp only[binOp,Op.stringOp];rw[if_neg (by simp only[IntKind.max,IntKind.signed,IntKind.bits] at *; omega)];rfl;cases h
 all_goals (subst h; exact⟨_,by simp[binOp,Op.stringOp],.bool _⟩)
theorem abin_run {P : Program} {op : BinOp} {t : TypeId} {x y v : AV} {cx cy : Value} (φ : Emb) (hx : VRel φ x cx) (hy : VRel φ y cy) (h : ZG P op t x y = some v) (ox oy : Operand) (w : World) :
    ∃ c,(do eqGuard op t ox oy cx cy; binOp op t cx cy:Sem Value).run P w = .ok c w∧VRel φ v c:=by
 by_cases hagg:∃ a b,x = .agg a∧y = .agg b
 ·obtain⟨a,b,rfl,rfl⟩:=hagg
  cases hx with|agg _ ca hla hha=>
  cases hy with|agg _ cb hlb hhb=>
  cases op <;> simp only[ZG,dS,reduceCtorEq] at h
  obtain⟨r,hr,rfl⟩:=h;obtain⟨h1,h2,-⟩:=U8 (P:=P) ⟨hla,hha⟩ ⟨hlb,hhb⟩ hr 9998 w;refine⟨.bool r,?_,.bool _⟩;have h1:(gD t (.agg ca.toArray) (.agg cb.toArray)).run P w = .ok r w:=h1;show(do eqGuard _ t ox oy _ _; pure (gT (←gD t (.agg ca.toArray) (.agg cb.toArray))):Sem Value).run P w=_;simp[UQ h2,h1];obtain⟨r,hr,rfl⟩:=h;obtain⟨h1,h2,-⟩:=U8 (P:=P) ⟨hla,hha⟩ ⟨hlb,hhb⟩ hr 9998 w;refine⟨.bool !r,?_,.bool _⟩;have h1:(gD t (.agg ca.toArray) (.agg cb.toArray)).run P w = .ok r w:=h1;show(do eqGuard _ t ox oy _ _; pure (gT (!(←gD t (.agg ca.toArray) (.agg cb.toArray)))):Sem Value).run P w=_;simp[UQ h2,h1]
 have hg:eqGuard op t ox oy cx cy=pure ():=by
  cases hx <;> first
    | (exfalso; cases hy <;> first|exact hagg ⟨_,_,rfl,rfl⟩|(simp[ZG] at h; done))
    | (simp only[eqGuard_at_bool,eqGuard_at_int,eqGuard_at_string,eqGuard_at_pointer,eqGuard_at_slice,eqGuard_at_map,eqGuard_at_func,eqGuard_at_nilFunc,eqGuard_at_tuple]; done)
    | (simp[ZG] at h)
 rw[hg];show ∃ c,(binOp op t cx cy).run P w = .ok c w∧VRel φ v c;unfold ZG at h;split at h
 cases hx; cases hy
 split at h;rename_i hk; exact aint_run hk h w φ;cases h
 cases hx; cases hy
 split at h;rename_i hb;have hu:=V1 hb
 cases op <;> simp only[dO,reduceCtorEq] at h
 subst h; exact⟨_,run_eql_bool w t _ _ hu,.bool _⟩;subst h; exact⟨_,run_neq_bool w t _ _ hu,.bool _⟩;cases h
 cases hx; cases hy
 exact astr_run h φ w;exact absurd ⟨_,_,rfl,rfl⟩ hagg
 cases hx; cases hy
 split at h;rename_i hb;obtain⟨e,hu⟩:=ZJ hb
 cases op <;> simp only[dO,reduceCtorEq] at h
 subst h; exact⟨_,JU hu _ _ _ w,.bool _⟩;subst h; exact⟨_,JV hu _ _ _ w,.bool _⟩;cases h
 cases hx; cases hy
 split at h;rename_i hb;obtain⟨e,hu⟩:=ZJ hb
 cases op <;> simp only[dO,reduceCtorEq] at h
 subst h; exact⟨_,JU hu _ _ _ w,.bool _⟩;subst h; exact⟨_,JV hu _ _ _ w,.bool _⟩;cases h
 cases hx; cases hy
 split at h;rename_i hb;obtain⟨e,hu⟩:=WP hb
 cases op <;> simp only[dO,reduceCtorEq] at h
 subst h; exact⟨_,JS hu _ w,.bool _⟩;subst h; exact⟨_,JT hu _ w,.bool _⟩;cases h
 cases hx; cases hy
 split at h;rename_i hb;obtain⟨e,hu⟩:=WP hb
 cases op <;> simp only[dO,reduceCtorEq] at h
 subst h; exact⟨_,JS hu _ w,.bool _⟩;subst h; exact⟨_,JT hu _ w,.bool _⟩;cases h;cases h
theorem aun_run {P:Program} {op:UnOp} {x v:AV} {cx:Value} (φ:Emb) (hx:VRel φ x cx) (h:aun op x=some v) (w:World):∃ c,(Op.unary op cx).run P w = .ok c w∧VRel φ v c:=by
 unfold aun at h;split at h;cases hx
 cases op <;> simp only[dO,reduceCtorEq] at h
 subst h; exact⟨_,rfl,.bool _⟩;cases hx
 cases op <;> simp only[dO,reduceCtorEq] at h
 subst h; exact⟨_,rfl,.int _ _⟩;subst h; exact⟨_,rfl,.int _ _⟩;cases h
theorem SV {φ:Emb} {v:AV} {c:Value} {i:Int} (hv:VRel φ v c) (h:QK v=some i):∃ k,c = .int k i:=by
 unfold QK at h;split at h
 cases hv; cases h; exact⟨_,rfl⟩
 cases h
theorem Zj {P : Program} {φ : Emb} {v : AV} {c : Value} {i : Int} {y : Nat} {code : BoundsCode} (hv : VRel φ v c) (h : QK v = some i) (h0 : 0 ≤ i) (hy : i ≤ y) (w : World) :
    (lM c y code).run P w = .ok i.toNat w:=by
 obtain⟨k,rfl⟩:=SV hv h;simp[lM,asIntOf,h0,hy]
theorem Xg {P : Program} {φ : Emb} {lo hi mx : Option Operand} {ρ : Operand → AV} {ev : Operand → Value} {n c : Nat} {l h : Nat} {m : Option Nat} (isS : Bool)
    (hr:∀ x,lo=some x∨hi=some x∨mx=some x→VRel φ (ρ x) (ev x)) (hn:n≤c) (hb:Z5 n (lo.map ρ) (hi.map ρ) (mx.map ρ)=some (l,h,m)) (w:World) :
    (fN isS n c (lo.map ev) (hi.map ev) (mx.map ev)).run P w = .ok (l,h,m.getD c) w∧l≤h∧h≤n∧h≤m.getD c∧m.getD c≤c:=by
 unfold Z5 at hb
 cases mx with
 | none=>
  simp only[gE,dR,fG,Option.getD_none,Option.isSome_none,fK,if_false] at hb
  cases hi with
  | none=>
   cases lo with
   | none=>
    simp only[gE,dO,fT] at hb;obtain⟨rfl,rfl,rfl⟩:=hb;simp[fN,hn]
   | some x=>
    simp only[gE,dZ] at hb
    cases hi:QK (ρ x) with
    | none=>rw[hi] at hb; simp at hb
    | some i=>
     rw[hi] at hb;simp only[fG] at hb;split at hb;rename_i hc;simp only[dO,fT] at hb;obtain⟨rfl,rfl,rfl⟩:=hb;have:=Zj (P:=P) (code:=.sliceB) (hr x (.inl rfl)) hi hc.1 hc.2 w;simp[fN,this];omega;simp at hb
  | some y=>
   simp only[dZ] at hb
   cases hi:QK (ρ y) with
   | none=>rw[hi] at hb; simp at hb
   | some j=>
    rw[hi] at hb;simp only[fG] at hb;split at hb
    ·rename_i hc;have hS:=fun code=>Zj (P:=P) (code:=code) (y:=c) (hr y (.inr (.inl rfl))) hi hc.1 (by omega) w
     cases lo with
     | none=>
      simp only[gE,dO,fT] at hb;obtain⟨rfl,rfl,rfl⟩:=hb;simp[fN,hS];omega
     | some x=>
      simp only[dZ] at hb
      cases hi2:QK (ρ x) with
      | none=>rw[hi2] at hb; simp at hb
      | some i=>
       rw[hi2] at hb;simp only[fG] at hb;split at hb;rename_i hc2;simp only[dO,fT] at hb;obtain⟨rfl,rfl,rfl⟩:=hb;have:=Zj (P:=P) (code:=.sliceB) (hr x (.inl rfl)) hi2 hc2.1 hc2.2 w;simp[fN,hS,this];omega;simp at hb
    simp at hb
 | some z=>
  simp only[dZ,dR] at hb
  cases hm:QK (ρ z) with
  | none=>rw[hm] at hb; simp at hb
  | some q=>
   rw[hm] at hb;simp only[fG] at hb;split at hb
   ·rename_i hcm;have hM:=fun code=>Zj (P:=P) (code:=code) (y:=c) (hr z (.inr (.inr rfl))) hm hcm.1 (by omega) w
    simp only[gR,Option.isSome_some,if_true] at hb
    cases hi with
    | none=>simp at hb
    | some y=>
     simp only[dZ] at hb
     cases hi:QK (ρ y) with
     | none=>rw[hi] at hb; simp at hb
     | some j=>
      rw[hi] at hb;simp only[fG] at hb;split at hb
      ·rename_i hc;have hS:=fun code=>Zj (P:=P) (code:=code) (y:=q.toNat) (hr y (.inr (.inl rfl))) hi hc.1 (by omega) w
       cases lo with
       | none=>
        simp only[gE,dO,fT] at hb;obtain⟨rfl,rfl,rfl⟩:=hb;simp[fN,hS,hM];omega
       | some x=>
        simp only[dZ] at hb
        cases hi2:QK (ρ x) with
        | none=>rw[hi2] at hb; simp at hb
        | some i=>
         rw[hi2] at hb;simp only[fG] at hb;split at hb;rename_i hc2;simp only[dO,fT] at hb;obtain⟨rfl,rfl,rfl⟩:=hb;have:=Zj (P:=P) (code:=.slice3C) (hr x (.inl rfl)) hi2 hc2.1 hc2.2 w;simp[fN,hS,hM,this];omega;simp at hb
      simp at hb
   simp at hb
end Go.Am
namespace Go.Am
theorem R2 {P : Program} {φ : Emb} {t : TypeId} {l : List AV} {cs : List Value} {off : Nat} {v : AV} (hl : VRels φ l cs) (h : apart P t l off = some v) (w : World) :
    ∃ c,(part t cs.toArray off).run P w = .ok c w∧VRel φ v c:=by
 simp only[apart,dR,dU] at h;obtain⟨g,hg,s,hs,h⟩:=h;have hsr:=K7 hs w;simp only[Jf,dS] at hg;obtain⟨d,hd,hg⟩:=hg;have hagg:(isAgg t).run P w = .ok g w:=by
  simp only[isAgg,dW,run_underlying hd,dQ];subst hg
  cases d <;> rfl
 cases g with
 | true=>
  simp only[if_true,dO] at h;subst h;refine⟨.agg ((cs.drop off).take s).toArray,?_,.agg _ _ ?_ ?_⟩;simp only[part,dW,hagg,dQ,if_true,hsr,fI];congr 2;apply fE;simp[List.extract_eq_take_drop];simp[hl.1];intro j x y hx hy;rw[fL] at hx;rw[fL] at hy;split at hx;rename_i hj;rw[if_pos hj,gI] at hy;rw[gI] at hx;exact hl.2 _ _ _ hx hy;cases hx
 | false=>
  simp only[fK,if_false] at h;have hlt:off<cs.length:=by rw[←hl.1]; exact(dT.1 h).1
  refine⟨cs[off],?_,hl.2 off _ _ h (dP hlt)⟩;simp only[part,dW,hagg,dQ,fK,if_false];simp[hlt]
theorem RH (k i o _c l _s:Nat) (a:Addr) (h:a=⟨k,i+o,none⟩):a.add l=⟨k,i+(o+l),none⟩:=by
 subst h; rw[fR,fS]
theorem aslice_run {P : Program} {φ : Emb} {t : TypeId} {x v : AV} {cx : Value} {lo hi mx : Option Operand} {ρ : Operand → AV} {ev : Operand → Value} (hx : VRel φ x cx)
    (hr:∀ y,lo=some y∨hi=some y∨mx=some y→VRel φ (ρ y) (ev y)) (h:Ve P t x (lo.map ρ) (hi.map ρ) (mx.map ρ)=some v) (w:World) :
    ∃ c,(gH t cx (lo.map ev) (hi.map ev) (mx.map ev)).run P w = .ok c w∧VRel φ v c:=by
 unfold Ve at h;split at h
 ·rename_i b o n s full;simp only[dR,dU] at h;obtain⟨e,he,s',hs,h⟩:=h;split at h
  ·rename_i hss;subst hss;simp only[dU] at h;obtain⟨⟨l,hh,m⟩,hb,h⟩:=h;simp only[dO] at h;subst h;obtain⟨a,c,rfl,hn,hc,hf,hadr⟩:∃ a c,cx = .slice (some a) n c∧n≤c∧c≤maxLen∧(full=true→c=n)∧(c=0∨∃ k i z,φ b=some (k,i,z)∧a=⟨k,i+o,none⟩∧i+o+c*s'≤z):=by
    cases hx with|slc _ _ _ _ _ a c hn hc hf hadr=>exact⟨a,c,rfl,hn,hc,hf,hadr⟩
   have hu:=Zh he;obtain⟨hrun,hlh,hhn,hhm,hmc⟩:=Xg (P:=P) (c:=c) true hr hn hb w;refine⟨_,by simp[gH,lJ,run_underlying hu,hrun,K7 hs]; rfl,?_⟩;have hval:VRel φ (.slc b (o+l*s') (hh - l) s' (YU n hh full m)) (.slice (some (if m.getD c=l then a else a.add (l*s'))) (hh - l) (m.getD c - l)):=by
    refine .slc _ _ _ _ _ _ _ (by omega) (by omega) ?_ ?_
    ·intro hfu
     cases m with
     | some m'=>simp[YU] at hfu⊢; omega
     | none=>simp[YU] at hfu⊢; have:=hf hfu.1; omega
    by_cases hml:m.getD c=l;exact .inl (by omega);refine .inr ?_;rcases hadr with hadr|⟨k,i,z,h1,h2,h3⟩
    omega;refine⟨k,i,z,h1,?_,?_⟩;rw[if_neg hml,RH k i o c (l*s') s' a h2];have hle:l≤m.getD c:=by omega
    have:l*s'+(m.getD c - l)*s'=m.getD c*s':=by rw[←fB]; congr 1; omega
    have h4:m.getD c*s'≤c*s':=fO _ hmc;omega
   cases hml:decide (m.getD c=l)
   have hml':¬ m.getD c=l:=by simpa using hml
   simpa [hml'] using hval;have hml':m.getD c=l:=by simpa using hml
   simpa [hml'] using hval
  cases h
 simp only[dR,dU] at h;obtain⟨e,he,s',hs,⟨l,hh,m⟩,hb,h⟩:=h;simp only[dO] at h;subst h;cases hx;have hu:=Zh he;obtain⟨hrun,hlh,hhn,hhm,hmc⟩:=Xg (P:=P) (c:=0) true hr (fA 0) hb w;refine⟨_,by simp[gH,lJ,run_underlying hu,hrun,K7 hs]; rfl,?_⟩;have e1:hh - l=0:=by omega
 have e2:m.getD 0 - l=0:=by omega
 rw[e1,e2];exact .nils
 ·rename_i s;split at h
  ·rename_i hc;obtain⟨hst,hmx⟩:=hc;have hu:=XF hst;simp only[dR,dU] at h;obtain⟨⟨l,hh,m⟩,hb,h⟩:=h;simp only[dO] at h;subst h;cases hx
   cases mx with
   | some y=>simp at hmx
   | none=>
    obtain⟨hrun,-,-,-,-⟩:=Xg (P:=P) (c:=s.size) (mx:=none) false (fun y hy=>hr y hy) (fA _) hb w;simp only[gE] at hrun;exact⟨.string (s.extract l hh),by simp[gH,lJ,run_underlying hu,hrun],.str _⟩
  cases h
 cases h
theorem Rw {P : Program} {φ : Emb} {t : TypeId} {x ix v : AV} {cx ci : Value} (hx : VRel φ x cx) (hi : VRel φ ix ci) (h : Xz P t x ix = some v) (w : World) :
    ∃ c,(jX t cx ci).run P w = .ok c w∧VRel φ v c:=by
 unfold Xz at h;split at h;rename_i b o n s full k i;simp only[dR,dU] at h;obtain⟨e,he,s',hs,h⟩:=h;split at h;rename_i hc;obtain⟨rfl,h0,hn⟩:=hc;simp only[dO] at h;subst h;obtain⟨a,c,rfl,hnc,hadr⟩:∃ a c,cx = .slice (some a) n c∧n≤c∧(c=0∨∃ k i z,φ b=some (k,i,z)∧a=⟨k,i+o,none⟩∧i+o+c*s'≤z):=by
  cases hx with|slc _ _ _ _ _ a c hn hc hf hadr=>exact⟨a,c,rfl,hn,hadr⟩
 cases hi;rcases hadr with hadr|⟨k',i',z,h1,h2,h3⟩
 omega;subst h2;refine⟨.pointer (some ⟨k',i'+(o+i.toNat*s'),none⟩),?_,.ptr _ _ _ _ _ h1⟩;simp[jX,run_underlying (Zh he),asIntOf,h0,hn,K7 hs,fR,fS];cases h;rename_i b o k i;simp only[dR,dU] at h;obtain⟨⟨n,e⟩,he,s,hs,h⟩:=h;split at h;rename_i hc;simp only[dO] at h;subst h;cases hx;rename_i k' i' z hφ;cases hi;refine⟨.pointer (some ⟨k',i'+(o+i.toNat*s),none⟩),?_,.ptr _ _ _ _ _ hφ⟩;simp[jX,run_underlying (XS he),gU,asIntOf,hc.1,hc.2,K7 hs,fR,fS];cases h;cases h
theorem aindex_run {P : Program} {φ : Emb} {t : TypeId} {x ix v : AV} {cx ci : Value} (hx : VRel φ x cx) (hi : VRel φ ix ci) (h : Wt P t x ix = some v) (w : World) :
    ∃ c,(lK t cx ci).run P w = .ok c w∧VRel φ v c:=by
 unfold Wt at h;split at h
 ·rename_i l k i;simp only[dR,dU] at h;obtain⟨⟨n,e⟩,he,s,hs,h⟩:=h;split at h
  ·rename_i hc
   cases hx with|agg _ cs hl hh=>
   cases hi;obtain⟨c,hr,hv⟩:=R2 (P:=P) ⟨hl,hh⟩ h w;refine⟨c,?_,hv⟩;simp[lK,run_underlying (XS he),asIntOf,hc.1,hc.2,K7 hs,hr]
  cases h
 rename_i s k i;split at h;rename_i hc;obtain⟨hst,h0⟩:=hc;simp only[dS] at h;obtain⟨b,hb,rfl⟩:=h
 cases hx; cases hi
 exact⟨.int .u8 b.toNat,by simp[lK,run_underlying (XF hst),asIntOf,h0,hb],.int _ _⟩;cases h;cases h
theorem afield_run {P : Program} {φ : Emb} {t : TypeId} {x v : AV} {cx : Value} {i : Nat} (hx : VRel φ x cx) (h : afield P t x i = some v) (w : World) :
    ∃ c,(Instr.field t cx i).run P w = .ok c w∧VRel φ v c:=by
 unfold afield at h;split at h
 ·rename_i l;simp only[dR,dU] at h;obtain⟨fs,hfs,f,hf,h⟩:=h
  cases hx with|agg _ cs hl hh=>
  obtain⟨c,hr,hv⟩:=R2 (P:=P) ⟨hl,hh⟩ h w;exact⟨c,by simp[Instr.field,run_underlying (VZ hfs),hf,asAgg,hr],hv⟩
 cases h
theorem Rv {P : Program} {φ : Emb} {t : TypeId} {x v : AV} {cx : Value} {i : Nat} (hx : VRel φ x cx) (h : YT P t x i = some v) (w : World) :
    ∃ c,(mE t cx i).run P w = .ok c w∧VRel φ v c:=by
 unfold YT at h;split at h;rename_i b o;simp only[dR,dU] at h;obtain⟨fs,hfs,f,hf,s,hs,h⟩:=h;split at h;cases h;rename_i hs0;simp only[dO] at h;subst h;cases hx;rename_i k i' z hφ;refine⟨.pointer (some ⟨k,i'+(o+f.offset),none⟩),?_,.ptr _ _ _ _ _ hφ⟩;simp[mE,run_underlying (VZ hfs),hf,gU,fieldPlace,K7 hs,hs0,fR,fS];cases h
theorem alen_run {P : Program} {φ : Emb} {t ty : TypeId} {x v : AV} {cx : Value} (hx : VRel φ x cx) (h : alen P t x = some v) (w : World) :
    ∃ c,(jF #[t] ty #[cx]).run P w = .ok c w∧VRel φ v c:=by
 unfold alen at h;split at h;split at h;rename_i hs;obtain⟨e,hu⟩:=ZJ hs
 cases h; cases hx
 exact⟨_,by simp[jF,run_underlying hu,goInt],.int _ _⟩;cases h;split at h;rename_i hs;obtain⟨e,hu⟩:=ZJ hs
 cases h; cases hx
 exact⟨_,by simp[jF,run_underlying hu,goInt],.int _ _⟩;cases h;split at h;rename_i hu
 cases h; cases hx
 exact⟨_,by simp[jF,run_underlying hu,goInt],.int _ _⟩;cases h;cases h
theorem acap_run {P : Program} {φ : Emb} {t ty : TypeId} {x v : AV} {cx : Value} (hx : VRel φ x cx) (h : acap P t x = some v) (w : World) :
    ∃ c,(lI #[t] ty #[cx]).run P w = .ok c w∧VRel φ v c:=by
 unfold acap at h;split at h
 ·split at h
  ·rename_i hs;obtain⟨e,hu⟩:=ZJ hs;cases h
   cases hx with|slc _ _ _ _ _ a c hn hc hf hadr=>
   rw[hf rfl];exact⟨_,by simp[lI,run_underlying hu,goInt],.int _ _⟩
  cases h
 split at h;rename_i hs;obtain⟨e,hu⟩:=ZJ hs
 cases h; cases hx
 exact⟨_,by simp[lI,run_underlying hu,goInt],.int _ _⟩;cases h;cases h
theorem R0 {P : Program} {φ : Emb} {ts : Array TypeId} {ty : TypeId} {x y v : AV} {cx cy : Value} (hx : VRel φ x cx) (hy : VRel φ y cy) (w : World) :
    (QL true x y=some v→∃ c,(lO ts ty #[cx,cy]).run P w = .ok c w∧VRel φ v c)∧(QL false x y=some v→∃ c,(lU ts ty #[cx,cy]).run P w = .ok c w∧VRel φ v c):=by
 constructor <;> intro h <;> unfold QL at h <;> split at h
 cases h; cases hx; cases hy; exact⟨_,run_max_int2 w _ _ _ _ _ _,.int _ _⟩
 cases h
 cases h; cases hx; cases hy; exact⟨_,run_min_int2 w _ _ _ _ _ _,.int _ _⟩
 cases h
theorem Jh {big:Bool} {x y v:AV} (h:QL big x y=some v):∃ k a k' b,x = .int k a∧y = .int k' b∧v = .int k (if big then (if b>a then b else a) else (if b<a then b else a)):=by
 unfold QL at h;split at h
 cases h; exact⟨_,_,_,_,rfl,rfl,rfl⟩
 cases h
theorem R1 {P : Program} {φ : Emb} {ts : Array TypeId} {ty : TypeId} {x y z u v : AV} {cx cy cz cu : Value} (hx : VRel φ x cx) (hy : VRel φ y cy) (hz : VRel φ z cz) (hu : VRel φ u cu) (w : World) :
    (((QL true x y).bind fun a => (QL true a z).bind fun c => QL true c u) = some v → ∃ c, (lO ts ty #[cx, cy, cz, cu]).run P w = .ok c w ∧ VRel φ v c) ∧
      (((QL false x y).bind fun a=>(QL false a z).bind fun c=>QL false c u)=some v→∃ c,(lU ts ty #[cx,cy,cz,cu]).run P w = .ok c w∧VRel φ v c):=by
 constructor <;> intro h <;>
 ·obtain⟨a,ha,h⟩:=dU.1 h;obtain⟨c,hc,h⟩:=dU.1 h;obtain⟨k1,x1,k2,y1,rfl,rfl,rfl⟩:=Jh ha;obtain⟨k3,x2,k4,y2,h1,rfl,rfl⟩:=Jh hc;obtain⟨k5,x3,k6,y3,h2,rfl,rfl⟩:=Jh h
  cases h1; cases h2
  cases hx; cases hy; cases hz; cases hu
  exact⟨_,by simp[lO,Builtin.max2,lU,Builtin.min2],.int _ _⟩
theorem VRel.one {φ:Emb} {x:AV} {v:Value} (h:VRel φ x v) (h1:x.one=true):v.oneCell'=true:=by
 cases h <;> simp_all [AV.one,Value.oneCell']
theorem VRel.cells {φ:Emb} {x:AV} {v:Value} {l:List AV} (h:VRel φ x v) (hl:x.cells? = some l):VRels φ l v.cells.toList∧∀ u∈v.cells.toList,u.oneCell'=true:=by
 have key:∀ (x:AV) (v:Value),VRel φ x v→x.one=true→v.cells = #[v]:=by
  intro x v h h1
  cases h <;> simp_all [AV.one,jM]
 by_cases hx1:x.one=true
 ·have hl':l = [x]:=by
   cases h <;> simp_all [AV.one,AV.cells?]
  subst hl';rw[key x v h hx1];refine⟨⟨rfl,?_⟩,?_⟩
  ·intro j a b ha hb
   match j,ha,hb with
   | 0,ha,hb=>simp at ha hb; subst ha hb; exact h
  intro u hu; simp at hu; subst hu; exact h.one hx1
 ·cases h <;> simp only[AV.one,AV.cells?,fK,if_false,not_true_eq_false,reduceCtorEq] at hx1 hl
  case agg l' cs hl1 hh=>
   split at hl;rename_i hall;cases hl;refine⟨⟨by simpa [jM] using hl1,fun j a b ha hb=>hh j a b ha (by simpa [jM] using hb)⟩,?_⟩;intro u hu;simp only[jM,jQ] at hu;obtain⟨j,hj⟩:=hu;have hlt:j<l.length:=by rw[hl1]; exact(dT.1 hj).1
   exact(hh j _ u (dP hlt) (by simpa using hj)).one (gQ.1 hall _ (lN hlt));cases hl
theorem KY {α:Type} (cs l:List α) (o:Nat) (h:o+l.length≤cs.length):(putL cs o l).length=cs.length:=by
 simp[putL]; omega
theorem QU {α:Type} (cs l:List α) (o:Nat) (h:o+l.length≤cs.length) (j:Nat):(putL cs o l)[j]? = if o≤j∧j<o+l.length then l[j - o]? else cs[j]?:=by
 have hto:(cs.take o).length=o:=by simp; omega
 simp only[putL];by_cases h1:j<o;rw[if_neg (by omega),lD,fV (by omega),fL,if_pos h1];by_cases h2:j<o+l.length;rw[if_pos ⟨by omega,h2⟩,lD,gG (by omega),fV (by omega),hto];rw[if_neg (by omega),gG (by simp; omega),gI];congr 1;simp; omega
theorem Tf (v : List Value) : ∀ (cs : Array Value) (off j : Nat), off + j + v.length ≤ cs.size →
    ((v.zipIdx j).foldl (fun cs (p:Value × Nat)=>cs.setIfInBounds (off+p.2) p.1) cs).toList=putL cs.toList (off+j) v:=by
 induction v with
 | nil=>intro cs off j h; simp[putL]
 | cons x v ih=>
  intro cs off j h;simp only[fP] at h;simp only[List.zipIdx_cons,List.foldl_cons];have:=ih (cs.setIfInBounds (off+j) x) off (j+1) (by simp; omega);rw[this];apply List.ext_getElem?;intro q;have hsz:(cs.setIfInBounds (off+j) x).toList.length=cs.size:=by simp
  rw[QU _ _ _ (by rw[hsz]; omega),QU _ _ _ (by simp; omega)];by_cases h1:q=off+j;subst h1;rw[if_neg (by omega),if_pos (by simp),Nat.sub_self];have:off+j<cs.size:=by omega
  simp[this];by_cases h2:off+j≤q∧q<off+j+(x::v).length;rw[if_pos h2,if_pos (by simp at h2; omega)];have:q - (off+j)=(q - (off+(j+1)))+1:=by omega
  rw[this,gL];rw[if_neg h2,if_neg (by simp at h2; omega)];rw[jE,List.getElem?_set_ne (by omega)]
theorem Qo {P:Program} {t:TypeId} {z:AV} (h:Qf P t=some z):∃ i v,P.info? t=some i∧i.zero=some v∧∀ φ,VRel φ z v:=by
 unfold Qf at h;simp only[dS,dU] at h;obtain⟨v,⟨i,hi,hv⟩,rfl⟩:=h;exact⟨i,v,hi,hv,fun φ=>AV.of_rel φ 4 v⟩
theorem VRels.putL {φ:Emb} {cs l:List AV} {ca v:List Value} (hc:VRels φ cs ca) (hv:VRels φ l v) (o:Nat) (h:o+l.length≤cs.length):VRels φ (putL cs o l) (putL ca o v):=by
 have hl:=hv.1;have hcl:=hc.1;refine⟨by rw[KY _ _ _ h,KY _ _ _ (by omega)]; exact hc.1,?_⟩;intro j x y hx hy;rw[QU _ _ _ h] at hx;rw[QU _ _ _ (by omega)] at hy;rw[←hl] at hy;by_cases hj:o≤j∧j<o+l.length;rw[if_pos hj] at hx hy;exact hv.2 _ x y hx hy;rw[if_neg hj] at hx hy;exact hc.2 _ x y hx hy
theorem RX {φ : Emb} {place place' : Nat → Option (Nat × Nat)} (hpl : ∀ i p, place i = some p → place' i = some p) : ∀ (parts : List (Nat × AV)) (cparts : List (Nat × Value)) (cs r : List AV) (ca : Array Value),
    parts.length=cparts.length→(∀ (j:Nat) x y,parts[j]? = some x→cparts[j]? = some y→x.1=y.1∧VRel φ x.2 y.2)→VRels φ cs ca.toList→Xy place cs parts=some r→
    ∃ ra:Array Value,gV place' ca cparts=some ra∧VRels φ r ra.toList:=by
 intro parts
 induction parts with
 | nil=>
  intro cparts cs r ca hl _ hc h;have:cparts = []:=fF hl.symm;subst this;simp only[Xy,dO] at h;subst h;exact⟨ca,rfl,hc⟩
 | cons p parts ih=>
  intro cparts cs r ca hl hp hc h
  cases cparts with
  | nil=>simp at hl
  | cons q cparts=>
   obtain⟨i,v⟩:=p;obtain⟨i',u⟩:=q;obtain⟨hi,hv⟩:=hp 0 _ _ rfl rfl;simp only at hi hv;subst hi;simp only[Xy] at h;split at h;rename_i off sz l hpi hvl;split at h;rename_i hcond;obtain⟨hls,hfit⟩:=hcond;obtain⟨hrel,-⟩:=hv.cells hvl;have husz:u.cells.size=sz:=by rw[←fU,←hrel.1]; exact hls
   have hcsz:cs.length=ca.size:=by rw[hc.1]; simp
   have hput:(jN (fun cs (p:Value × Nat)=>cs.setIfInBounds (off+p.2) p.1) ca u.cells.zipIdx).toList=Go.Am.putL ca.toList off u.cells.toList:=by
    rw[←lY,jZ];exact Tf u.cells.toList ca off 0 (by simp[husz]; omega)
   obtain⟨ra,h1,h2⟩:=ih cparts (Go.Am.putL cs off l) r (jN (fun cs (p:Value × Nat)=>cs.setIfInBounds (off+p.2) p.1) ca u.cells.zipIdx) (by simpa using hl) (fun j x y hx hy=>hp (j+1) x y (by simpa using hx) (by simpa using hy)) (by rw[hput]; exact hc.putL hrel off (by omega)) h;refine⟨ra,?_,h2⟩;simp only[gV,hpl i _ hpi];rw[if_neg (by simp[husz]; omega)];exact h1;cases h;cases h
theorem places_run {P:Program} (w:World):∀ (fs:List Field),(fs.all fun f=>(szA P f.type).isSome)=true→(fs.mapM fun f=>do pure (f.offset,←sizeOf f.type):Sem (List (Nat × Nat))).run P w = .ok (fs.map fun f=>(f.offset,(szA P f.type).getD 0)) w:=by
 intro fs
 induction fs with
 | nil=>intro _; rfl
 | cons f fs ih=>
  intro h;simp only[List.all_cons,jB] at h;obtain⟨s,hs⟩:=fX.1 h.1;simp only[lX,dW,K7 hs,dQ,fI,ih h.2,gN,hs,gR]
theorem abuild_run {P : Program} {φ : Emb} {t : TypeId} {parts : List (Nat × AV)} {cparts : Array (Nat × Value)} {v : AV} (hlen : parts.length = cparts.size)
    (hp:∀ (j:Nat) x y,parts[j]? = some x→cparts.toList[j]? = some y→x.1=y.1∧VRel φ x.2 y.2) (h:Xh P t parts=some v) (w:World) :
    ∃ c,(lL t cparts).run P w = .ok c w∧VRel φ v c:=by
 simp only[Xh,dR,dU] at h;obtain⟨z,hz,cs,hcs,h⟩:=h;obtain⟨i,zv,hi,hzv,hzr⟩:=Qo hz;obtain⟨hcr,-⟩:=(hzr φ).cells hcs;have hzrun:(zeroValue t).run P w = .ok zv w:=by simp[zeroValue,typeInfo,hi,hzv]
 split at h
 ·rename_i hall;simp only[dU,dO] at h;obtain⟨r,hr,rfl⟩:=h;unfold ZU at hall
  cases hf:XC P t with
  | some fs=>
   rw[hf] at hall;simp only at hall;have hu:=VZ hf;have hpl:∀ i p,QB P t i=some p→(fs.map fun f=>(f.offset,(szA P f.type).getD 0))[i]? = some p:=by
    intro i p hip;simp only[QB,hf] at hip;split at hip;rename_i f hfi;simp only[dS] at hip;obtain⟨s,hs,rfl⟩:=hip;simp[hfi,hs];cases hip
   obtain⟨ra,h1,h2⟩:=RX hpl parts cparts.toList cs r zv.cells (by simpa using hlen) hp hcr hr;refine⟨.agg ra,?_,?_⟩;have hpr:(fs.mapM fun f=>do pure (f.offset,←sizeOf f.type):Sem (Array (Nat × Nat))).run P w = .ok (fs.map fun f=>(f.offset,(szA P f.type).getD 0)) w:=by
    rw[jY];simp only[Sem.run_map,places_run w fs.toList hall,dQ];congr 1;apply fE;simp
   simp only[lL,dW,hzrun,dQ,run_underlying hu,hpr,h1,fI];have:=VRel.agg (φ:=φ) r ra.toList h2.1 h2.2;simpa using this
  | none=>
   rw[hf] at hall;simp only at hall
   cases ha:X6 P t with
   | none=>rw[ha] at hall; cases hall
   | some ne=>
    obtain⟨n,e⟩:=ne;rw[ha] at hall;obtain⟨sz,hsz⟩:=fX.1 hall;have hu:=XS ha;have hpl:∀ i p,QB P t i=some p→(fun i=>some (i*sz,sz)) i=some p:=by
     intro i p hip;simp only[QB,hf,ha,hsz,dZ] at hip;exact hip
    obtain⟨ra,h1,h2⟩:=RX hpl parts cparts.toList cs r zv.cells (by simpa using hlen) hp hcr hr;refine⟨.agg ra,?_,?_⟩;simp only[lL,dW,hzrun,dQ,run_underlying hu,K7 hsz,h1,fI];have:=VRel.agg (φ:=φ) r ra.toList h2.1 h2.2;simpa using this
 cases h
theorem Tn {P : Program} {t : TypeId} {name : String} {f : FuncId} (h : YF P t name = some f) :
    ∃ i m d,P.info? t=some i∧i.methods.find? (·.name == name)=some m∧P.underlying t=some d∧notPtr d=true∧m.path = #[]∧m.func=some (f,false):=by
 unfold YF at h;split at h;rename_i i hi;split at h;rename_i m hm;split at h;rename_i d hd;split at h;rename_i hc;split at h;rename_i f' hf;cases h;exact⟨i,m,d,hi,hm,hd,hc.2,by simpa using hc.1,hf⟩;cases h;cases h;cases h;cases h;cases h
theorem methA_run {P:Program} {t:TypeId} {name:String} {f:FuncId} (h:YF P t name=some f) (v:Value) (w:World):(method (P.types.size+Made.depth) t v name).run P w = .ok (f,v) w:=by
 obtain⟨i,m,d,hi,hm,hd,hn,hp,hf⟩:=Tn h;show(method ((P.types.size+99)+1) t v name).run P w=_;have h1:(typeInfo t).run P w = .ok i w:=by simp[typeInfo,hi]
 have h2:∀ s,(receiverAt t (.val v) false s).run P w = .ok v w:=by
  intro s;unfold receiverAt;rw[dW,run_underlying hd]
  cases d <;> first|(cases hn; done)|simp[Place.get]
 unfold method;rw[dW,h1,dQ];simp only[hm,hp,hf,follow,dW,fI,dQ,h2]
theorem Ph {P:Program} {t:TypeId} {name:String} {f:FuncId} (h:YF P t name=some f) (v:Value) (w:World):(nilAhead (P.types.size+Made.depth) t v name).run P w = .ok (some false) w:=by
 obtain⟨i,m,d,hi,hm,hd,hn,hp,hf⟩:=Tn h;show(nilAhead ((P.types.size+99)+1) t v name).run P w=_;have h1:(typeInfo t).run P w = .ok i w:=by simp[typeInfo,hi]
 unfold nilAhead;rw[dW,h1,dQ];simp only[hm,hp,hf,followBlind,dW,fI,dQ,run_underlying hd]
 cases d <;> first|(cases hn; done)|simp
theorem apure_sound {P : Program} {φ : Emb} {ρ : Operand → AV} {ev : Operand → Value} {o : Oper} {v : AV} (hr : ∀ x ∈ o.op.operands, VRel φ (ρ x) (ev x)) (h : apure P ρ o.op = some v) (w : World) :
    ∃ c,(execOp ev o).run P w = .ok (.value c) w∧VRel φ v c:=by
 unfold apure at h;split at h;rename_i x ho;rw[ho] at hr;simp only[dO] at h; subst h;exact⟨ev x,by simp[execOp,ho],hr x (by simp[dY])⟩;rename_i x ho;rw[ho] at hr;simp only[dO] at h; subst h;exact⟨ev x,by simp[execOp,ho],hr x (by simp[dY])⟩;rename_i c a b ho;rw[ho] at hr;have hc:=hr c (by simp[dY]); have ha:=hr a (by simp[dY]); have hb:=hr b (by simp[dY]);split at h;rename_i t hρ;rw[hρ] at hc;simp only[dO] at h; subst h;generalize hec:ev c=cc at hc;cases hc;exact⟨if t then ev a else ev b,by simp[execOp,ho,hec,asBool],by cases t <;> assumption⟩;cases h
 ·rename_i x ho;rw[ho] at hr;have hx:=hr x (by simp[dY]);generalize hex:ev x=cx at hx;split at h;rename_i b o' hρ;rw[hρ] at hx;simp only[dO] at h; subst h;refine⟨cx,?_,hx⟩;cases hx;simp[execOp,ho,hex];rename_i f caps hρ;rw[hρ] at hx;simp only[dO] at h; subst h;refine⟨cx,?_,hx⟩;cases hx;simp[execOp,ho,hex]
  ·rename_i name t y hρ;rw[hρ] at hx;split at h
   ·rename_i hm;simp only[dO] at h; subst h;obtain⟨f,hf⟩:=fX.1 hm;refine⟨cx,?_,hx⟩
    cases hx with|fmeth _ _ v hy=>
    cases hy with|ifc _ _ u hu=>
    have:=Ph hf u w;simp[execOp,ho,hex,this]
   cases h
  cases h
 rename_i op t x y yt ho;rw[ho] at hr;obtain⟨c,hc,hv⟩:=abin_run (P:=P) φ (hr x (by simp[dY])) (hr y (by simp[dY])) h x y w;exact⟨c,by simp only[execOp,ho,dW] at hc⊢; simp only[hc]; simp,hv⟩;rename_i op t x ho;rw[ho] at hr;obtain⟨c,hc,hv⟩:=aun_run (P:=P) φ (hr x (by simp[dY])) h w;exact⟨c,by simp[execOp,ho,hc],hv⟩;rename_i src dst x ho;rw[ho] at hr;have hx:=hr x (by simp[dY]);generalize hex:ev x=cx at hx;split at h;rename_i k n hρ;rw[hρ] at hx;cases hx;split at h;rename_i hsrc;obtain⟨d,hd⟩:=fX.1 hsrc;split at h;rename_i k' hk;cases h;have hu:=Yq hk;exact⟨.int k' (k'.wrap n),by simp[execOp,ho,hex,convert,run_underlying hd,run_underlying hu,Conv.intToInt],.int _ _⟩;split at h;rename_i hst;cases h;have hu:=XF hst;exact⟨.string (Utf8.encode n),by simp[execOp,ho,hex,convert,run_underlying hd,run_underlying hu,Conv.intToString],.str _⟩;cases h;cases h;cases h;rename_i f first cap ho;rw[ho] at hr;split at h;rename_i hz;simp only[dO] at h; subst h;have hf:first = #[]:=by simpa using hz
 subst hf;refine⟨.func (.func f) #[] (cap.toList.map ev).toArray,by simp[execOp,ho,lZ]; apply fE; simp,.fn _ _ _ (by simp) ?_⟩;intro j x y hx hy;simp only[fY,dS] at hx hy;obtain⟨q,hq,rfl⟩:=hx;obtain⟨q',hq',rfl⟩:=hy;rw[hq] at hq'; cases hq';exact hr q (by simp[dY]; exact jR (by simpa using hq));cases h;rename_i name first cap ho;rw[ho] at hr;split at h;rename_i x hf hcp;simp only[dO] at h; subst h;have hf':first = #[x]:=by apply fE; simpa using hf
 have hc':cap = #[]:=by apply fE; simpa using hcp
 subst hf' hc';exact⟨.func (.method name) #[ev x] #[],by simp[execOp,ho,lZ],.fmeth _ _ _ (hr x (by simp[dY]))⟩;cases h;rename_i t x lo hi mx ho;rw[ho] at hr;obtain⟨c,hc,hv⟩:=aslice_run (P:=P) (ev:=ev) (hr x (by simp[dY])) (by
  intro y hy;refine hr y ?_;rcases hy with rfl|rfl|rfl <;> simp[dY]) h w
 exact⟨c,by simp[execOp,ho,hc],hv⟩;rename_i t x f ho;rw[ho] at hr;obtain⟨c,hc,hv⟩:=Rv (P:=P) (hr x (by simp[dY])) h w;exact⟨c,by simp[execOp,ho,hc],hv⟩;rename_i t x f ho;rw[ho] at hr;obtain⟨c,hc,hv⟩:=afield_run (P:=P) (hr x (by simp[dY])) h w;exact⟨c,by simp[execOp,ho,hc],hv⟩;rename_i t parts ho;rw[ho] at hr;obtain⟨c,hc,hv⟩:=abuild_run (P:=P) (φ:=φ) (parts:=parts.toList.map fun p=>(p.1,ρ p.2)) (cparts:=parts.map fun p=>(p.1,ev p.2)) (by simp) (by
  intro j x y hx hy;rw[fY,dS] at hx;rw[lP,fY,dS] at hy;obtain⟨q,hq,rfl⟩:=hx;obtain⟨q',hq',rfl⟩:=hy;rw[hq] at hq'; cases hq';refine⟨rfl,hr _ ?_⟩;simp only[dY,lQ,List.mem_map];exact⟨q,jT hq,rfl⟩) h w
 exact⟨c,by simp[execOp,ho,hc],hv⟩;rename_i t x ix ho;rw[ho] at hr;obtain⟨c,hc,hv⟩:=Rw (P:=P) (hr x (by simp[dY])) (hr ix (by simp[dY])) h w;exact⟨c,by simp[execOp,ho,hc],hv⟩;rename_i t x ix ho;rw[ho] at hr;obtain⟨c,hc,hv⟩:=aindex_run (P:=P) (hr x (by simp[dY])) (hr ix (by simp[dY])) h w;exact⟨c,by simp[execOp,ho,hc],hv⟩
 ·rename_i x i ho;rw[ho] at hr;have hx:=hr x (by simp[dY]);generalize hex:ev x=cx at hx;split at h
  ·rename_i l hρ;rw[hρ] at hx
   cases hx with|tup _ cs hl hh=>
   have hlt:i<cs.length:=by rw[←hl]; exact(dT.1 h).1
   exact⟨cs[i],by simp[execOp,ho,hex,Instr.extract,hlt],hh i _ _ h (dP hlt)⟩
  cases h
 rename_i t x ho;rw[ho] at hr;split at h;rename_i hcc;simp only[dO] at h; subst h;refine⟨.iface t (ev x),?_,.ifc t _ _ (hr x (by simp[dY]))⟩;have:(lA t (ev x)).run P w = .ok (.iface t (ev x)) w:=by
  unfold Jn at hcc;split at hcc;cases hcc;rename_i d hne hd;simp only[lA,dW,run_underlying hd,dQ]
  cases d <;> first|rfl|exact absurd rfl (hne _)
  cases hcc
 simp[execOp,ho,this];cases h;rename_i args tys ho;rw[ho] at hr;split at h;rename_i x t hx ht;have hax:args = #[x]:=by apply fE; simpa using hx
 have hat:tys = #[t]:=by apply fE; simpa using ht
 subst hax hat;obtain⟨c,hc,hv⟩:=alen_run (P:=P) (ty:=o.type) (hr x (by simp[dY,dV])) h w;exact⟨c,by simp[execOp,ho,resolve,invoke,builtin,hc],hv⟩;cases h;rename_i args tys ho;rw[ho] at hr;split at h;rename_i x t hx ht;have hax:args = #[x]:=by apply fE; simpa using hx
 have hat:tys = #[t]:=by apply fE; simpa using ht
 subst hax hat;obtain⟨c,hc,hv⟩:=acap_run (P:=P) (ty:=o.type) (hr x (by simp[dY,dV])) h w;exact⟨c,by simp[execOp,ho,resolve,invoke,builtin,hc],hv⟩;cases h;rename_i args tys ho;rw[ho] at hr;split at h;rename_i x y hx;have hax:args = #[x,y]:=by apply fE; simpa using hx
 subst hax;obtain⟨c,hc,hv⟩:=(R0 (P:=P) (ts:=tys) (ty:=o.type) (hr x (by simp[dY,dV])) (hr y (by simp[dY,dV])) w).1 h;exact⟨c,by simp[execOp,ho,resolve,invoke,builtin,hc],hv⟩;rename_i x y z u hx;have hax:args = #[x,y,z,u]:=by apply fE; simpa using hx
 subst hax;obtain⟨c,hc,hv⟩:=(R1 (P:=P) (ts:=tys) (ty:=o.type) (hr x (by simp[dY,dV])) (hr y (by simp[dY,dV])) (hr z (by simp[dY,dV])) (hr u (by simp[dY,dV])) w).1 h;exact⟨c,by simp[execOp,ho,resolve,invoke,builtin,hc],hv⟩;cases h;rename_i args tys ho;rw[ho] at hr;split at h;rename_i x y hx;have hax:args = #[x,y]:=by apply fE; simpa using hx
 subst hax;obtain⟨c,hc,hv⟩:=(R0 (P:=P) (ts:=tys) (ty:=o.type) (hr x (by simp[dY,dV])) (hr y (by simp[dY,dV])) w).2 h;exact⟨c,by simp[execOp,ho,resolve,invoke,builtin,hc],hv⟩;rename_i x y z u hx;have hax:args = #[x,y,z,u]:=by apply fE; simpa using hx
 subst hax;obtain⟨c,hc,hv⟩:=(R1 (P:=P) (ts:=tys) (ty:=o.type) (hr x (by simp[dY,dV])) (hr y (by simp[dY,dV])) (hr z (by simp[dY,dV])) (hr u (by simp[dY,dV])) w).2 h;exact⟨c,by simp[execOp,ho,resolve,invoke,builtin,hc],hv⟩;cases h;cases h
end Go.Am
namespace Go.Am
theorem SD {α:Type} (l:List α) (x : α) (b:Nat):(l ++ [x])[b]? = if b=l.length then some x else l[b]?:=by
 rw[fM];split;rw[if_neg (by omega)];split;rename_i he; subst he; simp;rw[gY (by simp; omega),gY (by omega)]
theorem set_get {α:Type} (l:List α) (x : α) (b c:Nat):(l.set b x)[c]? = if c=b∧b<l.length then some x else l[c]?:=by
 rw[jI];by_cases hbc:b=c;subst hbc;by_cases hl:b<l.length;simp[hl];simp[hl];rw[if_neg hbc,if_neg (by omega)]
theorem AHeap.get_lt {h:AHeap} {b:Nat} {B:Blk} (hb:h.get b=some B):b<h.next:=(dT.1 hb).1
theorem AHeap.get_some {h:AHeap} {b:Nat} (hb:b<h.next):∃ B,h.get b=some B:=⟨_,dP hb⟩
theorem AHeap.next_push (h:AHeap) (B:Blk):(h.push B).next=h.next+1:=by simp[AHeap.next,AHeap.push]
theorem AHeap.next_set (h:AHeap) (b:Nat) (B:Blk):(h.set b B).next=h.next:=by simp[AHeap.next,AHeap.set]
theorem AHeap.next_pushFam (h:AHeap) (f:Fam):(h.pushFam f).next=h.next:=rfl
theorem AHeap.next_setFam (h:AHeap) (F:Nat) (f:Fam):(h.setFam F f).next=h.next:=rfl
theorem AHeap.get_push (h:AHeap) (B:Blk) (b:Nat):(h.push B).get b=if b=h.next then some B else h.get b:=SD h.blks B b
theorem AHeap.get_set (h:AHeap) (b:Nat) (B:Blk) (c:Nat):(h.set b B).get c=if c=b∧b<h.next then some B else h.get c:=set_get h.blks B b c
theorem AHeap.get_pushFam (h:AHeap) (f:Fam) (b:Nat):(h.pushFam f).get b=h.get b:=rfl
theorem AHeap.get_setFam (h:AHeap) (F:Nat) (f:Fam) (b:Nat):(h.setFam F f).get b=h.get b:=rfl
theorem AHeap.fam_push (h:AHeap) (B:Blk) (F:Nat):(h.push B).fam F=h.fam F:=rfl
theorem AHeap.fam_set (h:AHeap) (b:Nat) (B:Blk) (F:Nat):(h.set b B).fam F=h.fam F:=rfl
theorem AHeap.fam_pushFam (h:AHeap) (f:Fam) (F:Nat):(h.pushFam f).fam F=if F=h.nfam then some f else h.fam F:=SD h.fams f F
theorem AHeap.fam_setFam (h:AHeap) (F:Nat) (f:Fam) (G:Nat):(h.setFam F f).fam G=if G=F∧F<h.nfam then some f else h.fam G:=set_get h.fams f F G
theorem AHeap.fam_lt {h:AHeap} {F:Nat} {f:Fam} (hf:h.fam F=some f):F<h.nfam:=(dT.1 hf).1
def Blk.shape : Blk → Option (Option Nat × Nat × Nat × List AV)
  | .cells none p cs=>some (none,p,cs.length,cs)
  | .cells (some F) p cs=>some (some F,p,cs.length,[])
  | .obj _ _=>none
structure HGrow (h h':AHeap):Prop where
  next:h.next≤h'.next
  nfam:h.nfam≤h'.nfam
  globs:h'.globs=h.globs
  shape:∀ b,b<h.next→(h'.get b).map Blk.shape=(h.get b).map Blk.shape
theorem HGrow.refl (h:AHeap):HGrow h h:=⟨fA _,fA _,rfl,fun _ _=>rfl⟩
theorem HGrow.trans {a b c:AHeap} (h:HGrow a b) (k:HGrow b c):HGrow a c:=
  ⟨fZ h.next k.next,fZ h.nfam k.nfam,k.globs.trans h.globs,fun x hx=>(k.shape x (fC hx h.next)).trans (h.shape x hx)⟩
theorem Blk.shape_cells {B:Blk} {F:Option Nat} {p:Nat} {cs:List AV} (h:B.shape=(Blk.cells F p cs).shape):∃ cs',B = .cells F p cs'∧cs'.length=cs.length∧(F=none→cs'=cs):=by
 cases B with
 | obj _ _=>cases F <;> cases h
 | cells F' p' cs'=>
  cases F <;> cases F' <;> injection h with h <;> injection h with h1 h2 <;> injection h2 with h2 h3 <;> injection h3 with h3 h4
  exact⟨cs',by rw[h2],h3,fun _=>h4⟩;cases h1;cases h1;exact⟨cs',by rw[h1,h2],h3,fun h=>by cases h⟩
theorem HGrow.cells {h h':AHeap} (g:HGrow h h') {b:Nat} {F:Option Nat} {p:Nat} {cs:List AV} (hb:h.get b=some (.cells F p cs)):∃ cs',h'.get b=some (.cells F p cs')∧cs'.length=cs.length:=by
 have:=g.shape b (AHeap.get_lt hb);rw[hb] at this;obtain⟨B,hB,hs⟩:=dS.1 this;obtain⟨cs',h1,h2,_⟩:=Blk.shape_cells (Option.some.inj (congrArg some hs));exact⟨cs',by rw[hB,h1],h2⟩
theorem HGrow.back {h h':AHeap} (g:HGrow h h') {b:Nat} (hlt:b<h.next) {F:Option Nat} {p:Nat} {cs:List AV} (hb:h'.get b=some (.cells F p cs)):∃ cs',h.get b=some (.cells F p cs')∧cs'.length=cs.length:=by
 have:=g.shape b hlt;rw[hb] at this;obtain⟨B,hB,hs⟩:=dS.1 this.symm;obtain⟨cs',h1,h2,_⟩:=Blk.shape_cells hs;exact⟨cs',by rw[hB,h1],h2⟩
theorem HGrow.backMap {h h':AHeap} (g:HGrow h h') {b:Nat} (hlt:b<h.next) {F:Nat} {x:Thing} (hb:h'.get b=some (.obj F x)):∃ F' x',h.get b=some (.obj F' x'):=by
 have:=g.shape b hlt;rw[hb] at this;obtain⟨B,hB⟩:=AHeap.get_some hlt;rw[hB] at this
 cases B with
 | cells F' p' cs'=>cases F' <;> cases this
 | obj F' x'=>exact⟨F',x',hB⟩
def Fresh (φ:Emb) (h h':AHeap):Prop:=∀ b,h.next≤b→b<h'.next→φ b=none
structure Trans (φ:Emb) (h:AHeap) (w:World) (φ':Emb) (h':AHeap) (w':World):Prop where
  le : φ.le φ'
  dom:∀ b,h.next≤b→b<h'.next→∃ p,φ' b=some p
  new:∀ b p,φ b=none→φ' b=some p→h.next≤b∧b<h'.next
  img:∀ b k i z,φ b=none→φ' b=some (k,i,z)→w.heap.size≤k∨∃ b0 i0 z0 F p cs,φ b0=some (k,i0,z0)∧h.get b0=some (.cells (some F) p cs)
  frame:∀ k,k<w.heap.size→¬ h.mut φ k→w'.heap[k]? = w.heap[k]?
  os:w'.os=w.os
  tape:w'.tape=w.tape
  output:w'.output=w.output
  size:w.heap.size≤w'.heap.size
theorem Trans.refl (φ:Emb) (h:AHeap) (w:World):Trans φ h w φ h w:=
  ⟨Emb.le_refl φ,fun b h1 h2=>by omega,fun b p h1 h2=>(by rw[h1] at h2; cases h2),fun b k i z h1 h2=>(by rw[h1] at h2; cases h2),fun _ _ _=>rfl,rfl,rfl,rfl,fA _⟩
theorem Trans.drew {φ φ':Emb} {h h':AHeap} {w w':World} (t:Trans φ h w.drew φ' h' w'):Trans φ h w φ' h' w':=
  ⟨t.le,t.dom,t.new,t.img,t.frame,t.os,t.tape,t.output,t.size⟩
theorem Trans.trans {φ φ' φ'':Emb} {h h' h'':AHeap} {w w' w'':World} (hf:Fresh φ h h'') (g:HGrow h h') (g':HGrow h' h'') (t:Trans φ h w φ' h' w') (t':Trans φ' h' w' φ'' h'' w''):Trans φ h w φ'' h'' w'':=by
 have hmut:∀ k,k<w.heap.size→h'.mut φ' k→h.mut φ k:=by
  rintro k hk ⟨b,i,z,hb,hm⟩
  cases hφ : φ b with
  | none=>
   obtain⟨h1,h2⟩:=t.new b _ hφ hb;rcases t.img b k i z hφ hb with h3|⟨b0,i0,z0,F,p,cs,h3,h4⟩
   omega;exact⟨b0,i0,z0,h3,.inl ⟨F,p,cs,h4⟩⟩
  | some q=>
   have:=t.le b q hφ;rw[hb] at this;cases this;have hlt:b<h.next:=by
    apply jG;intro hle;have hb':b<h'.next:=by
     rcases hm with ⟨F,p,cs,h4⟩|⟨F,x,h4⟩ <;> exact AHeap.get_lt h4
    have:=hf b hle (fC hb' g'.next);rw[hφ] at this; cases this
   rcases hm with ⟨F,p,cs,h4⟩|⟨F,x,h4⟩
   obtain⟨cs',h5,_⟩:=g.back hlt h4;exact⟨b,i,z,hφ,.inl ⟨F,p,cs',h5⟩⟩;obtain⟨F',x',h5⟩:=g.backMap hlt h4;exact⟨b,i,z,hφ,.inr ⟨F',x',h5⟩⟩
 refine⟨Emb.le_trans t.le t'.le,?_,?_,?_,?_,t'.os.trans t.os,t'.tape.trans t.tape,t'.output.trans t.output,fZ t.size t'.size⟩;intro b h1 h2;by_cases h3:b<h'.next;obtain⟨p,hp⟩:=t.dom b h1 h3;exact⟨p,t'.le b p hp⟩;exact t'.dom b (by omega) h2
 ·intro b p h1 h2
  cases hφ : φ' b with
  | none=>
   have:=t'.new b p hφ h2;exact⟨fZ g.next this.1,this.2⟩
  | some q=>
   have:=t.new b q h1 hφ;exact⟨this.1,fC this.2 g'.next⟩
 ·intro b k i z h1 h2
  cases hφ : φ' b with
  | none=>
   rcases t'.img b k i z hφ h2 with h3|⟨b0,i0,z0,F,p,cs,h3,h4⟩
   exact .inl (fZ t.size h3)
   ·by_cases hk:w.heap.size≤k;exact .inl hk
    ·refine .inr ?_
     cases hφ0 : φ b0 with
     | none=>
      rcases t.img b0 k i0 z0 hφ0 h3 with h5|h5
      omega;exact h5
     | some q=>
      have:=t.le b0 q hφ0;rw[h3] at this;cases this;have hlt:b0<h.next:=by
       apply jG;intro hle;have:=hf b0 hle (fC (AHeap.get_lt h4) g'.next);rw[hφ0] at this; cases this
      obtain⟨cs',h5,_⟩:=g.back hlt h4;exact⟨b0,i0,z0,F,p,cs',hφ0,h5⟩
  | some q=>
   have:=t'.le b q hφ;rw[h2] at this;cases this;exact t.img b k i z h1 hφ
 intro k hk hm;rw[t'.frame k (fC hk t.size) (fun hm'=>hm (hmut k hk hm'))];exact t.frame k hk hm
theorem BRel.world {φ:Emb} {w w':World} {k i z:Nat} {B:Blk} (h:BRel φ w k i z B) (hk:w'.heap[k]? = w.heap[k]?):BRel φ w' k i z B:=by
 cases B with
 | cells F p cs=>
  cases F with
  | none=>
   refine⟨?_,fun hp=>let⟨hi,c,e,f,h1,h2⟩:=h.2 hp; ⟨hi,c,e,f,hk.trans h1,h2⟩⟩;intro j x hx;obtain⟨v,hv,hr⟩:=h.1 j x hx;exact⟨v,by rw[World.cell?_of_block (w:=w) hk]; exact hv,hr⟩
  | some F=>
   obtain⟨c,e,h1,h2⟩:=h;exact⟨c,e,h1.old hk,h2⟩
 | obj F x=>
  cases x with
  | map es=>
   obtain⟨ms,h1,h2⟩:=h;exact⟨ms,hk.trans h1,h2⟩
  | dmap es=>
   obtain⟨ms,n,h1,h2⟩:=h;exact⟨ms,n,hk.trans h1,h2⟩
  | walk s pos=>exact hk.trans h
  | mwalk bm n seen=>obtain⟨km,im,zm,h1,h2⟩:=h; exact⟨km,im,zm,h1,hk.trans h2⟩
  | gone=>trivial
theorem BRel.mono {φ φ':Emb} (hle : φ.le φ') {w:World} {k i z:Nat} {B:Blk} (h:BRel φ w k i z B):BRel φ' w k i z B:=by
 cases B with
 | cells F p cs=>
  cases F with
  | none=>exact⟨fun j x hx=>let⟨v,hv,hr⟩:=h.1 j x hx; ⟨v,hv,hr.mono hle⟩,h.2⟩
  | some F=>exact let⟨c,e,h1,h2,h3⟩:=h; ⟨c,e,h1,h2,fun j x hx=>let⟨v,hv,hr⟩:=h3 j x hx; ⟨v,hv,hr.mono hle⟩⟩
 | obj F x=>
  cases x with
  | dmap es=>exact let⟨ms,n,h1,h2,h3⟩:=h; ⟨ms,n,h1,h2,fun j x m hx hm=>⟨(h3 j x m hx hm).1.mono hle,(h3 j x m hx hm).2.mono hle⟩⟩
  | map es=>exact let⟨ms,h1,h2,h3⟩:=h; ⟨ms,h1,h2,fun j x m hx hm=>⟨(h3 j x m hx hm).1,(h3 j x m hx hm).2.1.mono hle,(h3 j x m hx hm).2.2.mono hle⟩⟩
  | walk s pos=>exact h
  | mwalk bm n seen=>exact let⟨km,im,zm,h1,h2⟩:=h; ⟨km,im,zm,hle _ _ h1,h2⟩
  | gone=>trivial
theorem HRel.drew {φ:Emb} {h:AHeap} {w:World} (r:HRel φ h w):HRel φ h w.drew:=
  ⟨r.glob,r.lt,fun b k i z B h1 h2 h3=>(r.blk b k i z B h1 h2 h3).world rfl,r.arr,r.one,r.sep,r.map,r.ext⟩
def Emb.upd (φ:Emb) (b:Nat) (p:Nat × Nat × Nat):Emb:=fun b'=>if b'=b then some p else φ b'
theorem Emb.upd_same (φ:Emb) (b:Nat) (p:Nat × Nat × Nat) : φ.upd b p b=some p:=by simp[Emb.upd]
theorem Emb.upd_other (φ:Emb) {b b':Nat} (p:Nat × Nat × Nat) (h:b'≠b) : φ.upd b p b'=φ b':=by simp[Emb.upd,h]
theorem Emb.le_upd {φ:Emb} {b:Nat} (p:Nat × Nat × Nat) (h : φ b=none) : φ.le (φ.upd b p):=by
 intro b' q hq;by_cases hb:b'=b;subst hb; rw[h] at hq; cases hq;rw[Emb.upd_other φ p hb]; exact hq
theorem AHeap.next_alloc (h:AHeap) (cs:List AV):(h.alloc cs).next=h.next+1:=by simp[AHeap.alloc,AHeap.next_pushFam,AHeap.next_push]
theorem AHeap.nfam_alloc (h:AHeap) (cs:List AV):(h.alloc cs).nfam=h.nfam+1:=by simp[AHeap.alloc,AHeap.nfam,AHeap.pushFam,AHeap.push]
theorem AHeap.get_alloc (h:AHeap) (cs:List AV) (b:Nat):(h.alloc cs).get b=if b=h.next then some (.cells (some h.nfam) 0 cs) else h.get b:=by
 simp[AHeap.alloc,AHeap.get_pushFam,AHeap.get_push]
theorem AHeap.fam_alloc (h:AHeap) (cs:List AV) (F:Nat):(h.alloc cs).fam F=if F=h.nfam then some ⟨cs.length,none⟩ else h.fam F:=by
 have:(h.push (.cells (some h.nfam) 0 cs)).nfam=h.nfam:=rfl;simp[AHeap.alloc,AHeap.fam_pushFam,AHeap.fam_push,this]
theorem HGrow.alloc (h:AHeap) (cs:List AV):HGrow h (h.alloc cs):=
  ⟨by rw[AHeap.next_alloc]; omega,by rw[AHeap.nfam_alloc]; omega,rfl,fun b hb=>by rw[AHeap.get_alloc,if_neg (by omega)]⟩
theorem AHeap.valid_alloc_old (h:AHeap) (cs:List AV) {b:Nat} (hb:b<h.next) {φ:Emb} {w:World} (r:HRel φ h w):(h.alloc cs).valid b=h.valid b:=by
 simp only[AHeap.valid,AHeap.get_alloc,if_neg (show¬ b=h.next by omega)]
 cases hg:h.get b with
 | none=>rfl
 | some B=>
  cases B with
  | obj _ _=>rfl
  | cells F p cs'=>
   cases F with
   | none=>rfl
   | some F=>
    obtain⟨f,hf,_⟩:=r.ext b F p cs' hg;have:=AHeap.fam_lt hf;simp only[AHeap.fam_alloc,if_neg (show¬ F=h.nfam by omega)]
theorem HRel.alloc {φ : Emb} {h : AHeap} {w : World} (r : HRel φ h w) (hφ : φ h.next = none) (cs : List AV) (c : Array Value) (e : TypeId) (hlen : cs.length ≤ c.size) (hc : CellsAt φ cs c 0) :
    HRel (φ.upd h.next (w.heap.size,0,c.size)) (h.alloc cs) (w.alloc (.cells c e))∧Trans φ h w (φ.upd h.next (w.heap.size,0,c.size)) (h.alloc cs) (w.alloc (.cells c e)):=by
 have hle:=Emb.le_upd (φ:=φ) (w.heap.size,0,c.size) hφ;have hold:∀ k,k<w.heap.size→(w.alloc (.cells c e)).heap[k]? = w.heap[k]?:=fun k hk=>heap_alloc_old w _ hk
 have hnew:RowAt (w.alloc (.cells c e)) w.heap.size c e:=RowAt.new w c e;have hcase:∀ b k i z,φ.upd h.next (w.heap.size,0,c.size) b=some (k,i,z)→(b=h.next∧k=w.heap.size∧i=0∧z=c.size)∨(b≠h.next∧φ b=some (k,i,z)):=by
  intro b k i z hb;by_cases hbn:b=h.next;subst hbn; rw[Emb.upd_same] at hb; cases hb; exact .inl ⟨rfl,rfl,rfl,rfl⟩;rw[Emb.upd_other φ _ hbn] at hb; exact .inr ⟨hbn,hb⟩
 refine⟨⟨?_,?_,?_,?_,?_,?_,?_,?_⟩,hle,?_,?_,?_,?_,rfl,rfl,rfl,by simp⟩;intro g hg;obtain⟨z,hz⟩:=r.glob g hg;exact⟨z,hle _ _ hz⟩;intro b k i z hb;simp only[World.size_alloc];rcases hcase b k i z hb with ⟨_,rfl,_⟩|⟨hne,hb'⟩
 omega;have:=r.lt b k i z hb'; omega;intro b k i z B hb hg hv;rcases hcase b k i z hb with ⟨rfl,rfl,rfl,rfl⟩|⟨hne,hb'⟩
 rw[AHeap.get_alloc,if_pos rfl] at hg;cases hg;exact⟨c,e,hnew,rfl,fun j x hx=>let⟨v,h1,h2⟩:=hc j x hx; ⟨v,h1,h2.mono hle⟩⟩;rw[AHeap.get_alloc,if_neg hne] at hg;rw[AHeap.valid_alloc_old h cs (AHeap.get_lt hg) r] at hv;exact((r.blk b k i z B hb' hg hv).world (hold k (r.lt b k i z hb'))).mono hle;intro b k i z F p cs' hb hg;rcases hcase b k i z hb with ⟨rfl,rfl,rfl,rfl⟩|⟨hne,hb'⟩
 rw[AHeap.get_alloc,if_pos rfl] at hg;cases hg;exact⟨c,e,hnew,rfl,by omega⟩;rw[AHeap.get_alloc,if_neg hne] at hg;obtain⟨c',e',h1,h2⟩:=r.arr b k i z F p cs' hb' hg;exact⟨c',e',h1.old (hold k (r.lt b k i z hb')),h2⟩;intro b b' k i i' z z' F F' p p' cs1 cs2 hb hb' hg hg';rcases hcase b k i z hb with ⟨rfl,rfl,rfl,rfl⟩|⟨hne,h1⟩ <;> rcases hcase b' _ i' z' hb' with ⟨rfl,hk,rfl,rfl⟩|⟨hne',h1'⟩
 rw[hg] at hg'; cases hg'; exact⟨rfl,rfl⟩;rw[AHeap.get_alloc,if_neg hne'] at hg';have:=r.lt b' _ i' z' h1'; omega;rw[AHeap.get_alloc,if_neg hne] at hg;have:=r.lt b _ i z h1; omega;rw[AHeap.get_alloc,if_neg hne] at hg;rw[AHeap.get_alloc,if_neg hne'] at hg';exact r.one b b' k i i' z z' F F' p p' cs1 cs2 h1 h1' hg hg';intro b b' k i i' z z' F p p' cs1 cs2 hb hb' hg hg';rcases hcase b k i z hb with ⟨rfl,rfl,rfl,rfl⟩|⟨hne,h1⟩ <;> rcases hcase b' _ i' z' hb' with ⟨rfl,hk,rfl,rfl⟩|⟨hne',h1'⟩
 rw[hg] at hg'; cases hg';rw[AHeap.get_alloc,if_neg hne'] at hg';have:=r.lt b' _ i' z' h1'; omega;rw[AHeap.get_alloc,if_pos rfl] at hg'; cases hg';rw[AHeap.get_alloc,if_neg hne] at hg;rw[AHeap.get_alloc,if_neg hne'] at hg';exact r.sep b b' k i i' z z' F p p' cs1 cs2 h1 h1' hg hg';intro b b' k i i' z z' F0 x0 B hb hb' hg hg';rcases hcase b k i z hb with ⟨rfl,rfl,rfl,rfl⟩|⟨hne,h1⟩ <;> rcases hcase b' _ i' z' hb' with ⟨rfl,hk,rfl,rfl⟩|⟨hne',h1'⟩
 rfl;rw[AHeap.get_alloc,if_pos rfl] at hg; cases hg;rw[AHeap.get_alloc,if_neg hne] at hg;have:=r.lt b _ i z h1; omega;rw[AHeap.get_alloc,if_neg hne] at hg;rw[AHeap.get_alloc,if_neg hne'] at hg';exact r.map b b' k i i' z z' F0 x0 B h1 h1' hg hg';intro b F p cs' hg;rw[AHeap.get_alloc] at hg;rw[AHeap.fam_alloc];split at hg;cases hg;exact⟨_,if_pos rfl,by simp⟩;obtain⟨f,hf,hl⟩:=r.ext b F p cs' hg;have:=AHeap.fam_lt hf;exact⟨f,by rw[if_neg (by omega)]; exact hf,hl⟩;intro b h1 h2;rw[AHeap.next_alloc] at h2;have:b=h.next:=by omega
 subst this;exact⟨_,Emb.upd_same _ _ _⟩;intro b p h1 h2;by_cases hbn:b=h.next;subst hbn; rw[AHeap.next_alloc]; omega;rw[Emb.upd_other φ _ hbn,h1] at h2; cases h2;intro b k i z h1 h2;rcases hcase b k i z h2 with ⟨_,rfl,_⟩|⟨hne,hb'⟩
 exact .inl (fA _);rw[h1] at hb'; cases hb';intro k hk _;exact hold k hk
end Go.Am
namespace Go.Am
theorem BRel.cell {φ : Emb} {w : World} {k i z : Nat} {F : Option Nat} {p : Nat} {cs : List AV} (h : BRel φ w k i z (.cells F p cs)) {j : Nat} {x : AV} (hx : cs[j]? = some x) :
    ∃ v,w.cell? ⟨k,i+j,none⟩=some v∧VRel φ x v:=by
 cases F with
 | none=>exact h.1 j x hx
 | some F=>
  obtain⟨c,e,h1,_,h3⟩:=h;obtain⟨v,hv,hr⟩:=h3 j x hx;exact⟨v,by rw[h1.cell]; exact hv,hr⟩
theorem HRel.store {φ : Emb} {h : AHeap} {w : World} (r : HRel φ h w) {b k i z F p : Nat} {cs : List AV} {f : Fam} (hb : φ b = some (k, i, z)) (hg : h.get b = some (.cells (some F) p cs)) (hv : h.valid b = true)
    (hF:h.fam F=some f) {o:Nat} {l:List AV} {vs:List Value} (ho:o+l.length≤cs.length) (hl:VRels φ l vs) :
    ∃ c e, RowAt w k c e ∧ i + o + vs.length ≤ c.size ∧
      HRel φ ((h.set b (.cells (some F) p (putL cs o l))).setFam F {f with live:=some [b]}) (w.setRow k (putL c.toList (i+o) vs).toArray)∧
      Trans φ h w φ ((h.set b (.cells (some F) p (putL cs o l))).setFam F {f with live:=some [b]}) (w.setRow k (putL c.toList (i+o) vs).toArray):=by
 obtain⟨c,e,h1,h2,h3⟩:=r.blk b k i z _ hb hg hv;obtain⟨c',e',h1',h2',h3'⟩:=r.arr b k i z F p cs hb hg;obtain⟨rfl,rfl⟩:=h1.uniq h1';have hvl:vs.length=l.length:=hl.1.symm;have hfit:i+o+vs.length≤c.size:=by omega
 have hblt:=AHeap.get_lt hg;have hFlt:=AHeap.fam_lt hF;refine⟨c,e,h1,hfit,?_⟩;have hsz:(putL c.toList (i+o) vs).length=c.size:=by rw[KY _ _ _ (by simpa using hfit)]; simp
 have hnew:RowAt (w.setRow k (putL c.toList (i+o) vs).toArray) k (putL c.toList (i+o) vs).toArray e:=h1.set (by simp[hsz]);have hold:∀ k',k'≠k→(w.setRow k (putL c.toList (i+o) vs).toArray).heap[k']? = w.heap[k']?:=fun k' hk'=>setRow_other w k k' _ hk'
 have hget:∀ b',((h.set b (.cells (some F) p (putL cs o l))).setFam F {f with live:=some [b]}).get b'=if b'=b then some (.cells (some F) p (putL cs o l)) else h.get b':=by
  intro b';rw[AHeap.get_setFam,AHeap.get_set];by_cases hbb:b'=b;rw[if_pos ⟨hbb,hblt⟩,if_pos hbb];rw[if_neg (by simp[hbb]),if_neg hbb]
 have hfam:∀ G,((h.set b (.cells (some F) p (putL cs o l))).setFam F {f with live:=some [b]}).fam G=if G=F then some {f with live:=some [b]} else h.fam G:=by
  intro G;rw[AHeap.fam_setFam,AHeap.fam_set];by_cases hGF:G=F;rw[if_pos ⟨hGF,hFlt⟩,if_pos hGF];rw[if_neg (by simp[hGF]),if_neg hGF]
 have hback:∀ b' B,((h.set b (.cells (some F) p (putL cs o l))).setFam F {f with live:=some [b]}).get b'=some B→(b'=b∧B = .cells (some F) p (putL cs o l))∨(b'≠b∧h.get b'=some B):=by
  intro b' B hB;rw[hget] at hB;split at hB;rename_i hbb; cases hB; exact .inl ⟨hbb,rfl⟩;rename_i hbb; exact .inr ⟨hbb,hB⟩
 have hcellsB:∀ b' F' p' cs',((h.set b (.cells (some F) p (putL cs o l))).setFam F {f with live:=some [b]}).get b'=some (.cells F' p' cs')→∃ cs'',h.get b'=some (.cells F' p' cs'')∧cs''.length=cs'.length:=by
  intro b' F' p' cs' hB;rcases hback b' _ hB with ⟨hbb,hE⟩|⟨_,hE⟩
  cases hE; subst hbb; exact⟨cs,hg,(KY _ _ _ ho).symm⟩
  exact⟨cs',hE,rfl⟩
 refine⟨⟨r.glob,?_,?_,?_,?_,?_,?_,?_⟩,Emb.le_refl φ,?_,?_,?_,?_,rfl,rfl,rfl,by simp⟩;intro b' k' i' z' hb';simpa using r.lt b' k' i' z' hb'
 ·intro b' k' i' z' B hb' hB hv';rcases hback b' B hB with ⟨rfl,rfl⟩|⟨hne,hB'⟩
  rw[hb] at hb'; cases hb';refine⟨_,e,hnew,by simpa [hsz] using h2,?_⟩;intro j x hx;rw[QU _ _ _ ho] at hx;have hpg:=QU c.toList vs (i+o) (by simpa using hfit) (i+j);simp only[gB];split at hx;rename_i hj;have hjl:j - o<vs.length:=by omega
  rw[hpg,if_pos (by omega),show i+j - (i+o)=j - o by omega];exact⟨vs[j - o],dP hjl,hl.2 _ _ _ hx (dP hjl)⟩;rename_i hj;obtain⟨v,hv1,hv2⟩:=h3 j x hx;rw[hpg,if_neg (by omega)];exact⟨v,by simpa using hv1,hv2⟩
  ·
    have hvold:∀ F' p' cs',B = .cells (some F') p' cs'→F'≠F∧h.valid b'=true:=by
      intro F' p' cs' hBe;subst hBe;simp only[AHeap.valid,hB] at hv';by_cases hFF:F'=F;subst hFF;rw[hfam,if_pos rfl] at hv';simp[Fam.sees] at hv';exact absurd hv' hne;refine⟨hFF,?_⟩;rw[hfam,if_neg hFF] at hv';simp only[AHeap.valid,hB'];exact hv'
    have hk:k'≠k:=by
      intro hkk;subst hkk
      cases B with
      | obj F0 x0=>exact hne (r.map b' b k' i' i z' z F0 x0 _ hb' hb hB' hg)
      | cells F' p' cs'=>
        cases F' with
        | none=>exact r.sep b b' k' i i' z z' F p p' cs cs' hb hb' hg hB'
        | some F'=>
          have:=r.one b b' k' i i' z z' F F' p p' cs cs' hb hb' hg hB';exact(hvold F' p' cs' rfl).1 this.1.symm
    have hv0:h.valid b'=true:=by
      cases B with
      | obj F0 x0=>simp only[AHeap.valid,hB']
      | cells F' p' cs'=>
        cases F' with
        | none=>simp only[AHeap.valid,hB']
        | some F'=>exact(hvold F' p' cs' rfl).2
    exact(r.blk b' k' i' z' B hb' hB' hv0).world (hold k' hk)
 intro b' k' i' z' F' p' cs' hb' hB;obtain⟨cs'',hB',hl'⟩:=hcellsB b' _ p' cs' hB;obtain⟨c1,e1,q1,q2,q3⟩:=r.arr b' k' i' z' F' p' cs'' hb' hB';by_cases hkk:k'=k;subst hkk;obtain⟨rfl,rfl⟩:=h1.uniq q1;exact⟨_,e,hnew,by simpa [hsz] using q2,by omega⟩;exact⟨c1,e1,q1.old (hold k' hkk),q2,by omega⟩;intro b1 b2 k' i1 i2 z1 z2 F1 F2 p1 p2 c1 c2 q1 q2 g1 g2;obtain⟨d1,g1',_⟩:=hcellsB _ _ _ _ g1;obtain⟨d2,g2',_⟩:=hcellsB _ _ _ _ g2;exact r.one b1 b2 k' i1 i2 z1 z2 F1 F2 p1 p2 d1 d2 q1 q2 g1' g2';intro b1 b2 k' i1 i2 z1 z2 F1 p1 p2 c1 c2 q1 q2 g1 g2;obtain⟨d1,g1',_⟩:=hcellsB _ _ _ _ g1;obtain⟨d2,g2',_⟩:=hcellsB _ _ _ _ g2;exact r.sep b1 b2 k' i1 i2 z1 z2 F1 p1 p2 d1 d2 q1 q2 g1' g2';intro b1 b2 k' i1 i2 z1 z2 F0 x0 B q1 q2 g1 g2;rcases hback b1 _ g1 with ⟨_,hB1⟩|⟨hne1,hB1⟩
 cases hB1;rcases hback b2 _ g2 with ⟨rfl,rfl⟩|⟨hne2,hB2⟩
 exact r.map b1 b2 k' i1 i2 z1 z2 F0 x0 _ q1 q2 hB1 hg;exact r.map b1 b2 k' i1 i2 z1 z2 F0 x0 B q1 q2 hB1 hB2;intro b' F' p' cs' hB;obtain⟨cs'',hB',hl'⟩:=hcellsB b' _ p' cs' hB;obtain⟨f',hf',hle⟩:=r.ext b' F' p' cs'' hB';rw[hfam];by_cases hFF:F'=F;subst hFF;rw[hF] at hf'; cases hf';exact⟨_,if_pos rfl,by simpa [←hl'] using hle⟩;exact⟨f',by rw[if_neg hFF]; exact hf',by omega⟩;intro b' q1 q2;rw[AHeap.next_setFam,AHeap.next_set] at q2; omega;intro b' q q1 q2; rw[q1] at q2; cases q2;intro b' k' i' z' q1 q2; rw[q1] at q2; cases q2;intro k' hk' hm;refine hold k' ?_;rintro rfl;exact hm ⟨b,i,z,hb,.inl ⟨F,p,cs,hg⟩⟩
theorem HGrow.store {h:AHeap} {b F p o:Nat} {cs l:List AV} {f':Fam} (hg:h.get b=some (.cells (some F) p cs)) (ho:o+l.length≤cs.length):HGrow h ((h.set b (.cells (some F) p (putL cs o l))).setFam F f'):=by
 refine⟨(by rw[AHeap.next_setFam,AHeap.next_set]; exact fA _),by simp[AHeap.nfam,AHeap.setFam,AHeap.set],rfl,?_⟩;intro b' hb';rw[AHeap.get_setFam,AHeap.get_set];split;rename_i hbb;obtain⟨rfl,_⟩:=hbb;rw[hg];simp[Blk.shape,KY _ _ _ ho];rfl
theorem HRel.grow {φ : Emb} {h : AHeap} {w w' : World} (r : HRel φ h w) (hφ : φ h.next = none) {F q k i z : Nat} {cs : List AV} {f : Fam} {x : Nat} {lv : Option (List Nat)} {c : Array Value} {e : TypeId} (hF : h.fam F = some f)
    (hw:RowAt w' k c e) (hz:c.size=z) (hc:CellsAt φ cs c i) (hi:i+cs.length≤z) (hkl:k<w'.heap.size) (hsz:w.heap.size≤w'.heap.size)
    (hold:∀ b k' i' z' B,φ b=some (k',i',z')→h.get b=some B→h.valid b=true→(∀ p' cs',B = .cells (some F) p' cs'→Fam.sees ⟨x,lv⟩ b=true)→BRel φ w' k' i' z' B)
    (hlv:∀ b,b≠h.next→Fam.sees ⟨x,lv⟩ b=true→f.sees b=true)
    (harr:∀ b k' i' z' F' p' cs',φ b=some (k',i',z')→h.get b=some (.cells (some F') p' cs')→∃ c e,RowAt w' k' c e∧c.size=z')
    (hone:∀ b' i' z' F' p' cs',φ b'=some (k,i',z')→h.get b'=some (.cells (some F') p' cs')→F'=F∧p'+i=q+i')
    (hsep:∀ b' i' z' p' cs',φ b'=some (k,i',z')→h.get b'=some (.cells none p' cs')→False) (hmap:∀ b' i' z' F0 x0,φ b'=some (k,i',z')→h.get b'=some (.obj F0 x0)→False)
    (hx:f.ext≤x∧q+cs.length≤x) :
    HRel (φ.upd h.next (k,i,z)) ((h.push (.cells (some F) q cs)).setFam F ⟨x,lv⟩) w':=by
 have hle:=Emb.le_upd (φ:=φ) (k,i,z) hφ;have hFlt:=AHeap.fam_lt hF;have hget:∀ b',((h.push (.cells (some F) q cs)).setFam F ⟨x,lv⟩).get b'=if b'=h.next then some (.cells (some F) q cs) else h.get b':=by
  intro b'; rw[AHeap.get_setFam,AHeap.get_push]
 have hfam:∀ G,((h.push (.cells (some F) q cs)).setFam F ⟨x,lv⟩).fam G=if G=F then some ⟨x,lv⟩ else h.fam G:=by
  intro G;rw[AHeap.fam_setFam,AHeap.fam_push];by_cases hGF:G=F;rw[if_pos ⟨hGF,hFlt⟩,if_pos hGF];rw[if_neg (by simp[hGF]),if_neg hGF]
 have hcase:∀ b k' i' z',φ.upd h.next (k,i,z) b=some (k',i',z')→(b=h.next∧k'=k∧i'=i∧z'=z)∨(b≠h.next∧φ b=some (k',i',z')):=by
  intro b k' i' z' hb;by_cases hbn:b=h.next;subst hbn; rw[Emb.upd_same] at hb; cases hb; exact .inl ⟨rfl,rfl,rfl,rfl⟩;rw[Emb.upd_other φ _ hbn] at hb; exact .inr ⟨hbn,hb⟩
 refine⟨?_,?_,?_,?_,?_,?_,?_,?_⟩;intro g hg;obtain⟨z',hz'⟩:=r.glob g hg;exact⟨z',hle _ _ hz'⟩;intro b k' i' z' hb;rcases hcase b k' i' z' hb with ⟨_,rfl,_⟩|⟨hne,hb'⟩
 exact hkl;have:=r.lt b k' i' z' hb'; omega
 ·intro b k' i' z' B hb hg hv;rw[hget] at hg;rcases hcase b k' i' z' hb with ⟨rfl,rfl,rfl,rfl⟩|⟨hne,hb'⟩
  rw[if_pos rfl] at hg;cases hg;exact⟨c,e,hw,hz,fun j y hy=>let⟨v,h1,h2⟩:=hc j y hy; ⟨v,h1,h2.mono hle⟩⟩
  ·rw[if_neg hne] at hg;have hsee:∀ p' cs',B = .cells (some F) p' cs'→Fam.sees ⟨x,lv⟩ b=true:=by
    rintro p' cs' rfl;simp only[AHeap.valid,hget,if_neg hne,hg,hfam,if_true] at hv;exact hv
   refine(hold b k' i' z' B hb' hg ?_ hsee).mono hle;simp only[AHeap.valid,hget,if_neg hne,hg] at hv⊢
   cases B with
   | obj _ _=>rfl
   | cells F' p' cs'=>
    cases F' with
    | none=>rfl
    | some F'=>
     simp only at hv⊢;rw[hfam] at hv;by_cases hFF:F'=F;subst hFF;rw[if_pos rfl] at hv;rw[hF];simp only at hv⊢;exact hlv b hne hv;rw[if_neg hFF] at hv; exact hv
 intro b k' i' z' F' p' cs' hb hg;rw[hget] at hg;rcases hcase b k' i' z' hb with ⟨rfl,rfl,rfl,rfl⟩|⟨hne,hb'⟩
 rw[if_pos rfl] at hg;cases hg;exact⟨c,e,hw,hz,hi⟩;rw[if_neg hne] at hg;obtain⟨c1,e1,q1,q2⟩:=harr b k' i' z' F' p' cs' hb' hg;obtain⟨c2,e2,_,_,q3⟩:=r.arr b k' i' z' F' p' cs' hb' hg;exact⟨c1,e1,q1,q2,q3⟩;intro b b' k' i1 i2 z1 z2 F1 F2 p1 p2 cs1 cs2 hb hb' hg hg';rw[hget] at hg hg';rcases hcase b k' i1 z1 hb with ⟨rfl,rfl,rfl,rfl⟩|⟨hne,h1⟩ <;> rcases hcase b' _ i2 z2 hb' with ⟨rfl,hk,rfl,rfl⟩|⟨hne',h1'⟩
 rw[hg] at hg'; cases hg'; exact⟨rfl,rfl⟩;rw[if_pos rfl] at hg; cases hg;rw[if_neg hne'] at hg';obtain⟨rfl,h2⟩:=hone b' i2 z2 F2 p2 cs2 h1' hg';exact⟨rfl,h2.symm⟩;subst hk;rw[if_pos rfl] at hg'; cases hg';rw[if_neg hne] at hg;exact hone b i1 z1 F1 p1 cs1 h1 hg;rw[if_neg hne] at hg;rw[if_neg hne'] at hg';exact r.one b b' k' i1 i2 z1 z2 F1 F2 p1 p2 cs1 cs2 h1 h1' hg hg';intro b b' k' i1 i2 z1 z2 F1 p1 p2 cs1 cs2 hb hb' hg hg';rw[hget] at hg hg';rcases hcase b k' i1 z1 hb with ⟨rfl,rfl,rfl,rfl⟩|⟨hne,h1⟩ <;> rcases hcase b' _ i2 z2 hb' with ⟨rfl,hk,rfl,rfl⟩|⟨hne',h1'⟩
 rw[hg] at hg'; cases hg';rw[if_neg hne'] at hg';exact hsep b' i2 z2 p2 cs2 h1' hg';rw[if_pos rfl] at hg'; cases hg';rw[if_neg hne] at hg;rw[if_neg hne'] at hg';exact r.sep b b' k' i1 i2 z1 z2 F1 p1 p2 cs1 cs2 h1 h1' hg hg';intro b b' k' i1 i2 z1 z2 F0 x0 B hb hb' hg hg';rw[hget] at hg hg';rcases hcase b k' i1 z1 hb with ⟨rfl,rfl,rfl,rfl⟩|⟨hne,h1⟩ <;> rcases hcase b' _ i2 z2 hb' with ⟨rfl,hk,rfl,rfl⟩|⟨hne',h1'⟩
 rfl;rw[if_pos rfl] at hg; cases hg;subst hk;rw[if_neg hne] at hg;exact(hmap b i1 z1 F0 x0 h1 hg).elim;rw[if_neg hne] at hg;rw[if_neg hne'] at hg';exact r.map b b' k' i1 i2 z1 z2 F0 x0 B h1 h1' hg hg';intro b F' p' cs' hg;rw[hget] at hg;rw[hfam];split at hg;cases hg;exact⟨_,if_pos rfl,hx.2⟩;obtain⟨f',hf',hl⟩:=r.ext b F' p' cs' hg;by_cases hFF:F'=F;subst hFF;rw[hF] at hf'; cases hf';exact⟨_,if_pos rfl,fZ hl hx.1⟩;exact⟨f',by rw[if_neg hFF]; exact hf',hl⟩
theorem HGrow.grow {h:AHeap} {F q:Nat} {cs:List AV} {f':Fam}:HGrow h ((h.push (.cells (some F) q cs)).setFam F f'):=by
 refine⟨by rw[AHeap.next_setFam,AHeap.next_push]; omega,by simp[AHeap.nfam,AHeap.setFam,AHeap.push],rfl,?_⟩;intro b' hb';rw[AHeap.get_setFam,AHeap.get_push,if_neg (by omega)]
end Go.Am
namespace Go.Am
def K9 (P:Program) (h:AHeap) (t:TypeId) (x:AV):Option AV:=
  match x with
  | .ptr b o=>match h.get b with
    | some (.cells _ _ cs) => if h.valid b then (do
        let g←Jf P t
        if g then (do let s←szA P t; if o+s≤cs.length then some (.agg ((cs.drop o).take s)) else none) else cs[o]?) else none
    | _=>none
  | _=>none
def Us (P:Program) (h:AHeap) (t:TypeId) (x:AV) (lo hi mx:Option AV):Option AV:=
  match x with
  | .ptr b o=>match h.get b with
    | some (.cells (some _) _ cs) => do
        let(n,e)←X6 P t
        let s←szA P e
        let(l,hh,m)←Z5 n lo hi mx
        if o+n*s≤cs.length∧n≤maxLen then some (.slc b (o+l*s) (hh - l) s (YU n hh true m)) else none
    | _=>none
  | _=>none
def aread (P:Program) (h:AHeap) (ρ:Operand→AV) (op:Op):Option AV:=
  match op with
  | .load t x=>K9 P h t (ρ x)
  | .slice t x lo hi mx=>Us P h t (ρ x) (lo.map ρ) (hi.map ρ) (mx.map ρ)
  | _=>none
theorem RZ {P : Program} {φ : Emb} {h : AHeap} {w : World} {t : TypeId} {x v : AV} {cx : Value} (r : HRel φ h w) (hx : VRel φ x cx) (hl : K9 P h t x = some v) :
    ∃ c,(lB t cx).run P w = .ok c w∧VRel φ v c:=by
 unfold K9 at hl;split at hl
 ·rename_i b o;split at hl
  ·rename_i F p cs hg;split at hl
   ·rename_i hv;simp only[dR,dU] at hl;obtain⟨g,hga,hl⟩:=hl;simp only[Jf,dS] at hga;obtain⟨d,hd,hga⟩:=hga;have hagg:(isAgg t).run P w = .ok g w:=by
     simp only[isAgg,dW,run_underlying hd,dQ];subst hga
     cases d <;> rfl
    cases hx with|ptr _ _ k i z hφ=>
    have hB:=r.blk b k i z _ hφ hg hv
    cases g with
    | true=>
     simp only[if_true,dU] at hl;obtain⟨s,hs,hl⟩:=hl;split at hl;rename_i hle;cases hl;have hex:∀ j,j<s→∃ u,w.cell? ((⟨k,i+o,none⟩:Addr).add j)=some u∧∀ y,cs[o+j]? = some y→VRel φ y u:=by
      intro j hj;have hlt:o+j<cs.length:=by omega
      obtain⟨u,hu,hr⟩:=hB.cell (dP hlt);refine⟨u,by rw[fR,fS]; exact hu,?_⟩;intro y hy;rw[dP hlt] at hy;cases hy;exact hr
     have hf:∀ j,j<s→w.cell? ((⟨k,i+o,none⟩:Addr).add j)=some ((w.cell? ((⟨k,i+o,none⟩:Addr).add j)).getD undef):=by
      intro j hj;obtain⟨u,hu,_⟩:=hex j hj;rw[hu]; rfl
     refine⟨.agg ((jS s).map fun j=>(w.cell? ((⟨k,i+o,none⟩:Addr).add j)).getD undef).toArray,?_,.agg _ _ ?_ ?_⟩;simp only[lB,gU,loadVar,dW,fI,dQ,hagg,if_true,K7 hs,run_loadCells (P:=P) (w:=w) _ s _ hf];simp; omega;intro j x y hx hy;rw[fL] at hx;split at hx;rename_i hj;rw[gI] at hx;obtain⟨u,hu,hr⟩:=hex j hj;rw[fY,gW hj,dZ,hu] at hy;cases hy;exact hr x hx;cases hx;cases hl
    | false=>
     simp only[fK,if_false] at hl;obtain⟨u,hu,hr⟩:=hB.cell hl;exact⟨u,by simp[lB,gU,loadVar,hagg,hu],hr⟩
   cases hl
  cases hl
 cases hl
theorem SZ {P : Program} {φ : Emb} {h : AHeap} {w : World} {t : TypeId} {x v : AV} {cx : Value} {lo hi mx : Option Operand} {ρ : Operand → AV} {ev : Operand → Value} (r : HRel φ h w) (hx : VRel φ x cx)
    (hr:∀ y,lo=some y∨hi=some y∨mx=some y→VRel φ (ρ y) (ev y)) (hl:Us P h t x (lo.map ρ) (hi.map ρ) (mx.map ρ)=some v) :
    ∃ c,(gH t cx (lo.map ev) (hi.map ev) (mx.map ev)).run P w = .ok c w∧VRel φ v c:=by
 unfold Us at hl;split at hl
 ·rename_i b o;split at hl
  ·rename_i F p cs hg;simp only[dR,dU] at hl;obtain⟨⟨n,e⟩,he,s,hs,⟨l,hh,m⟩,hb,hl⟩:=hl;split at hl
   ·rename_i hc;cases hl
    cases hx with|ptr _ _ k i z hφ=>
    obtain⟨c,e',h1,h2,h3⟩:=r.arr b k i z F p cs hφ hg;have hu:=XS he;obtain⟨hrun,hlh,hhn,hhm,hmc⟩:=Xg (P:=P) (c:=n) false hr (fA n) hb w;refine⟨_,by simp[gH,run_underlying hu,gU,hrun,K7 hs]; rfl,?_⟩;have hval:VRel φ (.slc b (o+l*s) (hh - l) s (YU n hh true m)) (.slice (some (if m.getD n=l then (⟨k,i+o,none⟩:Addr) else (⟨k,i+o,none⟩:Addr).add (l*s))) (hh - l) (m.getD n - l)):=by
     refine .slc _ _ _ _ _ _ _ (by omega) (by have:=hc.2; omega) ?_ ?_
     ·intro hfu
      cases m with
      | some m'=>simp[YU] at hfu⊢; omega
      | none=>simp[YU] at hfu⊢; omega
     by_cases hml:m.getD n=l;exact .inl (by omega);refine .inr ⟨k,i,z,hφ,?_,?_⟩;rw[if_neg hml,fR,fS];have:l*s+(m.getD n - l)*s=m.getD n*s:=by rw[←fB]; congr 1; omega
     have h4:m.getD n*s≤n*s:=fO _ hmc;have hc1:=hc.1;dsimp only at hc1 h4 this⊢;omega
    cases hml:decide (m.getD n=l)
    have hml':¬ m.getD n=l:=by simpa using hml
    simpa [hml'] using hval;have hml':m.getD n=l:=by simpa using hml
    simpa [hml'] using hval
   cases hl
  cases hl
 cases hl
theorem UN {P : Program} {φ : Emb} {h : AHeap} {w : World} {ρ : Operand → AV} {ev : Operand → Value} {o : Oper} {v : AV} (r : HRel φ h w) (hr : ∀ x ∈ o.op.operands, VRel φ (ρ x) (ev x)) (hl : aread P h ρ o.op = some v) :
    ∃ c,(execOp ev o).run P w = .ok (.value c) w∧VRel φ v c:=by
 unfold aread at hl;split at hl;rename_i t x ho;rw[ho] at hr;obtain⟨c,hc,hv⟩:=RZ (P:=P) r (hr x (by simp[dY])) hl;exact⟨c,by simp[execOp,ho,hc],hv⟩;rename_i t x lo hi mx ho;rw[ho] at hr;obtain⟨c,hc,hv⟩:=SZ (P:=P) (ev:=ev) r (hr x (by simp[dY])) (by
  intro y hy;refine hr y ?_;rcases hy with rfl|rfl|rfl <;> simp[dY]) hl
 exact⟨c,by simp[execOp,ho,hc],hv⟩;cases hl
inductive Mk where
  | ptr
  | slc (n s:Nat) (full:Bool)
def Mk.val (b : Nat) : Mk → AV
  | .ptr=>.ptr b 0
  | .slc n s full=>.slc b 0 n s full
def YO (s : Nat) : List AV → Option (List AV)
  | []=>some []
  | v :: vs => do
    let l←v.cells?
    if l.length=s then (do let r←YO s vs; some (l ++ r)) else none
def aallo (P:Program) (ρ:Operand→AV) (op:Op):Option (Mk × List AV):=
  match op with
  | .box _ x=>(ρ x).cells?.map fun l=>(.ptr,l)
  | .alloc t => do
    let z←Qf P t
    let l←z.cells?
    some (.ptr,l)
  | .buildSlice t len parts => do
    let e←ZX P t
    let s←szA P e
    let _←Qf P e
    let l←YO s (parts.toList.map fun p=>ρ p.2)
    if parts.toList.map (·.1)=jS len∧len*s≤16777216∧len≤16777216 then some (.slc len s true,l) else none
  | .makeSlice t l c=>match ρ l,ρ c with
    | .int _ l, .int _ c => do
      let e←ZX P t
      let s←szA P e
      let z←Qf P e
      let zs←z.cells?
      let i←P.info? e
      if 0≤l∧l≤c∧(i.bytes:Int)*c≤281474976710656∧c≤9223372036854775807∧zs.length=s then
        some (.slc l.toNat s (l == c),(fW l.toNat zs).flatten)
      else none
    | _,_=>none
  | _=>none
theorem fill_seq (s : Nat) : ∀ (vs : List Value) (a : Nat) (cells : Array Value), (∀ v ∈ vs, v.cells.size = s) → cells.size = (a + vs.length) * s →
    ∃ r:Array Value,gV (fun i=>some (i*s,s)) cells ((gZ a vs.length).zip vs)=some r∧r.toList=cells.toList.take (a*s) ++ (vs.map fun v=>v.cells.toList).flatten:=by
 intro vs
 induction vs with
 | nil=>intro a cells _ h; refine⟨cells,by simp[gV],?_⟩; simp at h⊢; rw[List.take_of_length_le (by simp; omega)]
 | cons v vs ih=>
  intro a cells hv h;have hvs:=hv v (by simp);simp only[fP] at h;have hmul:(a+(vs.length+1))*s=a*s+s+vs.length*s:=by rw[fB,fB,jP]; omega
  simp only[fP,jH,List.zip_cons_cons,gV];rw[if_neg (by rw[hvs]; simp; rw[h,hmul]; omega)];have hfold:=Tf v.cells.toList cells (a*s) 0 (by simp[hvs]; omega);have hput:(jN (fun cs (p:Value × Nat)=>cs.setIfInBounds (a*s+p.2) p.1) cells v.cells.zipIdx).toList=putL cells.toList (a*s) v.cells.toList:=by
   rw[←lY,jZ]; exact hfold
  have hsize:(jN (fun cs (p:Value × Nat)=>cs.setIfInBounds (a*s+p.2) p.1) cells v.cells.zipIdx).size=(a+1+vs.length)*s:=by
   rw[←fU,hput,KY _ _ _ (by simp[hvs]; omega)];simp only[fU];rw[h]; congr 1; omega
  obtain⟨r,hr,hl⟩:=ih (a+1) _ (fun u hu=>hv u (by simp[hu])) hsize;refine⟨r,hr,?_⟩;rw[hl,hput];have htake:(putL cells.toList (a*s) v.cells.toList).take ((a+1)*s)=cells.toList.take (a*s) ++ v.cells.toList:=by
   have e1:(a+1)*s=a*s+s:=by rw[fB,jP]
   have hln:(cells.toList.take (a*s) ++ v.cells.toList).length=(a+1)*s:=by
    simp[hvs]; omega
   rw[putL,←hln,List.take_left]
  rw[htake];simp
theorem Rb {φ : Emb} {s : Nat} : ∀ (vs : List AV) (cs : List Value) (l : List AV), VRels φ vs cs → YO s vs = some l → (∀ v ∈ cs, v.cells.size = s) ∧ VRels φ l (cs.map fun v => v.cells.toList).flatten ∧ l.length = cs.length * s
  | [],cs,l,h,hp=>by
    have:cs = []:=fF h.1.symm;subst this;simp[YO] at hp;subst hp;exact⟨by simp,⟨rfl,by simp⟩,by simp⟩
  | v::vs,cs,l,h,hp=>by
    cases cs with
    | nil=>have:=h.1; simp at this
    | cons c cs=>
      simp only[YO,dR,dU] at hp;obtain⟨l1,h1,hp⟩:=hp;split at hp
      · rename_i hls;simp only[dU] at hp;obtain⟨r,hr,hp⟩:=hp;cases hp;have hvc:=h.2 0 v c rfl rfl;obtain⟨hcells,_⟩:=hvc.cells h1;have hrest:VRels φ vs cs:=⟨by have:=h.1; simpa using this,fun j x y hx hy=>h.2 (j+1) x y (by simpa using hx) (by simpa using hy)⟩;obtain⟨g1,g2,g3⟩:=Rb vs cs r hrest hr;have hcl:c.cells.toList.length=s:=by rw[←hcells.1]; exact hls
        refine⟨?_,⟨?_,?_⟩,?_⟩
        · intro u hu;simp only[List.mem_cons] at hu;rcases hu with rfl|hu
          · simpa using hcl
          · exact g1 u hu
        · simp only[gN,jO,fQ];rw[hcells.1,g2.1]
        · intro j x y hx hy;simp only[gN,jO] at hy;rw[fM] at hx hy;rw[hcells.1] at hx;split at hx
          · rename_i hj;rw[if_pos hj] at hy;exact hcells.2 j x y hx hy
          · rename_i hj;rw[if_neg hj] at hy;exact g2.2 _ x y hx hy
        · simp only[fQ,fP,fB,jP]; omega
      · cases hp
theorem Si {α:Type} (zs:List α):∀ (n j:Nat),j<n*zs.length→(fW n zs).flatten[j]? = zs[j % zs.length]?:=by
 intro n
 induction n with
 | zero=>intro j h; omega
 | succ n ih=>
  intro j h;rw[List.replicate_succ,jO,fM];split;rename_i hj; rw[Nat.mod_eq_of_lt hj];rename_i hj;rw[fB,jP] at h;rw[ih (j - zs.length) (by omega),←Nat.mod_eq_sub_mod (by omega)]
theorem Rz {P : Program} {w : World} {t e : TypeId} {s len : Nat} {i : TypeInfo} {v : Value} (hu : P.underlying t = some (.slice e)) (hs : szA P e = some s) (hi : P.info? e = some i) (hv : i.zero = some v)
    (hsmall:len*s≤16777216) (parts:Array (Nat × Value)) (r:Array Value)
    (hfill:gV (fun i=>some (i*s,s)) ((Array.range (len*s)).map fun k=>(if len*s=0 then (#[]:Array Value) else v.cells)[k % (if len*s=0 then (#[]:Array Value) else v.cells).size]!) parts.toList=some r) :
    (lR t len parts).run P w = .ok (.slice (some ⟨w.heap.size,0,none⟩) len len) (w.alloc (.cells r e)):=by
 unfold lR;simp only[dW,run_underlying hu,dQ,K7 hs];rw[if_neg (show¬ len*s>2 ^ 24 by omega)];by_cases h0:len*s=0;rw[if_pos h0] at hfill⊢;simp only[dW,fI,dQ,hfill];simp[newRow];rw[if_neg h0] at hfill⊢;simp only[dW,zeroValue,typeInfo,run_program,hi,hv,fI,dQ,hfill];simp[newRow]
theorem aallo_sound {P : Program} {φ : Emb} {w : World} {ρ : Operand → AV} {ev : Operand → Value} {o : Oper} {mk : Mk} {cs : List AV} (hr : ∀ x ∈ o.op.operands, VRel φ (ρ x) (ev x)) (hl : aallo P ρ o.op = some (mk, cs)) :
    ∃ (c:Array Value) (e:TypeId) (v:Value),(execOp ev o).run P w = .ok (.value v) (w.alloc (.cells c e))∧cs.length≤c.size∧CellsAt φ cs c 0∧∀ (φ':Emb) (n:Nat),φ' n=some (w.heap.size,0,c.size)→VRel φ' (mk.val n) v:=by
 have hat:∀ (l:List AV) (c:Array Value),VRels φ l c.toList→CellsAt φ l c 0:=by
  intro l c h j x hx;have hlt:j<c.toList.length:=by rw[←h.1]; exact(dT.1 hx).1
  have hlt':j<c.size:=by simpa using hlt
  refine⟨c[j],by simp[hlt'],?_⟩;have:=h.2 j x c.toList[j] hx (dP hlt);simpa using this
 unfold aallo at hl;split at hl;rename_i t x ho;rw[ho] at hr;simp only[dS] at hl;obtain⟨l,hcl,hl⟩:=hl;cases hl;obtain⟨h1,h2⟩:=(hr x (by simp[dY])).cells hcl;refine⟨(ev x).cells,t,.pointer (some ⟨w.heap.size,0,none⟩),by simp[execOp,ho,Instr.box,newVar,newRow],by rw[h1.1]; simp,hat _ _ h1,?_⟩;intro φ' n hn;exact .ptr n 0 _ 0 _ hn;rename_i t ho;rw[ho] at hr;simp only[dR,dU] at hl;obtain⟨z,hz,l,hcl,hl⟩:=hl;cases hl;obtain⟨i,v,hi,hv,hrel⟩:=Qo hz;obtain⟨h1,h2⟩:=(hrel φ).cells hcl;refine⟨v.cells,t,.pointer (some ⟨w.heap.size,0,none⟩),by simp[execOp,ho,Instr.alloc,zeroValue,typeInfo,hi,hv,newVar,newRow],by rw[h1.1]; simp,hat _ _ h1,?_⟩;intro φ' n hn;exact .ptr n 0 _ 0 _ hn;rename_i t len parts ho;rw[ho] at hr;simp only[dR,dU] at hl;obtain⟨e,he,s,hs,z,hz,l,hp,hl⟩:=hl;split at hl;rename_i hc;cases hl;obtain⟨hrange,hsmall,hlen24⟩:=hc;obtain⟨i,v,hi,hv,_⟩:=Qo hz;have hlen:parts.toList.length=len:=by
  have:=congrArg List.length hrange;simpa using this
 have hrel:VRels φ (parts.toList.map fun p=>ρ p.2) (parts.toList.map fun p=>ev p.2):=by
  refine⟨by simp,?_⟩;intro j x y hx hy;rw[fY,dS] at hx hy;obtain⟨q,hq,rfl⟩:=hx;obtain⟨q',hq',rfl⟩:=hy;rw[hq] at hq'; cases hq';refine hr _ ?_;simp only[dY,lQ,List.mem_map];exact⟨q,jT hq,rfl⟩
 obtain⟨g1,g2,g3⟩:=Rb _ _ _ hrel hp;simp only[lV,hlen] at g3;have hzip:(parts.map fun(p:Nat × Operand)=>(p.1,ev p.2)).toList=(gZ 0 (parts.toList.map fun p=>ev p.2).length).zip (parts.toList.map fun p=>ev p.2):=by
  have e0:gZ 0 (parts.toList.map fun p=>ev p.2).length=parts.toList.map (·.1):=by
   rw[hrange,lV,hlen,jV]
  rw[e0,lP,List.zip_map',]
 obtain⟨r,hfill,hrl⟩:=fill_seq s (parts.toList.map fun p=>ev p.2) 0 ((Array.range (len*s)).map fun k=>(if len*s=0 then (#[]:Array Value) else v.cells)[k % (if len*s=0 then (#[]:Array Value) else v.cells).size]!) g1 (by simp[hlen]);rw[←hzip] at hfill;simp only[Nat.zero_mul,List.take_zero,List.nil_append] at hrl;have hrsize:r.size=len*s:=by
  rw[←fU,hrl,←g2.1,g3]
 refine⟨r,e,.slice (some ⟨w.heap.size,0,none⟩) len len,?_,by omega,hat _ _ (by rw[hrl]; exact g2),?_⟩;have:=Rz (P:=P) (w:=w) (Zh he) hs hi hv hsmall _ _ hfill;simp only[execOp,ho,dW,this,dQ,fI];intro φ' n hn;refine .slc n 0 len s true _ len (fA _) ?_ (fun _=>rfl) ?_;unfold maxLen; omega;exact .inr ⟨_,0,_,hn,by simp,by omega⟩;cases hl;rename_i t lo co ho;rw[ho] at hr;split at hl;rename_i kl l kc c hρl hρc;simp only[dR,dU] at hl;obtain⟨e,he,s,hs,z,hz,zs,hzs,i,hi,hl⟩:=hl;split at hl;rename_i hcnd;cases hl;obtain⟨h0,hlc,hby,h63,hzl⟩:=hcnd;obtain⟨i',v,hi',hv,hrel⟩:=Qo hz;rw[hi] at hi'; cases hi';obtain⟨hc1,hc2⟩:=(hrel φ).cells hzs;have hl':=hr lo (by simp[dY]); rw[hρl] at hl';have hc':=hr co (by simp[dY]); rw[hρc] at hc';generalize hevl:ev lo=cl at hl';generalize hevc:ev co=cc at hc'
 cases hl'; cases hc'
 have hsi:i.size=s:=by simpa [szA,hi] using hs
 have hm:=run_make (P:=P) w t e i v (Zh he) hi hv kl kc l c h0 hlc hby h63;have hvsz:v.cells.size=s:=by rw[←fU,←hc1.1,hzl]
 refine⟨madeCells v.cells (c.toNat*i.size),e,.slice (some ⟨w.heap.size,0,none⟩) l.toNat c.toNat,by simp[execOp,ho,hevl,hevc,hm],?_,?_,?_⟩;rw[size_madeCells,hsi];simp[hzl];exact fO _ (by omega);intro j x hx;have hzpos : 0<s:=by
  rcases Nat.eq_zero_or_pos s with h|h
  have:zs = []:=fF (by omega);subst this;simp at hx;exact h
 have hj:j<l.toNat*s:=by
  have:=(dT.1 hx).1;simpa [hzl] using this
 have hx':zs[j % s]? = some x:=by
  rw[←hx,Si zs _ j (by rw[hzl]; exact hj),hzl]
 have hjm:j % s<v.cells.size:=by rw[hvsz]; exact Nat.mod_lt _ hzpos
 have hlt:j<c.toNat*i.size:=by
  rw[hsi];exact fC hj (fO _ (by omega))
 refine⟨v.cells[j % s],?_,?_⟩;simp only[madeCells,jJ,lC,hvsz];rw[jW,if_pos hlt];simp only[dZ,getElem!_pos v.cells (j % s) hjm];have:=hc1.2 (j % s) x v.cells[j % s] hx' (by simp[hjm]);exact this;intro φ' n hn;rw[size_madeCells,hsi] at hn;refine .slc n 0 l.toNat s _ _ c.toNat (by omega) (by unfold maxLen; omega) ?_ (.inr ⟨_,0,_,hn,by simp,by omega⟩);intro hb;simp at hb;omega;cases hl;cases hl;cases hl
end Go.Am
namespace Go.Am
def StepS (P:Program) (ρ:Operand→AV) (o:Oper) (h:AHeap) (v:AV) (h':AHeap):Prop:=
  HGrow h h' ∧ ∀ (φ : Emb) (a : Act) (w : World) (K : Act → World → Prop) (Q : Exit → Act → World → Prop), Fresh φ h h' → HRel φ h w → (∀ x ∈ o.op.operands, VRel φ (ρ x) (a.eval x)) →
    (∀ φ' c w',Trans φ h w φ' h' w'→HRel φ' h' w'→VRel φ' v c→K (a.put o.dst c) w')→o.wp P a w K Q
theorem wp_of_run {P:Program} {o:Oper} {a:Act} {w w':World} {c:Value} {K:Act→World→Prop} {Q:Exit→Act→World→Prop} (h:(execOp a.eval o).run P w = .ok (.value c) w') (hk:K (a.put o.dst c) w'):o.wp P a w K Q:=by
 unfold Oper.wp; rw[h]; exact hk
theorem Yj {P:Program} {o:Oper} {a:Act} {w w':World} {K:Act→World→Prop} {Q:Exit→Act→World→Prop} (h:(execOp a.eval o).run P w = .ok .skip w') (hk:K (a.put o.dst undef) w'):o.wp P a w K Q:=by
 unfold Oper.wp; rw[h]; exact hk
theorem VRel.undef (φ:Emb):VRel φ (.tup []) undef:=.tup [] [] rfl (by simp)
def Q0 (h : AHeap) (s : Nat) : AV → Option (Nat × List AV)
  | .slc b o n s' _=>if s'=s then
      (if n=0 then some (0,[]) else match h.get b with
        | some (.cells _ _ cs)=>if h.valid b=true∧o+n*s≤cs.length then some (n,(cs.drop o).take (n*s)) else none
        | _=>none) else none
  | .nils=>some (0,[])
  | _=>none
def Z3 (P:Program) (h:AHeap) (t:TypeId) (x y:AV):Option (AV × AHeap):=
  match x with
  | .ptr b o=>match h.get b with
    | some (.cells (some F) p cs) => do
      let f←h.fam F
      let l←y.cells?
      let s←szA P t
      if h.valid b=true∧l.length=s∧o+l.length≤cs.length then
        some (.tup [],(h.set b (.cells (some F) p (putL cs o l))).setFam F {f with live:=some [b]})
      else none
    | _=>none
  | _=>none
def Xx (P : Program) (kill : Bool) (h : AHeap) (t : TypeId) (x y : AV) : Option (AV × AHeap) := do
  let e←ZX P t
  let s←szA P e
  let z←Qf P e
  let zs←z.cells?
  let i←P.info? e
  let(n,olds)←Q0 h s x
  let(m,news)←Q0 h s y
  if m=0 then some (x,h)
  else if zs.length=s∧news.all AV.one=true∧n+m≤9223372036854775807∧(n+m)*i.bytes≤140737488355328 then
    match x with
    | .nils=>some (.slc h.next 0 m s false,h.alloc news)
    | .slc _ _ _ _ true=>some (.slc h.next 0 (n+m) s false,h.alloc (olds ++ news))
    | .slc b o _ _ false=>match h.get b with
      | some (.cells (some F) p _) => do
        let f←h.fam F
        if p+o+n*s=f.ext then
          some (.slc h.next 0 (n+m) s false,(h.push (.cells (some F) (p+o) (olds ++ news))).setFam F ⟨f.ext+m*s,f.live.map (h.next :: ·)⟩)
        else if kill=true then
          some (.slc h.next 0 (n+m) s false,(h.push (.cells (some F) (p+o) (olds ++ news))).setFam F ⟨max f.ext (p+o+(n+m)*s),some [h.next]⟩)
        else none
      | _=>none
    | _=>none
  else none
def Yk (P:Program) (h:AHeap) (t t':TypeId) (x y:AV):Option (AV × AHeap):=
  match x,y with
  | .nils, .int _ n => do
    let e←ZX P t
    let s←szA P e
    let z←Qf P e
    let zs←z.cells?
    let i←P.info? e
    let _←Vn P t'
    if zs.length=s∧0<s∧0<n∧n≤9223372036854775807∧n.toNat*i.bytes≤140737488355328 then
      (some (.slc h.next 0 n.toNat s false,h.alloc (fW n.toNat zs).flatten))
    else none
  | _,_=>none
def acopy (P : Program) (h : AHeap) (t : TypeId) (x y : AV) : Option (AV × AHeap) := do
  let e←ZX P t
  let s←szA P e
  let(n,_)←Q0 h s x
  let(m,news)←Q0 h s y
  if min m n=0 then some (.int .i64 0,h)
  else if news.all AV.one=true then
    match x with
    | .slc b o _ _ _=>match h.get b with
      | some (.cells (some F) p cs) => do
        let f←h.fam F
        if o+min m n*s≤cs.length then
          some (.int .i64 (min m n:Nat),(h.set b (.cells (some F) p (putL cs o (news.take (min m n*s))))).setFam F {f with live:=some [b]})
        else none
      | _=>none
    | _=>none
  else none
def Zo (P:Program) (kill:Bool) (h:AHeap) (ρ:Operand→AV) (op:Op):Option (AV × AHeap):=
  match op with
  | .store t x y=>Z3 P h t (ρ x) (ρ y)
  | .call {callee:=.builtin .append,args,argTypes}=>match args.toList,argTypes.toList with
    | [x,y],[t,t']=>if t=t' then Xx P kill h t (ρ x) (ρ y) else Yk P h t t' (ρ x) (ρ y)
    | _,_=>none
  | .call {callee:=.builtin .copy,args,argTypes}=>match args.toList,argTypes.toList with
    | [x,y],[t,t']=>if t=t' then acopy P h t (ρ x) (ρ y) else none
    | _,_=>none
  | _=>none
theorem VRels.all_one {φ:Emb} {l:List AV} {cs:List Value} (h:VRels φ l cs) (h1:l.all AV.one=true):∀ u∈cs,u.oneCell'=true:=by
 intro u hu;obtain⟨j,hj⟩:=jQ.1 hu;have hlt:j<l.length:=by rw[h.1]; exact(dT.1 hj).1
 exact(h.2 j _ u (dP hlt) hj).one (gQ.1 h1 _ (lN hlt))
theorem VRels.append {φ:Emb} {l l':List AV} {cs cs':List Value} (h:VRels φ l cs) (h':VRels φ l' cs'):VRels φ (l ++ l') (cs ++ cs'):=by
 refine⟨by simp[h.1,h'.1],?_⟩;intro j x y hx hy;rw[fM] at hx hy;rw[h.1] at hx;split at hx;rename_i hj; rw[if_pos hj] at hy; exact h.2 j x y hx hy;rename_i hj; rw[if_neg hj] at hy; exact h'.2 _ x y hx hy
theorem Zd {φ : Emb} {h : AHeap} {w : World} {s n : Nat} {x : AV} {cx : Value} {l : List AV} (r : HRel φ h w) (hx : VRel φ x cx) (hl : Q0 h s x = some (n, l)) :
    ∃ cs:List Value,VRels φ l cs∧cs.length=n*s∧((cx = .slice none 0 0∧n=0)∨∃ a c,cx = .slice (some a) n c∧n≤c∧c≤maxLen∧∀ j v,cs[j]? = some v→w.cell? (a.add j)=some v):=by
 unfold Q0 at hl;split at hl;rename_i b o n' s' full;split at hl;rename_i hs;subst hs;obtain⟨a,c,rfl,hn,hc,hadr⟩:∃ a c,cx = .slice (some a) n' c∧n'≤c∧c≤maxLen∧(c=0∨∃ k i z,φ b=some (k,i,z)∧a=⟨k,i+o,none⟩∧i+o+c*s'≤z):=by
  cases hx with|slc _ _ _ _ _ a c hn hc hf hadr=>exact⟨a,c,rfl,hn,hc,hadr⟩
 split at hl;rename_i h0;cases hl;subst h0;exact⟨[],⟨rfl,by simp⟩,by simp,.inr ⟨a,c,rfl,hn,hc,by simp⟩⟩;rename_i h0;split at hl;rename_i F p cs hg;split at hl;rename_i hcond;cases hl;rcases hadr with hadr|⟨k,i,z,h1,h2,h3⟩
 omega;have hB:=r.blk b k i z _ h1 hg hcond.1;have hex:∀ j,j<n*s'→∃ u,w.cell? (a.add j)=some u∧∀ y,cs[o+j]? = some y→VRel φ y u:=by
  intro j hj;have hlt:o+j<cs.length:=by omega
  obtain⟨u,hu,hr⟩:=hB.cell (dP hlt);refine⟨u,by rw[h2,fR,fS]; exact hu,?_⟩;intro y hy;rw[dP hlt] at hy;cases hy;exact hr
 refine⟨(jS (n*s')).map fun j=>(w.cell? (a.add j)).getD undef,⟨?_,?_⟩,by simp,.inr ⟨a,c,rfl,hn,hc,?_⟩⟩;simp; omega;intro j x y hx hy;rw[fL] at hx;split at hx;rename_i hj;rw[gI] at hx;obtain⟨u,hu,hr⟩:=hex j hj;rw[fY,gW hj,dZ,hu] at hy;cases hy;exact hr x hx;cases hx;intro j v hv;have hj:j<n*s':=by
  have:=(dT.1 hv).1;simpa using this
 obtain⟨u,hu,_⟩:=hex j hj;rw[fY,gW hj,dZ,hu] at hv;cases hv;exact hu;cases hl;cases hl;cases hl;cases hl;cases hx;exact⟨[],⟨rfl,by simp⟩,by simp,.inl ⟨rfl,rfl⟩⟩;cases hl
theorem S2 {P:Program} {ρ:Operand→AV} {o:Oper} {h h':AHeap} {v:AV} {t:TypeId} {x y:Operand} (ho:o.op = .store t x y) (hs:Z3 P h t (ρ x) (ρ y)=some (v,h')):StepS P ρ o h v h':=by
 unfold Z3 at hs;split at hs
 ·rename_i b off hρx;split at hs
  ·rename_i F p cs hg;simp only[dR,dU] at hs;obtain⟨f,hf,l,hl,s,hsz,hs⟩:=hs;split at hs
   ·rename_i hc;cases hs;refine⟨HGrow.store hg hc.2.2,?_⟩;intro φ a w K Q _ r hops hk;have hx:=hops x (by simp[ho,dY]);have hy:=hops y (by simp[ho,dY]);rw[hρx] at hx;generalize hex:a.eval x=cx at hx
    cases hx with|ptr _ _ k i z hφ=>
    obtain⟨hc1,hc2⟩:=hy.cells hl;obtain⟨c,e,h1,hfit,r',tr⟩:=r.store hφ hg hc.1 hf hc.2.2 hc1;refine Yj (w':=w.setRow k (putL c.toList (i+off) (a.eval y).cells.toList).toArray) ?_ (hk φ undef _ tr r' (VRel.undef φ));have hst:=RowAt.store (P:=P) (g:=k) (o:=i+off) (t:=e) (a.eval y).cells.toList 0 c w h1 (by simpa using hfit) hc2;have hlen:(a.eval y).cells.size=s:=by rw[←fU,←hc1.1]; exact hc.2.1
    simp only[jC] at hst;simp only[execOp,ho,hex,Instr.storeAt,gU,storeVar,dW,fI,dQ,K7 hsz,hlen,ne_eq,not_true_eq_false,if_false,hst,putL]
   cases hs
  cases hs
 cases hs
theorem Xf {P : Program} {w : World} {t ty e : TypeId} {s : Nat} (hu : P.underlying t = some (.slice e)) (hs : szA P e = some s) (b : Option Addr) (n c : Nat) (hn : n ≤ c) (y : Option Addr) (c' : Nat) :
    (fH #[t,t] ty #[.slice b n c,.slice y 0 c']).run P w = .ok (.slice b n c) w:=by
 cases b <;> cases y <;> simp[fH,run_underlying hu,K7 hs,gA,gO,hn,loadCells,loadCellsFrom,storeCells]
theorem run_append_room' {P : Program} {w : World} {t ty e : TypeId} {s : Nat} (hu : P.underlying t = some (.slice e)) (hs : szA P e = some s)
    (g q sLen sCap:Nat) (cur:Array Value) (e':TypeId) (hg:RowAt w g cur e')
    (a:Addr) (m c:Nat) (news:List Value) (hl:news.length=m*s) (hnews:∀ j u,news[j]? = some u→w.cell? (a.add j)=some u) (h1:∀ u∈news,u.oneCell'=true)
    (hroom:sLen+m≤sCap) (hfit:q+sLen*s+news.length≤cur.size) :
    (fH #[t, t] ty #[.slice (some ⟨g, q, none⟩) sLen sCap, .slice (some a) m c]).run P w =
      .ok (.slice (some ⟨g,q,none⟩) (sLen+m) sCap) (w.setRow g (putL cur.toList (q+sLen*s) news).toArray):=by
 have hf:=run_firstCells_some (P:=P) w s m a m c news hl hnews;have hst:=RowAt.store (P:=P) (g:=g) (o:=q+sLen*s) (t:=e') news 0 cur w hg (by simpa using hfit) h1;simp only[jC] at hst;simp[fH,run_underlying hu,K7 hs,gA,hroom,hf,fR,hst,putL]
theorem Wm {P : Program} {w : World} {t t' ty e : TypeId} {i : TypeInfo} {z : Value} {k k' : IntKind} {n : Int} (hu : P.underlying t = some (.slice e)) (hu' : P.underlying t' = some (.int k)) (hi : P.info? e = some i) (hz : i.zero = some z)
    (h0 : 0<n) (hsz : 0<i.size) (h63:n≤9223372036854775807) (h47:n.toNat*i.bytes≤140737488355328) :
    (fH #[t, t'] ty #[.slice none 0 0, .int k' n]).run P w =
      .ok (.slice (some ⟨w.heap.size,0,none⟩) n.toNat (grownCap w n.toNat 0 e)) (w.drew.alloc (.cells (dX z.cells n.toNat ++ dX z.cells (grownCap w n.toNat 0 e - n.toNat)) e)):=by
 have hw:IntKind.i64.wrap n=n:=IntWalk.i64_in n ⟨by omega,by omega⟩;have hnn:¬ n<0:=by omega
 have hb:¬ n*(i.bytes:Int)>281474976710656:=by
  have:((n.toNat*i.bytes:Nat):Int)≤140737488355328:=by omega
  rw[Int.natCast_mul,Int.toNat_of_nonneg (by omega)] at this;omega
 have hpos:n.toNat≠0:=by omega
 have h63':¬ (9223372036854775807<(n.toNat:Int)):=by omega
 have hcap:¬ (281474976710656<Builtin.nextslicecap n.toNat 0*i.bytes):=by
  have:=growslice_fits (old:=0) (by omega) h47;omega
 have hb':¬ (281474976710656<n*(i.bytes:Int)):=by omega
 have hns:¬ (n.toNat*i.size=0):=by
  intro h;rcases Nat.mul_eq_zero.1 h with h|h <;> omega
 simp[fH,run_underlying hu,run_underlying hu',sizeOf,typeInfo,zeroValue,hi,hz,asInt,asIntOf,hw,hnn,hb',hcap,Question.forced,run_firstCells_none,newRow,grownCap];rw[if_neg (by omega),if_neg (by omega),if_neg hns]
theorem X4 {h : AHeap} {s b o n s' n0 : Nat} {full : Bool} {l : List AV} (hl : Q0 h s (.slc b o n s' full) = some (n0, l)) :
    n0=n∧s'=s∧l.length=n*s∧(n≠0→h.valid b=true):=by
 unfold Q0 at hl;simp only at hl;split at hl;rename_i hss;split at hl;rename_i h0; simp only[dO,fT] at hl; obtain⟨rfl,rfl⟩:=hl; subst h0; exact⟨rfl,hss,by simp,fun h=>absurd rfl h⟩;split at hl;split at hl;rename_i hc;simp only[dO,fT] at hl; obtain⟨rfl,rfl⟩:=hl; exact⟨rfl,hss,by simp; omega,fun _=>hc.1⟩;cases hl;cases hl;cases hl
theorem grow_new {φ : Emb} {h : AHeap} {w : World} (r : HRel φ h w) (hφ : φ h.next = none) {F q x : Nat} {cs : List AV} {f : Fam} {lv : Option (List Nat)} {c : Array Value} {e : TypeId} (hF : h.fam F = some f) (hc : CellsAt φ cs c 0) (hi : cs.length ≤ c.size)
    (hx:f.ext≤x∧q+cs.length≤x) (hlv:∀ b,b≠h.next→Fam.sees ⟨x,lv⟩ b=true→f.sees b=true) :
    HRel (φ.upd h.next (w.heap.size,0,c.size)) ((h.push (.cells (some F) q cs)).setFam F ⟨x,lv⟩) (w.alloc (.cells c e))∧
    Trans φ h w (φ.upd h.next (w.heap.size,0,c.size)) ((h.push (.cells (some F) q cs)).setFam F ⟨x,lv⟩) (w.alloc (.cells c e)):=by
 have hold:∀ k,k<w.heap.size→(w.alloc (.cells c e)).heap[k]? = w.heap[k]?:=fun k hk=>heap_alloc_old w _ hk
 have hnew:RowAt (w.alloc (.cells c e)) w.heap.size c e:=RowAt.new w c e;refine⟨r.grow hφ hF hnew rfl hc (by omega) (by simp) (by simp) ?_ hlv ?_ ?_ ?_ ?_ hx,?_⟩;intro b k' i' z' B hb hg hv _;exact(r.blk b k' i' z' B hb hg hv).world (hold k' (r.lt b k' i' z' hb));intro b k' i' z' F' p' cs' hb hg;obtain⟨c1,e1,q1,q2,_⟩:=r.arr b k' i' z' F' p' cs' hb hg;exact⟨c1,e1,q1.old (hold k' (r.lt b k' i' z' hb)),q2⟩;intro b' i' z' F' p' cs' hb hg;have:=r.lt b' _ i' z' hb; omega;intro b' i' z' p' cs' hb hg;have:=r.lt b' _ i' z' hb; omega;intro b' i' z' F0 x0 hb hg;have:=r.lt b' _ i' z' hb; omega;refine⟨Emb.le_upd _ hφ,?_,?_,?_,?_,rfl,rfl,rfl,by simp⟩;intro b h1 h2;rw[AHeap.next_setFam,AHeap.next_push] at h2;have:b=h.next:=by omega
 subst this;exact⟨_,Emb.upd_same _ _ _⟩;intro b p h1 h2;by_cases hbn:b=h.next;subst hbn; rw[AHeap.next_setFam,AHeap.next_push]; omega;rw[Emb.upd_other φ _ hbn,h1] at h2; cases h2;intro b k i z h1 h2;by_cases hbn:b=h.next;subst hbn; rw[Emb.upd_same] at h2; cases h2; exact .inl (fA _);rw[Emb.upd_other φ _ hbn,h1] at h2; cases h2;intro k hk _;exact hold k hk
theorem grow_room {φ : Emb} {h : AHeap} {w : World} (r : HRel φ h w) (hφ : φ h.next = none) {b F p k i z n s off : Nat} {cs0 olds news : List AV} {f : Fam} {x : Nat} {lv : Option (List Nat)} {c : Array Value} {e : TypeId} {vs ws : List Value} (hF : h.fam F = some f)
    (hb : φ b=some (k,i,z)) (hg:h.get b=some (.cells (some F) p cs0)) (htip:(p+off+n*s=f.ext)∨∀ b' p' cs',h.get b'=some (.cells (some F) p' cs')→Fam.sees ⟨x,lv⟩ b'=true→p'+cs'.length≤p+off+n*s) (hk:RowAt w k c e) (hz:c.size=z)
    (ho:VRels φ olds vs) (hol:vs.length=n*s) (hoc:∀ j v,vs[j]? = some v→c[i+off+j]? = some v) (hn:VRels φ news ws) (hfit:i+off+n*s+ws.length≤z)
    (hx:f.ext≤x∧p+off+n*s+ws.length≤x) (hlv:∀ b,b≠h.next→Fam.sees ⟨x,lv⟩ b=true→f.sees b=true) :
    HRel (φ.upd h.next (k,i+off,z)) ((h.push (.cells (some F) (p+off) (olds ++ news))).setFam F ⟨x,lv⟩) (w.setRow k (putL c.toList (i+off+n*s) ws).toArray)∧
    Trans φ h w (φ.upd h.next (k,i+off,z)) ((h.push (.cells (some F) (p+off) (olds ++ news))).setFam F ⟨x,lv⟩) (w.setRow k (putL c.toList (i+off+n*s) ws).toArray):=by
 have hfitL:i+off+n*s+ws.length≤c.toList.length:=by simp; omega
 have hsz:(putL c.toList (i+off+n*s) ws).length=c.size:=by rw[KY _ _ _ hfitL]; simp
 have hnew:RowAt (w.setRow k (putL c.toList (i+off+n*s) ws).toArray) k (putL c.toList (i+off+n*s) ws).toArray e:=hk.set (by simp[hsz]);have hold:∀ k',k'≠k→(w.setRow k (putL c.toList (i+off+n*s) ws).toArray).heap[k']? = w.heap[k']?:=fun k' hk'=>setRow_other w k k' _ hk'
 have hklt:k<w.heap.size:=hk.lt;have hol':olds.length=n*s:=by rw[ho.1,hol]
 refine⟨r.grow hφ hF hnew (by simp[hsz,hz]) ?_ (by simp[ho.1,hn.1]; omega) (by simpa using hklt) (by simp) ?_ hlv ?_ ?_ ?_ ?_ (by simp[ho.1,hn.1]; omega),?_⟩;intro j x hx;simp only[gB];rw[QU _ _ _ hfitL];rw[fM] at hx;split at hx;rename_i hj;rw[if_neg (by omega)];have hjl:j<vs.length:=by omega
 have:=hoc j vs[j] (dP hjl);exact⟨vs[j],by simpa using this,ho.2 j x _ hx (dP hjl)⟩;rename_i hj;have hjl:j - olds.length<ws.length:=by rw[←hn.1]; exact(dT.1 hx).1
 rw[if_pos (by omega),show i+off+j - (i+off+n*s)=j - olds.length by omega];exact⟨ws[j - olds.length],dP hjl,hn.2 _ x _ hx (dP hjl)⟩
 ·intro b' k' i' z' B hb' hB hv hsee;have hBR:=r.blk b' k' i' z' B hb' hB hv;by_cases hkk:k'=k
  ·subst hkk
   cases B with
   | obj F0 x0=>
    have:=r.map b' b k' i' i z' z F0 x0 _ hb' hb hB hg;subst this; rw[hB] at hg; cases hg
   | cells F' p' cs'=>
    cases F' with
    | none=>exact(r.sep b b' k' i i' z z' F p p' cs0 cs' hb hb' hg hB).elim
    | some F'=>
     obtain⟨rfl,hpos⟩:=r.one b b' k' i i' z z' F F' p p' cs0 cs' hb hb' hg hB;obtain⟨f',hf',hle⟩:=r.ext b' F p' cs' hB;rw[hF] at hf'; cases hf';have htip':p'+cs'.length≤p+off+n*s:=by
      rcases htip with h|h
      omega;exact h b' p' cs' hB (hsee p' cs' rfl)
     obtain⟨c1,e1,h1,h2,h3⟩:=hBR;obtain⟨rfl,rfl⟩:=hk.uniq h1;refine⟨_,e,hnew,by simp[hsz,h2],?_⟩;intro j x hx;have hjl:j<cs'.length:=(dT.1 hx).1;obtain⟨v,hv1,hv2⟩:=h3 j x hx;refine⟨v,?_,hv2⟩;simp only[gB];rw[QU _ _ _ hfitL,if_neg (by omega)];simpa using hv1
  exact hBR.world (hold k' hkk)
 intro b' k' i' z' F' p' cs' hb' hB;obtain⟨c1,e1,q1,q2,_⟩:=r.arr b' k' i' z' F' p' cs' hb' hB;by_cases hkk:k'=k;subst hkk;obtain⟨rfl,rfl⟩:=hk.uniq q1;exact⟨_,e,hnew,by simp[hsz,q2]⟩;exact⟨c1,e1,q1.old (hold k' hkk),q2⟩;intro b' i' z' F' p' cs' hb' hB;obtain⟨rfl,hpos⟩:=r.one b b' k i i' z z' F F' p p' cs0 cs' hb hb' hg hB;exact⟨rfl,by omega⟩;intro b' i' z' p' cs' hb' hB;exact r.sep b b' k i i' z z' F p p' cs0 cs' hb hb' hg hB;intro b' i' z' F0 x0 hb' hB;have:=r.map b' b k i' i z' z F0 x0 _ hb' hb hB hg;subst this; rw[hB] at hg; cases hg;refine⟨Emb.le_upd _ hφ,?_,?_,?_,?_,rfl,rfl,rfl,by simp⟩;intro b' h1 h2;rw[AHeap.next_setFam,AHeap.next_push] at h2;have:b'=h.next:=by omega
 subst this;exact⟨_,Emb.upd_same _ _ _⟩;intro b' q h1 h2;by_cases hbn:b'=h.next;subst hbn; rw[AHeap.next_setFam,AHeap.next_push]; omega;rw[Emb.upd_other φ _ hbn,h1] at h2; cases h2;intro b' k' i' z' h1 h2;by_cases hbn:b'=h.next;subst hbn; rw[Emb.upd_same] at h2; cases h2; exact .inr ⟨b,i,z,F,p,cs0,hb,hg⟩;rw[Emb.upd_other φ _ hbn,h1] at h2; cases h2;intro k' hk' hm;refine hold k' ?_;rintro rfl;exact hm ⟨b,i,z,hb,.inl ⟨F,p,cs0,hg⟩⟩
theorem TD {P : Program} {ρ : Operand → AV} {o : Oper} {h h' : AHeap} {v : AV} {t t' : TypeId} {x y : Operand} (ho : o.op = .call { callee := .builtin .append, args := #[x, y], argTypes := #[t, t'] })
    (hs:Yk P h t t' (ρ x) (ρ y)=some (v,h')):StepS P ρ o h v h':=by
 have hopx:x∈o.op.operands:=by simp[ho,dY,dV]
 have hopy:y∈o.op.operands:=by simp[ho,dY,dV]
 unfold Yk at hs;split at hs;rename_i k' n hρx hρy;simp only[dR,dU] at hs;obtain⟨e,he,s,hsz,z,hz,zs,hzs,i,hi,k,hk',hs⟩:=hs;split at hs;rename_i hcond;cases hs;obtain⟨hzl,hs0,hn0,h63,h47⟩:=hcond;have hu:=Zh he;have hu':=Yq hk';obtain⟨i',zv,hi',hzv,hzr⟩:=Qo hz;rw[hi] at hi'; cases hi';have hsi:i.size=s:=by simpa [szA,hi] using hsz
 refine⟨HGrow.alloc h _,?_⟩;intro φ a w K Q hfr r hops hk;have hvx:=hops x hopx; rw[hρx] at hvx;have hvy:=hops y hopy; rw[hρy] at hvy;generalize hex:a.eval x=cx at hvx;generalize hey:a.eval y=cy at hvy
 cases hvx; cases hvy
 have hrun:=Wm (P:=P) (w:=w) (ty:=o.type) (k':=k') hu hu' hi hzv hn0 (by omega) h63 h47;have hge:=grownCap_ge w n.toNat 0 e;have hle:=grownCap_le_maxLen w n.toNat 0 e (by unfold maxLen; omega);generalize grownCap w n.toNat 0 e=cap at hrun hge hle;have hφ : φ h.next=none:=hfr h.next (fA _) (by rw[AHeap.next_alloc]; omega);obtain⟨hc1,hc2⟩:=(hzr φ).cells hzs;have hzvs:zv.cells.size=s:=by rw[←fU,←hc1.1]; exact hzl
 have hsize:(dX zv.cells n.toNat ++ dX zv.cells (cap - n.toNat)).size=cap*s:=by
  simp only[jU,size_zeroCells,hzvs,←fB];congr 1; omega
 have hlen0:(fW n.toNat zs).flatten.length=n.toNat*s:=by simp[hzl]
 have hlen:(fW n.toNat zs).flatten.length≤(dX zv.cells n.toNat ++ dX zv.cells (cap - n.toNat)).size:=by
  rw[hlen0,hsize]; exact fO _ (by omega)
 have hcells:CellsAt φ (fW n.toNat zs).flatten (dX zv.cells n.toNat ++ dX zv.cells (cap - n.toNat)) 0:=by
  intro j q hq;have hj:j<n.toNat*s:=by rw[←hlen0]; exact(dT.1 hq).1
  have hq':zs[j % s]? = some q:=by rw[←hq,Si zs _ j (by rw[hzl]; exact hj),hzl]
  have hjm:j % s<zv.cells.size:=by rw[hzvs]; exact Nat.mod_lt _ hs0
  refine⟨zv.cells[j % s],?_,?_⟩;rw[jJ,Array.getElem?_append_left (by rw[size_zeroCells,hzvs]; exact hj)];simp only[dX,lC,hzvs];rw[jW,if_pos hj];simp only[dZ,getElem!_pos zv.cells (j % s) hjm];exact hc1.2 (j % s) q zv.cells[j % s] hq' (by simp[hjm])
 obtain⟨r',tr⟩:=(r.drew).alloc hφ _ _ e hlen hcells;refine wp_of_run (by simp only[execOp,ho,resolve,invoke,builtin,dW,fI,dQ,List.map_toArray,gN,List.map_nil,hex,hey,hrun]; rfl) (hk _ _ _ tr.drew r' ?_);exact .slc _ 0 _ s false _ cap hge hle (fun h=>by cases h) (.inr ⟨_,0,_,Emb.upd_same _ _ _,by simp,by rw[hsize]; omega⟩);cases hs;cases hs
theorem append_fam {P : Program} {ρ : Operand → AV} {o : Oper} {h : AHeap} {t e : TypeId} {x y : Operand} (ho : o.op = .call { callee := .builtin .append, args := #[x, y], argTypes := #[t, t] })
    {s n m b off F p:Nat} {z:AV} {zs olds news cs:List AV} {i:TypeInfo} {f:Fam} (he:ZX P t=some e) (hsz:szA P e=some s) (hz:Qf P e=some z) (hzs:z.cells? = some zs) (hi:P.info? e=some i)
    (hxo:Q0 h s (ρ x)=some (n,olds)) (hyo:Q0 h s (ρ y)=some (m,news)) (hm:¬ m=0) (hzl:zs.length=s) (hone:news.all AV.one=true) (h63:n+m≤9223372036854775807) (h47:(n+m)*i.bytes≤140737488355328)
    (hρx : ρ x = .slc b off n s false) (hg:h.get b=some (.cells (some F) p cs)) (hf:h.fam F=some f) (xx:Nat) (lv:Option (List Nat))
    (htip:(p+off+n*s=f.ext)∨∀ b' p' cs',h.get b'=some (.cells (some F) p' cs')→Fam.sees ⟨xx,lv⟩ b'=true→p'+cs'.length≤p+off+n*s) (hxx:f.ext≤xx∧p+off+(n+m)*s≤xx) (hlv:∀ b,b≠h.next→Fam.sees ⟨xx,lv⟩ b=true→f.sees b=true) :
    StepS P ρ o h (.slc h.next 0 (n+m) s false) ((h.push (.cells (some F) (p+off) (olds ++ news))).setFam F ⟨xx,lv⟩):=by
 have hu:=Zh he;have hexec:∀ (a:Act) (w:World),(execOp a.eval o).run P w=((fH #[t,t] o.type #[a.eval x,a.eval y]).run P w).andThen fun c w'=>.ok (.value c) w':=by
  intro a w;simp[execOp,ho,resolve,invoke,builtin]
 have hopx:x∈o.op.operands:=by simp[ho,dY,dV]
 have hopy:y∈o.op.operands:=by simp[ho,dY,dV]
 obtain⟨i',zv,hi',hzv,_⟩:=Qo hz;rw[hi] at hi'; cases hi';have hsi:i.size=s:=by simpa [szA,hi] using hsz
 have hnews : ∀ (φ : Emb) (a : Act) (w : World), HRel φ h w → (∀ x ∈ o.op.operands, VRel φ (ρ x) (a.eval x)) →
     ∃ (cs:List Value) (a2:Addr) (c2:Nat),VRels φ news cs∧cs.length=m*s∧a.eval y = .slice (some a2) m c2∧∀ j v,cs[j]? = some v→w.cell? (a2.add j)=some v:=by
   intro φ a w r hops;obtain⟨cs2,hr2,hl2,hd2⟩:=Zd r (hops y hopy) hyo;rcases hd2 with ⟨_,h0⟩|⟨a2,c2,hy,_,_,hcell⟩
   · exact absurd h0 hm
   · exact⟨cs2,a2,c2,hr2,hl2,hy,hcell⟩
 refine⟨HGrow.grow,?_⟩;intro φ a w K Q hfr r hops hk;obtain⟨cs2,a2,c2,hr2,hl2,hy,hcell2⟩:=hnews φ a w r hops;obtain⟨cs1,hr1,hl1,hd1⟩:=Zd r (hops x hopx) hxo;have hφ : φ h.next=none:=hfr h.next (fA _) (by rw[AHeap.next_setFam,AHeap.next_push]; omega);have hvx:=hops x hopx;rw[hρx] at hvx;obtain⟨a1,c1,hx,hn,hcm,hadr⟩:∃ a1 c1,a.eval x = .slice (some a1) n c1∧n≤c1∧c1≤maxLen∧(c1=0∨∃ k i z,φ b=some (k,i,z)∧a1=⟨k,i+off,none⟩∧i+off+c1*s≤z):=by
  generalize a.eval x=cx at hvx
  cases hvx with|slc _ _ _ _ _ a c hn hc hf hadr=>exact⟨a,c,rfl,hn,hc,hadr⟩
 have hcell1:∀ j v,cs1[j]? = some v→w.cell? (a1.add j)=some v:=by
  rcases hd1 with ⟨hx',_⟩|⟨a1',c1',hx',_,_,hcell⟩
  rw[hx] at hx'; cases hx';rw[hx] at hx'; cases hx'; exact hcell
 by_cases hroom:n+m≤c1;rcases hadr with hadr|⟨k,i0,z0,hb,ha1,hfz⟩
 omega;obtain⟨c,e',hk1,hk2,hk3⟩:=r.arr b k i0 z0 F p cs hb hg;have hmul:n*s+m*s≤c1*s:=by rw[←fB]; exact fO _ hroom
 have hrun:=run_append_room' (P:=P) (ty:=o.type) hu hsz k (i0+off) n c1 c e' hk1 a2 m c2 cs2 hl2 hcell2 (hr2.all_one hone) hroom (by omega);have hoc:∀ j v,cs1[j]? = some v→c[i0+off+j]? = some v:=by
  intro j v hv;have:=hcell1 j v hv;rw[ha1,fR,hk1.cell] at this;exact this
 obtain⟨r',tr⟩:=grow_room (x:=xx) (lv:=lv) r hφ hf hb hg htip hk1 hk2 hr1 hl1 hoc hr2 (by omega) ⟨hxx.1,by rw[hl2]; have:=hxx.2; rw[fB] at this; omega⟩ hlv;refine wp_of_run (by rw[hexec,hx,hy,ha1,hrun]; rfl) (hk _ _ _ tr r' ?_);exact .slc _ 0 _ s false _ c1 hroom hcm (fun h=>by cases h) (.inr ⟨_,_,_,Emb.upd_same _ _ _,by simp,by omega⟩);have hrun:=run_append_grow (P:=P) w t o.type e i zv hu hi hzv a1 n c1 cs1 (by rw[hsi]; exact hl1) hcell1 a2 m c2 cs2 (by rw[hsi]; exact hl2) hcell2 (by omega) (by omega) (growslice_fits (by omega) h47);have hge:=grownCap_ge w (n+m) c1 e;have hle:=grownCap_le_maxLen w (n+m) c1 e (by unfold maxLen; omega);generalize grownCap w (n+m) c1 e=cap at hrun hge hle;have hrel:=hr1.append hr2;have hzvs:zv.cells.size=s:=by
  obtain⟨i2,z2,hi2,hz2,hrz⟩:=Qo hz;rw[hi] at hi2; cases hi2;rw[hzv] at hz2; cases hz2;have:=((hrz φ).cells hzs).1.1;rw[←fU,←this]; exact hzl
 have hsize:(cs1.toArray ++ cs2.toArray ++ dX zv.cells (cap - (n+m))).size=cap*s:=by
  simp only[jU,lF,size_zeroCells,hzvs,hl1,hl2,←fB];congr 1; omega
 have hcells:CellsAt φ (olds ++ news) (cs1.toArray ++ cs2.toArray ++ dX zv.cells (cap - (n+m))) 0:=by
  intro j q hq;have hlt:j<(cs1 ++ cs2).length:=by rw[←hrel.1]; exact(dT.1 hq).1
  refine⟨(cs1 ++ cs2)[j],?_,hrel.2 j q _ hq (dP hlt)⟩;rw[jJ,←gS];simp only[gX];rw[fV hlt,dP hlt]
 have hlen0:(olds ++ news).length=(n+m)*s:=by rw[hrel.1,fQ,hl1,hl2,←fB]
 have hlen:(olds ++ news).length≤(cs1.toArray ++ cs2.toArray ++ dX zv.cells (cap - (n+m))).size:=by
  rw[hlen0,hsize];exact fO _ (by omega)
 obtain⟨r',tr⟩:=grow_new (e:=e) (q:=p+off) (x:=xx) (lv:=lv) (r.drew) hφ hf hcells hlen ⟨hxx.1,by rw[hlen0]; exact hxx.2⟩ hlv;refine wp_of_run (by rw[hexec,hx,hy,hrun]; rfl) (hk _ _ _ tr.drew r' ?_);exact .slc _ 0 _ s false _ cap hge hle (fun h=>by cases h) (.inr ⟨_,0,_,Emb.upd_same _ _ _,by simp,by rw[hsize]; omega⟩)
theorem TO {P : Program} {ρ : Operand → AV} {o : Oper} {h h' : AHeap} {v : AV} {t : TypeId} {x y : Operand} (ho : o.op = .call { callee := .builtin .append, args := #[x, y], argTypes := #[t, t] })
    {kill:Bool} (hs:Xx P kill h t (ρ x) (ρ y)=some (v,h')):StepS P ρ o h v h':=by
 simp only[Xx,dR,dU] at hs;obtain⟨e,he,s,hsz,z,hz,zs,hzs,i,hi,⟨n,olds⟩,hxo,⟨m,news⟩,hyo,hs⟩:=hs;have hu:=Zh he;have hexec:∀ (a:Act) (w:World),(execOp a.eval o).run P w=((fH #[t,t] o.type #[a.eval x,a.eval y]).run P w).andThen fun c w'=>.ok (.value c) w':=by
  intro a w;simp[execOp,ho,resolve,invoke,builtin]
 have hopx:x∈o.op.operands:=by simp[ho,dY,dV]
 have hopy:y∈o.op.operands:=by simp[ho,dY,dV]
 split at hs;rename_i hm;cases hs;subst hm;refine⟨HGrow.refl h,?_⟩;intro φ a w K Q _ r hops hk;obtain⟨cs1,hr1,hl1,hd1⟩:=Zd r (hops x hopx) hxo;obtain⟨cs2,hr2,hl2,hd2⟩:=Zd r (hops y hopy) hyo;refine wp_of_run (c:=a.eval x) (w':=w) ?_ (hk φ _ _ (Trans.refl φ h w) r (hops x hopx));rw[hexec];rcases hd1 with ⟨hx,hn⟩|⟨a1,c1,hx,hn,_⟩ <;> rcases hd2 with ⟨hy,_⟩|⟨a2,c2,hy,_⟩
 rw[hx,hy,Xf hu hsz none 0 0 (fA 0) none 0]; rfl;rw[hx,hy,Xf hu hsz none 0 0 (fA 0) (some a2) c2]; rfl;rw[hx,hy,Xf hu hsz (some a1) n c1 hn none 0]; rfl;rw[hx,hy,Xf hu hsz (some a1) n c1 hn (some a2) c2]; rfl
 ·rename_i hm;split at hs
  ·rename_i hcond;obtain⟨hzl,hone,h63,h47⟩:=hcond;obtain⟨i',zv,hi',hzv,_⟩:=Qo hz;rw[hi] at hi'; cases hi';have hsi:i.size=s:=by simpa [szA,hi] using hsz
   have hnews : ∀ (φ : Emb) (a : Act) (w : World), HRel φ h w → (∀ x ∈ o.op.operands, VRel φ (ρ x) (a.eval x)) →
       ∃ (cs:List Value) (a2:Addr) (c2:Nat),VRels φ news cs∧cs.length=m*s∧a.eval y = .slice (some a2) m c2∧∀ j v,cs[j]? = some v→w.cell? (a2.add j)=some v:=by
     intro φ a w r hops;obtain⟨cs2,hr2,hl2,hd2⟩:=Zd r (hops y hopy) hyo;rcases hd2 with ⟨_,h0⟩|⟨a2,c2,hy,_,_,hcell⟩
     · exact absurd h0 hm
     · exact⟨cs2,a2,c2,hr2,hl2,hy,hcell⟩
   have hown:∀ (x':AV),ρ x=x'→(x' = .nils∨∃ b off s' ,x' = .slc b off n s' true)→StepS P ρ o h (.slc h.next 0 (n+m) s false) (h.alloc (olds ++ news)):=by
    intro x' hρx hx';refine⟨HGrow.alloc h _,?_⟩;intro φ a w K Q hfr r hops hk;obtain⟨cs2,a2,c2,hr2,hl2,hy,hcell2⟩:=hnews φ a w r hops;obtain⟨cs1,hr1,hl1,hd1⟩:=Zd r (hops x hopx) hxo;have hφ : φ h.next=none:=hfr h.next (fA _) (by rw[AHeap.next_alloc]; omega)
    have hcase : ∃ old : Nat, old < n + m ∧ (fH #[t, t] o.type #[a.eval x, a.eval y]).run P w =
        .ok (.slice (some ⟨w.heap.size,0,none⟩) (n+m) (grownCap w (n+m) old e)) (w.drew.alloc (.cells (cs1.toArray ++ cs2.toArray ++ dX zv.cells (grownCap w (n+m) old e - (n+m))) e)):=by
      rcases hd1 with ⟨hx,hn0⟩|⟨a1,c1,hx,hn,_,hcell1⟩
      · subst hn0;have:cs1 = []:=fF (by simpa using hl1);subst this;refine⟨0,by omega,?_⟩;rw[hx,hy];have:=run_append_nil (P:=P) w t o.type e i zv hu hi hzv a2 m c2 cs2 (by rw[hsi]; exact hl2) hcell2 (by omega) (by omega) (by simp at h47; omega);simpa using this
      · have hc1:c1=n:=by
          have hvx:=hops x hopx;rw[hρx,hx] at hvx;rcases hx' with hx'|⟨b,off,s',hx'⟩
          · rw[hx'] at hvx; cases hvx
          · rw[hx'] at hvx
            cases hvx with|slc _ _ _ _ _ _ _ _ _ hf _=>exact hf rfl
        refine⟨c1,by omega,?_⟩;rw[hx,hy];exact run_append_grow (P:=P) w t o.type e i zv hu hi hzv a1 n c1 cs1 (by rw[hsi]; exact hl1) hcell1 a2 m c2 cs2 (by rw[hsi]; exact hl2) hcell2 (by omega) (by omega) (growslice_fits (by omega) h47)
    obtain⟨old,hold,hrun⟩:=hcase;have hge:=grownCap_ge w (n+m) old e;have hle:=grownCap_le_maxLen w (n+m) old e (by unfold maxLen; omega);generalize grownCap w (n+m) old e=cap at hrun hge hle;have hrel:=hr1.append hr2;have hzvs:zv.cells.size=s:=by
     obtain⟨i2,z2,hi2,hz2,hrz⟩:=Qo hz;rw[hi] at hi2; cases hi2;rw[hzv] at hz2; cases hz2;have:=((hrz φ).cells hzs).1.1;rw[←fU,←this]; exact hzl
    have hsize:(cs1.toArray ++ cs2.toArray ++ dX zv.cells (cap - (n+m))).size=cap*s:=by
     simp only[jU,lF,size_zeroCells,hzvs,hl1,hl2,←fB];congr 1; omega
    have hcells:CellsAt φ (olds ++ news) (cs1.toArray ++ cs2.toArray ++ dX zv.cells (cap - (n+m))) 0:=by
     intro j q hq;have hlt:j<(cs1 ++ cs2).length:=by rw[←hrel.1]; exact(dT.1 hq).1
     refine⟨(cs1 ++ cs2)[j],?_,hrel.2 j q _ hq (dP hlt)⟩;rw[jJ,←gS];simp only[gX];rw[fV hlt,dP hlt]
    have hlen:(olds ++ news).length≤(cs1.toArray ++ cs2.toArray ++ dX zv.cells (cap - (n+m))).size:=by
     rw[hrel.1,hsize,fQ,hl1,hl2,←fB];exact fO _ (by omega)
    obtain⟨r',tr⟩:=(r.drew).alloc hφ (olds ++ news) _ e hlen hcells;refine wp_of_run (by rw[hexec,hrun]; rfl) (hk _ _ _ tr.drew r' ?_);exact .slc _ 0 _ s false _ cap hge hle (fun h=>by cases h) (.inr ⟨_,0,_,Emb.upd_same _ _ _,by simp,by rw[hsize]; omega⟩)
   split at hs;rename_i hρx;cases hs;have hxo':n=0∧olds = []:=by
    rw[hρx] at hxo; simp[Q0] at hxo; exact⟨hxo.1.symm,hxo.2⟩
   obtain⟨rfl,rfl⟩:=hxo';have:=hown _ hρx (.inl rfl);simpa using this;rename_i b off n' s' hρx;cases hs;have hn':n'=n:=by rw[hρx] at hxo; exact(X4 hxo).1.symm
   subst hn';exact hown _ hρx (.inr ⟨b,off,s',rfl⟩)
   ·rename_i b off n' s' hρx;have hns:n'=n∧s'=s:=by rw[hρx] at hxo; exact⟨(X4 hxo).1.symm,(X4 hxo).2.1⟩
    obtain⟨rfl,rfl⟩:=hns;split at hs
    ·rename_i F p cs hg;simp only[dU] at hs;obtain⟨f,hf,hs⟩:=hs
     have hfam : ∀ (xx : Nat) (lv : Option (List Nat)), ((p + off + n' * s' = f.ext) ∨ lv = some [h.next]) → (f.ext ≤ xx ∧ p + off + (n' + m) * s' ≤ xx) → (∀ b, b ≠ h.next → Fam.sees ⟨xx, lv⟩ b = true → f.sees b = true) →
         StepS P ρ o h (.slc h.next 0 (n'+m) s' false) ((h.push (.cells (some F) (p+off) (olds ++ news))).setFam F ⟨xx,lv⟩):=by
       intro xx lv htip hxx hlv;refine append_fam ho he hsz hz hzs hi hxo hyo hm hzl hone h63 h47 hρx hg hf xx lv (htip.imp id ?_) hxx hlv;intro h2 b' p' cs' hB hs;subst h2;simp only[Fam.sees,jA,lG,Bool.or_false,beq_iff_eq] at hs;have:=AHeap.get_lt hB;omega
     split at hs
     ·rename_i htip;cases hs;refine hfam _ _ (.inl htip) ⟨by omega,by rw[fB]; omega⟩ ?_;intro b' hb' hsee
      cases hl:f.live with
      | none=>simp[Fam.sees,hl]
      | some l=>
       simp only[Fam.sees,hl,dZ,jA,Bool.or_eq_true,beq_iff_eq] at hsee⊢;exact hsee.resolve_left hb'
     split at hs;cases hs;refine hfam _ _ (.inr rfl) ⟨Nat.le_max_left _ _,Nat.le_max_right _ _⟩ ?_;intro b' hb' hsee;simp only[Fam.sees,jA,lG,Bool.or_false,beq_iff_eq] at hsee;exact absurd hsee hb';cases hs
    cases hs
   cases hs
  cases hs
end Go.Am
namespace Go.Am
theorem acopy_step {P : Program} {ρ : Operand → AV} {o : Oper} {h h' : AHeap} {v : AV} {t : TypeId} {x y : Operand} (ho : o.op = .call { callee := .builtin .copy, args := #[x, y], argTypes := #[t, t] })
    (hs:acopy P h t (ρ x) (ρ y)=some (v,h')):StepS P ρ o h v h':=by
 simp only[acopy,dR,dU] at hs;obtain⟨e,he,s,hsz,⟨n,olds⟩,hxo,⟨m,news⟩,hyo,hs⟩:=hs;have hu:=Zh he;have hexec:∀ (a:Act) (w:World),(execOp a.eval o).run P w=((gJ #[t,t] o.type #[a.eval x,a.eval y]).run P w).andThen fun c w'=>.ok (.value c) w':=by
  intro a w;simp[execOp,ho,resolve,invoke,builtin]
 have hopx:x∈o.op.operands:=by simp[ho,dY,dV]
 have hopy:y∈o.op.operands:=by simp[ho,dY,dV]
 split at hs;rename_i hm;dsimp only at hm;cases hs;refine⟨HGrow.refl h,?_⟩;intro φ a w K Q _ r hops hk;obtain⟨cs1,hr1,hl1,hd1⟩:=Zd r (hops x hopx) hxo;obtain⟨cs2,hr2,hl2,hd2⟩:=Zd r (hops y hopy) hyo;refine wp_of_run (c:=.int .i64 0) (w':=w) ?_ (hk φ _ _ (Trans.refl φ h w) r (.int _ _));rw[hexec];have hm':m.min n=0:=hm;rcases hd1 with ⟨hx,hn⟩|⟨a1,c1,hx,hn,_⟩ <;> rcases hd2 with ⟨hy,hn2⟩|⟨a2,c2,hy,_⟩
 simp[hx,hy,gJ,run_underlying hu,K7 hsz,gA,gO,goInt];simp[hx,hy,gJ,run_underlying hu,K7 hsz,gA,gO,goInt,loadCells,loadCellsFrom];simp[hx,hy,gJ,run_underlying hu,K7 hsz,gA,gO,goInt,storeCells];simp[hx,hy,gJ,run_underlying hu,K7 hsz,gA,gO,goInt,loadCells,loadCellsFrom,storeCells,hm']
 ·rename_i hm;dsimp only at hm;split at hs
  ·rename_i hone;split at hs
   ·rename_i b o' n' s' full hρx;have hns:n'=n∧s'=s∧(n≠0→h.valid b=true):=by rw[hρx] at hxo; have:=X4 hxo; exact⟨this.1.symm,this.2.1,fun h0=>this.2.2.2 (by rw[←this.1]; exact h0)⟩
    obtain⟨rfl,rfl,hval⟩:=hns;split at hs
    ·rename_i F p cs hg;simp only[dU] at hs;obtain⟨f,hf,hs⟩:=hs;split at hs
     ·rename_i hfit;cases hs;have hmn:min m n'≠0:=hm;have hnl:news.length=m*s':=by
       cases hyo' : ρ y with
       | slc b2 o2 n2 s2 f2=>rw[hyo'] at hyo; have:=X4 hyo; rw[this.2.2.1,this.1]
       | nils=>rw[hyo'] at hyo; simp[Q0] at hyo; obtain⟨rfl,rfl⟩:=hyo; simp
       | _=>rw[hyo'] at hyo; simp[Q0] at hyo
      have htl:(news.take (min m n'*s')).length=min m n'*s':=by
       rw[jK,hnl];exact Nat.min_eq_left (fO _ (Nat.min_le_left _ _))
      refine⟨HGrow.store hg (by rw[htl]; exact hfit),?_⟩;intro φ a w K Q hfr r hops hk;obtain⟨cs2,hr2,hl2,hd2⟩:=Zd r (hops y hopy) hyo;have hvx:=hops x hopx;rw[hρx] at hvx;obtain⟨a1,c1,hx,hn,hadr⟩:∃ a1 c1,a.eval x = .slice (some a1) n' c1∧n'≤c1∧(c1=0∨∃ k i z,φ b=some (k,i,z)∧a1=⟨k,i+o',none⟩∧i+o'+c1*s'≤z):=by
       generalize a.eval x=cx at hvx
       cases hvx with|slc _ _ _ _ _ a c hn hc hf hadr=>exact⟨a,c,rfl,hn,hadr⟩
      rcases hadr with hadr|⟨k,i,z,hb,ha1,hfz⟩
      omega;rcases hd2 with ⟨_,h0⟩|⟨a2,c2,hy,_,_,hcell⟩
      omega;have hrt:VRels φ (news.take (min m n'*s')) (cs2.take (min m n'*s')):=by
       refine⟨by rw[jK,jK,hr2.1],?_⟩;intro j q u hq hu';rw[fL] at hq hu';split at hq;rename_i hj; rw[if_pos hj] at hu'; exact hr2.2 j q u hq hu';cases hq
      have hct:(cs2.take (min m n'*s')).length=min m n'*s':=by rw[←hrt.1,htl]
      obtain⟨c,e',h1,hfit',r',tr⟩:=r.store hb hg (hval (by omega)) hf (o:=o') (by rw[htl]; exact hfit) hrt;refine wp_of_run (c:=.int .i64 (min m n':Nat)) ?_ (hk φ _ _ tr r' (.int _ _));rw[hexec,hx,hy];have hload:=run_firstCells_some (P:=P) w s' (min m n') a2 m c2 (cs2.take (min m n'*s')) hct (by
       intro j u hu';rw[fL] at hu';split at hu';exact hcell j u hu'
       cases hu')
      have hst:=RowAt.store (P:=P) (g:=k) (o:=i+o') (t:=e') (cs2.take (min m n'*s')) 0 c w h1 (by simpa using hfit') (hrt.all_one (by
       rw[gQ] at hone⊢;intro q hq;exact hone q (List.mem_of_mem_take hq)))
      simp only[jC] at hst;have hmin:m.min n'=min m n':=rfl;simp only[gJ,gB,List.getElem?_cons_zero,gL,dW,run_underlying hu,dQ,gA,fI,K7 hsz,hmin,hload,ha1,hst,goInt,putL]
     cases hs
    cases hs
   cases hs
  cases hs
theorem VW {P:Program} {kill:Bool} {ρ:Operand→AV} {o:Oper} {h h':AHeap} {v:AV} (hs:Zo P kill h ρ o.op=some (v,h')):StepS P ρ o h v h':=by
 unfold Zo at hs;split at hs;rename_i t x y ho;exact S2 ho hs;rename_i args tys ho;split at hs;rename_i x y t t' hx ht;split at hs;rename_i htt;subst htt;have hax:args = #[x,y]:=by apply fE; simpa using hx
 have hat:tys = #[t,t]:=by apply fE; simpa using ht
 subst hax hat;exact TO ho hs;have hax:args = #[x,y]:=by apply fE; simpa using hx
 have hat:tys = #[t,t']:=by apply fE; simpa using ht
 subst hax hat;exact TD ho hs;cases hs;rename_i args tys ho;split at hs;rename_i x y t t' hx ht;split at hs;rename_i htt;subst htt;have hax:args = #[x,y]:=by apply fE; simpa using hx
 have hat:tys = #[t,t]:=by apply fE; simpa using ht
 subst hax hat;exact acopy_step ho hs;cases hs;cases hs;cases hs
inductive Cls where
  | pure|read|allo|chain
  deriving DecidableEq
def clsOf : Op → Cls
  | .load _ _ | .slice _ _ _ _ _ | .lookup _ _ _ _=>.read
  | .box _ _ | .alloc _ | .buildSlice _ _ _ | .makeSlice _ _ _=>.allo
  | .store _ _ _=>.chain
  | .call {callee:=.builtin .len,..} | .call {callee:=.builtin .cap,..} | .call {callee:=.builtin .max,..} | .call {callee:=.builtin .min,..}=>.pure
  | .call _=>.chain
  | .build _ _ | .move _ | .assign _ | .pick _ _ _ | .nilCheck _ | .binOp _ _ _ _ _ | .unOp _ _ _ | .convert _ _ _ | .makeFunc _ _ _ | .fieldAddr _ _ _ | .field _ _ _ | .indexAddr _ _ _ | .index _ _ _ | .extract _ _ | .makeInterface _ _=>.pure
  | _=>.chain
def areadR (P:Program) (h:AHeap) (ρ:Operand→AV) (op:Op):Option AV:=
  match op with
  | .load t x=>K9 P h t (ρ x)
  | .slice t x lo hi mx=>match ρ x with
    | .ptr b o=>Us P h t (.ptr b o) (lo.map ρ) (hi.map ρ) (mx.map ρ)
    | x'=>Ve P t x' (lo.map ρ) (hi.map ρ) (mx.map ρ)
  | _=>none
theorem areadR_sound {P : Program} {φ : Emb} {h : AHeap} {w : World} {ρ : Operand → AV} {ev : Operand → Value} {o : Oper} {v : AV} (r : HRel φ h w) (hr : ∀ x ∈ o.op.operands, VRel φ (ρ x) (ev x)) (hl : areadR P h ρ o.op = some v) :
    ∃ c,(execOp ev o).run P w = .ok (.value c) w∧VRel φ v c:=by
 unfold areadR at hl;split at hl;rename_i t x ho;exact UN (h:=h) r hr (by rw[ho]; exact hl);rename_i t x lo hi mx ho;split at hl;rename_i b off hρ;exact UN (h:=h) r hr (by rw[ho]; simp only[aread,hρ]; exact hl);exact apure_sound (w:=w) hr (by rw[ho]; exact hl);cases hl
def ReadS (P:Program) (ρ:Operand→AV) (o:Oper) (h:AHeap) (v:AV):Prop:=∀ (φ:Emb) (w:World) (ev:Operand→Value),HRel φ h w→(∀ x∈o.op.operands,VRel φ (ρ x) (ev x))→∃ c,(execOp ev o).run P w = .ok (.value c) w∧VRel φ v c
theorem ReadS.of {P:Program} {h:AHeap} {ρ:Operand→AV} {o:Oper} {v:AV} (hl:areadR P h ρ o.op=some v):ReadS P ρ o h v:=fun _ _ _ r hr=>areadR_sound r hr hl
theorem ReadS.stepS {P:Program} {h:AHeap} {ρ:Operand→AV} {o:Oper} {v:AV} (hs:ReadS P ρ o h v):StepS P ρ o h v h:=by
 refine⟨HGrow.refl _,?_⟩;intro φ a w K Q _ r hops hk;obtain⟨c,hc,hv⟩:=hs φ w a.eval r hops;exact wp_of_run hc (hk φ c w (Trans.refl _ _ _) r hv)
def SemStep (P:Program) (ρ:Operand→AV) (o:Oper) (h:AHeap) (v:AV) (h':AHeap):Prop:=
  match clsOf o.op with
  | .pure=>apure P ρ o.op=some v∧h'=h
  | .read=>ReadS P ρ o h v∧h'=h
  | .allo=>∃ mk cs,aallo P ρ o.op=some (mk,cs)∧v=mk.val h.next∧h'=h.alloc cs
  | .chain=>StepS P ρ o h v h'
theorem SemStep.stepS {P:Program} {ρ:Operand→AV} {o:Oper} {h h':AHeap} {v:AV} (hs:SemStep P ρ o h v h'):StepS P ρ o h v h':=by
 unfold SemStep at hs;split at hs;obtain⟨hs,rfl⟩:=hs;refine⟨HGrow.refl _,?_⟩;intro φ a w K Q _ r hops hk;obtain⟨c,hc,hv⟩:=apure_sound (ev:=a.eval) hops hs w;exact wp_of_run hc (hk φ c w (Trans.refl _ _ _) r hv);obtain⟨hs,rfl⟩:=hs;exact hs.stepS;obtain⟨mk,cs,hs,rfl,rfl⟩:=hs;refine⟨HGrow.alloc _ _,?_⟩;intro φ a w K Q hfr r hops hk;obtain⟨c,e,v,hrun,hlen,hcells,hval⟩:=aallo_sound (ev:=a.eval) (w:=w) hops hs;have hφ : φ h.next=none:=hfr h.next (fA _) (by rw[AHeap.next_alloc]; omega);obtain⟨r',tr⟩:=r.alloc hφ cs c e hlen hcells;exact wp_of_run hrun (hk _ _ _ tr r' (hval _ _ (Emb.upd_same _ _ _)));exact hs
def setF (fr:List AV) (dst:Option Tmp) (v:AV):List AV:=match dst with|some d=>fr.set d v|none=>fr
def FRel (D:List Deferred) (φ:Emb) (fr:List AV) (a:Act):Prop:=a.defers=D∧fr.length=a.tmps.size∧∀ (t:Nat) (x:AV) (v:Value),fr[t]? = some x→a.tmps[t]? = some v→VRel φ x v
variable {D:List Deferred}
theorem FRel.mono {φ φ':Emb} (hle : φ.le φ') {fr:List AV} {a:Act} (h:FRel D φ fr a):FRel D φ' fr a:=⟨h.1,h.2.1,fun t x v hx hv=>(h.2.2 t x v hx hv).mono hle⟩
theorem FRel.get {φ:Emb} {fr:List AV} {a:Act} (h:FRel D φ fr a) (t:Nat):VRel φ (fr.getD t .bot) (a.tmps.getD t undef):=by
 by_cases ht:t<fr.length;have ht':t<a.tmps.size:=by rw[←h.2.1]; exact ht
 have:=h.2.2 t fr[t] a.tmps[t] (dP ht) (fD ht');rw[fJ,dP ht,gC,fD ht'];exact this;rw[fJ,gY (by omega)];exact .bot _
theorem evalA_rel {φ:Emb} {h:AHeap} {w:World} {fr:List AV} {a:Act} (r:HRel φ h w) (hf:FRel D φ fr a) (x:Operand):VRel φ (evalA h.globs fr x) (a.eval x):=by
 cases x with
 | tmp t=>exact hf.get t
 | const v=>exact AV.of_rel φ 4 v
 | global g=>
  simp only[evalA,Act.eval];split;rename_i hg;obtain⟨z,hz⟩:=r.glob g (by simpa using hg);exact .ptr g 0 g 0 z hz;exact .bot _
 | func f=>exact .fn f [] [] rfl (by simp)
theorem FRel.put {φ:Emb} {fr:List AV} {a:Act} (h:FRel D φ fr a) (dst:Option Tmp) {x:AV} {v:Value} (hv:VRel φ x v):FRel D φ (setF fr dst x) (a.put dst v):=by
 cases dst with
 | none=>exact h
 | some d=>
  refine⟨h.1,by simp[setF,Act.put,h.2.1],?_⟩;intro t y u hy hu;simp only[setF,Act.put] at hy hu;rw[jI] at hy;rw[Array.getElem?_setIfInBounds] at hu;by_cases htd:d=t;subst htd;simp only[if_true] at hy hu;split at hy;rename_i hl;rw[if_pos (by rw[←h.2.1]; exact hl)] at hu
  cases hy; cases hu; exact hv
  cases hy;rw[if_neg htd] at hy hu;exact h.2.2 t y u hy hu
def guardA (ops:Array Oper) (fr:List AV) (j:Nat):Option (Option Bool):=
  match (ops[j]?).bind (·.dst) with
  | some d=>match fr.getD d .bot with | .bool b=>some (some b) | .tup _=>some none|_=>none
  | none=>none
theorem yielded_of {φ : Emb} {ops : Array Oper} {tmps : Array Value} {j d : Nat} {x : AV} (hd : (ops[j]?).bind (·.dst) = some d) (hx : VRel φ x (tmps.getD d undef)) :
    (∀ b,x = .bool b→d<tmps.size→yielded ops tmps j=some b)∧(∀ l,x = .tup l→yielded ops tmps j=none):=by
 refine⟨?_,?_⟩;rintro b rfl hlt;rw[gC,fD hlt] at hx;simp only[gR] at hx;unfold yielded;rw[hd];simp only[fG,fD hlt];generalize tmps[d]=u at hx;cases hx;rfl;rintro l rfl;unfold yielded;rw[hd];simp only[fG];by_cases hlt:d<tmps.size;rw[gC,fD hlt] at hx;simp only[gR] at hx;rw[fD hlt];generalize tmps[d]=u at hx;cases hx;rfl;rw[Array.getElem?_eq_none (by omega)]
theorem WN {φ:Emb} {ops:Array Oper} {fr:List AV} {a:Act} (hf:FRel D φ fr a) {j:Nat} {y:Option Bool} (h:guardA ops fr j=some y):yielded ops a.tmps j=y:=by
 unfold guardA at h;split at h;rename_i d hd;have hg:=hf.get d;split at h;rename_i b' hb;cases h;refine(yielded_of hd hg).1 _ hb ?_;rw[←hf.2.1];apply jG;intro hle;rw[fJ,gY hle] at hb;cases hb;rename_i l hb;cases h;exact(yielded_of hd hg).2 _ hb;cases h;cases h
end Go.Am
namespace Go.Am
def WFH (h:AHeap):Prop:=∀ b F p cs,h.get b=some (.cells (some F) p cs)→∃ f,h.fam F=some f∧p+cs.length≤f.ext
structure HExt (h h':AHeap):Prop where
  next:h.next≤h'.next
  get:∀ b,b<h.next→h'.get b=h.get b
  valid:∀ b,b<h.next→h'.valid b=h.valid b
theorem HExt.refl (h:AHeap):HExt h h:=⟨fA _,fun _ _=>rfl,fun _ _=>rfl⟩
theorem HExt.trans {a b c:AHeap} (h:HExt a b) (k:HExt b c):HExt a c:=
  ⟨fZ h.next k.next,fun x hx=>(k.get x (fC hx h.next)).trans (h.get x hx),fun x hx=>(k.valid x (fC hx h.next)).trans (h.valid x hx)⟩
theorem Fresh.left {φ:Emb} {a b c:AHeap} (h:Fresh φ a c) (g:HGrow b c):Fresh φ a b:=fun x h1 h2=>h x h1 (fC h2 g.next)
theorem Fresh.right {φ φ':Emb} {a b c:AHeap} {w w':World} (h:Fresh φ a c) (g:HGrow a b) (t:Trans φ a w φ' b w'):Fresh φ' b c:=by
 intro x h1 h2
 cases hx : φ' x with
 | none=>rfl
 | some p=>
  have h0 : φ x=none:=h x (fZ g.next h1) h2;have:=t.new x p h0 hx;omega
abbrev TXT:List Nat:=[1000000]
def AOps (P : Program) (ops : Array Oper) (ex : List Nat) (K : List AV → AHeap → Prop) : Nat → List Oper → List AV → AHeap → Prop
  | _,[],fr,h=>K fr h
  | k,o::os,fr,h=>
    let go:Prop:=∃ v h',(SemStep P (evalA h.globs fr) o h v h'∨(ex=TXT∧StepS P (evalA h.globs fr) o h v h'))∧(ex.contains k=true→WFH h→HExt h h')∧AOps P ops ex K (k+1) os (setF fr o.dst v) h'
    match o.guard with
    | none=>go
    | some (j,want)=>∃ y,guardA ops fr j=some y∧(y=some want→go)∧(y≠some want→AOps P ops ex K (k+1) os (setF fr o.dst (.tup [])) h)
structure Sim (D:List Deferred) (φ:Emb) (fr:List AV) (h:AHeap) (a:Act) (w:World):Prop where
  heap:HRel φ h w
  fr:FRel D φ fr a
theorem Wa {P : Program} {ops : Array Oper} {ex : List Nat} {K : List AV → AHeap → Prop} : ∀ (l : List Oper) (k : Nat) (fr : List AV) (h : AHeap), (∀ i, l[i]? = ops[k + i]?) → AOps P ops ex K k l fr h →
    ∃ fr' h', K fr' h' ∧ HGrow h h' ∧ ∀ {D : List Deferred} (φ : Emb) (a : Act) (w : World) (Q : Exit → Act → World → Prop), Fresh φ h h' → Sim D φ fr h a w →
      (∀ φ' a' w',Trans φ h w φ' h' w'→Sim D φ' fr' h' a' w'→Q .normal a' w')→wpOps P ops Q (gZ k l.length) a w:=by
 intro l
 induction l with
 | nil=>
  intro k fr h _ hk;refine⟨fr,h,hk,HGrow.refl h,?_⟩;intro D φ a w Q _ s hq;exact hq φ a w (Trans.refl _ _ _) s
 | cons o os ih=>
  intro k fr h hl hA;have ho:ops[k]? = some o:=by have:=hl 0; simpa using this.symm
  have hl':∀ i,os[i]? = ops[k+1+i]?:=by
   intro i;have:=hl (i+1);simp only[gL] at this;rw[this]; congr 1; omega
  have hgo : (∃ v h', (SemStep P (evalA h.globs fr) o h v h' ∨ (ex = TXT ∧ StepS P (evalA h.globs fr) o h v h')) ∧ (ex.contains k = true → WFH h → HExt h h') ∧ AOps P ops ex K (k + 1) os (setF fr o.dst v) h') →
      ∃ fr' h', K fr' h' ∧ HGrow h h' ∧ ∀ {D : List Deferred} (φ : Emb) (a : Act) (w : World) (Q : Exit → Act → World → Prop), Fresh φ h h' → Sim D φ fr h a w → gP o (yielded ops a.tmps) = true →
        (∀ φ' a' w',Trans φ h w φ' h' w'→Sim D φ' fr' h' a' w'→Q .normal a' w')→wpOps P ops Q (gZ k (os.length+1)) a w:=by
    rintro⟨v,h1,hs,_,hrest⟩;obtain⟨fr',h',hK,hg',hrun⟩:=ih (k+1) _ h1 hl' hrest;obtain⟨hg,hst⟩:=(hs.elim SemStep.stepS (·.2):StepS P (evalA h.globs fr) o h v h1);refine⟨fr',h',hK,hg.trans hg',?_⟩;intro D φ a w Q hfr s hw hq;rw[jH];simp only[wpOps,ho,hw,if_true];refine .inl (hst φ a w _ Q (hfr.left hg') s.heap (fun x _=>evalA_rel s.heap s.fr x) ?_);intro φ1 c w1 t1 r1 hv1;refine hrun φ1 _ w1 Q (hfr.right hg t1) ⟨r1,(s.fr.mono t1.le).put o.dst hv1⟩ ?_;intro φ2 a2 w2 t2 s2;exact hq φ2 a2 w2 (t1.trans hfr hg hg' t2) s2
  unfold AOps at hA
  cases hgd:o.guard with
  | none=>
   simp only[hgd] at hA;obtain⟨fr',h',hK,hg,hrun⟩:=hgo hA;refine⟨fr',h',hK,hg,?_⟩;intro D φ a w Q hfr s hq;exact hrun φ a w Q hfr s (by simp[gP,hgd]) hq
  | some jw=>
   obtain⟨j,want⟩:=jw;simp only[hgd] at hA;obtain⟨b,hb,hyes,hno⟩:=hA;by_cases hbw:b=some want;obtain⟨fr',h',hK,hg,hrun⟩:=hgo (hyes hbw);refine⟨fr',h',hK,hg,?_⟩;intro D φ a w Q hfr s hq;exact hrun φ a w Q hfr s (by simp[gP,hgd,WN s.fr hb,hbw]) hq;obtain⟨fr',h',hK,hg,hrun⟩:=ih (k+1) _ h hl' (hno hbw);refine⟨fr',h',hK,hg,?_⟩;intro D φ a w Q hfr s hq;have hw:gP o (yielded ops a.tmps)=false:=by
    simp[gP,hgd,WN s.fr hb];exact hbw
   simp only[fP,jH,wpOps,ho,hw,fK,if_false];exact hrun φ _ w Q hfr ⟨s.heap,s.fr.put o.dst (VRel.undef φ)⟩ hq
inductive Ex where
  | normal|ret
  | exit (id:Nat)
  deriving DecidableEq
def Ex.toExit : Ex → Exit
  | .normal=>.normal
  | .ret=>.ret
  | .exit id=>.exit id
def AX (P:Program) (c:Code) (fr:List AV) (h:AHeap) (e:Ex) (fr':List AV) (h':AHeap):Prop:=
  HGrow h h' ∧ ∀ {D : List Deferred} (φ : Emb) (a : Act) (w : World), Fresh φ h h' → Sim D φ fr h a w →
    c.wp P (fun e' a' w'=>e'=e.toExit∧∃ φ',Trans φ h w φ' h' w'∧Sim D φ' fr' h' a' w') a w
def AW (P:Program) (c:Code) (Q:Ex→List AV→AHeap→Prop) (fr:List AV) (h:AHeap):Prop:=∃ e fr' h',AX P c fr h e fr' h'∧Q e fr' h'
theorem AW.mono {P:Program} {c:Code} {Q Q':Ex→List AV→AHeap→Prop} {fr:List AV} {h:AHeap} (hw:AW P c Q fr h) (hq:∀ e fr h,Q e fr h→Q' e fr h):AW P c Q' fr h:=
  let⟨e,fr',h',hx,q⟩:=hw; ⟨e,fr',h',hx,hq _ _ _ q⟩
theorem AW.skip {P:Program} {Q:Ex→List AV→AHeap→Prop} {fr:List AV} {h:AHeap} (hq:Q .normal fr h):AW P .skip Q fr h:=
  ⟨.normal,fr,h,⟨HGrow.refl h,fun φ _ w _ s=>wp_skip ⟨rfl,φ,Trans.refl φ h w,s⟩⟩,hq⟩
theorem AW.label {P:Program} {Q:Ex→List AV→AHeap→Prop} {fr:List AV} {h:AHeap} {l:Nat} (hq:Q .normal fr h):AW P (.label l) Q fr h:=
  ⟨.normal,fr,h,⟨HGrow.refl h,fun φ _ w _ s=>wp_label ⟨rfl,φ,Trans.refl φ h w,s⟩⟩,hq⟩
theorem AW.ret {P:Program} {Q:Ex→List AV→AHeap→Prop} {fr:List AV} {h:AHeap} (hq:Q .ret fr h):AW P .ret Q fr h:=
  ⟨.ret,fr,h,⟨HGrow.refl h,fun φ _ w _ s=>wp_ret ⟨rfl,φ,Trans.refl φ h w,s⟩⟩,hq⟩
theorem AW.exit {P:Program} {Q:Ex→List AV→AHeap→Prop} {fr:List AV} {h:AHeap} {id:Nat} (hq:Q (.exit id) fr h):AW P (.exit id) Q fr h:=
  ⟨.exit id,fr,h,⟨HGrow.refl h,fun φ _ w _ s=>wp_exit ⟨rfl,φ,Trans.refl φ h w,s⟩⟩,hq⟩
theorem AW.seq {P:Program} {c d:Code} {Q:Ex→List AV→AHeap→Prop} {fr:List AV} {h:AHeap} (hw:AW P c (fun e fr h=>match e with | .normal=>AW P d Q fr h|e=>Q e fr h) fr h):AW P (.seq c d) Q fr h:=by
 obtain⟨e,fr1,h1,⟨g1,hx1⟩,hq1⟩:=hw
 cases e with
 | normal=>
  obtain⟨e2,fr2,h2,⟨g2,hx2⟩,hq2⟩:=hq1;refine⟨e2,fr2,h2,⟨g1.trans g2,?_⟩,hq2⟩;intro D φ a w hfr s;refine wp_seq (wp_mono (hx1 φ a w (hfr.left g2) s) ?_);rintro e' a' w' ⟨rfl,φ1,t1,s1⟩;show d.wp P _ a' w';refine wp_mono (hx2 φ1 a' w' (hfr.right g1 t1) s1) ?_;rintro e'' a'' w'' ⟨rfl,φ2,t2,s2⟩;exact⟨rfl,φ2,t1.trans hfr g1 g2 t2,s2⟩
 | ret=>
  refine⟨.ret,fr1,h1,⟨g1,?_⟩,hq1⟩;intro D φ a w hfr s;refine wp_seq (wp_mono (hx1 φ a w hfr s) ?_);rintro e' a' w' ⟨rfl,r⟩;exact⟨rfl,r⟩
 | exit id=>
  refine⟨.exit id,fr1,h1,⟨g1,?_⟩,hq1⟩;intro D φ a w hfr s;refine wp_seq (wp_mono (hx1 φ a w hfr s) ?_);rintro e' a' w' ⟨rfl,r⟩;exact⟨rfl,r⟩
theorem AW.cond {P:Program} {c:Operand} {x y:Code} {Q:Ex→List AV→AHeap→Prop} {fr:List AV} {h:AHeap} {t:Bool} (hc:evalA h.globs fr c = .bool t) (hw:AW P (if t then x else y) Q fr h):AW P (.cond c x y) Q fr h:=by
 obtain⟨e,fr1,h1,⟨g1,hx1⟩,hq1⟩:=hw;refine⟨e,fr1,h1,⟨g1,?_⟩,hq1⟩;intro D φ a w hfr s;have hv:=evalA_rel s.heap s.fr c;rw[hc] at hv;generalize hcv:a.eval c=cv at hv;cases hv;exact wp_cond hcv (hx1 φ a w hfr s)
theorem AW.block {P:Program} {id:Nat} {c:Code} {Q:Ex→List AV→AHeap→Prop} {fr:List AV} {h:AHeap} (hw:AW P c (fun e fr h=>if e = .exit id then Q .normal fr h else Q e fr h) fr h):AW P (.block id c) Q fr h:=by
 obtain⟨e,fr1,h1,⟨g1,hx1⟩,hq1⟩:=hw;by_cases he:e = .exit id;subst he;simp only[if_true] at hq1;refine⟨.normal,fr1,h1,⟨g1,?_⟩,hq1⟩;intro D φ a w hfr s;refine wp_block (wp_mono (hx1 φ a w hfr s) ?_);rintro e' a' w' ⟨rfl,r⟩;simp only[Ex.toExit,Exit.inBlock,if_true];exact⟨trivial,r⟩
 ·rw[if_neg he] at hq1;refine⟨e,fr1,h1,⟨g1,?_⟩,hq1⟩;intro D φ a w hfr s;refine wp_block (wp_mono (hx1 φ a w hfr s) ?_);rintro e' a' w' ⟨rfl,r⟩
  cases e with
  | normal=>exact⟨rfl,r⟩
  | ret=>exact⟨rfl,r⟩
  | exit id'=>
   have:id'≠id:=fun h=>he (by rw[h])
   simp only[Ex.toExit,Exit.inBlock,if_neg this];exact⟨trivial,r⟩
theorem AW.region {P:Program} {id:Nat} {ops:Array Oper} {l:List Oper} {ex:List Nat} {Q:Ex→List AV→AHeap→Prop} {fr:List AV} {h:AHeap} (hl:ops.toList=l) (hw:AOps P ops ex (Q .normal) 0 l fr h):AW P (.region id ops false) Q fr h:=by
 subst hl;obtain⟨fr',h',hK,hg,hrun⟩:=Wa ops.toList 0 fr h (by simp) hw;refine⟨.normal,fr',h',⟨hg,?_⟩,hK⟩;intro D φ a w hfr s;refine wp_region ?_;have:=hrun φ a w (fun e' a' w'=>e'=Exit.normal∧∃ φ',Trans φ h w φ' h' w'∧Sim D φ' fr' h' a' w') hfr s (fun φ' a' w' t s'=>⟨rfl,φ',t,s'⟩);rw[jV];simpa [Ex.toExit] using this
theorem U2 {P:Program} {c:Code} {Q Q':Exit→Act→World→Prop} (hq:∀ e a w,Q e a w→Q' e a w):∀ (n:Nat) (a:Act) (w:World),Code.rounds P c Q n a w→Code.rounds P c Q' n a w:=by
 intro n
 induction n with
 | zero=>intro a w h; exact h
 | succ n ih=>
  intro a w h;rw[rounds_succ] at h⊢;refine wp_mono h ?_;intro e a' w' he
  cases e with
  | normal=>exact ih a' w' he
  | _=>exact hq _ _ _ he
theorem AW.loop {P : Program} {c : Code} {Q : Ex → List AV → AHeap → Prop} (I : Nat → List AV → AHeap → Prop)
    (round:∀ n fr h,I n fr h→AW P c (fun e fr' h'=>match e with | .normal=>∃ m,m<n∧I m fr' h'|e=>Q e fr' h') fr h) :
    ∀ n fr h,I n fr h→AW P (.loop c) Q fr h:=by
 have key : ∀ n fr h, I n fr h → ∃ N e fr' h', Q e fr' h' ∧ HGrow h h' ∧ ∀ {D : List Deferred} (φ : Emb) (a : Act) (w : World), Fresh φ h h' → Sim D φ fr h a w →
     Code.rounds P c (fun e' a' w'=>e'=e.toExit∧∃ φ',Trans φ h w φ' h' w'∧Sim D φ' fr' h' a' w') N a w:=by
   intro n
   induction n using Nat.strongRecOn with
   | _ n ih=>
     intro fr h hI;obtain⟨e,fr1,h1,⟨g1,hx1⟩,hq1⟩:=round n fr h hI
     cases e with
     | normal=>
       obtain⟨m,hm,hI'⟩:=hq1;obtain⟨N,e2,fr2,h2,hq2,g2,hx2⟩:=ih m hm fr1 h1 hI';refine⟨N+1,e2,fr2,h2,hq2,g1.trans g2,?_⟩;intro D φ a w hfr s;rw[rounds_succ];refine wp_mono (hx1 φ a w (hfr.left g2) s) ?_;rintro e' a' w' ⟨rfl,φ1,t1,s1⟩;show Code.rounds P c _ N a' w';refine U2 ?_ N a' w' (hx2 φ1 a' w' (hfr.right g1 t1) s1);rintro e'' a'' w'' ⟨rfl,φ2,t2,s2⟩;exact⟨rfl,φ2,t1.trans hfr g1 g2 t2,s2⟩
     | ret=>
       refine⟨1,.ret,fr1,h1,hq1,g1,?_⟩;intro D φ a w hfr s;rw[rounds_succ];refine wp_mono (hx1 φ a w hfr s) ?_;rintro e' a' w' ⟨rfl,r⟩;exact⟨rfl,r⟩
     | exit id=>
       refine⟨1,.exit id,fr1,h1,hq1,g1,?_⟩;intro D φ a w hfr s;rw[rounds_succ];refine wp_mono (hx1 φ a w hfr s) ?_;rintro e' a' w' ⟨rfl,r⟩;exact⟨rfl,r⟩
 intro n fr h hI;obtain⟨N,e,fr',h',hq,g,hx⟩:=key n fr h hI;exact⟨e,fr',h',⟨g,fun φ a w hfr s=>wp_loop_rounds N (hx φ a w hfr s)⟩,hq⟩
def Okf (P:Program) (f:FuncId):Prop:=∃ fn,P.funcs[f]? = some fn∧(fn.name == "runtime.NumGoroutine")=false∧fn.body.isNone=false
def Ev (P:Program) (f:FuncId) (args:List AV) (h:AHeap) (r:AV) (h':AHeap):Prop:=
  Okf P f ∧ HGrow h h' ∧ ∀ (φ : Emb) (w : World) (cs : List Value), Fresh φ h h' → HRel φ h w → VRels φ args cs →
    Calls P f cs.toArray w fun e w'=>∃ v φ',e = .returned v∧Trans φ h w φ' h' w'∧HRel φ' h' w'∧VRel φ' r v
def ACalls (P:Program) (f:FuncId) (args:List AV) (h:AHeap) (R:AV→AHeap→Prop):Prop:=∃ r h',Ev P f args h r h'∧R r h'
theorem ACalls.mono {P:Program} {f:FuncId} {args:List AV} {h:AHeap} {R R':AV→AHeap→Prop} (hc:ACalls P f args h R) (hr:∀ r h',R r h'→R' r h'):ACalls P f args h R':=
  let⟨r,h',he,q⟩:=hc; ⟨r,h',he,hr _ _ q⟩
def Q7 (args:List AV) (n:Nat):List AV:=args ++ fW (n - args.length) (.tup [])
def resA (fr : List AV) : List ResultVar → Option (List AV)
  | []=>some []
  | .tmp t::rs=>(resA fr rs).map fun l=>fr.getD t .bot::l
  | .cell _ _::_=>none
def Z7 (fr:List AV) (rs:List ResultVar):Option AV:=(resA fr rs).map fun l=>match l with | [x]=>x|l=>.tup l
theorem resA_run {D : List Deferred} {P : Program} {φ : Emb} {fr : List AV} {a : Act} (hf : FRel D φ fr a) (w : World) : ∀ (rs : List ResultVar) (l : List AV), resA fr rs = some l →
    ∃ vs:List Value,VRels φ l vs∧(rs.mapM fun | .tmp t=>pure (a.tmps.getD t undef) | .cell ad t=>do loadVar t (←asAddr (a.tmps.getD ad undef)):Sem (List Value)).run P w = .ok vs w:=by
 intro rs
 induction rs with
 | nil=>intro l h; cases h; exact⟨[],⟨rfl,by simp⟩,rfl⟩
 | cons r rs ih=>
  intro l h
  cases r with
  | cell ad t=>cases h
  | tmp t=>
   simp only[resA,dS] at h;obtain⟨l',hl',rfl⟩:=h;obtain⟨vs,hv,hr⟩:=ih l' hl';refine⟨a.tmps.getD t undef::vs,⟨by simp[hv.1],?_⟩,?_⟩
   ·intro j x y hx hy
    cases j with
    | zero=>simp at hx hy; subst hx hy; simpa using hf.get t
    | succ j=>exact hv.2 j x y (by simpa using hx) (by simpa using hy)
   simp only[lX,dW,fI,dQ,hr]
theorem Y2 {D:List Deferred} {P:Program} {φ:Emb} {fr:List AV} {a:Act} (hf:FRel D φ fr a) (w:World) {fn:Func} {x:AV} (h:Z7 fr fn.results.toList=some x):∃ v,(results fn a.tmps).run P w = .ok v w∧VRel φ x v:=by
 simp only[Z7,dS] at h;obtain⟨l,hl,hx⟩:=h;obtain⟨vs,hv,hr⟩:=resA_run (P:=P) hf w _ l hl;have hm:(fn.results.mapM fun | .tmp t=>pure (a.tmps.getD t undef) | .cell ad t=>do loadVar t (←asAddr (a.tmps.getD ad undef)):Sem (Array Value)).run P w = .ok vs.toArray w:=by
  rw[jY];simp only[Sem.run_map,hr,dQ]
 refine⟨if h:vs.toArray.size=1 then vs.toArray[0] else .tuple vs.toArray,?_,?_⟩
 have he : results fn a.tmps = (do
     let vs←(fn.results.mapM fun | .tmp t=>pure (a.tmps.getD t undef) | .cell ad t=>do loadVar t (←asAddr (a.tmps.getD ad undef)):Sem (Array Value))
     pure (if h:vs.size=1 then vs[0] else .tuple vs)):=rfl
 rw[he,dW,hm];rfl
 ·subst hx;have hlen:=hv.1
  match l,vs,hv,hlen with
  | [],[],hv,_=>exact .tup [] [] rfl (by simp)
  | [x],[v],hv,_=>simpa using hv.2 0 x v rfl rfl
  | x::y::l,v::u::vs,hv,_=>exact .tup _ _ hv.1 hv.2
theorem ACalls.of_body {P : Program} {f : FuncId} {fn : Func} {c : Code} {args : List AV} {h : AHeap} {R : AV → AHeap → Prop} (hf : P.funcs[f]? = some fn) (hb : fn.body = some c) (hn : (fn.name == "runtime.NumGoroutine") = false)
    (hw:AW P c (fun e fr' h'=>(e = .normal∨e = .ret)∧∃ x,Z7 fr' fn.results.toList=some x∧R x h') (Q7 args fn.ntmps) h):ACalls P f args h R:=by
 obtain⟨e,fr',h',⟨g,hx⟩,he,x,hr,hR⟩:=hw;refine⟨x,h',⟨⟨fn,hf,hn,by rw[hb]; rfl⟩,g,?_⟩,hR⟩;intro φ w cs hfr r hargs;refine calls_of_wp hf hb ?_;have hs:Sim [] φ (Q7 args fn.ntmps) h {tmps:=cs.toArray ++ Array.replicate (fn.ntmps - cs.toArray.size) undef,defers:=[]} w:=by
  refine⟨r,rfl,?_,?_⟩;simp[Q7,hargs.1];intro t y v hy hv;simp only[Q7] at hy;rw[←gS] at hv;simp only[gX,Array.toList_replicate] at hv;rw[fM] at hy hv;rw[hargs.1] at hy;split at hy;rename_i hlt;rw[if_pos hlt] at hv;exact hargs.2 t y v hy hv;rename_i hlt;rw[if_neg hlt] at hv;rw[List.getElem?_replicate] at hy hv;split at hy;cases hy;split at hv
  cases hv; exact VRel.undef φ
  cases hv;cases hy
 refine wp_mono (hx φ _ w hfr hs) ?_;rintro e' a' w' ⟨rfl,φ',t,s'⟩;obtain⟨v,hv,hrel⟩:=Y2 (P:=P) s'.fr w' hr;rcases he with rfl|rfl
 exact⟨s'.fr.1,v,hv,v,φ',rfl,t,s'.heap,hrel⟩;exact⟨s'.fr.1,v,hv,v,φ',rfl,t,s'.heap,hrel⟩
theorem Ev.step {P : Program} {ρ : Operand → AV} {o : Oper} {h h' : AHeap} {f : FuncId} {caps : List AV} {r : AV} {g : Operand} {args : Array Operand} {tys : Array TypeId}
    (ho:o.op = .call {callee:=.value g,args:=args,argTypes:=tys}) (hg : ρ g = .fn f caps) (hev:Ev P f (args.toList.map ρ ++ caps) h r h'):SemStep P ρ o h r h':=by
 have hc:clsOf o.op = .chain:=by rw[ho]; rfl
 unfold SemStep;rw[hc];obtain⟨⟨fn,hf,hn,hb⟩,hgrow,hcalls⟩:=hev;refine⟨hgrow,?_⟩;intro φ a w K Q hfr rr hops hk;have hgv:=hops g (by simp[ho,dY,dV]);rw[hg] at hgv;generalize hgc:a.eval g=cg at hgv
 cases hgv with|fn _ _ cs hl hh=>
 have hrun:(execOp a.eval o).run P w = .ok (.enter f ((args.toList.map a.eval ++ cs).toArray)) w:=by
  simp only[execOp,ho,resolve,hgc,Deferred.ofValue,dW,fI,dQ,invoke,callFunc,run_program,hf,hn,hb,fK,if_false];simp
 unfold Oper.wp;rw[hrun];refine(hcalls φ w _ hfr rr ?_).mono ?_;refine VRels.append ⟨by simp,?_⟩ ⟨hl,hh⟩;intro j x y hx hy;rw[fY,dS] at hx hy;obtain⟨q,hq,rfl⟩:=hx;obtain⟨q',hq',rfl⟩:=hy;rw[hq] at hq'; cases hq';refine hops q ?_;simp[ho,dY,dV];exact .inr (jR (by simpa using hq));rintro e w' ⟨v,φ',rfl,t,r',hv⟩;exact hk φ' v w' t r' hv
end Go.Am
