/-
  Layer 01: rooms that prove the ends of spans: contracts, of both.
  Conditions: none.
-/
import Derived.Test.YtgnogfjajnnaoaaGreatDoorSPk
import Derived.Test.YtgnogfjajnnaoaaGreatDoorSPb
open Go.Utf8 renaming decode → fD
open Int renaming toNat_natCast → fE
open List renaming getElem?_eq_getElem → dY, getD_eq_getElem?_getD → dW, set_cons_zero → dZ, set_cons_succ → fA, append_assoc → fI, eraseIdx_cons_succ → fB, getD_cons_succ → fC, perm_append_comm → fF, mem_map → fG, mem_of_getElem? → fH, map_cons → fJ, getElem?_map → fK, getElem?_eq_some_iff → fL, getElem_mem → fM, length_map → fP, eraseIdx_set_eq → fS, mem_iff_getElem → fT, mem_cons → fV, map_congr_left → fW, getElem?_set → fZ
open List.Perm renaming append_right → fU, append_left → fQ, refl → gI
open Nat renaming le_of_ble_eq_true → dX, zero_add → fO, lt_succ_iff_lt_or_eq → fN, pow_le_pow_right → fR, one_le_two_pow → fX, not_lt_zero → gE
open Option renaming getD_some → fY, map_some → gA
set_option maxRecDepth 99999
set_option maxHeartbeats 4000000
namespace Go.Am
theorem RG {h:AHeap} {rm:Int} {vW p3 p4 p12 p13:AV} {ws:List W} {s i:Nat} {g:Bool} (hv:Rd h vW 4 (flr wc ws)) (hB:BOk rm ws) (hs:s<64) (hi:i<ws.length) (hp3:AddrOf p3 p3 0 0) (hp4:AddrOf p4 p4 0 0) (hp12:AddrOf p12 p12 0 0) (hp13:AddrOf p13 p13 0 0) (h3:Rd h p3 0 [.int .i64 rm,vW]) (h4:Rd h p4 0 [.int .i64 (i:Int)]) (h12:Rd h p12 0 [.int .i64 (insI ws i g)]) (h13:Rd h p13 0 [.int .i64 (X5 ws i g)]):ACalls Go.Proofs.Tryz.prog 123 [.int .u8 (s:Int),p3,p4,p12,p13] h (fun q h'=>q = .bool (pB ws i g s)∧Keeps h h'):=by
 refine ON 27 [.tmp 6] Go.Proofs.Tryz.func123 rfl aD rfl rfl (dX rfl) ?_;have hS:=St.refl h;have hr6:=hB.r6;have hwi:=hB.way i hi;have hwf0:=hwi.f0;have hwf1:=hwi.f1;have hwt0:=hwi.t0;have hwt1:=hwi.t1;have hin : 0≤insI ws i g∧insI ws i g<6:=by
  unfold insI; cases g <;> simp only[if_true,if_false,Bool.false_eq_true] <;> omega
 show KA _ 27 _ _ [(0,.int .u8 (s:Int)),(1,p3),(2,p4),(3,p12),(4,p13)] _;refine Oa [0,1,2,3,4] ?_;refine Ov ?_;refine KOps.loadAgg (z:=2) hp3 (Rd.ext hS.keeps h3) aD aU ?_;refine Oc ?_;refine Oh hp4 (Rd.ext hS.keeps h4) rfl ?_;refine Ol rfl (says_c (i:=i) (Rd.ext hS.keeps hv) hB hs hi) ?_;rintro _ h5 ⟨rfl,hK⟩;have hS0:=St.trans hS (St.ofK hK);clear hS;have hS:=hS0;clear hS0;refine Oa [0,3,4,7,8] ?_;refine Od ?_;refine Oz (dj:=17) rfl rfl true false rfl ?_ ?_;intro g17;refine Od ?_;refine Oh hp12 (Rd.ext hS.keeps h12) rfl ?_;refine Oe (dj:=17) rfl rfl ?_;refine Ol rfl (YR aC aC aC) ?_;rintro _ _ ⟨rfl,rfl⟩;refine Od ?_;refine Oz (dj:=22) rfl rfl true false rfl ?_ ?_;intro g22;refine Od ?_;refine Oh hp13 (Rd.ext hS.keeps h13) rfl ?_;refine Oa [6] ?_;refine Oj ?_;refine⟨congrArg AV.bool ?_,hS.keeps⟩;rw[pB_is,g17,g22,if_pos rfl]; rfl;intro g22;refine Oa [6] ?_;refine Oj ?_;refine⟨congrArg AV.bool ?_,hS.keeps⟩;rw[pB_is,g17,g22]; rfl;intro g17;refine Oa [6] ?_;refine Oj ?_;refine⟨congrArg AV.bool ?_,hS.keeps⟩;rw[pB_is,g17]; rfl
theorem RH {h:AHeap} {rm i:Int} {vW:AV} {ws:List W} (hv:Rd h vW 4 (flr wc ws)) (hSz:Sizes h):ACalls Go.Proofs.Tryz.prog 87 [.agg [.int .i64 rm,vW],.int .i64 i,.bool true] h (fun q h'=>∃ vo,q = .tup [vo,.int .i64 (Zm rm ws i)]∧St h h' [⟨vo,1,ints (Kv rm ws i true),true⟩]):=by
 refine ON 47 [.tmp 6,.tmp 7] Go.Proofs.Tryz.func87 rfl aD rfl rfl (dX rfl) ?_;have hS:=St.refl h;have hvo:vW.one=true:=hv.one;show KA _ 47 _ _ [(0,.agg [.int .i64 rm,vW]),(1,.int .i64 i),(2,.bool true)] _;refine bx ?_;intro p3 h' hp3 hS;refine KOps.box hS (l:=[_]) rfl ?_;intro p4 h' hp4 hS;refine Oa [2,3,4] ?_;refine Ov ?_;refine Kt hS (i:=1) rfl hp3 aM aD ?_;refine O8 hS (i:=0) rfl hp4 ?_;refine Ol rfl (UO (Rd.ext hS.keeps hv)) ?_;rintro _ h5 ⟨rfl,hK⟩;replace hS:St _ _ (_::_::_):=St.trans hS (St.ofK hK);refine Oa [2,3,4,8,9,10] ?_;refine Oa [2,3,4,8,9,10,23] ?_;refine Kd ?_ ?_;intro c23;refine cV ?_;rw[Kv,if_neg c23];exact⟨_,rfl,St.pick [2] aD rfl (St.addNil 1 true hS)⟩
 ·intro c23;obtain⟨he,hi0,hi1⟩:=US c23;have hB:=(XZ he).1;have hx:=(XZ he).2;obtain⟨r,rfl⟩:∃ r:Nat,rm=(r:Int):=⟨rm.toNat,by have:=hB.r2; omega⟩;obtain⟨j,rfl⟩:∃ j:Nat,i=(j:Int):=⟨i.toNat,by omega⟩;rw[if_pos c23,if_pos c23,fE];have hr6:=hB.r6;have hwl:=hB.len;have hpw : 2 ^ r≤2 ^ 6:=fR aD aA;have h1p : 1≤2 ^ r:=fX;have hsh:=shl64 r aA;have hj:j<ws.length:=by omega
  refine OC [2,3,4,8,9] ?_;refine Ov ?_;refine Ob hp3 ?_;intro p25 hp25;refine Oh hp25 (hS.rd 1 rfl) rfl ?_;refine O8 hS (i:=0) rfl hp4 ?_;refine QJ KZ (Rd.ext hS.keeps hv) (j:=j) aC aC ?_;intro p28 hp28;refine QL KZ aD hp28 (Rd.ext hS.keeps hv) aC ?_;refine Ky hS ?_;intro p11 h' hp11 hS;refine KC hS rfl (i:=0) rfl hp11 aF aM aM aD ?_;intro h' hS;simp only[dZ,fA,fO] at hS;refine Oo [2,3,4,8,9,11] ?_;refine Ox ?_;refine KA.drawS2 (c:=7) (r:=4) (t:=3) (a:=33) (d:=34) [] mixed rfl rfl rfl aE rfl rfl rfl aD aD aE ?_;refine Ob hp11 ?_;intro p30 hp30;refine Oh hp30 (hS.rd 0 rfl) rfl ?_;refine Oc ?_;refine Ob hp11 ?_;intro p33 hp33;refine Oh hp33 (hS.rd 0 rfl) rfl ?_;refine Ky hS ?_;intro p12 h' hp12 hS;refine Ky hS ?_;intro p13 h' hp13 hS;refine Qc hS rfl (i:=1) rfl hp12 aH ?_;intro h' hS;simp only[dZ,fA,fO] at hS;refine Xe rfl rfl hp33 (hS.rd 2 rfl) rfl ?_;refine Qc hS rfl (i:=0) rfl hp13 aH ?_;intro h' hS;simp only[dZ,fA,fO] at hS;refine Xe rfl rfl hp33 (hS.rd 2 rfl) rfl ?_;refine Oa [2,3,4,9,11,12,13,14] ?_;refine Oa [3,4,9,11,12,13,14,35] ?_;refine KQ ?_;refine KA.drawS2 (c:=5) (r:=4) (t:=3) (a:=39) (d:=40) [] mixed rfl rfl rfl aE rfl rfl rfl aD aD aE ?_;refine Ob hp11 ?_;intro p36 hp36;refine Oh hp36 (hS.rd 2 rfl) rfl ?_;refine Oc ?_;refine Ob hp11 ?_;intro p39 hp39;refine Oh hp39 (hS.rd 2 rfl) rfl ?_;refine Qc hS rfl (i:=1) rfl hp12 aH ?_;intro h' hS;simp only[dZ,fA,fO] at hS;refine Xe rfl rfl hp39 (hS.rd 2 rfl) rfl ?_;refine Qc hS rfl (i:=0) rfl hp13 aH ?_;intro h' hS;simp only[dZ,fA,fO] at hS;refine Xe rfl rfl hp39 (hS.rd 2 rfl) rfl ?_;refine Oa [3,4,12,13,14] ?_;refine cK ?_;refine O8 hS (i:=0) rfl hp13 ?_;refine Oa [3,4,12,13,43] ?_;refine Om ?_ ?_;intro c43;have hend:X5 ws j true=Vq ws j true:=c43;refine cV ?_;rw[Kv,if_pos c23,fE,if_pos hend,c23];exact⟨_,rfl,St.pick [5] aD rfl (St.addNil 1 true hS)⟩;intro c43;have hend:¬ X5 ws j true=Vq ws j true:=c43;refine OC [3,4,12,13] ?_;refine Ov ?_;refine Kt hS (i:=4) rfl hp3 aM aD ?_;refine ZI ?_;refine Ol rfl (RR (r:=r) (p:=pB ws j true) (vi:=.fn 123 [p3,p4,p12,p13]) (Rd.ext hS.keeps hv) aA (hSz.ext hS.keeps) rfl (fun h' s hK hs=>ACalls.mono (RG (s:=s) (i:=j) (g:=true) (Rd.ext (hS.keeps.trans hK) hv) hB aA hj hp3 hp4 hp12 hp13 (Rd.ext hK (hS.rd 4 rfl)) (Rd.ext hK (hS.rd 3 rfl)) (Rd.ext hK (hS.rd 1 rfl)) (Rd.ext hK (hS.rd 0 rfl))) (fun _ _ hx=>hx))) ?_;rintro vo h6 hF;refine cV ?_;rw[Kv,if_pos c23,fE,if_neg hend,c23,fE];exact⟨_,rfl,St.pick [0] aD rfl (St.trans hS hF)⟩
theorem Rj {h:AHeap} {rm i:Int} {vW:AV} {ws:List W} (hv:Rd h vW 4 (flr wc ws)) (hSz:Sizes h):ACalls Go.Proofs.Tryz.prog 87 [.agg [.int .i64 rm,vW],.int .i64 i,.bool false] h (fun q h'=>∃ vo,q = .tup [vo,.int .i64 (Zm rm ws i)]∧St h h' [⟨vo,1,ints (Kv rm ws i false),true⟩]):=by
 refine ON 47 [.tmp 6,.tmp 7] Go.Proofs.Tryz.func87 rfl aD rfl rfl (dX rfl) ?_;have hS:=St.refl h;have hvo:vW.one=true:=hv.one;show KA _ 47 _ _ [(0,.agg [.int .i64 rm,vW]),(1,.int .i64 i),(2,.bool false)] _;refine bx ?_;intro p3 h' hp3 hS;refine KOps.box hS (l:=[_]) rfl ?_;intro p4 h' hp4 hS;refine Oa [2,3,4] ?_;refine Ov ?_;refine Kt hS (i:=1) rfl hp3 aM aD ?_;refine O8 hS (i:=0) rfl hp4 ?_;refine Ol rfl (UO (Rd.ext hS.keeps hv)) ?_;rintro _ h5 ⟨rfl,hK⟩;replace hS:St _ _ (_::_::_):=St.trans hS (St.ofK hK);refine Oa [2,3,4,8,9,10] ?_;refine Oa [2,3,4,8,9,10,23] ?_;refine Kd ?_ ?_;intro c23;refine cV ?_;rw[Kv,if_neg c23];exact⟨_,rfl,St.pick [2] aD rfl (St.addNil 1 true hS)⟩
 ·intro c23;obtain⟨he,hi0,hi1⟩:=US c23;have hB:=(XZ he).1;have hx:=(XZ he).2;obtain⟨r,rfl⟩:∃ r:Nat,rm=(r:Int):=⟨rm.toNat,by have:=hB.r2; omega⟩;obtain⟨j,rfl⟩:∃ j:Nat,i=(j:Int):=⟨i.toNat,by omega⟩;rw[if_pos c23,if_pos c23,fE];have hr6:=hB.r6;have hwl:=hB.len;have hpw : 2 ^ r≤2 ^ 6:=fR aD aA;have h1p : 1≤2 ^ r:=fX;have hsh:=shl64 r aA;have hj:j<ws.length:=by omega
  refine OC [2,3,4,8,9] ?_;refine Ov ?_;refine Ob hp3 ?_;intro p25 hp25;refine Oh hp25 (hS.rd 1 rfl) rfl ?_;refine O8 hS (i:=0) rfl hp4 ?_;refine QJ KZ (Rd.ext hS.keeps hv) (j:=j) aC aC ?_;intro p28 hp28;refine QL KZ aD hp28 (Rd.ext hS.keeps hv) aC ?_;refine Ky hS ?_;intro p11 h' hp11 hS;refine KC hS rfl (i:=0) rfl hp11 aF aM aM aD ?_;intro h' hS;simp only[dZ,fA,fO] at hS;refine Oo [2,3,4,8,9,11] ?_;refine Ox ?_;refine KA.drawS2 (c:=7) (r:=4) (t:=3) (a:=33) (d:=34) [] mixed rfl rfl rfl aE rfl rfl rfl aD aD aE ?_;refine Ob hp11 ?_;intro p30 hp30;refine Oh hp30 (hS.rd 0 rfl) rfl ?_;refine Oc ?_;refine Ob hp11 ?_;intro p33 hp33;refine Oh hp33 (hS.rd 0 rfl) rfl ?_;refine Ky hS ?_;intro p12 h' hp12 hS;refine Ky hS ?_;intro p13 h' hp13 hS;refine Qc hS rfl (i:=1) rfl hp12 aH ?_;intro h' hS;simp only[dZ,fA,fO] at hS;refine Xe rfl rfl hp33 (hS.rd 2 rfl) rfl ?_;refine Qc hS rfl (i:=0) rfl hp13 aH ?_;intro h' hS;simp only[dZ,fA,fO] at hS;refine Xe rfl rfl hp33 (hS.rd 2 rfl) rfl ?_;refine Oa [2,3,4,9,11,12,13,14] ?_;refine Oa [3,4,9,11,12,13,14,35] ?_;refine OP ?_;refine OC [3,4,12,13,14] ?_;refine cK ?_;refine O8 hS (i:=0) rfl hp13 ?_;refine Oa [3,4,12,13,43] ?_;refine Om ?_ ?_;intro c43;have hend:X5 ws j false=Vq ws j false:=c43;refine cV ?_;rw[Kv,if_pos c23,fE,if_pos hend,c23];exact⟨_,rfl,St.pick [5] aD rfl (St.addNil 1 true hS)⟩;intro c43;have hend:¬ X5 ws j false=Vq ws j false:=c43;refine OC [3,4,12,13] ?_;refine Ov ?_;refine Kt hS (i:=4) rfl hp3 aM aD ?_;refine ZI ?_;refine Ol rfl (RR (r:=r) (p:=pB ws j false) (vi:=.fn 123 [p3,p4,p12,p13]) (Rd.ext hS.keeps hv) aA (hSz.ext hS.keeps) rfl (fun h' s hK hs=>ACalls.mono (RG (s:=s) (i:=j) (g:=false) (Rd.ext (hS.keeps.trans hK) hv) hB aA hj hp3 hp4 hp12 hp13 (Rd.ext hK (hS.rd 4 rfl)) (Rd.ext hK (hS.rd 3 rfl)) (Rd.ext hK (hS.rd 1 rfl)) (Rd.ext hK (hS.rd 0 rfl))) (fun _ _ hx=>hx))) ?_;rintro vo h6 hF;refine cV ?_;rw[Kv,if_pos c23,fE,if_neg hend,c23,fE];exact⟨_,rfl,St.pick [0] aD rfl (St.trans hS hF)⟩
end Go.Am
namespace Go.Am
theorem Row.nil (h:AHeap):Row h .nils []:=.inl ⟨rfl,rfl⟩
theorem bound_c {h:AHeap} {rm i:Int} {vW:AV} {ws:List W} (hv:Rd h vW 4 (flr wc ws)) (hSz:Sizes h) (g:Bool):ACalls Go.Proofs.Tryz.prog 87 [.agg [.int .i64 rm,vW],.int .i64 i,.bool g] h (fun q h'=>∃ vo,q = .tup [vo,.int .i64 (Zm rm ws i)]∧St h h' [⟨vo,1,ints (Kv rm ws i g),true⟩]):=by
 cases g;exact Rj hv hSz;exact RH hv hSz
end Go.Am
namespace Go.Am
def O2 {κ : Type} [DecidableEq κ] : List κ → κ → Nat
  | [],_=>0
  | a::l,k=>if k=a then 0 else O2 l k+1
theorem YC {κ:Type} [DecidableEq κ]:∀ {l:List κ} {k : κ},k∈l→O2 l k<l.length:=by
 intro l
 induction l with
 | nil=>intro k h; cases h
 | cons a l ih=>
  intro k h;simp only[O2,List.length_cons];split;omega;rename_i hne;have:=ih ((fV.1 h).resolve_left hne);omega
theorem Vl {κ:Type} [DecidableEq κ]:∀ {l:List κ} {k : κ},k∈l→l[O2 l k]? = some k:=by
 intro l
 induction l with
 | nil=>intro k h; cases h
 | cons a l ih=>
  intro k h;simp only[O2];split;rename_i he; rw[he]; rfl;rename_i hne;exact ih ((fV.1 h).resolve_left hne)
structure Lane where
  pl:Nat
  fr:Nat
  to:Nat
  told:Option Int
  top:Option Int
  packs:List Int
  paid:Bool
instance:Inhabited Lane:=⟨⟨0,0,0,none,none,[],false⟩⟩
def Lane.lo (l:Lane):Int:=if l.paid then l.told.getD 0 else match l.told with
  | some n=>max (l.packs.length:Int) n
  | none=>l.packs.length
def Lane.hi (l:Lane):Int:=if l.paid then l.told.getD 0 else l.top.getD 99
structure Off where
  rooms:List Str
  ways:List (Str × Lane)
  packs:List (Int × (Str × Int))
  ever:List Int
  claims:List Str
def VT:Off:=⟨[],[],[],[],[]⟩
def Off.ws (o:Off):List W:=o.ways.map fun p=>⟨p.2.fr,p.2.to,p.2.lo,p.2.hi⟩
def Off.rm (o:Off):Int:=o.rooms.length
inductive Tell where
  | room (r:Str)
  | way (w f t:Str)
  | bound (w:Str) (n:Int) (most:Bool)
  | pack (p:Int) (w:Str)
  | move (p s:Int)
  | claim (w:Str) (n:Int)
  | free (w:Str)
def chB (n:Int) (most:Bool) (l:Lane):Lane:=if most then {l with top:=some n} else {l with told:=some n}
def chP (p:Int) (l:Lane):Lane:={l with packs:=l.packs ++ [p]}
def Qh (l:List (Str × Lane)) (w:Str) (f:Lane→Lane):List (Str × Lane):=l.map fun p=>if p.1=w then (p.1,f p.2) else p
def Off.mod (o:Off) (w:Str) (f:Lane→Lane):Off:={o with ways:=Qh o.ways w f}
def Off.tries (o:Off) (w:Str) (f:Lane→Lane) (l:Lane):Int:=
  if (f l).hi<(f l).lo then 15 else if X2 o.rm (o.mod w f).ws then 0 else 13
noncomputable def Off.spLo (o:Off) (i:Nat):Int:=if Zm o.rm o.ws i=0 then YD o.ws i else 0
noncomputable def Off.spHi (o:Off) (i:Nat):Int:=if Zm o.rm o.ws i=0 then YX o.ws i else 0
noncomputable def Off.wrong (o : Off) : Tell → Int
  | .room r=>if r∈o.rooms then 6 else if o.rooms.length=6 then 3 else 0
  | .way w f t=>if (Ou o.ways w).isSome then 6 else if f ∉ o.rooms∨t ∉ o.rooms then 2 else if f=t then 13 else if o.ways.length=12 then 3 else 0
  | .bound w n most=>match Ou o.ways w with
    | none=>2
    | some l=>if l.paid then 20 else o.tries w (chB n most) l
  | .pack p w=>if p∈o.ever then 6 else match Ou o.ways w with
    | none=>2
    | some l=>if o.packs.length=20 then 3 else if l.hi≤l.packs.length then 15 else o.tries w (chP p) l
  | .move p s=>match Ou o.packs p with
    | none=>2
    | some d=>if (s=2∨s=0)∧d.2≠1 then 20 else if s=3∧d.2≠2∨s=1∧d.2≠3 then 21 else 0
  | .claim w n=>match Ou o.ways w with
    | none=>2
    | some l=>if l.paid then 20 else if n<o.spLo l.pl∨o.spHi l.pl<n then 14 else if o.spLo l.pl<o.spHi l.pl then 21 else 0
  | .free w=>match Ou o.ways w with
    | none=>2
    | some l=>if l.paid then 20 else 0
def Off.tell (o : Off) : Tell → Off
  | .room r=>{o with rooms:=o.rooms ++ [r]}
  | .way w f t=>{o with ways:=o.ways ++ [(w,⟨o.ways.length,O2 o.rooms f,O2 o.rooms t,none,none,[],false⟩)]}
  | .bound w n most=>o.mod w (chB n most)
  | .pack p w=>{o.mod w (chP p) with packs:=o.packs ++ [(p,(w,1))],ever:=o.ever ++ [p]}
  | .move p s=>match Ou o.packs p with
    | none=>o
    | some d=>if s=0 then {o.mod d.1 (fun l=>{l with packs:=l.packs.filter fun q=>!decide (q=p)}) with packs:=XQ o.packs p} else {o with packs:=Ke o.packs p (d.1,s)}
  | .claim w n=>{o.mod w (fun l=>{l with paid:=true,told:=some n}) with claims:=o.claims ++ [w]}
  | .free w=>o.mod w (fun l=>{l with told:=none,top:=none})
def OO (c : UInt8) : Str → List Str
  | []=>[[]]
  | x::l=>if x=c then []::OO c l else match OO c l with
    | w::ws=>(x::w)::ws
    | []=>[[x]]
def Qb (l:Str):Int:=l.foldl (fun n c=>10*n+((c.toNat:Int) - 48)) 0
def KY (l:Str) (most:Nat):Bool:=decide (l≠[]) && decide (l.length≤most) && (decide (l.length=1) || !decide (l.head? = some 48)) && l.all fun c=>decide (48≤c.toNat∧c.toNat≤57)
def Ze (l:Str):Bool:=decide (l≠[]) && decide (l.length≤12) && l.all fun c=>decide (97≤c.toNat∧c.toNat≤122)
def OR:Str:=[114,111,111,109]
def O3:Str:=[119,97,121]
def OI:Str:=[108,101,97,115,116]
def OS:Str:=[109,111,115,116]
def OQ:Str:=[112,97,99,107]
def OV:Str:=[115,101,97,108]
def OW:Str:=[100,101,97,108]
def OX:Str:=[98,97,99,107]
def OZ:Str:=[98,117,114,110]
def OK:Str:=[99,108,97,105,109]
def O5:Str:=[102,114,101,101]
def OU (k:Str):Str:=if k=OR∨k=O5 then [119] else if k=O3 then [119,119,119] else if k=OI∨k=OS∨k=OK then [119,110] else if k=OQ then [112,119] else if k=OV∨k=OW∨k=OX∨k=OZ then [112] else []
def Kp (c:UInt8) (w:Str):Int:=if c=119 then (if Ze w then 0 else 10) else if KY w 3 then 0 else 9
def Kz (c:UInt8) (w:Str):Bool:=(decide (c=112) && decide (Qb w=0)) || (decide (c=110) && decide (99<Qb w))
def KX : Str → List Str → Int
  | c::f,w::l=>if Kp c w=0 then KX f l else Kp c w
  | _,_=>0
def Vj : Str → List Str → Bool
  | c::f,w::l=>Kz c w || Vj f l
  | _,_=>false
def Vo : Str → List Str → Int → Int
  | c::f,w::l,n=>Vo f l (if c=119 then n else Qb w)
  | _,_,n=>n
def QH (l:List Str) (n:Int):Tell:=
  let k:=l.getD 0 []
  if k=OR then .room (l.getD 1 []) else if k=O3 then .way (l.getD 1 []) (l.getD 2 []) (l.getD 3 []) else if k=OI∨k=OS then .bound (l.getD 1 []) n (decide (k=OS))
  else if k=OQ then .pack n (l.getD 2 []) else if k=OV then .move n 2 else if k=OW then .move n 3 else if k=OX then .move n 1 else if k=OZ then .move n 0 else if k=OK then .claim (l.getD 1 []) n else .free (l.getD 1 [])
def KH (line:Str):Int:=
  let l:=OO 32 line
  let f:=OU (l.getD 0 [])
  if 40<line.length then 19 else if []∈l∨(line.any fun c=>decide (c.toNat<32∨126<c.toNat)) then 9 else if f = [] then 8 else if l.length≠f.length+1 then 5
  else if KX f (l.drop 1)≠0 then KX f (l.drop 1) else if Vj f (l.drop 1) then 1 else 0
def KU (line:Str):Tell:=
  let l:=OO 32 line
  QH l (Vo (OU (l.getD 0 [])) (l.drop 1) 0)
def after (lines:List Str):Off:=lines.foldl (fun o x=>o.tell (KU x)) VT
noncomputable def O7 (lines:List Str) (line:Str):Int:=
  let e:=if KH line=0 then (after lines).wrong (KU line) else KH line
  if e=0∧lines.length=100 then 16 else e
noncomputable def doL (lines:List Str) (line:Str):List Str:=if O7 lines line=0 then lines ++ [line] else lines
inductive Done:List Str→Prop where
  | nil:Done []
  | snoc {lines:List Str} {line:Str} (h:Done lines) (he:O7 lines line=0):Done (lines ++ [line])
theorem Zx (lines:List Str) (x:Str):after (lines ++ [x])=(after lines).tell (KU x):=by simp[after]
end Go.Am
namespace Go.Am
structure LA where
  p:AV
  told:AV
  top:AV
  packs:AV
  t1:Bool
  t2:Bool
  t3:Bool
instance:Inhabited LA:=⟨⟨.nilp,.nils,.nils,.nils,false,false,false⟩⟩
def lcells (a:LA) (l:Lane):List AV:=[.int .i64 (l.pl:Int),.int .i64 (l.fr:Int),.int .i64 (l.to:Int),a.told,a.top,a.packs,.bool l.paid]
def lobj (a:LA) (l:Lane):Obj:=⟨a.p,0,lcells a l,true⟩
def toldO (a:LA) (l:Lane):Obj:=⟨a.told,1,ints l.told.toList,a.t1⟩
def topO (a:LA) (l:Lane):Obj:=⟨a.top,1,ints l.top.toList,a.t2⟩
def We (a:LA) (l:Lane):Obj:=⟨a.packs,1,ints l.packs,a.t3⟩
def K4 (a:LA) (l:Lane):List Obj:=[lobj a l,toldO a l,topO a l,We a l]
def KT : List LA → List (Str × Lane) → List Obj
  | a::la,p::ws=>K4 a p.2 ++ KT la ws
  | _,_=>[]
structure LOk (a:LA) (l:Lane):Prop where
  ad:AddrOf a.p a.p 0 0
  told:l.told=none→a.told = .nils
  top:l.top=none→a.top = .nils
structure RLane (h:AHeap) (a:LA) (l:Lane):Prop where
  ok:LOk a l
  rd:Rd h a.p 0 (lcells a l)
  rtold:Row h a.told l.told.toList
  rtop:Row h a.top l.top.toList
  rpacks:Row h a.packs l.packs
theorem RLane.ext {h h':AHeap} {a:LA} {l:Lane} (r:RLane h a l) (k:Keeps h h'):RLane h' a l:=⟨r.ok,r.rd.ext k,r.rtold.ext k,r.rtop.ext k,r.rpacks.ext k⟩
theorem St.rlane {h0 h:AHeap} {a:LA} {l:Lane} {G:List Obj} (st:St h0 h (K4 a l ++ G)) (ok:LOk a l):RLane h a l:=
  ⟨ok,st.rd 0 rfl,st.rd 1 rfl,st.rd 2 rfl,st.rd 3 rfl⟩
structure OA where
  po:AV
  vr:AV
  vn:AV
  vw:AV
  vp:AV
  ve:AV
  vc:AV
  la:List LA
  da:List AV
def Qj : List AV → List (Int × (Str × Int)) → List Obj
  | a::da,p::ps=>⟨a,0,[.str (wd p.2.1),.int .i64 p.2.2],true⟩::Qj da ps
  | _,_=>[]
def Zn (la:List LA) (ws:List (Str × Lane)):List (Str × AV):=(ws.map (·.1)).zip (la.map (·.p))
def Qf (da:List AV) (ps:List (Int × (Str × Int))):List (Int × AV):=(ps.map (·.1)).zip da
abbrev kint (i:Int):AV:=.int .i64 i
abbrev idV (v:AV):AV:=v
def Xm (A:OA) (O:Off):List Obj:=
  ⟨A.po,0,[A.vr,A.vn,A.vw,A.vp,A.ve,A.vc],true⟩::⟨A.vr,1,wcs O.rooms,true⟩::⟨A.vn,1,wcs (O.ways.map (·.1)),true⟩::dmapO A.vw (entL kstr idV (Zn A.la O.ways)) ::
  dmapO A.vp (entL kint idV (Qf A.da O.packs))::dmapO A.ve (entL kint AV.bool (O.ever.map fun x=>(x,true)))::⟨A.vc,1,wcs O.claims,true⟩ :: []
def Ko (A:OA) (O:Off):List Obj:=Xm A O ++ (KT A.la O.ways ++ Qj A.da O.packs)
structure AOk (A:OA) (O:Off):Prop where
  po:AddrOf A.po A.po 0 0
  vw:Zq A.vw
  vp:Zq A.vp
  ve:Zq A.ve
  ll:A.la.length=O.ways.length
  lok:∀ i,i<O.ways.length→LOk (A.la.getD i default) (O.ways.getD i default).2
  dl:A.da.length=O.packs.length
  dok:∀ i,i<O.packs.length→AddrOf (A.da.getD i .bot) (A.da.getD i .bot) 0 0
theorem U7 (a:LA) (la:List LA) (p:Str × Lane) (ws:List (Str × Lane)):KT (a::la) (p::ws)=K4 a p.2 ++ KT la ws:=rfl
theorem VR:∀ (la:List LA) (ws:List (Str × Lane)) (i:Nat),la.length=ws.length→i<ws.length→(KT la ws).Perm (K4 (la.getD i default) (ws.getD i default).2 ++ KT (la.eraseIdx i) (ws.eraseIdx i)):=by
 intro la
 induction la with
 | nil=>intro ws i hl hi; simp at hl; omega
 | cons a la ih=>
  intro ws i hl hi
  cases ws with
  | nil=>simp at hi
  | cons p ws=>
   cases i with
   | zero=>exact gI _
   | succ i=>
    have:=ih ws i al ah;rw[U7,fC,fC,fB,fB,U7];refine(fQ _ this).trans ?_;rw[←fI,←fI];exact fU _ fF
theorem Rm (la:List LA) (ws:List (Str × Lane)) (i:Nat) (hl:la.length=ws.length) (hi:i<ws.length) (a:LA) (p:Str × Lane):(K4 a p.2 ++ KT (la.eraseIdx i) (ws.eraseIdx i)).Perm (KT (la.set i a) (ws.set i p)):=by
 have:=VR (la.set i a) (ws.set i p) i bE ah;rw[dW,dW,fZ,fZ,if_pos rfl,if_pos rfl,if_pos aA,if_pos hi,fY,fY] at this;have e1:(la.set i a).eraseIdx i=la.eraseIdx i:=fS;have e2:(ws.set i p).eraseIdx i=ws.eraseIdx i:=fS;rw[e1,e2] at this;exact this.symm
theorem UZ (a:AV) (da:List AV) (p:Int × (Str × Int)) (ps:List (Int × (Str × Int))):Qj (a::da) (p::ps)=⟨a,0,[.str (wd p.2.1),.int .i64 p.2.2],true⟩::Qj da ps:=rfl
theorem UY:∀ (da:List AV) (ps:List (Int × (Str × Int))) (i:Nat),da.length=ps.length→i<ps.length→(Qj da ps).Perm (⟨da.getD i .bot,0,[.str (wd (ps.getD i default).2.1),.int .i64 (ps.getD i default).2.2],true⟩::Qj (da.eraseIdx i) (ps.eraseIdx i)):=by
 intro da
 induction da with
 | nil=>intro ps i hl hi; simp at hl; omega
 | cons a da ih=>
  intro ps i hl hi
  cases ps with
  | nil=>simp at hi
  | cons p ps=>
   cases i with
   | zero=>exact gI _
   | succ i=>
    have:=ih ps i al ah;rw[UZ,fC,fC,fB,fB,UZ];exact(List.Perm.cons _ this).trans (List.Perm.swap _ _ _)
theorem R1 {κ ν:Type} [DecidableEq κ]:∀ (ks:List κ) (vs:List ν) (k : κ),ks.length=vs.length→Ou (ks.zip vs) k=if k∈ks then vs[O2 ks k]? else none:=by
 intro ks
 induction ks with
 | nil=>intro vs k _; simp[Ou]
 | cons a ks ih=>
  intro vs k hl
  cases vs with
  | nil=>simp at hl
  | cons v vs=>
   simp only[List.zip_cons_cons,Ou,O2];by_cases h:k=a;rw[if_pos h,if_pos h,if_pos (by simp[h])];rfl;rw[if_neg h,if_neg h,ih vs k al];by_cases hm:k∈ks;rw[if_pos hm,if_pos (by simp[hm])];rfl;rw[if_neg hm,if_neg (by simp[h,hm])]
theorem Ji {κ ν:Type} [DecidableEq κ]:∀ (l:List (κ × ν)) (k : κ),Ou l k=if k∈l.map (·.1) then (l[O2 (l.map (·.1)) k]?).map (·.2) else none:=by
 intro l
 induction l with
 | nil=>intro k; rfl
 | cons a l ih=>
  intro k;simp only[fJ,Ou,O2];by_cases h:k=a.1;rw[if_pos h,if_pos h,if_pos (by simp[h])];rfl;rw[if_neg h,if_neg h,ih k];by_cases hm:k∈l.map (·.1);rw[if_pos hm,if_pos (List.mem_cons_of_mem _ hm)];rfl;rw[if_neg hm,if_neg (fun hc=>(fV.1 hc).elim h hm)]
theorem YE {κ ν:Type} [DecidableEq κ] {l:List (κ × ν)} {k : κ} {v : ν} (h:Ou l k=some v):∃ i,i<l.length∧l[i]? = some (k,v)∧i=O2 (l.map (·.1)) k:=by
 rw[Ji] at h;split at h;rename_i hm;have hlt:O2 (l.map (·.1)) k<l.length:=by have:=YC hm; rwa [fP] at this
 have hg:=Vl hm;rw[fK,dY hlt,gA,Option.some.injEq] at hg;rw[dY hlt,gA,Option.some.injEq] at h;exact⟨_,hlt,by rw[dY hlt]; exact congrArg some (Prod.ext hg h),rfl⟩;cases h
theorem Jj {κ ν:Type} [DecidableEq κ] {l:List (κ × ν)} {k : κ} (h:Ou l k=none):k ∉ l.map (·.1):=by
 intro hm;have hlt:O2 (l.map (·.1)) k<l.length:=by have:=YC hm; rwa [fP] at this
 rw[Ji,if_pos hm,dY hlt] at h;cases h
theorem Tg {la:List LA} {ws:List (Str × Lane)} (hl:la.length=ws.length) {w:Str}:(Ou ws w=none→Ou (Zn la ws) w=none)∧∀ i l,i=O2 (ws.map (·.1)) w→ws[i]? = some (w,l)→Ou (Zn la ws) w=some (la.getD i default).p:=by
 have hz:=R1 (ws.map (·.1)) (la.map (·.p)) w bE;refine⟨fun h=>?_,fun i l hi h=>?_⟩;rw[Zn,hz,if_neg (Jj h)];have hlt:=(fL.1 h).1;have hm:w∈ws.map (·.1):=fG.2 ⟨_,fH h,rfl⟩;rw[Zn,hz,if_pos hm,←hi,fK,dW,dY (show i<la.length by omega)];rfl
theorem packE_get {da:List AV} {ps:List (Int × (Str × Int))} (hl:da.length=ps.length) {p:Int}:(Ou ps p=none→Ou (Qf da ps) p=none)∧∀ i d,i=O2 (ps.map (·.1)) p→ps[i]? = some (p,d)→Ou (Qf da ps) p=some (da.getD i .bot):=by
 have hz:=R1 (ps.map (·.1)) da p bE;refine⟨fun h=>?_,fun i l hi h=>?_⟩;rw[Qf,hz,if_neg (Jj h)];have hlt:=(fL.1 h).1;have hm:p∈ps.map (·.1):=fG.2 ⟨_,fH h,rfl⟩;rw[Qf,hz,if_pos hm,←hi,dW,dY (show i<da.length by omega)];rfl
theorem YF:∀ {ws:List (Str × Lane)} {i:Nat} {w:Str} {l:Lane} (f:Lane→Lane),(ws.map (·.1)).Nodup→ws[i]? = some (w,l)→Qh ws w f=ws.set i (w,f l):=by
 intro ws
 induction ws with
 | nil=>intro i w l f _ h; simp at h
 | cons p ws ih=>
  intro i w l f hn h;rw[fJ,List.nodup_cons] at hn;have key:p.1 ∉ ws.map (·.1)→Qh ws p.1 f=ws:=by
   intro hp;unfold Qh;refine(fW fun q hq=>?_).trans (List.map_id ws);rw[if_neg (fun e=>hp (fG.2 ⟨q,hq,e⟩))];rfl
  cases i with
  | zero=>
   cases h;simp only[Qh,fJ,if_true,dZ];exact congrArg _ (key hn.1)
  | succ i=>
   have h':ws[i]? = some (w,l):=h;have hne:p.1≠w:=fun e=>hn.1 (fG.2 ⟨_,fH h',e.symm⟩)
   simp only[Qh,fJ,if_neg hne,fA];exact congrArg _ (ih f hn.2 h')
theorem Qw (ws:List (Str × Lane)) (w:Str) (f:Lane→Lane):(Qh ws w f).map (·.1)=ws.map (·.1):=by
 rw[Qh,List.map_map];refine fW fun q _=>?_
 simp only[Function.comp_apply];split <;> rfl
theorem Vm (ws:List (Str × Lane)) (w:Str) (f:Lane→Lane):(Qh ws w f).length=ws.length:=fP _
structure ROff (h:AHeap) (A:OA) (O:Off):Prop where
  ok:AOk A O
  off:Rd h A.po 0 [A.vr,A.vn,A.vw,A.vp,A.ve,A.vc]
  rooms:WRow h A.vr O.rooms
  names:WRow h A.vn (O.ways.map (·.1))
  ways:RdD h A.vw (entL kstr idV (Zn A.la O.ways))
  packs:RdD h A.vp (entL kint idV (Qf A.da O.packs))
  ever:RdD h A.ve (entL kint AV.bool (O.ever.map fun x=>(x,true)))
  claims:WRow h A.vc O.claims
  lane:∀ i,i<O.ways.length→RLane h (A.la.getD i default) (O.ways.getD i default).2
  deck:∀ i,i<O.packs.length→Rd h (A.da.getD i .bot) 0 [.str (wd (O.packs.getD i default).2.1),.int .i64 (O.packs.getD i default).2.2]
theorem ROff.ext {h h':AHeap} {A:OA} {O:Off} (r:ROff h A O) (k:Keeps h h'):ROff h' A O:=
  ⟨r.ok,r.off.ext k,r.rooms.ext k,r.names.ext k,r.ways.ext k,r.packs.ext k,r.ever.ext k,r.claims.ext k,fun i hi=>(r.lane i hi).ext k,fun i hi=>(r.deck i hi).ext k⟩
theorem St.roff {h0 h:AHeap} {A:OA} {O:Off} {G:List Obj} (st:St h0 h (Ko A O ++ G)) (ok:AOk A O):ROff h A O:=by
 refine⟨ok,st.rd 0 rfl,st.rd 1 rfl,st.rd 2 rfl,st.rdD 3 rfl ok.vw,st.rdD 4 rfl ok.vp,st.rdD 5 rfl ok.ve,st.rd 6 rfl,?_,?_⟩;intro i hi;have hp:(Ko A O ++ G).Perm (K4 (A.la.getD i default) (O.ways.getD i default).2 ++ (Xm A O ++ (KT (A.la.eraseIdx i) (O.ways.eraseIdx i) ++ Qj A.da O.packs) ++ G)):=by
  unfold Ko;have h1:=VR A.la O.ways i ok.ll hi;have h2:(Xm A O ++ (KT A.la O.ways ++ Qj A.da O.packs)).Perm (K4 (A.la.getD i default) (O.ways.getD i default).2 ++ (Xm A O ++ (KT (A.la.eraseIdx i) (O.ways.eraseIdx i) ++ Qj A.da O.packs))):=by
   refine(fQ _ (fU _ h1)).trans ?_;rw[fI,←fI,←fI (K4 _ _)];exact fU _ fF
  rw[←fI];exact fU _ h2
 exact(St.perm hp st).rlane (ok.lok i hi);intro i hi;have h1:=UY A.da O.packs i ok.dl hi;have hp:(Ko A O ++ G).Perm ((⟨A.da.getD i .bot,0,[.str (wd (O.packs.getD i default).2.1),.int .i64 (O.packs.getD i default).2.2],true⟩::Qj (A.da.eraseIdx i) (O.packs.eraseIdx i)) ++ (Xm A O ++ KT A.la O.ways ++ G)):=by
  unfold Ko;have h2:(Xm A O ++ (KT A.la O.ways ++ Qj A.da O.packs)).Perm (Qj A.da O.packs ++ (Xm A O ++ KT A.la O.ways)):=by
   rw[←fI];exact fF
  refine(fU G h2).trans ?_;rw[fI];exact fU _ h1
 exact(St.perm hp st).rd 0 rfl
structure WF (O:Off):Prop where
  nd:(O.ways.map (·.1)).Nodup
  paid:∀ p∈O.ways,p.2.paid=true→p.2.told.isSome=true
  pl:∀ i,i<O.ways.length→(O.ways.getD i default).2.pl=i
  rooms:O.rooms.length≤6
  ways:O.ways.length≤12
  packs:O.packs.length≤20
  lp:∀ p∈O.ways,p.2.packs.length≤99
  ever:O.ever.length≤100
  claims:O.claims.length≤100
  home:∀ p∈O.packs,p.2.1∈O.ways.map (·.1)
  pnd:(O.packs.map (·.1)).Nodup
  rk:∀ p∈O.ways,p.2.fr<O.rooms.length∧p.2.to<O.rooms.length∧p.2.fr≠p.2.to
  rg:∀ p∈O.ways,0≤p.2.lo∧p.2.lo≤p.2.hi∧p.2.hi≤99
  pev:∀ p∈O.packs,p.1∈O.ever
theorem getD_mem {α:Type} {l:List α} {i:Nat} {d : α} (h:i<l.length):l.getD i d∈l:=by
 rw[dW,dY h]; exact fM h
theorem way_at {A:OA} {O:Off} (ok:AOk A O) (nd:(O.ways.map (·.1)).Nodup) {i:Nat} (hi:i<O.ways.length):Ou (Zn A.la O.ways) (O.ways.getD i default).1=some (A.la.getD i default).p:=by
 have h1:O.ways[i]? = some ((O.ways.getD i default).1,(O.ways.getD i default).2):=by rw[dW,dY hi]; rfl
 refine(Tg ok.ll).2 i (O.ways.getD i default).2 ?_ h1;have hm:(O.ways.getD i default).1∈O.ways.map (·.1):=fG.2 ⟨_,getD_mem hi,rfl⟩;have h2:=Vl hm;exact JN nd (by rw[fK,h1]; rfl) h2
end Go.Am
namespace Go.Am
theorem dec_lo {s:ByteArray} {p:Nat} (h:(s.get! p).toNat<128):fD s p=((s.get! p).toNat,1):=by
 unfold fD;simp only[Nat.add_zero];rw[if_pos h]
theorem dec_hi {s:ByteArray} {p:Nat} (h : 128≤(s.get! p).toNat) : 128≤(fD s p).1:=by
 unfold fD;simp only[Nat.add_zero];rw[if_neg aA];have h9:(128:Nat)≤Utf8.runeError:=by decide
 split;split;rename_i h; exact h;exact h9;split;split;rename_i h; simp at h; omega;exact h9;split;split;rename_i h; simp at h; omega;exact h9;exact h9
theorem Y2 {l:Str} {p:Nat} (hp:p<l.length) (h:(l.getD p 0).toNat<128):fD (wd l) p=((l.getD p 0).toNat,1):=by
 have:=dec_lo (s:=wd l) (p:=p) (by rw[Ug hp]; exact h);rw[Ug hp] at this;exact this
theorem UE {l:Str} {p:Nat} (hp:p<l.length) (h : 128≤(l.getD p 0).toNat) : 128≤(fD (wd l) p).1:=dec_hi (by rw[Ug hp]; exact h)
theorem wrap32 {a:Int} (h1 : -2147483648≤a) (h2:a≤2147483647):IntKind.i32.wrap a=a:=by
 unfold IntKind.wrap;simp[IntKind.bits,IntKind.signed];omega
section
variable {P:Program} {n:Nat} {ops:Array Oper} {ex:List Nat} {Q:KF→AHeap→Prop} {k:Nat} {os:List Oper} {K:KF} {h:AHeap} {d:Nat} {ty:TypeId} {pos:String} {after:Array Edge}
theorem KOps.subK {t t' : TypeId} {x y : Operand} {kd : IntKind} {a b : Int} [hx : EvK h.globs n K x (.int kd a)] [hy : EvK h.globs n K y (.int kd b)] (hw : kd.wrap (a - b) = a - b)
    (hk:KOps P n ops ex Q (k+1) os ((d,.int kd (a - b))::K) h):KOps P n ops ex Q k (⟨some d,.binOp .sub t x y t',ty,pos,after,none⟩::os) K h:=
  QX (.inr (.inr rfl)) (by simp only[Vd,hw]) hk
theorem isSlc {v:AV} {z:Nat} {xs:List AV} (hr:Rd h v z xs) (hz : 0<z) (hne:xs≠[]):∃ b o m full,v = .slc b o m z full:=by
 rcases hr with ⟨_,h2⟩|⟨b,o,F,p,cs,h1,_⟩|⟨_,_,_,_,h0,_⟩
 exact absurd h2 hne;rcases h1 with ⟨m,full,h1,_⟩|⟨h0,_⟩
 exact⟨b,o,m,full,h1⟩;omega;omega
theorem KOps.nilEqY {t t' e:TypeId} {s:Nat} {zs:List AV} {x y:Operand} {v:AV} [hx:EvK h.globs n K x v] [hy:EvK h.globs n K y .nils] [ht:SlT P t e s zs] (hv:v = .nils) (hk:KOps P n ops ex Q (k+1) os ((d,.bool true)::K) h):KOps P n ops ex Q k (⟨some d,.binOp .eql t x y t',ty,pos,after,none⟩::os) K h:=
  Kn rfl (by simp only[K6,hx.eq,hy.eq,hv,Z5]; rw[if_pos ht.sl]) hk
theorem KOps.nilNeY {t t' e:TypeId} {s:Nat} {zs:List AV} {x y:Operand} {v:AV} [hx:EvK h.globs n K x v] [hy:EvK h.globs n K y .nils] [ht:SlT P t e s zs] (hv:v = .nils) (hk:KOps P n ops ex Q (k+1) os ((d,.bool false)::K) h):KOps P n ops ex Q k (⟨some d,.binOp .neq t x y t',ty,pos,after,none⟩::os) K h:=
  Kn rfl (by simp only[K6,hx.eq,hy.eq,hv,Z5]; rw[if_pos ht.sl]) hk
def VM (v:AV):Prop:=∃ b o m z full,v = .slc b o m z full
theorem Rd.nilOr {v:AV} {xs:List AV} {z:Nat} (hr:Rd h v z xs) (hz : 0<z):(v = .nils∧xs = [])∨VM v:=by
 rcases hr with h2|⟨b,o,F,p,cs,h1,_⟩|⟨_,_,_,_,h0,_⟩
 exact .inl h2;rcases h1 with ⟨m,full,h1,_⟩|⟨h0,_⟩
 exact .inr ⟨b,o,m,_,full,h1⟩;omega;omega
theorem KOps.nilEqS {t t' e:TypeId} {s:Nat} {zs:List AV} {x y:Operand} {v:AV} [hx:EvK h.globs n K x v] [hy:EvK h.globs n K y .nils] [ht:SlT P t e s zs] (hv:VM v) (hk:KOps P n ops ex Q (k+1) os ((d,.bool false)::K) h):KOps P n ops ex Q k (⟨some d,.binOp .eql t x y t',ty,pos,after,none⟩::os) K h:=by
 obtain⟨b,o,m,z,full,rfl⟩:=hv;exact Kn rfl (by simp only[K6,hx.eq,hy.eq,Z5]; rw[if_pos ht.sl]) hk
theorem KOps.nilNeS {t t' e:TypeId} {s:Nat} {zs:List AV} {x y:Operand} {v:AV} [hx:EvK h.globs n K x v] [hy:EvK h.globs n K y .nils] [ht:SlT P t e s zs] (hv:VM v) (hk:KOps P n ops ex Q (k+1) os ((d,.bool true)::K) h):KOps P n ops ex Q k (⟨some d,.binOp .neq t x y t',ty,pos,after,none⟩::os) K h:=by
 obtain⟨b,o,m,z,full,rfl⟩:=hv;exact Kn rfl (by simp only[K6,hx.eq,hy.eq,Z5]; rw[if_pos ht.sl]) hk
theorem KOps.ptrEqY {t t':TypeId} {x y:Operand} {v:AV} [hx:EvK h.globs n K x v] [hy:EvK h.globs n K y .nilp] (ht:XV P t=true) (hv:v = .nilp) (hk:KOps P n ops ex Q (k+1) os ((d,.bool true)::K) h):KOps P n ops ex Q k (⟨some d,.binOp .eql t x y t',ty,pos,after,none⟩::os) K h:=
  Kn rfl (by simp only[K6,hx.eq,hy.eq,hv,Z5]; rw[if_pos ht]) hk
theorem KOps.ptrNeY {t t':TypeId} {x y:Operand} {v:AV} [hx:EvK h.globs n K x v] [hy:EvK h.globs n K y .nilp] (ht:XV P t=true) (hv:v = .nilp) (hk:KOps P n ops ex Q (k+1) os ((d,.bool false)::K) h):KOps P n ops ex Q k (⟨some d,.binOp .neq t x y t',ty,pos,after,none⟩::os) K h:=
  Kn rfl (by simp only[K6,hx.eq,hy.eq,hv,Z5]; rw[if_pos ht]) hk
theorem J7 {v:AV} (ha:AddrOf v v 0 0):∃ b o,v = .ptr b o:=by
 obtain⟨b,o,h,_⟩:=ha;rcases h with ⟨h0,_⟩|⟨_,h1⟩
 omega;exact⟨b,o,h1⟩
theorem KOps.ptrEqN {t t':TypeId} {x y:Operand} {v:AV} [hx:EvK h.globs n K x v] [hy:EvK h.globs n K y .nilp] (ht:XV P t=true) (ha:AddrOf v v 0 0) (hk:KOps P n ops ex Q (k+1) os ((d,.bool false)::K) h):KOps P n ops ex Q k (⟨some d,.binOp .eql t x y t',ty,pos,after,none⟩::os) K h:=by
 obtain⟨b,o,rfl⟩:=J7 ha;exact Kn rfl az hk
theorem KOps.ptrNeN {t t':TypeId} {x y:Operand} {v:AV} [hx:EvK h.globs n K x v] [hy:EvK h.globs n K y .nilp] (ht:XV P t=true) (ha:AddrOf v v 0 0) (hk:KOps P n ops ex Q (k+1) os ((d,.bool true)::K) h):KOps P n ops ex Q k (⟨some d,.binOp .neq t x y t',ty,pos,after,none⟩::os) K h:=by
 obtain⟨b,o,rfl⟩:=J7 ha;exact Kn rfl az hk
theorem KOps.nilNeB (b:Bool) {t t' e:TypeId} {s:Nat} {zs:List AV} {x y:Operand} {v:AV} [hx:EvK h.globs n K x v] [hy:EvK h.globs n K y .nils] [ht:SlT P t e s zs] (h0:b=false→v = .nils) (h1:b=true→VM v) (hk:KOps P n ops ex Q (k+1) os ((d,.bool b)::K) h):KOps P n ops ex Q k (⟨some d,.binOp .neq t x y t',ty,pos,after,none⟩::os) K h:=by
 cases b;exact KOps.nilNeY (h0 rfl) hk;exact KOps.nilNeS (h1 rfl) hk
theorem KOps.ptrNeB (b:Bool) {t t':TypeId} {x y:Operand} {v:AV} [hx:EvK h.globs n K x v] [hy:EvK h.globs n K y .nilp] (ht:XV P t=true) (h0:b=false→v = .nilp) (h1:b=true→AddrOf v v 0 0) (hk:KOps P n ops ex Q (k+1) os ((d,.bool b)::K) h):KOps P n ops ex Q k (⟨some d,.binOp .neq t x y t',ty,pos,after,none⟩::os) K h:=by
 cases b;exact KOps.ptrNeY ht (h0 rfl) hk;exact KOps.ptrNeN ht (h1 rfl) hk
theorem KOps.ptrEqB (b:Bool) {t t':TypeId} {x y:Operand} {v:AV} [hx:EvK h.globs n K x v] [hy:EvK h.globs n K y .nilp] (ht:XV P t=true) (h0:b=true→v = .nilp) (h1:b=false→AddrOf v v 0 0) (hk:KOps P n ops ex Q (k+1) os ((d,.bool b)::K) h):KOps P n ops ex Q k (⟨some d,.binOp .eql t x y t',ty,pos,after,none⟩::os) K h:=by
 cases b;exact KOps.ptrEqN ht (h1 rfl) hk;exact KOps.ptrEqY ht (h0 rfl) hk
end
end Go.Am
namespace Go.Am
def ixE (l:List Str) (x:Str):Int:=if x∈l then (O2 l x:Int) else -1
theorem ixOf_no {κ:Type} [DecidableEq κ] {l:List κ} {x : κ} {i:Nat} (hi:i<l.length) (hx:x=l[i]) (hno:∀ j (hj:j<i),x≠l[j]'aA):O2 l x=i:=by
 induction l generalizing i with
 | nil=>simp at hi
 | cons a l ih=>
  simp only[O2]
  cases i with
  | zero=>rw[if_pos au]
  | succ i=>
   have h0:=hno 0 aA;rw[if_neg (by simpa using h0),ih (i:=i) ah au (fun j hj=>by simpa using hno (j+1) aA)]
theorem X7 {h:AHeap} {v:AV} {l:List Str} {x:Str} (hv:WRow h v l) (hl:l.length≤1000000):ACalls Go.Proofs.Tryz.prog 60 [v,.str (wd x)] h (fun q h'=>q = .int .i64 (ixE l x)∧h=h'):=by
 refine ON 19 [.tmp 4] Go.Proofs.Tryz.func60 rfl aD rfl rfl (dX rfl) ?_;show KA _ 19 _ _ [(0,v),(1,.str (wd x))] _;refine bz ?_;refine O0 hv ?_;refine Oa [0,1,7,8] ?_;refine OB ?_;refine Kg (X:=Nat) (fun i=>[(0,v),(1,.str (wd x)),(7,.int .i64 (l.length:Int)),(8,.int .i64 (i:Int))]) (fun i h'=>i≤l.length∧(∀ j,j<i→x≠l.getD j [])∧h=h') (fun i=>l.length - i) 0 ⟨Nat.zero_le _,fun j hj=>absurd hj (gE _),rfl⟩ ?_;rintro i h2 ⟨hi,hno,rfl⟩;refine cS ?_;refine Om ?_ ?_
 ·intro c9;refine OC [0,1,7,8] ?_;refine bw ?_;refine Oa [0,1,5,7,8] ?_;refine Od ?_;refine Ow hv (j:=i) rfl aB ?_;intro p14 hp14;refine OM hp14 hv aB ?_;refine Oa [0,1,5,7,8,16] ?_;refine Om ?_ ?_;intro c16;refine bY ?_;have hil:i<l.length:=by omega
  rw[dW,dY hil,fY] at c16;have hio:=ixOf_no hil c16 (fun j hj=>by
   have:=hno j hj;rw[dW,dY (show j<l.length by omega),fY] at this;exact this)
  exact⟨by rw[ixE,if_pos (c16 ▸ fM hil),hio],rfl⟩;intro c16;refine cD ?_;refine Ot [0,1,7,8] ?_;refine bV ?_;exact lpN (i+1) ⟨by omega,fun j hj=>by
   rcases fN.1 hj with q|rfl
   exact hno j q;exact c16,rfl⟩ aA
 intro c9;refine cC ?_;have hie:i=l.length:=by omega
 refine⟨?_,rfl⟩;rw[ixE,if_neg];intro hm;obtain⟨j,hj,he⟩:=fT.1 hm;refine hno j aA ?_;rw[dW,dY hj,fY,he]
theorem XU {h:AHeap} {v:AV} {l:List Str} {x:Str} (hv:WRow h v l) (hl:l.length≤1000000):ACalls Go.Proofs.Tryz.prog 52 [v,.str (wd x)] h (fun q h'=>q = .bool (decide (x∈l))∧h=h'):=by
 refine ON 9 [.tmp 4] Go.Proofs.Tryz.func52 rfl aD rfl rfl (dX rfl) ?_;show KA _ 9 _ _ [(0,v),(1,.str (wd x))] _;refine bz ?_;refine Ol rfl (X7 hv aA) ?_;rintro _ _ ⟨rfl,rfl⟩;refine bY ?_;refine dJ ?_;unfold ixE;by_cases hm:x∈l;rw[if_pos hm,decide_eq_true hm,decide_eq_true aA];rw[if_neg hm,decide_eq_false hm,decide_eq_false aA]
theorem cloneS_nil {h:AHeap}:ACalls Go.Proofs.Tryz.prog 66 [.nils] h (fun q h'=>q = .nils∧h=h'):=by
 refine ON 8 [.tmp 2] Go.Proofs.Tryz.func66 rfl aD rfl rfl (dX rfl) ?_;show KA _ 8 _ _ [(0,.nils)] _;refine dH ?_;refine KOps.nilEqY rfl ?_;refine Oo [0,4] ?_;refine KQ ?_;refine bX ?_;exact⟨rfl,rfl⟩
theorem cloneS_slc {h:AHeap} {v:AV} {l:List Str} (hv:WRow h v l) (hs:VM v) (hl:l.length≤1000000):ACalls Go.Proofs.Tryz.prog 66 [v] h (fun q h'=>St h h' [⟨q,1,wcs l,true⟩]):=by
 refine ON 8 [.tmp 2] Go.Proofs.Tryz.func66 rfl aD rfl rfl (dX rfl) ?_;have hS:=St.refl h;show KA _ 8 _ _ [(0,v)] _;refine dH ?_;refine KOps.nilEqS hs ?_;refine Oo [0,4] ?_;refine OP ?_;refine OC [0] ?_;refine Ov ?_;refine bu ?_;intro v5 h' hS;refine Oc ?_;refine Xc hS (fun _=>rfl) (i:=0) rfl (a:=0) rfl (Rd.ext hS.keeps hv) (b:=l.length) aU (by simp[AV.one]) aA ?_;intro v7 h' hS;simp only[dZ,fA,fO] at hS;refine bX ?_;exact hS
theorem UD {h:AHeap} {v:AV} {l:List Str} (hv:WRow h v l) (hl:l.length≤1000000):ACalls Go.Proofs.Tryz.prog 66 [v] h (fun q h'=>St h h' [⟨q,1,wcs l,true⟩]):=by
 rcases Rd.nilOr hv aD with ⟨h1,h2⟩|h1
 subst h1;have e:l = []:=by simpa using h2
 subst e;refine cloneS_nil.mono ?_;rintro q h' ⟨rfl,rfl⟩;exact(St.refl h).nil 1;exact cloneS_slc hv h1 hl
theorem cloneI_nil {h:AHeap}:ACalls Go.Proofs.Tryz.prog 89 [.nils] h (fun q h'=>q = .nils∧h=h'):=by
 refine ON 8 [.tmp 2] Go.Proofs.Tryz.func89 rfl aD rfl rfl (dX rfl) ?_;show KA _ 8 _ _ [(0,.nils)] _;refine dH ?_;refine KOps.nilEqY rfl ?_;refine Oo [0,4] ?_;refine KQ ?_;refine bX ?_;exact⟨rfl,rfl⟩
theorem cloneI_slc {h:AHeap} {v:AV} {l:List Int} (hv:Row h v l) (hs:VM v) (hl:l.length≤1000000):ACalls Go.Proofs.Tryz.prog 89 [v] h (fun q h'=>St h h' [⟨q,1,ints l,true⟩]):=by
 refine ON 8 [.tmp 2] Go.Proofs.Tryz.func89 rfl aD rfl rfl (dX rfl) ?_;have hS:=St.refl h;show KA _ 8 _ _ [(0,v)] _;refine dH ?_;refine KOps.nilEqS hs ?_;refine Oo [0,4] ?_;refine OP ?_;refine OC [0] ?_;refine Ov ?_;refine bu ?_;intro v5 h' hS;refine Oc ?_;refine Xc hS (fun _=>rfl) (i:=0) rfl (a:=0) rfl (Rd.ext hS.keeps hv) (b:=l.length) aU (by simp[AV.one]) aA ?_;intro v7 h' hS;simp only[dZ,fA,fO] at hS;refine bX ?_;exact hS
theorem UC {h:AHeap} {v:AV} {l:List Int} (hv:Row h v l) (hl:l.length≤1000000):ACalls Go.Proofs.Tryz.prog 89 [v] h (fun q h'=>St h h' [⟨q,1,ints l,true⟩]):=by
 rcases Rd.nilOr hv aD with ⟨h1,h2⟩|h1
 subst h1;have e:l = []:=by simpa using h2
 subst e;refine cloneI_nil.mono ?_;rintro q h' ⟨rfl,rfl⟩;exact(St.refl h).nil 1;exact cloneI_slc hv h1 hl
end Go.Am
namespace Go.Am
def VO (c:UInt8):Bool:=decide (c.toNat<32∨126<c.toNat)
theorem any_at {p:UInt8→Bool} {l:Str} {i:Nat} (hi:i<l.length) (h:p (l.getD i 0)=true):l.any p=true:=by
 rw[List.any_eq_true];rw[dW,dY hi,fY] at h;exact⟨_,fM hi,h⟩
theorem any_no {p:UInt8→Bool} {l:Str} (h:∀ i,i<l.length→p (l.getD i 0)=false):l.any p=false:=by
 rw[List.any_eq_false];intro x hx;obtain⟨i,hi,rfl⟩:=fT.1 hx;have:=h i hi;rw[dW,dY hi,fY] at this;simp[this]
theorem badR_c {h:AHeap} {r:Nat}:ACalls Go.Proofs.Tryz.prog 106 [.int .i32 (r:Int)] h (fun q h'=>q = .bool (decide (r<32∨126<r))∧h=h'):=by
 refine ON 9 [.tmp 2] Go.Proofs.Tryz.func106 rfl aD rfl rfl (dX rfl) ?_;show KA _ 9 _ _ [(0,.int .i32 (r:Int))] _;refine dH ?_;refine Oz (dj:=5) rfl rfl false true rfl ?_ ?_;intro g5;have g5:=of_decide_eq_false g5;refine bX ?_;refine dJ ?_;rw[Bool.eq_iff_iff,decide_eq_true_iff];simp;omega;intro g5;have g5:=of_decide_eq_true g5;refine bX ?_;refine dJ ?_;rw[Bool.eq_iff_iff,decide_eq_true_iff];simp;omega
theorem indexBad_c {h:AHeap} {l:Str} (hl:l.length≤1000000):ACalls Go.Proofs.Tryz.prog 177 [.str (wd l),.fn 106 [],.bool true] h (fun q h'=>(∃ c:Int,q = .int .i64 c∧(0≤c↔l.any VO=true))∧Keeps h h'):=by
 refine ON 21 [.tmp 6] Go.Proofs.Tryz.func177 rfl aD rfl rfl (dX rfl) ?_;have hS:=St.refl h;show KA _ 21 _ _ [(0,.str (wd l)),(1,.fn 106 []),(2,.bool true)] _;refine Ka [0,1,2] ?_;refine OD ?_;refine KOps.range hS rfl ?_;intro v10 h' hv10 hS;refine Oo [1,2,10] ?_;refine OB ?_;refine Kg (X:=Nat) (fun p=>[(1,.fn 106 []),(2,.bool true),(10,v10)]) (fun p h'=>p≤l.length∧(∀ q,q<p→VO (l.getD q 0)=false)∧St h h' [walkO v10 (wd l) p]) (fun p=>l.length - p) 0 ?_ ?_;exact⟨Nat.zero_le _,fun q hq=>absurd hq (gE _),hS⟩;rintro p h2 ⟨hp,hb,hS⟩;refine Ov ?_;refine KOps.next hS hv10 (i:=0) rfl rfl ?_ ?_;intro np h' hS;simp only[dZ,fA,fO] at hS;have hlt:p<l.length:=by rw[wd_size] at np; exact np
 refine OY ?_;refine b8 ?_;refine KQ ?_;refine OC [1,2,10,11] ?_;refine OB ?_;refine Ka [1,2,7,8,10] ?_;refine OD ?_;refine Ol rfl (badR_c) ?_;rintro _ _ ⟨rfl,rfl⟩;refine Oc ?_;refine KOps.eqlB aE ?_;refine Oo [1,2,7,10,19] ?_;refine Km ?_ ?_;intro c19;refine Ka [6] ?_;refine Oj ?_;refine⟨⟨_,rfl,⟨fun _=>any_at hlt ?_,fun _=>by omega⟩⟩,hS.keeps⟩;unfold VO;by_cases hd:(l.getD p 0).toNat<128;rw[Y2 hlt hd] at c19; simpa using c19;rw[decide_eq_true_iff]; omega;intro c19;refine cE ?_;have hd:(l.getD p 0).toNat<128:=by
  apply Classical.byContradiction;intro hn;have:=UE hlt (show 128≤(l.getD p 0).toNat by omega);simp at c19;omega
 rw[Y2 hlt hd] at hS c19;exact lpN (p+1) ⟨hlt,fun q hq=>by
  rcases fN.1 hq with g|rfl
  exact hb q g;unfold VO; simpa using c19,hS⟩ aA
 intro np;refine OY ?_;refine b8 ?_;refine OP ?_;refine bT ?_;refine Ot [] ?_;refine OD ?_;refine Og ?_;refine Of ?_;refine Oj ?_;have hpe:p=l.length:=by rw[wd_size] at np; omega
 subst hpe;refine⟨⟨_,rfl,⟨fun h=>absurd h aD,fun h=>?_⟩⟩,hS.keeps⟩;rw[any_no hb] at h;cases h
theorem Tw {h:AHeap} {l:Str} (hl:l.length≤1000000):ACalls Go.Proofs.Tryz.prog 139 [.str (wd l),.fn 106 []] h (fun q h'=>(∃ c:Int,q = .int .i64 c∧(0≤c↔l.any VO=true))∧Keeps h h'):=by
 refine ON 8 [.tmp 4] Go.Proofs.Tryz.func139 rfl aD rfl rfl (dX rfl) ?_;show KA _ 8 _ _ [(0,.str (wd l)),(1,.fn 106 [])] _;refine bz ?_;refine Ol rfl (indexBad_c hl) ?_;rintro _ h2 ⟨⟨c,rfl,hc⟩,hK⟩;refine bY ?_;exact⟨⟨_,rfl,hc⟩,hK⟩
theorem Rk {h:AHeap} {l:Str} (hl:l.length≤1000000):ACalls Go.Proofs.Tryz.prog 105 [.str (wd l),.fn 106 []] h (fun q h'=>q = .bool (l.any VO)∧Keeps h h'):=by
 refine ON 9 [.tmp 4] Go.Proofs.Tryz.func105 rfl aD rfl rfl (dX rfl) ?_;show KA _ 9 _ _ [(0,.str (wd l)),(1,.fn 106 [])] _;refine bz ?_;refine Ol rfl (Tw hl) ?_;rintro _ h2 ⟨⟨c,rfl,hc⟩,hK⟩;refine bY ?_;refine⟨congrArg AV.bool ?_,hK⟩;rw[Bool.eq_iff_iff,decide_eq_true_iff];exact hc
end Go.Am
