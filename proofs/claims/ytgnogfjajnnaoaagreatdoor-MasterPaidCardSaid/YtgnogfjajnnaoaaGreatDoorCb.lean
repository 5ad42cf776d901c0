/-
  Strings: their runes; slices and pointers compared with nil.
  Conditions: none.
-/
import Derived.Test.YtgnogfjajnnaoaaGreatDoorSPb
import Derived.Test.YtgnogfjajnnaoaaGreatDoorOb
open Go.Utf8 renaming decode → dY
open List renaming getD_eq_getElem?_getD → dI, getElem?_eq_getElem → dO, set_cons_zero → dF, set_cons_succ → dG, mem_iff_getElem → dJ, getElem_mem → dL
open Nat renaming le_of_ble_eq_true → dE, lt_succ_iff_lt_or_eq → dH, zero_add → dK, not_lt_zero → dM
open Option renaming getD_some → dU
set_option maxRecDepth 99999
set_option maxHeartbeats 4000000
namespace Go.Am
theorem dec_lo {s:ByteArray} {p:Nat} (h:(s.get! p).toNat<128):dY s p=((s.get! p).toNat,1):=by
 unfold dY;simp only[Nat.add_zero];rw[if_pos h]
theorem dec_hi {s:ByteArray} {p:Nat} (h : 128≤(s.get! p).toNat) : 128≤(dY s p).1:=by
 unfold dY;simp only[Nat.add_zero];rw[if_neg aA];have h9:(128:Nat)≤Utf8.runeError:=by decide
 split;split;rename_i h; exact h;exact h9;split;split;rename_i h; simp at h; omega;exact h9;split;split;rename_i h; simp at h; omega;exact h9;exact h9
theorem Yq {l:Str} {p:Nat} (hp:p<l.length) (h:(l.getD p 0).toNat<128):dY (wd l) p=((l.getD p 0).toNat,1):=by
 have:=dec_lo (s:=wd l) (p:=p) (by rw[JN hp]; exact h);rw[JN hp] at this;exact this
theorem J5 {l:Str} {p:Nat} (hp:p<l.length) (h : 128≤(l.getD p 0).toNat) : 128≤(dY (wd l) p).1:=dec_hi (by rw[JN hp]; exact h)
theorem wrap32 {a:Int} (h1 : -2147483648≤a) (h2:a≤2147483647):IntKind.i32.wrap a=a:=by
 unfold IntKind.wrap;simp[IntKind.bits,IntKind.signed];omega
section
variable {P:Program} {n:Nat} {ops:Array Oper} {ex:List Nat} {Q:KF→AHeap→Prop} {k:Nat} {os:List Oper} {K:KF} {h:AHeap} {d:Nat} {ty:TypeId} {pos:String} {after:Array Edge}
theorem KOps.subK {t t' : TypeId} {x y : Operand} {kd : IntKind} {a b : Int} [hx : EvK h.globs n K x (.int kd a)] [hy : EvK h.globs n K y (.int kd b)] (hw : kd.wrap (a - b) = a - b)
    (hk:KOps P n ops ex Q (k+1) os ((d,.int kd (a - b))::K) h):KOps P n ops ex Q k (⟨some d,.binOp .sub t x y t',ty,pos,after,none⟩::os) K h:=
  QF (.inr (.inr rfl)) (by simp only[YC,hw]) hk
theorem isSlc {v:AV} {z:Nat} {xs:List AV} (hr:Rd h v z xs) (hz : 0<z) (hne:xs≠[]):∃ b o m full,v = .slc b o m z full:=by
 rcases hr with ⟨_,h2⟩|⟨b,o,F,p,cs,h1,_⟩|⟨_,_,_,_,h0,_⟩
 exact absurd h2 hne;rcases h1 with ⟨m,full,h1,_⟩|⟨h0,_⟩
 exact⟨b,o,m,full,h1⟩;omega;omega
theorem KOps.nilEqY {t t' e:TypeId} {s:Nat} {zs:List AV} {x y:Operand} {v:AV} [hx:EvK h.globs n K x v] [hy:EvK h.globs n K y .nils] [ht:SlT P t e s zs] (hv:v = .nils) (hk:KOps P n ops ex Q (k+1) os ((d,.bool true)::K) h):KOps P n ops ex Q k (⟨some d,.binOp .eql t x y t',ty,pos,after,none⟩::os) K h:=
  Kh rfl (by simp only[KZ,hx.eq,hy.eq,hv,ZL]; rw[if_pos ht.sl]) hk
theorem KOps.nilNeY {t t' e:TypeId} {s:Nat} {zs:List AV} {x y:Operand} {v:AV} [hx:EvK h.globs n K x v] [hy:EvK h.globs n K y .nils] [ht:SlT P t e s zs] (hv:v = .nils) (hk:KOps P n ops ex Q (k+1) os ((d,.bool false)::K) h):KOps P n ops ex Q k (⟨some d,.binOp .neq t x y t',ty,pos,after,none⟩::os) K h:=
  Kh rfl (by simp only[KZ,hx.eq,hy.eq,hv,ZL]; rw[if_pos ht.sl]) hk
def Vd (v:AV):Prop:=∃ b o m z full,v = .slc b o m z full
theorem Rd.nilOr {v:AV} {xs:List AV} {z:Nat} (hr:Rd h v z xs) (hz : 0<z):(v = .nils∧xs = [])∨Vd v:=by
 rcases hr with h2|⟨b,o,F,p,cs,h1,_⟩|⟨_,_,_,_,h0,_⟩
 exact .inl h2;rcases h1 with ⟨m,full,h1,_⟩|⟨h0,_⟩
 exact .inr ⟨b,o,m,_,full,h1⟩;omega;omega
theorem KOps.nilEqS {t t' e:TypeId} {s:Nat} {zs:List AV} {x y:Operand} {v:AV} [hx:EvK h.globs n K x v] [hy:EvK h.globs n K y .nils] [ht:SlT P t e s zs] (hv:Vd v) (hk:KOps P n ops ex Q (k+1) os ((d,.bool false)::K) h):KOps P n ops ex Q k (⟨some d,.binOp .eql t x y t',ty,pos,after,none⟩::os) K h:=by
 obtain⟨b,o,m,z,full,rfl⟩:=hv;exact Kh rfl (by simp only[KZ,hx.eq,hy.eq,ZL]; rw[if_pos ht.sl]) hk
theorem KOps.nilNeS {t t' e:TypeId} {s:Nat} {zs:List AV} {x y:Operand} {v:AV} [hx:EvK h.globs n K x v] [hy:EvK h.globs n K y .nils] [ht:SlT P t e s zs] (hv:Vd v) (hk:KOps P n ops ex Q (k+1) os ((d,.bool true)::K) h):KOps P n ops ex Q k (⟨some d,.binOp .neq t x y t',ty,pos,after,none⟩::os) K h:=by
 obtain⟨b,o,m,z,full,rfl⟩:=hv;exact Kh rfl (by simp only[KZ,hx.eq,hy.eq,ZL]; rw[if_pos ht.sl]) hk
theorem KOps.ptrEqY {t t':TypeId} {x y:Operand} {v:AV} [hx:EvK h.globs n K x v] [hy:EvK h.globs n K y .nilp] (ht:XA P t=true) (hv:v = .nilp) (hk:KOps P n ops ex Q (k+1) os ((d,.bool true)::K) h):KOps P n ops ex Q k (⟨some d,.binOp .eql t x y t',ty,pos,after,none⟩::os) K h:=
  Kh rfl (by simp only[KZ,hx.eq,hy.eq,hv,ZL]; rw[if_pos ht]) hk
theorem KOps.ptrNeY {t t':TypeId} {x y:Operand} {v:AV} [hx:EvK h.globs n K x v] [hy:EvK h.globs n K y .nilp] (ht:XA P t=true) (hv:v = .nilp) (hk:KOps P n ops ex Q (k+1) os ((d,.bool false)::K) h):KOps P n ops ex Q k (⟨some d,.binOp .neq t x y t',ty,pos,after,none⟩::os) K h:=
  Kh rfl (by simp only[KZ,hx.eq,hy.eq,hv,ZL]; rw[if_pos ht]) hk
theorem JH {v:AV} (ha:AddrOf v v 0 0):∃ b o,v = .ptr b o:=by
 obtain⟨b,o,h,_⟩:=ha;rcases h with ⟨h0,_⟩|⟨_,h1⟩
 omega;exact⟨b,o,h1⟩
theorem KOps.ptrEqN {t t':TypeId} {x y:Operand} {v:AV} [hx:EvK h.globs n K x v] [hy:EvK h.globs n K y .nilp] (ht:XA P t=true) (ha:AddrOf v v 0 0) (hk:KOps P n ops ex Q (k+1) os ((d,.bool false)::K) h):KOps P n ops ex Q k (⟨some d,.binOp .eql t x y t',ty,pos,after,none⟩::os) K h:=by
 obtain⟨b,o,rfl⟩:=JH ha;exact Kh rfl ax hk
theorem KOps.ptrNeN {t t':TypeId} {x y:Operand} {v:AV} [hx:EvK h.globs n K x v] [hy:EvK h.globs n K y .nilp] (ht:XA P t=true) (ha:AddrOf v v 0 0) (hk:KOps P n ops ex Q (k+1) os ((d,.bool true)::K) h):KOps P n ops ex Q k (⟨some d,.binOp .neq t x y t',ty,pos,after,none⟩::os) K h:=by
 obtain⟨b,o,rfl⟩:=JH ha;exact Kh rfl ax hk
theorem KOps.nilNeB (b:Bool) {t t' e:TypeId} {s:Nat} {zs:List AV} {x y:Operand} {v:AV} [hx:EvK h.globs n K x v] [hy:EvK h.globs n K y .nils] [ht:SlT P t e s zs] (h0:b=false→v = .nils) (h1:b=true→Vd v) (hk:KOps P n ops ex Q (k+1) os ((d,.bool b)::K) h):KOps P n ops ex Q k (⟨some d,.binOp .neq t x y t',ty,pos,after,none⟩::os) K h:=by
 cases b;exact KOps.nilNeY (h0 rfl) hk;exact KOps.nilNeS (h1 rfl) hk
theorem KOps.ptrNeB (b:Bool) {t t':TypeId} {x y:Operand} {v:AV} [hx:EvK h.globs n K x v] [hy:EvK h.globs n K y .nilp] (ht:XA P t=true) (h0:b=false→v = .nilp) (h1:b=true→AddrOf v v 0 0) (hk:KOps P n ops ex Q (k+1) os ((d,.bool b)::K) h):KOps P n ops ex Q k (⟨some d,.binOp .neq t x y t',ty,pos,after,none⟩::os) K h:=by
 cases b;exact KOps.ptrNeY ht (h0 rfl) hk;exact KOps.ptrNeN ht (h1 rfl) hk
theorem KOps.ptrEqB (b:Bool) {t t':TypeId} {x y:Operand} {v:AV} [hx:EvK h.globs n K x v] [hy:EvK h.globs n K y .nilp] (ht:XA P t=true) (h0:b=true→v = .nilp) (h1:b=false→AddrOf v v 0 0) (hk:KOps P n ops ex Q (k+1) os ((d,.bool b)::K) h):KOps P n ops ex Q k (⟨some d,.binOp .eql t x y t',ty,pos,after,none⟩::os) K h:=by
 cases b;exact KOps.ptrEqN ht (h1 rfl) hk;exact KOps.ptrEqY ht (h0 rfl) hk
end
end Go.Am
namespace Go.Am
def ixE (l:List Str) (x:Str):Int:=if x∈l then (O0 l x:Int) else -1
theorem ixOf_no {κ:Type} [DecidableEq κ] {l:List κ} {x : κ} {i:Nat} (hi:i<l.length) (hx:x=l[i]) (hno:∀ j (hj:j<i),x≠l[j]'aA):O0 l x=i:=by
 induction l generalizing i with
 | nil=>simp at hi
 | cons a l ih=>
  simp only[O0]
  cases i with
  | zero=>rw[if_pos aq]
  | succ i=>
   have h0:=hno 0 aA;rw[if_neg (by simpa using h0),ih (i:=i) af aq (fun j hj=>by simpa using hno (j+1) aA)]
theorem YM {h:AHeap} {v:AV} {l:List Str} {x:Str} (hv:WRow h v l) (hl:l.length≤1000000):ACalls Go.Proofs.Tryz.prog 60 [v,.str (wd x)] h (fun q h'=>q = .int .i64 (ixE l x)∧h=h'):=by
 refine OP 19 [.tmp 4] Go.Proofs.Tryz.func60 rfl aD rfl rfl (dE rfl) ?_;show KA _ 19 _ _ [(0,v),(1,.str (wd x))] _;refine bo ?_;refine O4 hv ?_;refine Oa [0,1,7,8] ?_;refine OB ?_;refine Kk (X:=Nat) (fun i=>[(0,v),(1,.str (wd x)),(7,.int .i64 (l.length:Int)),(8,.int .i64 (i:Int))]) (fun i h'=>i≤l.length∧(∀ j,j<i→x≠l.getD j [])∧h=h') (fun i=>l.length - i) 0 ⟨Nat.zero_le _,fun j hj=>absurd hj (dM _),rfl⟩ ?_;rintro i h2 ⟨hi,hno,rfl⟩;refine cM ?_;refine Om ?_ ?_
 ·intro c9;refine Oz [0,1,7,8] ?_;refine bj ?_;refine Oa [0,1,5,7,8] ?_;refine Oc ?_;refine Ou hv (j:=i) rfl aB ?_;intro p14 hp14;refine OJ hp14 hv aB ?_;refine Oa [0,1,5,7,8,16] ?_;refine Om ?_ ?_;intro c16;refine bV ?_;have hil:i<l.length:=by omega
  rw[dI,dO hil,dU] at c16;have hio:=ixOf_no hil c16 (fun j hj=>by
   have:=hno j hj;rw[dI,dO (show j<l.length by omega),dU] at this;exact this)
  exact⟨by rw[ixE,if_pos (c16 ▸ dL hil),hio],rfl⟩;intro c16;refine cH ?_;refine Oq [0,1,7,8] ?_;refine bU ?_;exact lpN (i+1) ⟨by omega,fun j hj=>by
   rcases dH.1 hj with q|rfl
   exact hno j q;exact c16,rfl⟩ aA
 intro c9;refine bz ?_;have hie:i=l.length:=by omega
 refine⟨?_,rfl⟩;rw[ixE,if_neg];intro hm;obtain⟨j,hj,he⟩:=dJ.1 hm;refine hno j aA ?_;rw[dI,dO hj,dU,he]
theorem Xz {h:AHeap} {v:AV} {l:List Str} {x:Str} (hv:WRow h v l) (hl:l.length≤1000000):ACalls Go.Proofs.Tryz.prog 52 [v,.str (wd x)] h (fun q h'=>q = .bool (decide (x∈l))∧h=h'):=by
 refine OP 9 [.tmp 4] Go.Proofs.Tryz.func52 rfl aD rfl rfl (dE rfl) ?_;show KA _ 9 _ _ [(0,v),(1,.str (wd x))] _;refine bo ?_;refine Ol rfl (YM hv aA) ?_;rintro _ _ ⟨rfl,rfl⟩;refine bV ?_;refine cj ?_;unfold ixE;by_cases hm:x∈l;rw[if_pos hm,decide_eq_true hm,decide_eq_true aA];rw[if_neg hm,decide_eq_false hm,decide_eq_false aA]
theorem cloneS_nil {h:AHeap}:ACalls Go.Proofs.Tryz.prog 66 [.nils] h (fun q h'=>q = .nils∧h=h'):=by
 refine OP 8 [.tmp 2] Go.Proofs.Tryz.func66 rfl aD rfl rfl (dE rfl) ?_;show KA _ 8 _ _ [(0,.nils)] _;refine cw ?_;refine KOps.nilEqY rfl ?_;refine Oo [0,4] ?_;refine KJ ?_;refine bT ?_;exact⟨rfl,rfl⟩
theorem cloneS_slc {h:AHeap} {v:AV} {l:List Str} (hv:WRow h v l) (hs:Vd v) (hl:l.length≤1000000):ACalls Go.Proofs.Tryz.prog 66 [v] h (fun q h'=>St h h' [⟨q,1,wcs l,true⟩]):=by
 refine OP 8 [.tmp 2] Go.Proofs.Tryz.func66 rfl aD rfl rfl (dE rfl) ?_;have hS:=St.refl h;show KA _ 8 _ _ [(0,v)] _;refine cw ?_;refine KOps.nilEqS hs ?_;refine Oo [0,4] ?_;refine OQ ?_;refine Oz [0] ?_;refine Ow ?_;refine bf ?_;intro v5 h' hS;refine Oe ?_;refine KOps.append hS (fun _=>rfl) (i:=0) rfl (a:=0) rfl (Rd.ext hS.keeps hv) (b:=l.length) aV (by simp[AV.one]) aA ?_;intro v7 h' hS;simp only[dF,dG,dK] at hS;refine bT ?_;exact hS
theorem J4 {h:AHeap} {v:AV} {l:List Str} (hv:WRow h v l) (hl:l.length≤1000000):ACalls Go.Proofs.Tryz.prog 66 [v] h (fun q h'=>St h h' [⟨q,1,wcs l,true⟩]):=by
 rcases Rd.nilOr hv aD with ⟨h1,h2⟩|h1
 subst h1;have e:l = []:=by simpa using h2
 subst e;refine cloneS_nil.mono ?_;rintro q h' ⟨rfl,rfl⟩;exact(St.refl h).nil 1;exact cloneS_slc hv h1 hl
theorem cloneI_nil {h:AHeap}:ACalls Go.Proofs.Tryz.prog 89 [.nils] h (fun q h'=>q = .nils∧h=h'):=by
 refine OP 8 [.tmp 2] Go.Proofs.Tryz.func89 rfl aD rfl rfl (dE rfl) ?_;show KA _ 8 _ _ [(0,.nils)] _;refine cw ?_;refine KOps.nilEqY rfl ?_;refine Oo [0,4] ?_;refine KJ ?_;refine bT ?_;exact⟨rfl,rfl⟩
theorem cloneI_slc {h:AHeap} {v:AV} {l:List Int} (hv:Row h v l) (hs:Vd v) (hl:l.length≤1000000):ACalls Go.Proofs.Tryz.prog 89 [v] h (fun q h'=>St h h' [⟨q,1,ints l,true⟩]):=by
 refine OP 8 [.tmp 2] Go.Proofs.Tryz.func89 rfl aD rfl rfl (dE rfl) ?_;have hS:=St.refl h;show KA _ 8 _ _ [(0,v)] _;refine cw ?_;refine KOps.nilEqS hs ?_;refine Oo [0,4] ?_;refine OQ ?_;refine Oz [0] ?_;refine Ow ?_;refine bf ?_;intro v5 h' hS;refine Oe ?_;refine KOps.append hS (fun _=>rfl) (i:=0) rfl (a:=0) rfl (Rd.ext hS.keeps hv) (b:=l.length) aV (by simp[AV.one]) aA ?_;intro v7 h' hS;simp only[dF,dG,dK] at hS;refine bT ?_;exact hS
theorem J3 {h:AHeap} {v:AV} {l:List Int} (hv:Row h v l) (hl:l.length≤1000000):ACalls Go.Proofs.Tryz.prog 89 [v] h (fun q h'=>St h h' [⟨q,1,ints l,true⟩]):=by
 rcases Rd.nilOr hv aD with ⟨h1,h2⟩|h1
 subst h1;have e:l = []:=by simpa using h2
 subst e;refine cloneI_nil.mono ?_;rintro q h' ⟨rfl,rfl⟩;exact(St.refl h).nil 1;exact cloneI_slc hv h1 hl
end Go.Am
namespace Go.Am
def Vf (c:UInt8):Bool:=decide (c.toNat<32∨126<c.toNat)
theorem any_at {p:UInt8→Bool} {l:Str} {i:Nat} (hi:i<l.length) (h:p (l.getD i 0)=true):l.any p=true:=by
 rw[List.any_eq_true];rw[dI,dO hi,dU] at h;exact⟨_,dL hi,h⟩
theorem any_no {p:UInt8→Bool} {l:Str} (h:∀ i,i<l.length→p (l.getD i 0)=false):l.any p=false:=by
 rw[List.any_eq_false];intro x hx;obtain⟨i,hi,rfl⟩:=dJ.1 hx;have:=h i hi;rw[dI,dO hi,dU] at this;simp[this]
theorem badR_c {h:AHeap} {r:Nat}:ACalls Go.Proofs.Tryz.prog 106 [.int .i32 (r:Int)] h (fun q h'=>q = .bool (decide (r<32∨126<r))∧h=h'):=by
 refine OP 9 [.tmp 2] Go.Proofs.Tryz.func106 rfl aD rfl rfl (dE rfl) ?_;show KA _ 9 _ _ [(0,.int .i32 (r:Int))] _;refine cw ?_;refine OD (dj:=5) rfl rfl false true rfl ?_ ?_;intro g5;have g5:=of_decide_eq_false g5;refine bT ?_;refine cj ?_;rw[Bool.eq_iff_iff,decide_eq_true_iff];simp;omega;intro g5;have g5:=of_decide_eq_true g5;refine bT ?_;refine cj ?_;rw[Bool.eq_iff_iff,decide_eq_true_iff];simp;omega
theorem indexBad_c {h:AHeap} {l:Str} (hl:l.length≤1000000):ACalls Go.Proofs.Tryz.prog 177 [.str (wd l),.fn 106 [],.bool true] h (fun q h'=>(∃ c:Int,q = .int .i64 c∧(0≤c↔l.any Vf=true))∧Keeps h h'):=by
 refine OP 21 [.tmp 6] Go.Proofs.Tryz.func177 rfl aD rfl rfl (dE rfl) ?_;have hS:=St.refl h;show KA _ 21 _ _ [(0,.str (wd l)),(1,.fn 106 []),(2,.bool true)] _;refine O8 [0,1,2] ?_;refine OC ?_;refine KOps.range hS rfl ?_;intro v10 h' hv10 hS;refine Oo [1,2,10] ?_;refine OB ?_;refine Kk (X:=Nat) (fun p=>[(1,.fn 106 []),(2,.bool true),(10,v10)]) (fun p h'=>p≤l.length∧(∀ q,q<p→Vf (l.getD q 0)=false)∧St h h' [walkO v10 (wd l) p]) (fun p=>l.length - p) 0 ?_ ?_;exact⟨Nat.zero_le _,fun q hq=>absurd hq (dM _),hS⟩;rintro p h2 ⟨hp,hb,hS⟩;refine Ow ?_;refine KOps.next hS hv10 (i:=0) rfl rfl ?_ ?_;intro np h' hS;simp only[dF,dG,dK] at hS;have hlt:p<l.length:=by rw[wd_size] at np; exact np
 refine OY ?_;refine br ?_;refine KJ ?_;refine Oz [1,2,10,11] ?_;refine OB ?_;refine O8 [1,2,7,8,10] ?_;refine OC ?_;refine Ol rfl (badR_c) ?_;rintro _ _ ⟨rfl,rfl⟩;refine Oe ?_;refine KOps.eqlB aE ?_;refine Oo [1,2,7,10,19] ?_;refine Kp ?_ ?_;intro c19;refine O8 [6] ?_;refine Oj ?_;refine⟨⟨_,rfl,⟨fun _=>any_at hlt ?_,fun _=>by omega⟩⟩,hS.keeps⟩;unfold Vf;by_cases hd:(l.getD p 0).toNat<128;rw[Yq hlt hd] at c19; simpa using c19;rw[decide_eq_true_iff]; omega;intro c19;refine b4 ?_;have hd:(l.getD p 0).toNat<128:=by
  apply Classical.byContradiction;intro hn;have:=J5 hlt (show 128≤(l.getD p 0).toNat by omega);simp at c19;omega
 rw[Yq hlt hd] at hS c19;exact lpN (p+1) ⟨hlt,fun q hq=>by
  rcases dH.1 hq with g|rfl
  exact hb q g;unfold Vf; simpa using c19,hS⟩ aA
 intro np;refine OY ?_;refine br ?_;refine OQ ?_;refine bQ ?_;refine Oq [] ?_;refine OC ?_;refine Of ?_;refine Od ?_;refine Oj ?_;have hpe:p=l.length:=by rw[wd_size] at np; omega
 subst hpe;refine⟨⟨_,rfl,⟨fun h=>absurd h aD,fun h=>?_⟩⟩,hS.keeps⟩;rw[any_no hb] at h;cases h
theorem RB {h:AHeap} {l:Str} (hl:l.length≤1000000):ACalls Go.Proofs.Tryz.prog 139 [.str (wd l),.fn 106 []] h (fun q h'=>(∃ c:Int,q = .int .i64 c∧(0≤c↔l.any Vf=true))∧Keeps h h'):=by
 refine OP 8 [.tmp 4] Go.Proofs.Tryz.func139 rfl aD rfl rfl (dE rfl) ?_;show KA _ 8 _ _ [(0,.str (wd l)),(1,.fn 106 [])] _;refine bo ?_;refine Ol rfl (indexBad_c hl) ?_;rintro _ h2 ⟨⟨c,rfl,hc⟩,hK⟩;refine bV ?_;exact⟨⟨_,rfl,hc⟩,hK⟩
theorem Wo {h:AHeap} {l:Str} (hl:l.length≤1000000):ACalls Go.Proofs.Tryz.prog 105 [.str (wd l),.fn 106 []] h (fun q h'=>q = .bool (l.any Vf)∧Keeps h h'):=by
 refine OP 9 [.tmp 4] Go.Proofs.Tryz.func105 rfl aD rfl rfl (dE rfl) ?_;show KA _ 9 _ _ [(0,.str (wd l)),(1,.fn 106 [])] _;refine bo ?_;refine Ol rfl (RB hl) ?_;rintro _ h2 ⟨⟨c,rfl,hc⟩,hK⟩;refine bV ?_;refine⟨congrArg AV.bool ?_,hK⟩;rw[Bool.eq_iff_iff,decide_eq_true_iff];exact hc
end Go.Am
