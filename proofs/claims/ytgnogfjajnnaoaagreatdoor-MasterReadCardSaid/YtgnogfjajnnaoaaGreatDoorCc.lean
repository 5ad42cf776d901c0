/-
  Layer 14: small functions of Go's library.
  Conditions: none.
-/
import Derived.Test.YtgnogfjajnnaoaaGreatDoorBb
open Classical renaming byContradiction → dF
open List renaming getElem?_eq_getElem → dI, getD_eq_getElem?_getD → dO, set_cons_zero → dC, set_cons_succ → dD, mem_iff_getElem → dH, getElem_mem → dK, length_cons → dN, take_length → dP
open Nat renaming le_of_ble_eq_true → dE, lt_succ_iff_lt_or_eq → dY, not_lt_zero → dG, zero_add → dJ, zero_le → dL, pow_le_pow_right → dM
open Option renaming getD_some → dU
set_option maxRecDepth 99999
set_option maxHeartbeats 4000000
namespace Go.Am
def ixE (l:List Str) (x:Str):Int:=if x∈l then (O1 l x:Int) else -1
theorem ixOf_no {κ:Type} [DecidableEq κ] {l:List κ} {x : κ} {i:Nat} (hi:i<l.length) (hx:x=l[i]) (hno:∀ j (hj:j<i),x≠l[j]'aA):O1 l x=i:=by
 induction l generalizing i with
 | nil=>simp at hi
 | cons a l ih=>
  simp only[O1]
  cases i with
  | zero=>rw[if_pos aq]
  | succ i=>
   have h0:=hno 0 aA;rw[if_neg (by simpa using h0),ih (i:=i) af aq (fun j hj=>by simpa using hno (j+1) aA)]
theorem JD {h:AHeap} {v:AV} {l:List Str} {x:Str} (hv:WRow h v l) (hl:l.length≤1000000):ACalls Go.Proofs.Tryz.prog 60 [v,.str (wd x)] h (fun q h'=>q = .int .i64 (ixE l x)∧h=h'):=by
 refine OH 19 [.tmp 4] Go.Proofs.Tryz.func60 rfl aE rfl rfl (dE rfl) ?_;show KA _ 19 _ _ [(0,v),(1,.str (wd x))] _;refine bf ?_;refine OZ hv ?_;refine Oa [0,1,7,8] ?_;refine Oz ?_;refine Kd (X:=Nat) (fun i=>[(0,v),(1,.str (wd x)),(7,.int .i64 (l.length:Int)),(8,.int .i64 (i:Int))]) (fun i h'=>i≤l.length∧(∀ j,j<i→x≠l.getD j [])∧h=h') (fun i=>l.length - i) 0 ⟨dL _,fun j hj=>absurd hj (dG _),rfl⟩ ?_;rintro i h2 ⟨hi,hno,rfl⟩;refine cM ?_;refine Oo ?_ ?_
 ·intro c9;refine Oy [0,1,7,8] ?_;refine bj ?_;refine Oa [0,1,5,7,8] ?_;refine Oc ?_;refine Ow hv (j:=i) rfl aB ?_;intro p14 hp14;refine OY hp14 hv aB ?_;refine Oa [0,1,5,7,8,16] ?_;refine Oo ?_ ?_;intro c16;refine bV ?_;have hil:i<l.length:=by omega
  rw[dO,dI hil,dU] at c16;have hio:=ixOf_no hil c16 (fun j hj=>by
   have:=hno j hj;rw[dO,dI (show j<l.length by omega),dU] at this;exact this)
  exact⟨by rw[ixE,if_pos (c16 ▸ dK hil),hio],rfl⟩;intro c16;refine bY ?_;refine Ou [0,1,7,8] ?_;refine bU ?_;exact lpN (i+1) ⟨by omega,fun j hj=>by
   rcases dY.1 hj with q|rfl
   exact hno j q;exact c16,rfl⟩ aA
 intro c9;refine bx ?_;have hie:i=l.length:=by omega
 refine⟨?_,rfl⟩;rw[ixE,if_neg];intro hm;obtain⟨j,hj,he⟩:=dH.1 hm;refine hno j aA ?_;rw[dO,dI hj,dU,he]
theorem XP {h:AHeap} {v:AV} {l:List Str} {x:Str} (hv:WRow h v l) (hl:l.length≤1000000):ACalls Go.Proofs.Tryz.prog 52 [v,.str (wd x)] h (fun q h'=>q = .bool (decide (x∈l))∧h=h'):=by
 refine OH 9 [.tmp 4] Go.Proofs.Tryz.func52 rfl aE rfl rfl (dE rfl) ?_;show KA _ 9 _ _ [(0,v),(1,.str (wd x))] _;refine bf ?_;refine Oj rfl (JD hv aA) ?_;rintro _ _ ⟨rfl,rfl⟩;refine bV ?_;refine ce ?_;unfold ixE;by_cases hm:x∈l;rw[if_pos hm,decide_eq_true hm,decide_eq_true aA];rw[if_neg hm,decide_eq_false hm,decide_eq_false aA]
theorem cloneS_nil {h:AHeap}:ACalls Go.Proofs.Tryz.prog 66 [.nils] h (fun q h'=>q = .nils∧h=h'):=by
 refine OH 8 [.tmp 2] Go.Proofs.Tryz.func66 rfl aE rfl rfl (dE rfl) ?_;show KA _ 8 _ _ [(0,.nils)] _;refine cq ?_;refine KOps.nilEqY rfl ?_;refine Om [0,4] ?_;refine KI ?_;refine bT ?_;exact⟨rfl,rfl⟩
theorem cloneS_slc {h:AHeap} {v:AV} {l:List Str} (hv:WRow h v l) (hs:YG v) (hl:l.length≤1000000):ACalls Go.Proofs.Tryz.prog 66 [v] h (fun q h'=>St h h' [⟨q,1,wcs l,true⟩]):=by
 refine OH 8 [.tmp 2] Go.Proofs.Tryz.func66 rfl aE rfl rfl (dE rfl) ?_;have hS:=St.refl h;show KA _ 8 _ _ [(0,v)] _;refine cq ?_;refine KOps.nilEqS hs ?_;refine Om [0,4] ?_;refine OK ?_;refine Oy [0] ?_;refine Ot ?_;refine bl ?_;intro v5 h' hS;refine Od ?_;refine KOps.append hS (fun _=>rfl) (i:=0) rfl (a:=0) rfl (Rd.ext hS.keeps hv) (b:=l.length) aV (by simp[AV.one]) aA ?_;intro v7 h' hS;simp only[dC,dD,dJ] at hS;refine bT ?_;exact hS
theorem JB {h:AHeap} {v:AV} {l:List Str} (hv:WRow h v l) (hl:l.length≤1000000):ACalls Go.Proofs.Tryz.prog 66 [v] h (fun q h'=>St h h' [⟨q,1,wcs l,true⟩]):=by
 rcases Rd.nilOr hv aE with ⟨h1,h2⟩|h1
 subst h1;have e:l = []:=by simpa using h2
 subst e;refine cloneS_nil.mono ?_;rintro q h' ⟨rfl,rfl⟩;exact(St.refl h).nil 1;exact cloneS_slc hv h1 hl
theorem cloneI_nil {h:AHeap}:ACalls Go.Proofs.Tryz.prog 89 [.nils] h (fun q h'=>q = .nils∧h=h'):=by
 refine OH 8 [.tmp 2] Go.Proofs.Tryz.func89 rfl aE rfl rfl (dE rfl) ?_;show KA _ 8 _ _ [(0,.nils)] _;refine cq ?_;refine KOps.nilEqY rfl ?_;refine Om [0,4] ?_;refine KI ?_;refine bT ?_;exact⟨rfl,rfl⟩
theorem cloneI_slc {h:AHeap} {v:AV} {l:List Int} (hv:Row h v l) (hs:YG v) (hl:l.length≤1000000):ACalls Go.Proofs.Tryz.prog 89 [v] h (fun q h'=>St h h' [⟨q,1,ints l,true⟩]):=by
 refine OH 8 [.tmp 2] Go.Proofs.Tryz.func89 rfl aE rfl rfl (dE rfl) ?_;have hS:=St.refl h;show KA _ 8 _ _ [(0,v)] _;refine cq ?_;refine KOps.nilEqS hs ?_;refine Om [0,4] ?_;refine OK ?_;refine Oy [0] ?_;refine Ot ?_;refine bl ?_;intro v5 h' hS;refine Od ?_;refine KOps.append hS (fun _=>rfl) (i:=0) rfl (a:=0) rfl (Rd.ext hS.keeps hv) (b:=l.length) aV (by simp[AV.one]) aA ?_;intro v7 h' hS;simp only[dC,dD,dJ] at hS;refine bT ?_;exact hS
theorem JA {h:AHeap} {v:AV} {l:List Int} (hv:Row h v l) (hl:l.length≤1000000):ACalls Go.Proofs.Tryz.prog 89 [v] h (fun q h'=>St h h' [⟨q,1,ints l,true⟩]):=by
 rcases Rd.nilOr hv aE with ⟨h1,h2⟩|h1
 subst h1;have e:l = []:=by simpa using h2
 subst e;refine cloneI_nil.mono ?_;rintro q h' ⟨rfl,rfl⟩;exact(St.refl h).nil 1;exact cloneI_slc hv h1 hl
end Go.Am
namespace Go.Am
def YH (c:UInt8):Bool:=decide (c.toNat<32∨126<c.toNat)
theorem any_at {p:UInt8→Bool} {l:Str} {i:Nat} (hi:i<l.length) (h:p (l.getD i 0)=true):l.any p=true:=by
 rw[List.any_eq_true];rw[dO,dI hi,dU] at h;exact⟨_,dK hi,h⟩
theorem any_no {p:UInt8→Bool} {l:Str} (h:∀ i,i<l.length→p (l.getD i 0)=false):l.any p=false:=by
 rw[List.any_eq_false];intro x hx;obtain⟨i,hi,rfl⟩:=dH.1 hx;have:=h i hi;rw[dO,dI hi,dU] at this;simp[this]
theorem badR_c {h:AHeap} {r:Nat}:ACalls Go.Proofs.Tryz.prog 106 [.int .i32 (r:Int)] h (fun q h'=>q = .bool (decide (r<32∨126<r))∧h=h'):=by
 refine OH 9 [.tmp 2] Go.Proofs.Tryz.func106 rfl aE rfl rfl (dE rfl) ?_;show KA _ 9 _ _ [(0,.int .i32 (r:Int))] _;refine cq ?_;refine OD (dj:=5) rfl rfl false true rfl ?_ ?_;intro g5;have g5:=of_decide_eq_false g5;refine bT ?_;refine ce ?_;rw[Bool.eq_iff_iff,decide_eq_true_iff];simp;omega;intro g5;have g5:=of_decide_eq_true g5;refine bT ?_;refine ce ?_;rw[Bool.eq_iff_iff,decide_eq_true_iff];simp;omega
theorem indexBad_c {h:AHeap} {l:Str} (hl:l.length≤1000000):ACalls Go.Proofs.Tryz.prog 177 [.str (wd l),.fn 106 [],.bool true] h (fun q h'=>(∃ c:Int,q = .int .i64 c∧(0≤c↔l.any YH=true))∧Keeps h h'):=by
 refine OH 21 [.tmp 6] Go.Proofs.Tryz.func177 rfl aE rfl rfl (dE rfl) ?_;have hS:=St.refl h;show KA _ 21 _ _ [(0,.str (wd l)),(1,.fn 106 []),(2,.bool true)] _;refine O5 [0,1,2] ?_;refine OC ?_;refine KOps.range hS rfl ?_;intro v10 h' hv10 hS;refine Om [1,2,10] ?_;refine Oz ?_;refine Kd (X:=Nat) (fun p=>[(1,.fn 106 []),(2,.bool true),(10,v10)]) (fun p h'=>p≤l.length∧(∀ q,q<p→YH (l.getD q 0)=false)∧St h h' [walkO v10 (wd l) p]) (fun p=>l.length - p) 0 ?_ ?_;exact⟨dL _,fun q hq=>absurd hq (dG _),hS⟩;rintro p h2 ⟨hp,hb,hS⟩;refine Ot ?_;refine KOps.next hS hv10 (i:=0) rfl rfl ?_ ?_;intro np h' hS;simp only[dC,dD,dJ] at hS;have hlt:p<l.length:=by rw[wd_size] at np; exact np
 refine OJ ?_;refine br ?_;refine KI ?_;refine Oy [1,2,10,11] ?_;refine Oz ?_;refine O5 [1,2,7,8,10] ?_;refine OC ?_;refine Oj rfl (badR_c) ?_;rintro _ _ ⟨rfl,rfl⟩;refine Od ?_;refine KOps.eqlB aD ?_;refine Om [1,2,7,10,19] ?_;refine Kb ?_ ?_;intro c19;refine O5 [6] ?_;refine Oi ?_;refine⟨⟨_,rfl,⟨fun _=>any_at hlt ?_,fun _=>by omega⟩⟩,hS.keeps⟩;unfold YH;by_cases hd:(l.getD p 0).toNat<128;rw[Ya hlt hd] at c19; simpa using c19;rw[decide_eq_true_iff]; omega;intro c19;refine cF ?_;have hd:(l.getD p 0).toNat<128:=by
  apply dF;intro hn;have:=JC hlt (show 128≤(l.getD p 0).toNat by omega);simp at c19;omega
 rw[Ya hlt hd] at hS c19;exact lpN (p+1) ⟨hlt,fun q hq=>by
  rcases dY.1 hq with g|rfl
  exact hb q g;unfold YH; simpa using c19,hS⟩ aA
 intro np;refine OJ ?_;refine br ?_;refine OK ?_;refine bQ ?_;refine Ou [] ?_;refine OC ?_;refine Og ?_;refine Oe ?_;refine Oi ?_;have hpe:p=l.length:=by rw[wd_size] at np; omega
 subst hpe;refine⟨⟨_,rfl,⟨fun h=>absurd h aE,fun h=>?_⟩⟩,hS.keeps⟩;rw[any_no hb] at h;cases h
theorem Ro {h:AHeap} {l:Str} (hl:l.length≤1000000):ACalls Go.Proofs.Tryz.prog 139 [.str (wd l),.fn 106 []] h (fun q h'=>(∃ c:Int,q = .int .i64 c∧(0≤c↔l.any YH=true))∧Keeps h h'):=by
 refine OH 8 [.tmp 4] Go.Proofs.Tryz.func139 rfl aE rfl rfl (dE rfl) ?_;show KA _ 8 _ _ [(0,.str (wd l)),(1,.fn 106 [])] _;refine bf ?_;refine Oj rfl (indexBad_c hl) ?_;rintro _ h2 ⟨⟨c,rfl,hc⟩,hK⟩;refine bV ?_;exact⟨⟨_,rfl,hc⟩,hK⟩
theorem U8 {h:AHeap} {l:Str} (hl:l.length≤1000000):ACalls Go.Proofs.Tryz.prog 105 [.str (wd l),.fn 106 []] h (fun q h'=>q = .bool (l.any YH)∧Keeps h h'):=by
 refine OH 9 [.tmp 4] Go.Proofs.Tryz.func105 rfl aE rfl rfl (dE rfl) ?_;show KA _ 9 _ _ [(0,.str (wd l)),(1,.fn 106 [])] _;refine bf ?_;refine Oj rfl (Ro hl) ?_;rintro _ h2 ⟨⟨c,rfl,hc⟩,hK⟩;refine bV ?_;refine⟨congrArg AV.bool ?_,hK⟩;rw[Bool.eq_iff_iff,decide_eq_true_iff];exact hc
end Go.Am
namespace Go.Am
theorem VV (l:Str) (c:UInt8):QF (l ++ [c])=10*QF l+((c.toNat:Int) - 48):=by simp[QF]
theorem VW {l:Str} {p:Nat} (hp:p<l.length):QF (l.take (p+1))=10*QF (l.take p)+(((l.getD p 0).toNat:Int) - 48):=by
 rw[List.take_add_one,dI hp,Option.toList_some,VV,dO,dI hp,dU]
def XN (c:UInt8):Bool:=decide (48≤c.toNat∧c.toNat≤57)
theorem Ua:∀ {l:Str} (p:Nat),p≤l.length→(∀ q,q<p→XN (l.getD q 0)=true)→0≤QF (l.take p)∧QF (l.take p)<10 ^ p:=by
 intro l p
 induction p with
 | zero=>intro _ _; rw[List.take_zero]; exact⟨by decide,by decide⟩
 | succ p ih=>
  intro hp hd;obtain⟨h1,h2⟩:=ih aA (fun q hq=>hd q aA);have h3:=hd p aA;rw[XN,decide_eq_true_iff] at h3;rw[VW aA,Int.pow_succ];omega
theorem Va {l:Str} {m p:Nat} (hp:p<l.length) (h:XN (l.getD p 0)=false):KU l m=false:=by
 have:(l.all fun c=>decide (48≤c.toNat∧c.toNat≤57))=false:=by
  rw[List.all_eq_false];rw[dO,dI hp,dU] at h;refine⟨_,dK hp,?_⟩;unfold XN at h;rw[h]; decide
 unfold KU;rw[this,Bool.and_false]
theorem UR {l:Str} (h:∀ q,q<l.length→XN (l.getD q 0)=true):(l.all fun c=>decide (48≤c.toNat∧c.toNat≤57))=true:=by
 rw[List.all_eq_true];intro x hx;obtain⟨i,hi,rfl⟩:=dH.1 hx;have:=h i hi;rw[dO,dI hi,dU] at this;exact this
theorem form_c {h:AHeap} {k:Str}:ACalls Go.Proofs.Tryz.prog 107 [.str (wd k)] h (fun q h'=>q = .str (wd (OX k))∧h=h'):=by
 refine OH 20 [.tmp 2] Go.Proofs.Tryz.func107 rfl aE rfl rfl (dE rfl) ?_;show KA _ 20 _ _ [(0,.str (wd k))] _;refine Oa [0] ?_;refine Oa [3] ?_;refine Oz ?_;refine Oa [3,4] ?_;refine Oo ?_ ?_
 ·intro c4;refine Ox ?_;refine Oe ?_;refine Oo ?_ ?_
  ·intro c4;refine bT ?_;refine⟨congrArg (fun l=>AV.str (wd l)) ?_,rfl⟩
   exact bM
  ·intro c4;refine Oa [3,7] ?_;refine Oo ?_ ?_
   ·intro c7;refine bT ?_;refine⟨congrArg (fun l=>AV.str (wd l)) ?_,rfl⟩
    exact bM
   ·intro c7;refine Oa [3,9] ?_;refine Oo ?_ ?_
    ·intro c9;refine Ox ?_;refine Oe ?_;refine Oo ?_ ?_
     ·intro c9;refine bT ?_;refine⟨congrArg (fun l=>AV.str (wd l)) ?_,rfl⟩
      exact bM
     ·intro c9;refine Oa [3,13] ?_;refine Oo ?_ ?_
      ·intro c13;refine bT ?_;refine⟨congrArg (fun l=>AV.str (wd l)) ?_,rfl⟩
       exact bM
      ·intro c13;refine Oa [3,15] ?_;refine Oo ?_ ?_
       ·intro c15;refine Oy [15] ?_;refine Oo ?_ ?_
        ·intro c15;refine bT ?_;refine⟨congrArg (fun l=>AV.str (wd l)) ?_,rfl⟩
         exact bM
        ·intro c15;refine bP ?_;refine⟨congrArg (fun l=>AV.str (wd l)) ?_,rfl⟩
         exact bM
       ·intro c15;refine Oa [3,15] ?_;refine Oo ?_ ?_
        ·intro c15;refine Oy [15] ?_;refine Oo ?_ ?_
         ·intro c15;refine bT ?_;refine⟨congrArg (fun l=>AV.str (wd l)) ?_,rfl⟩
          exact bM
         ·intro c15;refine bP ?_;refine⟨congrArg (fun l=>AV.str (wd l)) ?_,rfl⟩
          exact bM
        ·intro c15;refine Oa [3,15] ?_;refine Oo ?_ ?_
         ·intro c15;refine Oy [15] ?_;refine Oo ?_ ?_
          ·intro c15;refine bT ?_;refine⟨congrArg (fun l=>AV.str (wd l)) ?_,rfl⟩
           exact bM
          ·intro c15;refine bP ?_;refine⟨congrArg (fun l=>AV.str (wd l)) ?_,rfl⟩
           exact bM
         ·intro c15;refine Oa [15] ?_;refine Oo ?_ ?_
          ·intro c15;refine bT ?_;refine⟨congrArg (fun l=>AV.str (wd l)) ?_,rfl⟩
           exact bM
          ·intro c15;refine bP ?_;refine⟨congrArg (fun l=>AV.str (wd l)) ?_,rfl⟩
           exact bM
    ·intro c9;refine Oa [3,9] ?_;refine Oo ?_ ?_
     ·intro c9;refine Ox ?_;refine Oe ?_;refine Oo ?_ ?_
      ·intro c9;refine bT ?_;refine⟨congrArg (fun l=>AV.str (wd l)) ?_,rfl⟩
       exact bM
      ·intro c9;refine Oa [3,13] ?_;refine Oo ?_ ?_
       ·intro c13;refine bT ?_;refine⟨congrArg (fun l=>AV.str (wd l)) ?_,rfl⟩
        exact bM
       ·intro c13;refine Oa [3,15] ?_;refine Oo ?_ ?_
        ·intro c15;refine Oy [15] ?_;refine Oo ?_ ?_
         ·intro c15;refine bT ?_;refine⟨congrArg (fun l=>AV.str (wd l)) ?_,rfl⟩
          exact bM
         ·intro c15;refine bP ?_;refine⟨congrArg (fun l=>AV.str (wd l)) ?_,rfl⟩
          exact bM
        ·intro c15;refine Oa [3,15] ?_;refine Oo ?_ ?_
         ·intro c15;refine Oy [15] ?_;refine Oo ?_ ?_
          ·intro c15;refine bT ?_;refine⟨congrArg (fun l=>AV.str (wd l)) ?_,rfl⟩
           exact bM
          ·intro c15;refine bP ?_;refine⟨congrArg (fun l=>AV.str (wd l)) ?_,rfl⟩
           exact bM
         ·intro c15;refine Oa [3,15] ?_;refine Oo ?_ ?_
          ·intro c15;refine Oy [15] ?_;refine Oo ?_ ?_
           ·intro c15;refine bT ?_;refine⟨congrArg (fun l=>AV.str (wd l)) ?_,rfl⟩
            exact bM
           ·intro c15;refine bP ?_;refine⟨congrArg (fun l=>AV.str (wd l)) ?_,rfl⟩
            exact bM
          ·intro c15;refine Oa [15] ?_;refine Oo ?_ ?_
           ·intro c15;refine bT ?_;refine⟨congrArg (fun l=>AV.str (wd l)) ?_,rfl⟩
            exact bM
           ·intro c15;refine bP ?_;refine⟨congrArg (fun l=>AV.str (wd l)) ?_,rfl⟩
            exact bM
     ·intro c9;refine Oa [3,9] ?_;refine Oo ?_ ?_
      ·intro c9;refine bT ?_;refine⟨congrArg (fun l=>AV.str (wd l)) ?_,rfl⟩
       exact bM
      ·intro c9;refine Oa [3,13] ?_;refine Oo ?_ ?_
       ·intro c13;refine bT ?_;refine⟨congrArg (fun l=>AV.str (wd l)) ?_,rfl⟩
        exact bM
       ·intro c13;refine Oa [3,15] ?_;refine Oo ?_ ?_
        ·intro c15;refine Oy [15] ?_;refine Oo ?_ ?_
         ·intro c15;refine bT ?_;refine⟨congrArg (fun l=>AV.str (wd l)) ?_,rfl⟩
          exact bM
         ·intro c15;refine bP ?_;refine⟨congrArg (fun l=>AV.str (wd l)) ?_,rfl⟩
          exact bM
        ·intro c15;refine Oa [3,15] ?_;refine Oo ?_ ?_
         ·intro c15;refine Oy [15] ?_;refine Oo ?_ ?_
          ·intro c15;refine bT ?_;refine⟨congrArg (fun l=>AV.str (wd l)) ?_,rfl⟩
           exact bM
          ·intro c15;refine bP ?_;refine⟨congrArg (fun l=>AV.str (wd l)) ?_,rfl⟩
           exact bM
         ·intro c15;refine Oa [3,15] ?_;refine Oo ?_ ?_
          ·intro c15;refine Oy [15] ?_;refine Oo ?_ ?_
           ·intro c15;refine bT ?_;refine⟨congrArg (fun l=>AV.str (wd l)) ?_,rfl⟩
            exact bM
           ·intro c15;refine bP ?_;refine⟨congrArg (fun l=>AV.str (wd l)) ?_,rfl⟩
            exact bM
          ·intro c15;refine Oa [15] ?_;refine Oo ?_ ?_
           ·intro c15;refine bT ?_;refine⟨congrArg (fun l=>AV.str (wd l)) ?_,rfl⟩
            exact bM
           ·intro c15;refine bP ?_;refine⟨congrArg (fun l=>AV.str (wd l)) ?_,rfl⟩
            exact bM
 ·intro c4;refine Oa [3,4] ?_;refine Oo ?_ ?_
  ·intro c4;refine bT ?_;refine⟨congrArg (fun l=>AV.str (wd l)) ?_,rfl⟩
   exact bM
  ·intro c4;refine Oa [3,7] ?_;refine Oo ?_ ?_
   ·intro c7;refine bT ?_;refine⟨congrArg (fun l=>AV.str (wd l)) ?_,rfl⟩
    exact bM
   ·intro c7;refine Oa [3,9] ?_;refine Oo ?_ ?_
    ·intro c9;refine Ox ?_;refine Oe ?_;refine Oo ?_ ?_
     ·intro c9;refine bT ?_;refine⟨congrArg (fun l=>AV.str (wd l)) ?_,rfl⟩
      exact bM
     ·intro c9;refine Oa [3,13] ?_;refine Oo ?_ ?_
      ·intro c13;refine bT ?_;refine⟨congrArg (fun l=>AV.str (wd l)) ?_,rfl⟩
       exact bM
      ·intro c13;refine Oa [3,15] ?_;refine Oo ?_ ?_
       ·intro c15;refine Oy [15] ?_;refine Oo ?_ ?_
        ·intro c15;refine bT ?_;refine⟨congrArg (fun l=>AV.str (wd l)) ?_,rfl⟩
         exact bM
        ·intro c15;refine bP ?_;refine⟨congrArg (fun l=>AV.str (wd l)) ?_,rfl⟩
         exact bM
       ·intro c15;refine Oa [3,15] ?_;refine Oo ?_ ?_
        ·intro c15;refine Oy [15] ?_;refine Oo ?_ ?_
         ·intro c15;refine bT ?_;refine⟨congrArg (fun l=>AV.str (wd l)) ?_,rfl⟩
          exact bM
         ·intro c15;refine bP ?_;refine⟨congrArg (fun l=>AV.str (wd l)) ?_,rfl⟩
          exact bM
        ·intro c15;refine Oa [3,15] ?_;refine Oo ?_ ?_
         ·intro c15;refine Oy [15] ?_;refine Oo ?_ ?_
          ·intro c15;refine bT ?_;refine⟨congrArg (fun l=>AV.str (wd l)) ?_,rfl⟩
           exact bM
          ·intro c15;refine bP ?_;refine⟨congrArg (fun l=>AV.str (wd l)) ?_,rfl⟩
           exact bM
         ·intro c15;refine Oa [15] ?_;refine Oo ?_ ?_
          ·intro c15;refine bT ?_;refine⟨congrArg (fun l=>AV.str (wd l)) ?_,rfl⟩
           exact bM
          ·intro c15;refine bP ?_;refine⟨congrArg (fun l=>AV.str (wd l)) ?_,rfl⟩
           exact bM
    ·intro c9;refine Oa [3,9] ?_;refine Oo ?_ ?_
     ·intro c9;refine Ox ?_;refine Oe ?_;refine Oo ?_ ?_
      ·intro c9;refine bT ?_;refine⟨congrArg (fun l=>AV.str (wd l)) ?_,rfl⟩
       exact bM
      ·intro c9;refine Oa [3,13] ?_;refine Oo ?_ ?_
       ·intro c13;refine bT ?_;refine⟨congrArg (fun l=>AV.str (wd l)) ?_,rfl⟩
        exact bM
       ·intro c13;refine Oa [3,15] ?_;refine Oo ?_ ?_
        ·intro c15;refine Oy [15] ?_;refine Oo ?_ ?_
         ·intro c15;refine bT ?_;refine⟨congrArg (fun l=>AV.str (wd l)) ?_,rfl⟩
          exact bM
         ·intro c15;refine bP ?_;refine⟨congrArg (fun l=>AV.str (wd l)) ?_,rfl⟩
          exact bM
        ·intro c15;refine Oa [3,15] ?_;refine Oo ?_ ?_
         ·intro c15;refine Oy [15] ?_;refine Oo ?_ ?_
          ·intro c15;refine bT ?_;refine⟨congrArg (fun l=>AV.str (wd l)) ?_,rfl⟩
           exact bM
          ·intro c15;refine bP ?_;refine⟨congrArg (fun l=>AV.str (wd l)) ?_,rfl⟩
           exact bM
         ·intro c15;refine Oa [3,15] ?_;refine Oo ?_ ?_
          ·intro c15;refine Oy [15] ?_;refine Oo ?_ ?_
           ·intro c15;refine bT ?_;refine⟨congrArg (fun l=>AV.str (wd l)) ?_,rfl⟩
            exact bM
           ·intro c15;refine bP ?_;refine⟨congrArg (fun l=>AV.str (wd l)) ?_,rfl⟩
            exact bM
          ·intro c15;refine Oa [15] ?_;refine Oo ?_ ?_
           ·intro c15;refine bT ?_;refine⟨congrArg (fun l=>AV.str (wd l)) ?_,rfl⟩
            exact bM
           ·intro c15;refine bP ?_;refine⟨congrArg (fun l=>AV.str (wd l)) ?_,rfl⟩
            exact bM
     ·intro c9;refine Oa [3,9] ?_;refine Oo ?_ ?_
      ·intro c9;refine bT ?_;refine⟨congrArg (fun l=>AV.str (wd l)) ?_,rfl⟩
       exact bM
      ·intro c9;refine Oa [3,13] ?_;refine Oo ?_ ?_
       ·intro c13;refine bT ?_;refine⟨congrArg (fun l=>AV.str (wd l)) ?_,rfl⟩
        exact bM
       ·intro c13;refine Oa [3,15] ?_;refine Oo ?_ ?_
        ·intro c15;refine Oy [15] ?_;refine Oo ?_ ?_
         ·intro c15;refine bT ?_;refine⟨congrArg (fun l=>AV.str (wd l)) ?_,rfl⟩
          exact bM
         ·intro c15;refine bP ?_;refine⟨congrArg (fun l=>AV.str (wd l)) ?_,rfl⟩
          exact bM
        ·intro c15;refine Oa [3,15] ?_;refine Oo ?_ ?_
         ·intro c15;refine Oy [15] ?_;refine Oo ?_ ?_
          ·intro c15;refine bT ?_;refine⟨congrArg (fun l=>AV.str (wd l)) ?_,rfl⟩
           exact bM
          ·intro c15;refine bP ?_;refine⟨congrArg (fun l=>AV.str (wd l)) ?_,rfl⟩
           exact bM
         ·intro c15;refine Oa [3,15] ?_;refine Oo ?_ ?_
          ·intro c15;refine Oy [15] ?_;refine Oo ?_ ?_
           ·intro c15;refine bT ?_;refine⟨congrArg (fun l=>AV.str (wd l)) ?_,rfl⟩
            exact bM
           ·intro c15;refine bP ?_;refine⟨congrArg (fun l=>AV.str (wd l)) ?_,rfl⟩
            exact bM
          ·intro c15;refine Oa [15] ?_;refine Oo ?_ ?_
           ·intro c15;refine bT ?_;refine⟨congrArg (fun l=>AV.str (wd l)) ?_,rfl⟩
            exact bM
           ·intro c15;refine bP ?_;refine⟨congrArg (fun l=>AV.str (wd l)) ?_,rfl⟩
            exact bM
theorem WW {h:AHeap} {l:Str} {m:Nat} (hm:m≤4) (hl:l.length≤1000000):ACalls Go.Proofs.Tryz.prog 95 [.str (wd l),.int .i64 (m:Int)] h (fun q h'=>q = .tup [.int .i64 (if KU l m then QF l else 0),.bool (KU l m)]∧Keeps h h'):=by
 refine OH 45 [.tmp 4,.tmp 5] Go.Proofs.Tryz.func95 rfl aE rfl rfl (dE rfl) ?_;have hS:=St.refl h;show KA _ 45 _ _ [(0,.str (wd l)),(1,.int .i64 (m:Int))] _;refine O5 [0,1] ?_;refine OC ?_;refine KOps.wEql ?_;refine Od ?_;refine OD (dj:=11) rfl rfl false true rfl ?_ ?_
 ·intro g11;have g11:=of_decide_eq_false g11;refine OC ?_;refine Ze ?_;refine OC ?_;refine KOps.gtr ?_;refine OG ?_;refine Od ?_;refine OD (dj:=17) rfl rfl false true rfl ?_ ?_
  ·intro g17;have g17:=of_decide_eq_false g17;refine OC ?_;refine Ze ?_;refine Of (dj:=17) rfl rfl ?_;refine KOps.gtr ?_;refine OC ?_;refine OD (dj:=21) rfl rfl true false rfl ?_ ?_
   ·intro g21;have g21:=of_decide_eq_true g21;refine OC ?_;refine KOps.wAt (j:=0) rfl aB ?_;refine Of (dj:=21) rfl rfl ?_;refine KV ?_;refine Of (dj:=17) rfl rfl ?_;refine Ks ?_;refine OG ?_;refine Om [0,26] ?_;refine Oo ?_ ?_
    ·intro c26;refine O5 [4,5] ?_;refine Oi ?_;have hq:KU l m=false:=by
      obtain⟨c,l',rfl⟩:∃ c l',l=c::l':=by
       cases l with
       | nil=>exact absurd rfl g11
       | cons c l'=>exact⟨c,l',rfl⟩
      have hc : c = 48 := UInt8.toNat_inj.1 (by have h48 : (48 : UInt8).toNat = 48 := by decide
                                                rw[h48]; simp at c26; omega)
      have hl1:¬ (c::l').length=1:=by omega
      unfold KU;rw[decide_eq_false hl1,hc];simp
     rw[hq];exact⟨rfl,hS.keeps⟩
    ·intro c26;refine Oy [0] ?_;refine OC ?_;refine Og ?_;refine Oe ?_;refine OC ?_;refine KOps.range hS rfl ?_;intro v28 h' hv28 hS;refine Om [6,28] ?_;refine Oz ?_;refine Kd (X:=Nat) (fun p=>[(6,.int .i64 (QF (l.take p))),(28,v28)]) (fun p h'=>p≤l.length∧(∀ q,q<p→XN (l.getD q 0)=true)∧St h h' [walkO v28 (wd l) p]) (fun p=>l.length - p) 0 ?_ ?_;exact⟨dL _,fun q hq=>absurd hq (dG _),hS⟩;rintro p h2 ⟨hp,hb,hS⟩;refine Ot ?_;refine KOps.next hS hv28 (i:=0) rfl rfl ?_ ?_;intro np h' hS;simp only[dC,dD,dJ] at hS;have hlt:p<l.length:=by rw[wd_size] at np; exact np
     obtain⟨hn0,hn1⟩:=Ua p aA hb;have hn2:(10:Int) ^ p≤10 ^ 4:=by
      have : 10 ^ p≤10 ^ 4:=dM aE aA
      exact_mod_cast this
     have hn3:(10:Int) ^ 4=10000:=by decide
     have hu:=(l.getD p 0).toNat_lt;refine OJ ?_;refine br ?_;refine KI ?_;refine Oy [6,28,29] ?_;refine Oz ?_;refine O5 [6,8,28] ?_;refine OC ?_;refine Qn ?_;refine Od ?_;refine OD (dj:=34) rfl rfl false true rfl ?_ ?_;intro g34;have g34:=of_decide_eq_false g34;refine OC ?_;refine KOps.gtr ?_;refine OG ?_;refine Om [6,8,28,35,36,37] ?_;refine Oo ?_ ?_;intro c37;refine O5 [4,5] ?_;refine Oi ?_;have hq:KU l m=false:=Va hlt (by
      unfold XN;rw[decide_eq_false_iff_not];intro hd;rw[Ya hlt aA] at *;simp at *;omega)
     rw[hq];exact⟨rfl,hS.keeps⟩;intro c37;refine Oy [6,8,28,35,36] ?_;refine OI rfl ?_;have hd:(l.getD p 0).toNat<128:=by
      apply dF;intro hn;have:=JC hlt (show 128≤(l.getD p 0).toNat by omega);omega
     simp only[Ya hlt hd] at hS c37 g34⊢;refine Od ?_;refine KOps.mul aC aC ?_;refine Od ?_;refine KOps.subK (wrap32 aC aC) ?_;refine KOps.convIn (wrap64 aA aA) ?_;refine Kn aC aC ?_;refine cW ?_;refine Ol ?_;exact KZ (p+1) ae ⟨hlt,fun q hq=>by
      rcases dY.1 hq with g|rfl
      exact hb q g;unfold XN; rw[decide_eq_true_iff]; omega,hS⟩ aA
     intro g34;have g34:=of_decide_eq_true g34;refine Ke (dj:=34) rfl rfl rfl ?_;refine Ks ?_;refine Om [6,8,28,35,36,37] ?_;refine KI ?_;refine O5 [4,5] ?_;refine Oi ?_;have hq:KU l m=false:=Va hlt (by
      unfold XN;rw[decide_eq_false_iff_not];intro hd;rw[Ya hlt aA] at *;simp at *;omega)
     rw[hq];exact⟨rfl,hS.keeps⟩
     ·intro np;refine OJ ?_;refine br ?_;refine OK ?_;refine bQ ?_;refine Ou [6] ?_;refine O5 [4,5] ?_;refine Oi ?_;have hpe:p=l.length:=by rw[wd_size] at np; omega
      subst hpe;have hq:KU l m=true:=by
       have h1:=UR hb;unfold KU;rw[h1,decide_eq_true g11,decide_eq_true (show l.length≤m by omega)];simp;by_cases h2:l.length=1;exact .inl h2
       ·right;intro h3;obtain⟨c,l',rfl⟩:∃ c l',l=c::l':=by
         cases l with
         | nil=>exact absurd rfl g11
         | cons c l'=>exact⟨c,l',rfl⟩
        simp at h3;subst h3
        first
          | (exact absurd rfl c26; done)
          | (simp at c26; done)
          | (rw[dN] at g21 h2; omega)
      rw[hq,dP];exact⟨rfl,hS.keeps⟩
   ·intro g21;have g21:=of_decide_eq_false g21;refine OC ?_;refine OG ?_;refine OG ?_;refine Om [0,26] ?_;refine OK ?_;refine Oy [0] ?_;refine OC ?_;refine Og ?_;refine Oe ?_;refine OC ?_;refine KOps.range hS rfl ?_;intro v28 h' hv28 hS;refine Om [6,28] ?_;refine Oz ?_;refine Kd (X:=Nat) (fun p=>[(6,.int .i64 (QF (l.take p))),(28,v28)]) (fun p h'=>p≤l.length∧(∀ q,q<p→XN (l.getD q 0)=true)∧St h h' [walkO v28 (wd l) p]) (fun p=>l.length - p) 0 ?_ ?_;exact⟨dL _,fun q hq=>absurd hq (dG _),hS⟩;rintro p h2 ⟨hp,hb,hS⟩;refine Ot ?_;refine KOps.next hS hv28 (i:=0) rfl rfl ?_ ?_;intro np h' hS;simp only[dC,dD,dJ] at hS;have hlt:p<l.length:=by rw[wd_size] at np; exact np
    obtain⟨hn0,hn1⟩:=Ua p aA hb;have hn2:(10:Int) ^ p≤10 ^ 4:=by
     have : 10 ^ p≤10 ^ 4:=dM aE aA
     exact_mod_cast this
    have hn3:(10:Int) ^ 4=10000:=by decide
    have hu:=(l.getD p 0).toNat_lt;refine OJ ?_;refine br ?_;refine KI ?_;refine Oy [6,28,29] ?_;refine Oz ?_;refine O5 [6,8,28] ?_;refine OC ?_;refine Qn ?_;refine Od ?_;refine OD (dj:=34) rfl rfl false true rfl ?_ ?_;intro g34;have g34:=of_decide_eq_false g34;refine OC ?_;refine KOps.gtr ?_;refine OG ?_;refine Om [6,8,28,35,36,37] ?_;refine Oo ?_ ?_;intro c37;refine O5 [4,5] ?_;refine Oi ?_;have hq:KU l m=false:=Va hlt (by
     unfold XN;rw[decide_eq_false_iff_not];intro hd;rw[Ya hlt aA] at *;simp at *;omega)
    rw[hq];exact⟨rfl,hS.keeps⟩;intro c37;refine Oy [6,8,28,35,36] ?_;refine OI rfl ?_;have hd:(l.getD p 0).toNat<128:=by
     apply dF;intro hn;have:=JC hlt (show 128≤(l.getD p 0).toNat by omega);omega
    simp only[Ya hlt hd] at hS c37 g34⊢;refine Od ?_;refine KOps.mul aC aC ?_;refine Od ?_;refine KOps.subK (wrap32 aC aC) ?_;refine KOps.convIn (wrap64 aA aA) ?_;refine Kn aC aC ?_;refine cW ?_;refine Ol ?_;exact KZ (p+1) ae ⟨hlt,fun q hq=>by
     rcases dY.1 hq with g|rfl
     exact hb q g;unfold XN; rw[decide_eq_true_iff]; omega,hS⟩ aA
    intro g34;have g34:=of_decide_eq_true g34;refine Ke (dj:=34) rfl rfl rfl ?_;refine Ks ?_;refine Om [6,8,28,35,36,37] ?_;refine KI ?_;refine O5 [4,5] ?_;refine Oi ?_;have hq:KU l m=false:=Va hlt (by
     unfold XN;rw[decide_eq_false_iff_not];intro hd;rw[Ya hlt aA] at *;simp at *;omega)
    rw[hq];exact⟨rfl,hS.keeps⟩
    ·intro np;refine OJ ?_;refine br ?_;refine OK ?_;refine bQ ?_;refine Ou [6] ?_;refine O5 [4,5] ?_;refine Oi ?_;have hpe:p=l.length:=by rw[wd_size] at np; omega
     subst hpe;have hq:KU l m=true:=by
      have h1:=UR hb;unfold KU;rw[h1,decide_eq_true g11,decide_eq_true (show l.length≤m by omega)];simp;by_cases h2:l.length=1;exact .inl h2
      ·right;intro h3;obtain⟨c,l',rfl⟩:∃ c l',l=c::l':=by
        cases l with
        | nil=>exact absurd rfl g11
        | cons c l'=>exact⟨c,l',rfl⟩
       simp at h3;subst h3
       first
         | (exact absurd rfl c26; done)
         | (simp at c26; done)
         | (rw[dN] at g21 h2; omega)
     rw[hq,dP];exact⟨rfl,hS.keeps⟩
  intro g17;have g17:=of_decide_eq_true g17;refine cd ?_;refine Oi ?_;have hq:KU l m=false:=by
   unfold KU;rw[decide_eq_false (show¬ l.length≤m by omega)];simp
  rw[hq];exact⟨rfl,hS.keeps⟩
 intro g11;have g11:=of_decide_eq_true g11;refine OC ?_;refine Ks ?_;refine cd ?_;refine Oi ?_;have hq:KU l m=false:=by
  unfold KU;rw[g11];simp
 rw[hq];exact⟨rfl,hS.keeps⟩
end Go.Am
