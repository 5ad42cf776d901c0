/-
  Tops: turned from layer 14: Ca.
  Conditions: none.
-/
import Derived.Test.YtdfhmdhjeiipfaaGreatDoorQOb
open Classical renaming byContradiction → dP
open List renaming getElem?_eq_getElem → dO, getD_eq_getElem?_getD → dY, set_cons_zero → dQ, set_cons_succ → dR, mem_iff_getElem → dT, getElem_mem → dV, length_cons → fA, take_length → fE
open Nat renaming le_of_ble_eq_true → dU, lt_succ_iff_lt_or_eq → dN, not_lt_zero → dS, zero_add → dW, zero_le → dX, pow_le_pow_right → dZ
open Option renaming getD_some → dM
set_option maxRecDepth 99999
set_option maxHeartbeats 4000000
namespace Go.Am
def ixE (l:List Str) (x:Str):Int:=if x∈l then (O6 l x:Int) else -1
theorem ixOf_no {κ:Type} [DecidableEq κ] {l:List κ} {x : κ} {i:Nat} (hi:i<l.length) (hx:x=l[i]) (hno:∀ j (hj:j<i),x≠l[j]'aA):O6 l x=i:=by
 induction l generalizing i with
 | nil=>simp at hi
 | cons a l ih=>
  simp only[O6]
  cases i with
  | zero=>rw[if_pos ar]
  | succ i=>
   have h0:=hno 0 aA;rw[if_neg (by simpa using h0),ih (i:=i) ae ar (fun j hj=>by simpa using hno (j+1) aA)]
theorem UY {h:AHeap} {v:AV} {l:List Str} {x:Str} (hv:WRowQ h v l) (hl:l.length≤1000000):ACalls Go.Proofs.Tryz.prog 174 [v,.str (wdQ x)] h (fun q h'=>q = .int .i64 (ixE l x)∧h=h'):=by
 refine OI 19 [.tmp 4] Go.Proofs.Tryz.func174 rfl aE rfl rfl (dU rfl) ?_;show KA _ 19 _ _ [(0,v),(1,.str (wdQ x))] _;refine bw ?_;refine Kk hv ?_;refine Oa [0,1,7,8] ?_;refine Oz ?_;refine Kb (X:=Nat) (fun i=>[(0,v),(1,.str (wdQ x)),(7,.int .i64 (l.length:Int)),(8,.int .i64 (i:Int))]) (fun i h'=>i≤l.length∧(∀ j,j<i→x≠l.getD j [])∧h=h') (fun i=>l.length - i) 0 ⟨dX _,fun j hj=>absurd hj (dS _),rfl⟩ ?_;rintro i h2 ⟨hi,hno,rfl⟩;refine cM ?_;refine Om ?_ ?_
 ·intro c9;refine OC [0,1,7,8] ?_;refine bg ?_;refine Oa [0,1,5,7,8] ?_;refine Oc ?_;refine OD hv (j:=i) rfl aF ?_;intro p14 hp14;refine Kv hp14 hv aF ?_;refine Oa [0,1,5,7,8,16] ?_;refine Om ?_ ?_;intro c16;refine bV ?_;have hil:i<l.length:=by omega
  rw[dY,dO hil,dM] at c16;have hio:=ixOf_no hil c16 (fun j hj=>by
   have:=hno j hj;rw[dY,dO (show j<l.length by omega),dM] at this;exact this)
  exact⟨by rw[ixE,if_pos (c16 ▸ dV hil),hio],rfl⟩;intro c16;refine b3 ?_;refine Ox [0,1,7,8] ?_;refine bT ?_;exact lpN (i+1) ⟨by omega,fun j hj=>by
   rcases dN.1 hj with q|rfl
   exact hno j q;exact c16,rfl⟩ aA
 intro c9;refine cE ?_;have hie:i=l.length:=by omega
 refine⟨?_,rfl⟩;rw[ixE,if_neg];intro hm;obtain⟨j,hj,he⟩:=dT.1 hm;refine hno j aA ?_;rw[dY,dO hj,dM,he]
theorem Yn {h:AHeap} {v:AV} {l:List Str} {x:Str} (hv:WRowQ h v l) (hl:l.length≤1000000):ACalls Go.Proofs.Tryz.prog 135 [v,.str (wdQ x)] h (fun q h'=>q = .bool (decide (x∈l))∧h=h'):=by
 refine OI 9 [.tmp 4] Go.Proofs.Tryz.func135 rfl aE rfl rfl (dU rfl) ?_;show KA _ 9 _ _ [(0,v),(1,.str (wdQ x))] _;refine bw ?_;refine Ol rfl (UY hv aA) ?_;rintro _ _ ⟨rfl,rfl⟩;refine bV ?_;refine cZ ?_;unfold ixE;by_cases hm:x∈l;rw[if_pos hm,decide_eq_true hm,decide_eq_true aA];rw[if_neg hm,decide_eq_false hm,decide_eq_false aA]
theorem cloneI_nil {h:AHeap}:ACalls Go.Proofs.Tryz.prog 188 [.nils] h (fun q h'=>q = .nils∧h=h'):=by
 refine OI 8 [.tmp 2] Go.Proofs.Tryz.func188 rfl aE rfl rfl (dU rfl) ?_;show KA _ 8 _ _ [(0,.nils)] _;refine Oa [0] ?_;refine Oc ?_;refine KOps.nilEqY rfl ?_;refine On [0,4] ?_;refine KL ?_;refine bW ?_;exact⟨rfl,rfl⟩
theorem cloneI_slc {h:AHeap} {v:AV} {l:List Int} (hv:Row h v l) (hs:VV v) (hl:l.length≤1000000):ACalls Go.Proofs.Tryz.prog 188 [v] h (fun q h'=>St h h' [⟨q,1,ints l,true⟩]):=by
 refine OI 8 [.tmp 2] Go.Proofs.Tryz.func188 rfl aE rfl rfl (dU rfl) ?_;have hS:=St.refl h;show KA _ 8 _ _ [(0,v)] _;refine Oa [0] ?_;refine Oc ?_;refine KOps.nilEqS hs ?_;refine On [0,4] ?_;refine OP ?_;refine OC [0] ?_;refine Oq ?_;refine bo ?_;intro v5 h' hS;refine Of ?_;refine Z0 hS (fun _=>rfl) (i:=0) rfl (a:=0) rfl (Rd.ext hS.keeps hv) (b:=l.length) aN (by simp[AV.one]) aA ?_;intro v7 h' hS;simp only[dQ,dR,dW] at hS;refine bW ?_;exact hS
theorem TL {h:AHeap} {v:AV} {l:List Int} (hv:Row h v l) (hl:l.length≤1000000):ACalls Go.Proofs.Tryz.prog 188 [v] h (fun q h'=>St h h' [⟨q,1,ints l,true⟩]):=by
 rcases Rd.nilOr hv aE with ⟨h1,h2⟩|h1
 subst h1;have e:l = []:=by simpa using h2
 subst e;refine cloneI_nil.mono ?_;rintro q h' ⟨rfl,rfl⟩;exact(St.refl h).nil 1;exact cloneI_slc hv h1 hl
end Go.Am
namespace Go.Am
def VH (c:UInt8):Bool:=decide (c.toNat<32∨126<c.toNat)
theorem any_at {p:UInt8→Bool} {l:Str} {i:Nat} (hi:i<l.length) (h:p (l.getD i 0)=true):l.any p=true:=by
 rw[List.any_eq_true];rw[dY,dO hi,dM] at h;exact⟨_,dV hi,h⟩
theorem any_no {p:UInt8→Bool} {l:Str} (h:∀ i,i<l.length→p (l.getD i 0)=false):l.any p=false:=by
 rw[List.any_eq_false];intro x hx;obtain⟨i,hi,rfl⟩:=dT.1 hx;have:=h i hi;rw[dY,dO hi,dM] at this;simp[this]
theorem badR_c {h:AHeap} {r:Nat}:ACalls Go.Proofs.Tryz.prog 137 [.int .i32 (r:Int)] h (fun q h'=>q = .bool (decide (r<32∨126<r))∧h=h'):=by
 refine OI 9 [.tmp 2] Go.Proofs.Tryz.func137 rfl aE rfl rfl (dU rfl) ?_;show KA _ 9 _ _ [(0,.int .i32 (r:Int))] _;refine Oa [0] ?_;refine Oc ?_;refine Ow (dj:=5) rfl rfl false true rfl ?_ ?_;intro g5;have g5:=of_decide_eq_false g5;refine bW ?_;refine cZ ?_;rw[Bool.eq_iff_iff,decide_eq_true_iff];simp;omega;intro g5;have g5:=of_decide_eq_true g5;refine bW ?_;refine cZ ?_;rw[Bool.eq_iff_iff,decide_eq_true_iff];simp;omega
theorem indexBad_c {h:AHeap} {l:Str} (hl:l.length≤1000000):ACalls Go.Proofs.Tryz.prog 199 [.str (wdQ l),.fn 137 [],.bool true] h (fun q h'=>(∃ c:Int,q = .int .i64 c∧(0≤c↔l.any VH=true))∧Keeps h h'):=by
 refine OI 21 [.tmp 6] Go.Proofs.Tryz.func199 rfl aE rfl rfl (dU rfl) ?_;have hS:=St.refl h;show KA _ 21 _ _ [(0,.str (wdQ l)),(1,.fn 137 []),(2,.bool true)] _;refine OL [0,1,2] ?_;refine OE ?_;refine KOps.range hS rfl ?_;intro v10 h' hv10 hS;refine On [1,2,10] ?_;refine Oz ?_;refine Kb (X:=Nat) (fun p=>[(1,.fn 137 []),(2,.bool true),(10,v10)]) (fun p h'=>p≤l.length∧(∀ q,q<p→VH (l.getD q 0)=false)∧St h h' [walkO v10 (wdQ l) p]) (fun p=>l.length - p) 0 ?_ ?_;exact⟨dX _,fun q hq=>absurd hq (dS _),hS⟩;rintro p h2 ⟨hp,hb,hS⟩;refine Oq ?_;refine KOps.next hS hv10 (i:=0) rfl rfl ?_ ?_;intro np h' hS;simp only[dQ,dR,dW] at hS;have hlt:p<l.length:=by rw[wd_size] at np; exact np
 refine dC ?_;refine KL ?_;refine OC [1,2,10,11] ?_;refine Oz ?_;refine OL [1,2,7,8,10] ?_;refine OE ?_;refine Ol rfl (badR_c) ?_;rintro _ _ ⟨rfl,rfl⟩;refine Of ?_;refine KOps.eqlB aC ?_;refine On [1,2,7,10,19] ?_;refine Km ?_ ?_;intro c19;refine OL [6] ?_;refine Oh ?_;refine⟨⟨_,rfl,⟨fun _=>any_at hlt ?_,fun _=>by omega⟩⟩,hS.keeps⟩;unfold VH;by_cases hd:(l.getD p 0).toNat<128;rw[YN hlt hd] at c19; simpa using c19;rw[decide_eq_true_iff]; omega;intro c19;refine b8 ?_;have hd:(l.getD p 0).toNat<128:=by
  apply dP;intro hn;have:=UW hlt (show 128≤(l.getD p 0).toNat by omega);simp at c19;omega
 rw[YN hlt hd] at hS c19;exact lpN (p+1) ⟨hlt,fun q hq=>by
  rcases dN.1 hq with g|rfl
  exact hb q g;unfold VH; simpa using c19,hS⟩ aA
 intro np;refine dC ?_;refine OP ?_;refine bP ?_;refine Ox [] ?_;refine OE ?_;refine b6 ?_;refine Oh ?_;have hpe:p=l.length:=by rw[wd_size] at np; omega
 subst hpe;refine⟨⟨_,rfl,⟨fun h=>absurd h aE,fun h=>?_⟩⟩,hS.keeps⟩;rw[any_no hb] at h;cases h
theorem SG {h:AHeap} {l:Str} (hl:l.length≤1000000):ACalls Go.Proofs.Tryz.prog 175 [.str (wdQ l),.fn 137 []] h (fun q h'=>(∃ c:Int,q = .int .i64 c∧(0≤c↔l.any VH=true))∧Keeps h h'):=by
 refine OI 8 [.tmp 4] Go.Proofs.Tryz.func175 rfl aE rfl rfl (dU rfl) ?_;show KA _ 8 _ _ [(0,.str (wdQ l)),(1,.fn 137 [])] _;refine bw ?_;refine Ol rfl (indexBad_c hl) ?_;rintro _ h2 ⟨⟨c,rfl,hc⟩,hK⟩;refine bV ?_;exact⟨⟨_,rfl,hc⟩,hK⟩
theorem Tk {h:AHeap} {l:Str} (hl:l.length≤1000000):ACalls Go.Proofs.Tryz.prog 136 [.str (wdQ l),.fn 137 []] h (fun q h'=>q = .bool (l.any VH)∧Keeps h h'):=by
 refine OI 9 [.tmp 4] Go.Proofs.Tryz.func136 rfl aE rfl rfl (dU rfl) ?_;show KA _ 9 _ _ [(0,.str (wdQ l)),(1,.fn 137 [])] _;refine bw ?_;refine Ol rfl (SG hl) ?_;rintro _ h2 ⟨⟨c,rfl,hc⟩,hK⟩;refine bV ?_;refine⟨congrArg AV.bool ?_,hK⟩;rw[Bool.eq_iff_iff,decide_eq_true_iff];exact hc
end Go.Am
namespace Go.Am
theorem numV_snoc (l:Str) (c:UInt8):ZW (l ++ [c])=10*ZW l+((c.toNat:Int) - 48):=by simp[ZW]
theorem JV {l:Str} {p:Nat} (hp:p<l.length):ZW (l.take (p+1))=10*ZW (l.take p)+(((l.getD p 0).toNat:Int) - 48):=by
 rw[List.take_add_one,dO hp,Option.toList_some,numV_snoc,dY,dO hp,dM]
def Yb (c:UInt8):Bool:=decide (48≤c.toNat∧c.toNat≤57)
theorem WG:∀ {l:Str} (p:Nat),p≤l.length→(∀ q,q<p→Yb (l.getD q 0)=true)→0≤ZW (l.take p)∧ZW (l.take p)<10 ^ p:=by
 intro l p
 induction p with
 | zero=>intro _ _; rw[List.take_zero]; exact⟨by decide,by decide⟩
 | succ p ih=>
  intro hp hd;obtain⟨h1,h2⟩:=ih aA (fun q hq=>hd q aA);have h3:=hd p aA;rw[Yb,decide_eq_true_iff] at h3;rw[JV aA,Int.pow_succ];omega
theorem Jd {l:Str} {m p:Nat} (hp:p<l.length) (h:Yb (l.getD p 0)=false):Qq l m=false:=by
 have:(l.all fun c=>decide (48≤c.toNat∧c.toNat≤57))=false:=by
  rw[List.all_eq_false];rw[dY,dO hp,dM] at h;refine⟨_,dV hp,?_⟩;unfold Yb at h;rw[h]; decide
 unfold Qq;rw[this,Bool.and_false]
theorem R1 {l:Str} (h:∀ q,q<l.length→Yb (l.getD q 0)=true):(l.all fun c=>decide (48≤c.toNat∧c.toNat≤57))=true:=by
 rw[List.all_eq_true];intro x hx;obtain⟨i,hi,rfl⟩:=dT.1 hx;have:=h i hi;rw[dY,dO hi,dM] at this;exact this
theorem form_c {h:AHeap} {k:Str}:ACalls Go.Proofs.Tryz.prog 138 [.str (wdQ k)] h (fun q h'=>q = .str (wdQ (O4 k))∧h=h'):=by
 refine OI 20 [.tmp 2] Go.Proofs.Tryz.func138 rfl aE rfl rfl (dU rfl) ?_;show KA _ 20 _ _ [(0,.str (wdQ k))] _;refine Oa [0] ?_;refine Oa [3] ?_;refine Oz ?_;refine Oa [3,4] ?_;refine Om ?_ ?_
 ·intro c4;refine OB ?_;refine Od ?_;refine Om ?_ ?_
  ·intro c4;refine bW ?_;refine⟨congrArg (fun l=>AV.str (wdQ l)) ?_,rfl⟩
   exact bL
  ·intro c4;refine Oa [3,7] ?_;refine Om ?_ ?_
   ·intro c7;refine bW ?_;refine⟨congrArg (fun l=>AV.str (wdQ l)) ?_,rfl⟩
    exact bL
   ·intro c7;refine Oa [3,9] ?_;refine Om ?_ ?_
    ·intro c9;refine OB ?_;refine Od ?_;refine Om ?_ ?_
     ·intro c9;refine bW ?_;refine⟨congrArg (fun l=>AV.str (wdQ l)) ?_,rfl⟩
      exact bL
     ·intro c9;refine Oa [3,13] ?_;refine Om ?_ ?_
      ·intro c13;refine bW ?_;refine⟨congrArg (fun l=>AV.str (wdQ l)) ?_,rfl⟩
       exact bL
      ·intro c13;refine Oa [3,15] ?_;refine Om ?_ ?_
       ·intro c15;refine OC [15] ?_;refine Om ?_ ?_
        ·intro c15;refine bW ?_;refine⟨congrArg (fun l=>AV.str (wdQ l)) ?_,rfl⟩
         exact bL
        ·intro c15;refine bO ?_;refine⟨congrArg (fun l=>AV.str (wdQ l)) ?_,rfl⟩
         exact bL
       ·intro c15;refine Oa [3,15] ?_;refine Om ?_ ?_
        ·intro c15;refine OC [15] ?_;refine Om ?_ ?_
         ·intro c15;refine bW ?_;refine⟨congrArg (fun l=>AV.str (wdQ l)) ?_,rfl⟩
          exact bL
         ·intro c15;refine bO ?_;refine⟨congrArg (fun l=>AV.str (wdQ l)) ?_,rfl⟩
          exact bL
        ·intro c15;refine Oa [3,15] ?_;refine Om ?_ ?_
         ·intro c15;refine OC [15] ?_;refine Om ?_ ?_
          ·intro c15;refine bW ?_;refine⟨congrArg (fun l=>AV.str (wdQ l)) ?_,rfl⟩
           exact bL
          ·intro c15;refine bO ?_;refine⟨congrArg (fun l=>AV.str (wdQ l)) ?_,rfl⟩
           exact bL
         ·intro c15;refine Oa [15] ?_;refine Om ?_ ?_
          ·intro c15;refine bW ?_;refine⟨congrArg (fun l=>AV.str (wdQ l)) ?_,rfl⟩
           exact bL
          ·intro c15;refine bO ?_;refine⟨congrArg (fun l=>AV.str (wdQ l)) ?_,rfl⟩
           exact bL
    ·intro c9;refine Oa [3,9] ?_;refine Om ?_ ?_
     ·intro c9;refine OB ?_;refine Od ?_;refine Om ?_ ?_
      ·intro c9;refine bW ?_;refine⟨congrArg (fun l=>AV.str (wdQ l)) ?_,rfl⟩
       exact bL
      ·intro c9;refine Oa [3,13] ?_;refine Om ?_ ?_
       ·intro c13;refine bW ?_;refine⟨congrArg (fun l=>AV.str (wdQ l)) ?_,rfl⟩
        exact bL
       ·intro c13;refine Oa [3,15] ?_;refine Om ?_ ?_
        ·intro c15;refine OC [15] ?_;refine Om ?_ ?_
         ·intro c15;refine bW ?_;refine⟨congrArg (fun l=>AV.str (wdQ l)) ?_,rfl⟩
          exact bL
         ·intro c15;refine bO ?_;refine⟨congrArg (fun l=>AV.str (wdQ l)) ?_,rfl⟩
          exact bL
        ·intro c15;refine Oa [3,15] ?_;refine Om ?_ ?_
         ·intro c15;refine OC [15] ?_;refine Om ?_ ?_
          ·intro c15;refine bW ?_;refine⟨congrArg (fun l=>AV.str (wdQ l)) ?_,rfl⟩
           exact bL
          ·intro c15;refine bO ?_;refine⟨congrArg (fun l=>AV.str (wdQ l)) ?_,rfl⟩
           exact bL
         ·intro c15;refine Oa [3,15] ?_;refine Om ?_ ?_
          ·intro c15;refine OC [15] ?_;refine Om ?_ ?_
           ·intro c15;refine bW ?_;refine⟨congrArg (fun l=>AV.str (wdQ l)) ?_,rfl⟩
            exact bL
           ·intro c15;refine bO ?_;refine⟨congrArg (fun l=>AV.str (wdQ l)) ?_,rfl⟩
            exact bL
          ·intro c15;refine Oa [15] ?_;refine Om ?_ ?_
           ·intro c15;refine bW ?_;refine⟨congrArg (fun l=>AV.str (wdQ l)) ?_,rfl⟩
            exact bL
           ·intro c15;refine bO ?_;refine⟨congrArg (fun l=>AV.str (wdQ l)) ?_,rfl⟩
            exact bL
     ·intro c9;refine Oa [3,9] ?_;refine Om ?_ ?_
      ·intro c9;refine bW ?_;refine⟨congrArg (fun l=>AV.str (wdQ l)) ?_,rfl⟩
       exact bL
      ·intro c9;refine Oa [3,13] ?_;refine Om ?_ ?_
       ·intro c13;refine bW ?_;refine⟨congrArg (fun l=>AV.str (wdQ l)) ?_,rfl⟩
        exact bL
       ·intro c13;refine Oa [3,15] ?_;refine Om ?_ ?_
        ·intro c15;refine OC [15] ?_;refine Om ?_ ?_
         ·intro c15;refine bW ?_;refine⟨congrArg (fun l=>AV.str (wdQ l)) ?_,rfl⟩
          exact bL
         ·intro c15;refine bO ?_;refine⟨congrArg (fun l=>AV.str (wdQ l)) ?_,rfl⟩
          exact bL
        ·intro c15;refine Oa [3,15] ?_;refine Om ?_ ?_
         ·intro c15;refine OC [15] ?_;refine Om ?_ ?_
          ·intro c15;refine bW ?_;refine⟨congrArg (fun l=>AV.str (wdQ l)) ?_,rfl⟩
           exact bL
          ·intro c15;refine bO ?_;refine⟨congrArg (fun l=>AV.str (wdQ l)) ?_,rfl⟩
           exact bL
         ·intro c15;refine Oa [3,15] ?_;refine Om ?_ ?_
          ·intro c15;refine OC [15] ?_;refine Om ?_ ?_
           ·intro c15;refine bW ?_;refine⟨congrArg (fun l=>AV.str (wdQ l)) ?_,rfl⟩
            exact bL
           ·intro c15;refine bO ?_;refine⟨congrArg (fun l=>AV.str (wdQ l)) ?_,rfl⟩
            exact bL
          ·intro c15;refine Oa [15] ?_;refine Om ?_ ?_
           ·intro c15;refine bW ?_;refine⟨congrArg (fun l=>AV.str (wdQ l)) ?_,rfl⟩
            exact bL
           ·intro c15;refine bO ?_;refine⟨congrArg (fun l=>AV.str (wdQ l)) ?_,rfl⟩
            exact bL
 ·intro c4;refine Oa [3,4] ?_;refine Om ?_ ?_
  ·intro c4;refine bW ?_;refine⟨congrArg (fun l=>AV.str (wdQ l)) ?_,rfl⟩
   exact bL
  ·intro c4;refine Oa [3,7] ?_;refine Om ?_ ?_
   ·intro c7;refine bW ?_;refine⟨congrArg (fun l=>AV.str (wdQ l)) ?_,rfl⟩
    exact bL
   ·intro c7;refine Oa [3,9] ?_;refine Om ?_ ?_
    ·intro c9;refine OB ?_;refine Od ?_;refine Om ?_ ?_
     ·intro c9;refine bW ?_;refine⟨congrArg (fun l=>AV.str (wdQ l)) ?_,rfl⟩
      exact bL
     ·intro c9;refine Oa [3,13] ?_;refine Om ?_ ?_
      ·intro c13;refine bW ?_;refine⟨congrArg (fun l=>AV.str (wdQ l)) ?_,rfl⟩
       exact bL
      ·intro c13;refine Oa [3,15] ?_;refine Om ?_ ?_
       ·intro c15;refine OC [15] ?_;refine Om ?_ ?_
        ·intro c15;refine bW ?_;refine⟨congrArg (fun l=>AV.str (wdQ l)) ?_,rfl⟩
         exact bL
        ·intro c15;refine bO ?_;refine⟨congrArg (fun l=>AV.str (wdQ l)) ?_,rfl⟩
         exact bL
       ·intro c15;refine Oa [3,15] ?_;refine Om ?_ ?_
        ·intro c15;refine OC [15] ?_;refine Om ?_ ?_
         ·intro c15;refine bW ?_;refine⟨congrArg (fun l=>AV.str (wdQ l)) ?_,rfl⟩
          exact bL
         ·intro c15;refine bO ?_;refine⟨congrArg (fun l=>AV.str (wdQ l)) ?_,rfl⟩
          exact bL
        ·intro c15;refine Oa [3,15] ?_;refine Om ?_ ?_
         ·intro c15;refine OC [15] ?_;refine Om ?_ ?_
          ·intro c15;refine bW ?_;refine⟨congrArg (fun l=>AV.str (wdQ l)) ?_,rfl⟩
           exact bL
          ·intro c15;refine bO ?_;refine⟨congrArg (fun l=>AV.str (wdQ l)) ?_,rfl⟩
           exact bL
         ·intro c15;refine Oa [15] ?_;refine Om ?_ ?_
          ·intro c15;refine bW ?_;refine⟨congrArg (fun l=>AV.str (wdQ l)) ?_,rfl⟩
           exact bL
          ·intro c15;refine bO ?_;refine⟨congrArg (fun l=>AV.str (wdQ l)) ?_,rfl⟩
           exact bL
    ·intro c9;refine Oa [3,9] ?_;refine Om ?_ ?_
     ·intro c9;refine OB ?_;refine Od ?_;refine Om ?_ ?_
      ·intro c9;refine bW ?_;refine⟨congrArg (fun l=>AV.str (wdQ l)) ?_,rfl⟩
       exact bL
      ·intro c9;refine Oa [3,13] ?_;refine Om ?_ ?_
       ·intro c13;refine bW ?_;refine⟨congrArg (fun l=>AV.str (wdQ l)) ?_,rfl⟩
        exact bL
       ·intro c13;refine Oa [3,15] ?_;refine Om ?_ ?_
        ·intro c15;refine OC [15] ?_;refine Om ?_ ?_
         ·intro c15;refine bW ?_;refine⟨congrArg (fun l=>AV.str (wdQ l)) ?_,rfl⟩
          exact bL
         ·intro c15;refine bO ?_;refine⟨congrArg (fun l=>AV.str (wdQ l)) ?_,rfl⟩
          exact bL
        ·intro c15;refine Oa [3,15] ?_;refine Om ?_ ?_
         ·intro c15;refine OC [15] ?_;refine Om ?_ ?_
          ·intro c15;refine bW ?_;refine⟨congrArg (fun l=>AV.str (wdQ l)) ?_,rfl⟩
           exact bL
          ·intro c15;refine bO ?_;refine⟨congrArg (fun l=>AV.str (wdQ l)) ?_,rfl⟩
           exact bL
         ·intro c15;refine Oa [3,15] ?_;refine Om ?_ ?_
          ·intro c15;refine OC [15] ?_;refine Om ?_ ?_
           ·intro c15;refine bW ?_;refine⟨congrArg (fun l=>AV.str (wdQ l)) ?_,rfl⟩
            exact bL
           ·intro c15;refine bO ?_;refine⟨congrArg (fun l=>AV.str (wdQ l)) ?_,rfl⟩
            exact bL
          ·intro c15;refine Oa [15] ?_;refine Om ?_ ?_
           ·intro c15;refine bW ?_;refine⟨congrArg (fun l=>AV.str (wdQ l)) ?_,rfl⟩
            exact bL
           ·intro c15;refine bO ?_;refine⟨congrArg (fun l=>AV.str (wdQ l)) ?_,rfl⟩
            exact bL
     ·intro c9;refine Oa [3,9] ?_;refine Om ?_ ?_
      ·intro c9;refine bW ?_;refine⟨congrArg (fun l=>AV.str (wdQ l)) ?_,rfl⟩
       exact bL
      ·intro c9;refine Oa [3,13] ?_;refine Om ?_ ?_
       ·intro c13;refine bW ?_;refine⟨congrArg (fun l=>AV.str (wdQ l)) ?_,rfl⟩
        exact bL
       ·intro c13;refine Oa [3,15] ?_;refine Om ?_ ?_
        ·intro c15;refine OC [15] ?_;refine Om ?_ ?_
         ·intro c15;refine bW ?_;refine⟨congrArg (fun l=>AV.str (wdQ l)) ?_,rfl⟩
          exact bL
         ·intro c15;refine bO ?_;refine⟨congrArg (fun l=>AV.str (wdQ l)) ?_,rfl⟩
          exact bL
        ·intro c15;refine Oa [3,15] ?_;refine Om ?_ ?_
         ·intro c15;refine OC [15] ?_;refine Om ?_ ?_
          ·intro c15;refine bW ?_;refine⟨congrArg (fun l=>AV.str (wdQ l)) ?_,rfl⟩
           exact bL
          ·intro c15;refine bO ?_;refine⟨congrArg (fun l=>AV.str (wdQ l)) ?_,rfl⟩
           exact bL
         ·intro c15;refine Oa [3,15] ?_;refine Om ?_ ?_
          ·intro c15;refine OC [15] ?_;refine Om ?_ ?_
           ·intro c15;refine bW ?_;refine⟨congrArg (fun l=>AV.str (wdQ l)) ?_,rfl⟩
            exact bL
           ·intro c15;refine bO ?_;refine⟨congrArg (fun l=>AV.str (wdQ l)) ?_,rfl⟩
            exact bL
          ·intro c15;refine Oa [15] ?_;refine Om ?_ ?_
           ·intro c15;refine bW ?_;refine⟨congrArg (fun l=>AV.str (wdQ l)) ?_,rfl⟩
            exact bL
           ·intro c15;refine bO ?_;refine⟨congrArg (fun l=>AV.str (wdQ l)) ?_,rfl⟩
            exact bL
theorem number_c {h:AHeap} {l:Str} {m:Nat} (hm:m≤4) (hl:l.length≤1000000):ACalls Go.Proofs.Tryz.prog 139 [.str (wdQ l),.int .i64 (m:Int)] h (fun q h'=>q = .tup [.int .i64 (if Qq l m then ZW l else 0),.bool (Qq l m)]∧Keeps h h'):=by
 refine OI 45 [.tmp 4,.tmp 5] Go.Proofs.Tryz.func139 rfl aE rfl rfl (dU rfl) ?_;have hS:=St.refl h;show KA _ 45 _ _ [(0,.str (wdQ l)),(1,.int .i64 (m:Int))] _;refine OL [0,1] ?_;refine OE ?_;refine KOps.wEql ?_;refine Of ?_;refine Ow (dj:=11) rfl rfl false true rfl ?_ ?_
 ·intro g11;have g11:=of_decide_eq_false g11;refine OE ?_;refine KOps.lenW ?_;refine OE ?_;refine KOps.gtr ?_;refine cH ?_;refine Ow (dj:=17) rfl rfl false true rfl ?_ ?_
  ·intro g17;have g17:=of_decide_eq_false g17;refine OE ?_;refine KOps.lenW ?_;refine Oi (dj:=17) rfl rfl ?_;refine KOps.gtr ?_;refine OE ?_;refine Ow (dj:=21) rfl rfl true false rfl ?_ ?_
   ·intro g21;have g21:=of_decide_eq_true g21;refine OE ?_;refine KOps.wAt (j:=0) rfl aF ?_;refine Oi (dj:=21) rfl rfl ?_;refine KB ?_;refine Oi (dj:=17) rfl rfl ?_;refine O5 ?_;refine Oy ?_;refine On [0,26] ?_;refine Om ?_ ?_
    ·intro c26;refine OL [4,5] ?_;refine Oh ?_;have hq:Qq l m=false:=by
      obtain⟨c,l',rfl⟩:∃ c l',l=c::l':=by
       cases l with
       | nil=>exact absurd rfl g11
       | cons c l'=>exact⟨c,l',rfl⟩
      have hc : c = 48 := UInt8.toNat_inj.1 (by have h48 : (48 : UInt8).toNat = 48 := by decide
                                                rw[h48]; simp at c26; omega)
      have hl1:¬ (c::l').length=1:=by omega
      unfold Qq;rw[decide_eq_false hl1,hc];simp
     rw[hq];exact⟨rfl,hS.keeps⟩
    ·intro c26;refine OC [0] ?_;refine OE ?_;refine b6 ?_;refine OE ?_;refine KOps.range hS rfl ?_;intro v28 h' hv28 hS;refine On [6,28] ?_;refine Oz ?_;refine Kb (X:=Nat) (fun p=>[(6,.int .i64 (ZW (l.take p))),(28,v28)]) (fun p h'=>p≤l.length∧(∀ q,q<p→Yb (l.getD q 0)=true)∧St h h' [walkO v28 (wdQ l) p]) (fun p=>l.length - p) 0 ?_ ?_;exact⟨dX _,fun q hq=>absurd hq (dS _),hS⟩;rintro p h2 ⟨hp,hb,hS⟩;refine Oq ?_;refine KOps.next hS hv28 (i:=0) rfl rfl ?_ ?_;intro np h' hS;simp only[dQ,dR,dW] at hS;have hlt:p<l.length:=by rw[wd_size] at np; exact np
     obtain⟨hn0,hn1⟩:=WG p aA hb;have hn2:(10:Int) ^ p≤10 ^ 4:=by
      have : 10 ^ p≤10 ^ 4:=dZ aE aA
      exact_mod_cast this
     have hn3:(10:Int) ^ 4=10000:=by decide
     have hu:=(l.getD p 0).toNat_lt;refine dC ?_;refine KL ?_;refine OC [6,28,29] ?_;refine Oz ?_;refine OL [6,8,28] ?_;refine OE ?_;refine K6 ?_;refine Of ?_;refine Ow (dj:=34) rfl rfl false true rfl ?_ ?_;intro g34;have g34:=of_decide_eq_false g34;refine OE ?_;refine KOps.gtr ?_;refine Oy ?_;refine On [6,8,28,35,36,37] ?_;refine Om ?_ ?_;intro c37;refine OL [4,5] ?_;refine Oh ?_;have hq:Qq l m=false:=Jd hlt (by
      unfold Yb;rw[decide_eq_false_iff_not];intro hd;rw[YN hlt aA] at *;simp at *;omega)
     rw[hq];exact⟨rfl,hS.keeps⟩;intro c37;refine OC [6,8,28,35,36] ?_;refine O3 rfl ?_;have hd:(l.getD p 0).toNat<128:=by
      apply dP;intro hn;have:=UW hlt (show 128≤(l.getD p 0).toNat by omega);omega
     simp only[YN hlt hd] at hS c37 g34⊢;refine dH ?_;exact Ql (p+1) ab ⟨hlt,fun q hq=>by
      rcases dN.1 hq with g|rfl
      exact hb q g;unfold Yb; rw[decide_eq_true_iff]; omega,hS⟩ aA
     intro g34;have g34:=of_decide_eq_true g34;refine Oo (dj:=34) rfl rfl rfl ?_;refine O5 ?_;refine On [6,8,28,35,36,37] ?_;refine KL ?_;refine OL [4,5] ?_;refine Oh ?_;have hq:Qq l m=false:=Jd hlt (by
      unfold Yb;rw[decide_eq_false_iff_not];intro hd;rw[YN hlt aA] at *;simp at *;omega)
     rw[hq];exact⟨rfl,hS.keeps⟩
     ·intro np;refine dC ?_;refine OP ?_;refine bP ?_;refine Ox [6] ?_;refine OL [4,5] ?_;refine Oh ?_;have hpe:p=l.length:=by rw[wd_size] at np; omega
      subst hpe;have hq:Qq l m=true:=by
       have h1:=R1 hb;unfold Qq;rw[h1,decide_eq_true (show l≠[] from g11),decide_eq_true (show l.length≤m by omega)];simp;by_cases h2:l.length=1;exact .inl h2
       ·right;intro h3;obtain⟨c,l',rfl⟩:∃ c l',l=c::l':=by
         cases l with
         | nil=>exact absurd rfl g11
         | cons c l'=>exact⟨c,l',rfl⟩
        simp at h3;subst h3
        first
          | (exact absurd rfl c26; done)
          | (simp at c26; done)
          | (rw[fA] at g21 h2; omega)
      rw[hq,fE];exact⟨rfl,hS.keeps⟩
   ·intro g21;have g21:=of_decide_eq_false g21;refine OE ?_;refine Oy ?_;refine Oy ?_;refine On [0,26] ?_;refine OP ?_;refine OC [0] ?_;refine OE ?_;refine b6 ?_;refine OE ?_;refine KOps.range hS rfl ?_;intro v28 h' hv28 hS;refine On [6,28] ?_;refine Oz ?_;refine Kb (X:=Nat) (fun p=>[(6,.int .i64 (ZW (l.take p))),(28,v28)]) (fun p h'=>p≤l.length∧(∀ q,q<p→Yb (l.getD q 0)=true)∧St h h' [walkO v28 (wdQ l) p]) (fun p=>l.length - p) 0 ?_ ?_;exact⟨dX _,fun q hq=>absurd hq (dS _),hS⟩;rintro p h2 ⟨hp,hb,hS⟩;refine Oq ?_;refine KOps.next hS hv28 (i:=0) rfl rfl ?_ ?_;intro np h' hS;simp only[dQ,dR,dW] at hS;have hlt:p<l.length:=by rw[wd_size] at np; exact np
    obtain⟨hn0,hn1⟩:=WG p aA hb;have hn2:(10:Int) ^ p≤10 ^ 4:=by
     have : 10 ^ p≤10 ^ 4:=dZ aE aA
     exact_mod_cast this
    have hn3:(10:Int) ^ 4=10000:=by decide
    have hu:=(l.getD p 0).toNat_lt;refine dC ?_;refine KL ?_;refine OC [6,28,29] ?_;refine Oz ?_;refine OL [6,8,28] ?_;refine OE ?_;refine K6 ?_;refine Of ?_;refine Ow (dj:=34) rfl rfl false true rfl ?_ ?_;intro g34;have g34:=of_decide_eq_false g34;refine OE ?_;refine KOps.gtr ?_;refine Oy ?_;refine On [6,8,28,35,36,37] ?_;refine Om ?_ ?_;intro c37;refine OL [4,5] ?_;refine Oh ?_;have hq:Qq l m=false:=Jd hlt (by
     unfold Yb;rw[decide_eq_false_iff_not];intro hd;rw[YN hlt aA] at *;simp at *;omega)
    rw[hq];exact⟨rfl,hS.keeps⟩;intro c37;refine OC [6,8,28,35,36] ?_;refine O3 rfl ?_;have hd:(l.getD p 0).toNat<128:=by
     apply dP;intro hn;have:=UW hlt (show 128≤(l.getD p 0).toNat by omega);omega
    simp only[YN hlt hd] at hS c37 g34⊢;refine dH ?_;exact Ql (p+1) ab ⟨hlt,fun q hq=>by
     rcases dN.1 hq with g|rfl
     exact hb q g;unfold Yb; rw[decide_eq_true_iff]; omega,hS⟩ aA
    intro g34;have g34:=of_decide_eq_true g34;refine Oo (dj:=34) rfl rfl rfl ?_;refine O5 ?_;refine On [6,8,28,35,36,37] ?_;refine KL ?_;refine OL [4,5] ?_;refine Oh ?_;have hq:Qq l m=false:=Jd hlt (by
     unfold Yb;rw[decide_eq_false_iff_not];intro hd;rw[YN hlt aA] at *;simp at *;omega)
    rw[hq];exact⟨rfl,hS.keeps⟩
    ·intro np;refine dC ?_;refine OP ?_;refine bP ?_;refine Ox [6] ?_;refine OL [4,5] ?_;refine Oh ?_;have hpe:p=l.length:=by rw[wd_size] at np; omega
     subst hpe;have hq:Qq l m=true:=by
      have h1:=R1 hb;unfold Qq;rw[h1,decide_eq_true (show l≠[] from g11),decide_eq_true (show l.length≤m by omega)];simp;by_cases h2:l.length=1;exact .inl h2
      ·right;intro h3;obtain⟨c,l',rfl⟩:∃ c l',l=c::l':=by
        cases l with
        | nil=>exact absurd rfl g11
        | cons c l'=>exact⟨c,l',rfl⟩
       simp at h3;subst h3
       first
         | (exact absurd rfl c26; done)
         | (simp at c26; done)
         | (rw[fA] at g21 h2; omega)
     rw[hq,fE];exact⟨rfl,hS.keeps⟩
  intro g17;have g17:=of_decide_eq_true g17;refine OE ?_;refine cn ?_;have hq:Qq l m=false:=by
   unfold Qq;rw[decide_eq_false (show¬ l.length≤m by omega)];simp
  rw[hq];exact⟨rfl,hS.keeps⟩
 intro g11;have g11:=of_decide_eq_true g11;refine OE ?_;refine O5 ?_;refine OE ?_;refine cn ?_;have hq:Qq l m=false:=by
  unfold Qq;rw[g11];simp
 rw[hq];exact⟨rfl,hS.keeps⟩
end Go.Am
