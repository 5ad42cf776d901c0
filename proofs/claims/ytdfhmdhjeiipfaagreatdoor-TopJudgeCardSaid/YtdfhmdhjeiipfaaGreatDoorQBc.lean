/-
  Tops: turned from layer 14: Cb.
  Conditions: none.
-/
import Derived.Test.YtdfhmdhjeiipfaaGreatDoorQCa
open Classical renaming byContradiction → dQ
open List renaming getElem?_eq_getElem → dO, getD_eq_getElem?_getD → dU, mem_reverse → dS, set_cons_zero → dT, set_cons_succ → dV, mem_cons → dW, take_length → dZ, mem_iff_getElem → fE, dropWhile_cons → fO, getElem_mem → fY, length_cons → fB
open Nat renaming le_of_ble_eq_true → dY, lt_succ_iff_lt_or_eq → dR, zero_add → dX, not_lt_zero → fA, pow_le_pow_right → fI, zero_le → fU
open Option renaming getD_some → dP
set_option maxRecDepth 99999
set_option maxHeartbeats 4000000
namespace Go.Am
def VX (c:UInt8):Bool:=decide (c.toNat<32∨126<c.toNat)
theorem any_at {p:UInt8→Bool} {l:Str} {i:Nat} (hi:i<l.length) (h:p (l.getD i 0)=true):l.any p=true:=by
 rw[List.any_eq_true];rw[dU,dO hi,dP] at h;exact⟨_,fY hi,h⟩
theorem any_no {p:UInt8→Bool} {l:Str} (h:∀ i,i<l.length→p (l.getD i 0)=false):l.any p=false:=by
 rw[List.any_eq_false];intro x hx;obtain⟨i,hi,rfl⟩:=fE.1 hx;have:=h i hi;rw[dU,dO hi,dP] at this;simp[this]
theorem badR_c {h:AHeap} {r:Nat}:ACalls Go.Proofs.Tryz.prog 137 [.int .i32 (r:Int)] h (fun q h'=>q = .bool (decide (r<32∨126<r))∧h=h'):=by
 refine OK 9 [.tmp 2] Go.Proofs.Tryz.func137 rfl aE rfl rfl (dY rfl) ?_;show KA _ 9 _ _ [(0,.int .i32 (r:Int))] _;refine Oa [0] ?_;refine Oc ?_;refine Ov (dj:=5) rfl rfl false true rfl ?_ ?_;intro g5;have g5:=of_decide_eq_false g5;refine bY ?_;refine cU ?_;rw[Bool.eq_iff_iff,decide_eq_true_iff];simp;omega;intro g5;have g5:=of_decide_eq_true g5;refine bY ?_;refine cU ?_;rw[Bool.eq_iff_iff,decide_eq_true_iff];simp;omega
theorem indexBad_c {h:AHeap} {l:Str} (hl:l.length≤1000000):ACalls Go.Proofs.Tryz.prog 199 [.str (wdQ l),.fn 137 [],.bool true] h (fun q h'=>(∃ c:Int,q = .int .i64 c∧(0≤c↔l.any VX=true))∧Keeps h h'):=by
 refine OK 21 [.tmp 6] Go.Proofs.Tryz.func199 rfl aE rfl rfl (dY rfl) ?_;have hS:=St.refl h;show KA _ 21 _ _ [(0,.str (wdQ l)),(1,.fn 137 []),(2,.bool true)] _;refine O0 [0,1,2] ?_;refine OI ?_;refine KOps.range hS rfl ?_;intro v10 h' hv10 hS;refine Oj [1,2,10] ?_;refine Oz ?_;refine Kd (X:=Nat) (fun p=>[(1,.fn 137 []),(2,.bool true),(10,v10)]) (fun p h'=>p≤l.length∧(∀ q,q<p→VX (l.getD q 0)=false)∧St h h' [walkO v10 (wdQ l) p]) (fun p=>l.length - p) 0 ?_ ?_;exact⟨fU _,fun q hq=>absurd hq (fA _),hS⟩;rintro p h2 ⟨hp,hb,hS⟩;refine Ot ?_;refine KOps.next hS hv10 (i:=0) rfl rfl ?_ ?_;intro np h' hS;simp only[dT,dV,dX] at hS;have hlt:p<l.length:=by rw[wd_size] at np; exact np
 refine dB ?_;refine KW ?_;refine OD [1,2,10,11] ?_;refine Oz ?_;refine O0 [1,2,7,8,10] ?_;refine OI ?_;refine Oo rfl (badR_c) ?_;rintro _ _ ⟨rfl,rfl⟩;refine Oe ?_;refine KOps.eqlB aB ?_;refine Oj [1,2,7,10,19] ?_;refine Kz ?_ ?_;intro c19;refine O0 [6] ?_;refine Oi ?_;refine⟨⟨_,rfl,⟨fun _=>any_at hlt ?_,fun _=>by omega⟩⟩,hS.keeps⟩;unfold VX;by_cases hd:(l.getD p 0).toNat<128;rw[YX hlt hd] at c19; simpa using c19;rw[decide_eq_true_iff]; omega;intro c19;refine cG ?_;have hd:(l.getD p 0).toNat<128:=by
  apply dQ;intro hn;have:=Wc hlt (show 128≤(l.getD p 0).toNat by omega);simp at c19;omega
 rw[YX hlt hd] at hS c19;exact lpN (p+1) ⟨hlt,fun q hq=>by
  rcases dR.1 hq with g|rfl
  exact hb q g;unfold VX; simpa using c19,hS⟩ aA
 intro np;refine dB ?_;refine OM ?_;refine bS ?_;refine Ow [] ?_;refine OI ?_;refine bl ?_;refine Oi ?_;have hpe:p=l.length:=by rw[wd_size] at np; omega
 subst hpe;refine⟨⟨_,rfl,⟨fun h=>absurd h aE,fun h=>?_⟩⟩,hS.keeps⟩;rw[any_no hb] at h;cases h
theorem Pc {h:AHeap} {l:Str} (hl:l.length≤1000000):ACalls Go.Proofs.Tryz.prog 175 [.str (wdQ l),.fn 137 []] h (fun q h'=>(∃ c:Int,q = .int .i64 c∧(0≤c↔l.any VX=true))∧Keeps h h'):=by
 refine OK 8 [.tmp 4] Go.Proofs.Tryz.func175 rfl aE rfl rfl (dY rfl) ?_;show KA _ 8 _ _ [(0,.str (wdQ l)),(1,.fn 137 [])] _;refine b6 ?_;refine Oo rfl (indexBad_c hl) ?_;rintro _ h2 ⟨⟨c,rfl,hc⟩,hK⟩;refine ba ?_;exact⟨⟨_,rfl,hc⟩,hK⟩
theorem TF {h:AHeap} {l:Str} (hl:l.length≤1000000):ACalls Go.Proofs.Tryz.prog 136 [.str (wdQ l),.fn 137 []] h (fun q h'=>q = .bool (l.any VX)∧Keeps h h'):=by
 refine OK 9 [.tmp 4] Go.Proofs.Tryz.func136 rfl aE rfl rfl (dY rfl) ?_;show KA _ 9 _ _ [(0,.str (wdQ l)),(1,.fn 137 [])] _;refine b6 ?_;refine Oo rfl (Pc hl) ?_;rintro _ h2 ⟨⟨c,rfl,hc⟩,hK⟩;refine ba ?_;refine⟨congrArg AV.bool ?_,hK⟩;rw[Bool.eq_iff_iff,decide_eq_true_iff];exact hc
end Go.Am
namespace Go.Am
theorem numV_snoc (l:Str) (c:UInt8):Z0 (l ++ [c])=10*Z0 l+((c.toNat:Int) - 48):=by simp[Z0]
theorem Ud {l:Str} {p:Nat} (hp:p<l.length):Z0 (l.take (p+1))=10*Z0 (l.take p)+(((l.getD p 0).toNat:Int) - 48):=by
 rw[List.take_add_one,dO hp,Option.toList_some,numV_snoc,dU,dO hp,dP]
def Yn (c:UInt8):Bool:=decide (48≤c.toNat∧c.toNat≤57)
theorem W6:∀ {l:Str} (p:Nat),p≤l.length→(∀ q,q<p→Yn (l.getD q 0)=true)→0≤Z0 (l.take p)∧Z0 (l.take p)<10 ^ p:=by
 intro l p
 induction p with
 | zero=>intro _ _; rw[List.take_zero]; exact⟨by decide,by decide⟩
 | succ p ih=>
  intro hp hd;obtain⟨h1,h2⟩:=ih aA (fun q hq=>hd q aA);have h3:=hd p aA;rw[Yn,decide_eq_true_iff] at h3;rw[Ud aA,Int.pow_succ];omega
theorem Jt {l:Str} {m p:Nat} (hp:p<l.length) (h:Yn (l.getD p 0)=false):Qm l m=false:=by
 have:(l.all fun c=>decide (48≤c.toNat∧c.toNat≤57))=false:=by
  rw[List.all_eq_false];rw[dU,dO hp,dP] at h;refine⟨_,fY hp,?_⟩;unfold Yn at h;rw[h]; decide
 unfold Qm;rw[this,Bool.and_false]
theorem Tj {l:Str} (h:∀ q,q<l.length→Yn (l.getD q 0)=true):(l.all fun c=>decide (48≤c.toNat∧c.toNat≤57))=true:=by
 rw[List.all_eq_true];intro x hx;obtain⟨i,hi,rfl⟩:=fE.1 hx;have:=h i hi;rw[dU,dO hi,dP] at this;exact this
theorem form_c {h:AHeap} {k:Str}:ACalls Go.Proofs.Tryz.prog 138 [.str (wdQ k)] h (fun q h'=>q = .str (wdQ (O3 k))∧h=h'):=by
 refine OK 20 [.tmp 2] Go.Proofs.Tryz.func138 rfl aE rfl rfl (dY rfl) ?_;show KA _ 20 _ _ [(0,.str (wdQ k))] _;refine Oa [0] ?_;refine Oa [3] ?_;refine Oz ?_;refine Oa [3,4] ?_;refine On ?_ ?_
 ·intro c4;refine OC ?_;refine Od ?_;refine On ?_ ?_
  ·intro c4;refine bY ?_;refine⟨congrArg (fun l=>AV.str (wdQ l)) ?_,rfl⟩
   exact bO
  ·intro c4;refine Oa [3,7] ?_;refine On ?_ ?_
   ·intro c7;refine bY ?_;refine⟨congrArg (fun l=>AV.str (wdQ l)) ?_,rfl⟩
    exact bO
   ·intro c7;refine Oa [3,9] ?_;refine On ?_ ?_
    ·intro c9;refine OC ?_;refine Od ?_;refine On ?_ ?_
     ·intro c9;refine bY ?_;refine⟨congrArg (fun l=>AV.str (wdQ l)) ?_,rfl⟩
      exact bO
     ·intro c9;refine Oa [3,13] ?_;refine On ?_ ?_
      ·intro c13;refine bY ?_;refine⟨congrArg (fun l=>AV.str (wdQ l)) ?_,rfl⟩
       exact bO
      ·intro c13;refine Oa [3,15] ?_;refine On ?_ ?_
       ·intro c15;refine OD [15] ?_;refine On ?_ ?_
        ·intro c15;refine bY ?_;refine⟨congrArg (fun l=>AV.str (wdQ l)) ?_,rfl⟩
         exact bO
        ·intro c15;refine bR ?_;refine⟨congrArg (fun l=>AV.str (wdQ l)) ?_,rfl⟩
         exact bO
       ·intro c15;refine Oa [3,15] ?_;refine On ?_ ?_
        ·intro c15;refine OD [15] ?_;refine On ?_ ?_
         ·intro c15;refine bY ?_;refine⟨congrArg (fun l=>AV.str (wdQ l)) ?_,rfl⟩
          exact bO
         ·intro c15;refine bR ?_;refine⟨congrArg (fun l=>AV.str (wdQ l)) ?_,rfl⟩
          exact bO
        ·intro c15;refine Oa [3,15] ?_;refine On ?_ ?_
         ·intro c15;refine OD [15] ?_;refine On ?_ ?_
          ·intro c15;refine bY ?_;refine⟨congrArg (fun l=>AV.str (wdQ l)) ?_,rfl⟩
           exact bO
          ·intro c15;refine bR ?_;refine⟨congrArg (fun l=>AV.str (wdQ l)) ?_,rfl⟩
           exact bO
         ·intro c15;refine Oa [15] ?_;refine On ?_ ?_
          ·intro c15;refine bY ?_;refine⟨congrArg (fun l=>AV.str (wdQ l)) ?_,rfl⟩
           exact bO
          ·intro c15;refine bR ?_;refine⟨congrArg (fun l=>AV.str (wdQ l)) ?_,rfl⟩
           exact bO
    ·intro c9;refine Oa [3,9] ?_;refine On ?_ ?_
     ·intro c9;refine OC ?_;refine Od ?_;refine On ?_ ?_
      ·intro c9;refine bY ?_;refine⟨congrArg (fun l=>AV.str (wdQ l)) ?_,rfl⟩
       exact bO
      ·intro c9;refine Oa [3,13] ?_;refine On ?_ ?_
       ·intro c13;refine bY ?_;refine⟨congrArg (fun l=>AV.str (wdQ l)) ?_,rfl⟩
        exact bO
       ·intro c13;refine Oa [3,15] ?_;refine On ?_ ?_
        ·intro c15;refine OD [15] ?_;refine On ?_ ?_
         ·intro c15;refine bY ?_;refine⟨congrArg (fun l=>AV.str (wdQ l)) ?_,rfl⟩
          exact bO
         ·intro c15;refine bR ?_;refine⟨congrArg (fun l=>AV.str (wdQ l)) ?_,rfl⟩
          exact bO
        ·intro c15;refine Oa [3,15] ?_;refine On ?_ ?_
         ·intro c15;refine OD [15] ?_;refine On ?_ ?_
          ·intro c15;refine bY ?_;refine⟨congrArg (fun l=>AV.str (wdQ l)) ?_,rfl⟩
           exact bO
          ·intro c15;refine bR ?_;refine⟨congrArg (fun l=>AV.str (wdQ l)) ?_,rfl⟩
           exact bO
         ·intro c15;refine Oa [3,15] ?_;refine On ?_ ?_
          ·intro c15;refine OD [15] ?_;refine On ?_ ?_
           ·intro c15;refine bY ?_;refine⟨congrArg (fun l=>AV.str (wdQ l)) ?_,rfl⟩
            exact bO
           ·intro c15;refine bR ?_;refine⟨congrArg (fun l=>AV.str (wdQ l)) ?_,rfl⟩
            exact bO
          ·intro c15;refine Oa [15] ?_;refine On ?_ ?_
           ·intro c15;refine bY ?_;refine⟨congrArg (fun l=>AV.str (wdQ l)) ?_,rfl⟩
            exact bO
           ·intro c15;refine bR ?_;refine⟨congrArg (fun l=>AV.str (wdQ l)) ?_,rfl⟩
            exact bO
     ·intro c9;refine Oa [3,9] ?_;refine On ?_ ?_
      ·intro c9;refine bY ?_;refine⟨congrArg (fun l=>AV.str (wdQ l)) ?_,rfl⟩
       exact bO
      ·intro c9;refine Oa [3,13] ?_;refine On ?_ ?_
       ·intro c13;refine bY ?_;refine⟨congrArg (fun l=>AV.str (wdQ l)) ?_,rfl⟩
        exact bO
       ·intro c13;refine Oa [3,15] ?_;refine On ?_ ?_
        ·intro c15;refine OD [15] ?_;refine On ?_ ?_
         ·intro c15;refine bY ?_;refine⟨congrArg (fun l=>AV.str (wdQ l)) ?_,rfl⟩
          exact bO
         ·intro c15;refine bR ?_;refine⟨congrArg (fun l=>AV.str (wdQ l)) ?_,rfl⟩
          exact bO
        ·intro c15;refine Oa [3,15] ?_;refine On ?_ ?_
         ·intro c15;refine OD [15] ?_;refine On ?_ ?_
          ·intro c15;refine bY ?_;refine⟨congrArg (fun l=>AV.str (wdQ l)) ?_,rfl⟩
           exact bO
          ·intro c15;refine bR ?_;refine⟨congrArg (fun l=>AV.str (wdQ l)) ?_,rfl⟩
           exact bO
         ·intro c15;refine Oa [3,15] ?_;refine On ?_ ?_
          ·intro c15;refine OD [15] ?_;refine On ?_ ?_
           ·intro c15;refine bY ?_;refine⟨congrArg (fun l=>AV.str (wdQ l)) ?_,rfl⟩
            exact bO
           ·intro c15;refine bR ?_;refine⟨congrArg (fun l=>AV.str (wdQ l)) ?_,rfl⟩
            exact bO
          ·intro c15;refine Oa [15] ?_;refine On ?_ ?_
           ·intro c15;refine bY ?_;refine⟨congrArg (fun l=>AV.str (wdQ l)) ?_,rfl⟩
            exact bO
           ·intro c15;refine bR ?_;refine⟨congrArg (fun l=>AV.str (wdQ l)) ?_,rfl⟩
            exact bO
 ·intro c4;refine Oa [3,4] ?_;refine On ?_ ?_
  ·intro c4;refine bY ?_;refine⟨congrArg (fun l=>AV.str (wdQ l)) ?_,rfl⟩
   exact bO
  ·intro c4;refine Oa [3,7] ?_;refine On ?_ ?_
   ·intro c7;refine bY ?_;refine⟨congrArg (fun l=>AV.str (wdQ l)) ?_,rfl⟩
    exact bO
   ·intro c7;refine Oa [3,9] ?_;refine On ?_ ?_
    ·intro c9;refine OC ?_;refine Od ?_;refine On ?_ ?_
     ·intro c9;refine bY ?_;refine⟨congrArg (fun l=>AV.str (wdQ l)) ?_,rfl⟩
      exact bO
     ·intro c9;refine Oa [3,13] ?_;refine On ?_ ?_
      ·intro c13;refine bY ?_;refine⟨congrArg (fun l=>AV.str (wdQ l)) ?_,rfl⟩
       exact bO
      ·intro c13;refine Oa [3,15] ?_;refine On ?_ ?_
       ·intro c15;refine OD [15] ?_;refine On ?_ ?_
        ·intro c15;refine bY ?_;refine⟨congrArg (fun l=>AV.str (wdQ l)) ?_,rfl⟩
         exact bO
        ·intro c15;refine bR ?_;refine⟨congrArg (fun l=>AV.str (wdQ l)) ?_,rfl⟩
         exact bO
       ·intro c15;refine Oa [3,15] ?_;refine On ?_ ?_
        ·intro c15;refine OD [15] ?_;refine On ?_ ?_
         ·intro c15;refine bY ?_;refine⟨congrArg (fun l=>AV.str (wdQ l)) ?_,rfl⟩
          exact bO
         ·intro c15;refine bR ?_;refine⟨congrArg (fun l=>AV.str (wdQ l)) ?_,rfl⟩
          exact bO
        ·intro c15;refine Oa [3,15] ?_;refine On ?_ ?_
         ·intro c15;refine OD [15] ?_;refine On ?_ ?_
          ·intro c15;refine bY ?_;refine⟨congrArg (fun l=>AV.str (wdQ l)) ?_,rfl⟩
           exact bO
          ·intro c15;refine bR ?_;refine⟨congrArg (fun l=>AV.str (wdQ l)) ?_,rfl⟩
           exact bO
         ·intro c15;refine Oa [15] ?_;refine On ?_ ?_
          ·intro c15;refine bY ?_;refine⟨congrArg (fun l=>AV.str (wdQ l)) ?_,rfl⟩
           exact bO
          ·intro c15;refine bR ?_;refine⟨congrArg (fun l=>AV.str (wdQ l)) ?_,rfl⟩
           exact bO
    ·intro c9;refine Oa [3,9] ?_;refine On ?_ ?_
     ·intro c9;refine OC ?_;refine Od ?_;refine On ?_ ?_
      ·intro c9;refine bY ?_;refine⟨congrArg (fun l=>AV.str (wdQ l)) ?_,rfl⟩
       exact bO
      ·intro c9;refine Oa [3,13] ?_;refine On ?_ ?_
       ·intro c13;refine bY ?_;refine⟨congrArg (fun l=>AV.str (wdQ l)) ?_,rfl⟩
        exact bO
       ·intro c13;refine Oa [3,15] ?_;refine On ?_ ?_
        ·intro c15;refine OD [15] ?_;refine On ?_ ?_
         ·intro c15;refine bY ?_;refine⟨congrArg (fun l=>AV.str (wdQ l)) ?_,rfl⟩
          exact bO
         ·intro c15;refine bR ?_;refine⟨congrArg (fun l=>AV.str (wdQ l)) ?_,rfl⟩
          exact bO
        ·intro c15;refine Oa [3,15] ?_;refine On ?_ ?_
         ·intro c15;refine OD [15] ?_;refine On ?_ ?_
          ·intro c15;refine bY ?_;refine⟨congrArg (fun l=>AV.str (wdQ l)) ?_,rfl⟩
           exact bO
          ·intro c15;refine bR ?_;refine⟨congrArg (fun l=>AV.str (wdQ l)) ?_,rfl⟩
           exact bO
         ·intro c15;refine Oa [3,15] ?_;refine On ?_ ?_
          ·intro c15;refine OD [15] ?_;refine On ?_ ?_
           ·intro c15;refine bY ?_;refine⟨congrArg (fun l=>AV.str (wdQ l)) ?_,rfl⟩
            exact bO
           ·intro c15;refine bR ?_;refine⟨congrArg (fun l=>AV.str (wdQ l)) ?_,rfl⟩
            exact bO
          ·intro c15;refine Oa [15] ?_;refine On ?_ ?_
           ·intro c15;refine bY ?_;refine⟨congrArg (fun l=>AV.str (wdQ l)) ?_,rfl⟩
            exact bO
           ·intro c15;refine bR ?_;refine⟨congrArg (fun l=>AV.str (wdQ l)) ?_,rfl⟩
            exact bO
     ·intro c9;refine Oa [3,9] ?_;refine On ?_ ?_
      ·intro c9;refine bY ?_;refine⟨congrArg (fun l=>AV.str (wdQ l)) ?_,rfl⟩
       exact bO
      ·intro c9;refine Oa [3,13] ?_;refine On ?_ ?_
       ·intro c13;refine bY ?_;refine⟨congrArg (fun l=>AV.str (wdQ l)) ?_,rfl⟩
        exact bO
       ·intro c13;refine Oa [3,15] ?_;refine On ?_ ?_
        ·intro c15;refine OD [15] ?_;refine On ?_ ?_
         ·intro c15;refine bY ?_;refine⟨congrArg (fun l=>AV.str (wdQ l)) ?_,rfl⟩
          exact bO
         ·intro c15;refine bR ?_;refine⟨congrArg (fun l=>AV.str (wdQ l)) ?_,rfl⟩
          exact bO
        ·intro c15;refine Oa [3,15] ?_;refine On ?_ ?_
         ·intro c15;refine OD [15] ?_;refine On ?_ ?_
          ·intro c15;refine bY ?_;refine⟨congrArg (fun l=>AV.str (wdQ l)) ?_,rfl⟩
           exact bO
          ·intro c15;refine bR ?_;refine⟨congrArg (fun l=>AV.str (wdQ l)) ?_,rfl⟩
           exact bO
         ·intro c15;refine Oa [3,15] ?_;refine On ?_ ?_
          ·intro c15;refine OD [15] ?_;refine On ?_ ?_
           ·intro c15;refine bY ?_;refine⟨congrArg (fun l=>AV.str (wdQ l)) ?_,rfl⟩
            exact bO
           ·intro c15;refine bR ?_;refine⟨congrArg (fun l=>AV.str (wdQ l)) ?_,rfl⟩
            exact bO
          ·intro c15;refine Oa [15] ?_;refine On ?_ ?_
           ·intro c15;refine bY ?_;refine⟨congrArg (fun l=>AV.str (wdQ l)) ?_,rfl⟩
            exact bO
           ·intro c15;refine bR ?_;refine⟨congrArg (fun l=>AV.str (wdQ l)) ?_,rfl⟩
            exact bO
theorem number_c {h:AHeap} {l:Str} {m:Nat} (hm:m≤4) (hl:l.length≤1000000):ACalls Go.Proofs.Tryz.prog 139 [.str (wdQ l),.int .i64 (m:Int)] h (fun q h'=>q = .tup [.int .i64 (if Qm l m then Z0 l else 0),.bool (Qm l m)]∧Keeps h h'):=by
 refine OK 45 [.tmp 4,.tmp 5] Go.Proofs.Tryz.func139 rfl aE rfl rfl (dY rfl) ?_;have hS:=St.refl h;show KA _ 45 _ _ [(0,.str (wdQ l)),(1,.int .i64 (m:Int))] _;refine O0 [0,1] ?_;refine OI ?_;refine KOps.wEql ?_;refine Oe ?_;refine Ov (dj:=11) rfl rfl false true rfl ?_ ?_
 ·intro g11;have g11:=of_decide_eq_false g11;refine OI ?_;refine KOps.lenW ?_;refine OI ?_;refine Zy ?_;refine cI ?_;refine Ov (dj:=17) rfl rfl false true rfl ?_ ?_
  ·intro g17;have g17:=of_decide_eq_false g17;refine OI ?_;refine KOps.lenW ?_;refine Oh (dj:=17) rfl rfl ?_;refine Zy ?_;refine OI ?_;refine Ov (dj:=21) rfl rfl true false rfl ?_ ?_
   ·intro g21;have g21:=of_decide_eq_true g21;refine OI ?_;refine KOps.wAt (j:=0) rfl aC ?_;refine Oh (dj:=21) rfl rfl ?_;refine Ku ?_;refine Oh (dj:=17) rfl rfl ?_;refine O1 ?_;refine OB ?_;refine Oj [0,26] ?_;refine On ?_ ?_
    ·intro c26;refine O0 [4,5] ?_;refine Oi ?_;have hq:Qm l m=false:=by
      obtain⟨c,l',rfl⟩:∃ c l',l=c::l':=by
       cases l with
       | nil=>exact absurd rfl g11
       | cons c l'=>exact⟨c,l',rfl⟩
      have hc : c = 48 := UInt8.toNat_inj.1 (by have h48 : (48 : UInt8).toNat = 48 := by decide
                                                rw[h48]; simp at c26; omega)
      have hl1:¬ (c::l').length=1:=by omega
      unfold Qm;rw[decide_eq_false hl1,hc];simp
     rw[hq];exact⟨rfl,hS.keeps⟩
    ·intro c26;refine OD [0] ?_;refine OI ?_;refine bl ?_;refine OI ?_;refine KOps.range hS rfl ?_;intro v28 h' hv28 hS;refine Oj [6,28] ?_;refine Oz ?_;refine Kd (X:=Nat) (fun p=>[(6,.int .i64 (Z0 (l.take p))),(28,v28)]) (fun p h'=>p≤l.length∧(∀ q,q<p→Yn (l.getD q 0)=true)∧St h h' [walkO v28 (wdQ l) p]) (fun p=>l.length - p) 0 ?_ ?_;exact⟨fU _,fun q hq=>absurd hq (fA _),hS⟩;rintro p h2 ⟨hp,hb,hS⟩;refine Ot ?_;refine KOps.next hS hv28 (i:=0) rfl rfl ?_ ?_;intro np h' hS;simp only[dT,dV,dX] at hS;have hlt:p<l.length:=by rw[wd_size] at np; exact np
     obtain⟨hn0,hn1⟩:=W6 p aA hb;have hn2:(10:Int) ^ p≤10 ^ 4:=by
      have : 10 ^ p≤10 ^ 4:=fI aE aA
      exact_mod_cast this
     have hn3:(10:Int) ^ 4=10000:=by decide
     have hu:=(l.getD p 0).toNat_lt;refine dB ?_;refine KW ?_;refine OD [6,28,29] ?_;refine Oz ?_;refine O0 [6,8,28] ?_;refine OI ?_;refine Qq ?_;refine Oe ?_;refine Ov (dj:=34) rfl rfl false true rfl ?_ ?_;intro g34;have g34:=of_decide_eq_false g34;refine OI ?_;refine Zy ?_;refine OB ?_;refine Oj [6,8,28,35,36,37] ?_;refine On ?_ ?_;intro c37;refine O0 [4,5] ?_;refine Oi ?_;have hq:Qm l m=false:=Jt hlt (by
      unfold Yn;rw[decide_eq_false_iff_not];intro hd;rw[YX hlt aA] at *;simp at *;omega)
     rw[hq];exact⟨rfl,hS.keeps⟩;intro c37;refine OD [6,8,28,35,36] ?_;refine Kc rfl ?_;have hd:(l.getD p 0).toNat<128:=by
      apply dQ;intro hn;have:=Wc hlt (show 128≤(l.getD p 0).toNat by omega);omega
     simp only[YX hlt hd] at hS c37 g34⊢;refine dH ?_;exact Zx (p+1) aZ ⟨hlt,fun q hq=>by
      rcases dR.1 hq with g|rfl
      exact hb q g;unfold Yn; rw[decide_eq_true_iff]; omega,hS⟩ aA
     intro g34;have g34:=of_decide_eq_true g34;refine Om (dj:=34) rfl rfl rfl ?_;refine O1 ?_;refine Oj [6,8,28,35,36,37] ?_;refine KW ?_;refine O0 [4,5] ?_;refine Oi ?_;have hq:Qm l m=false:=Jt hlt (by
      unfold Yn;rw[decide_eq_false_iff_not];intro hd;rw[YX hlt aA] at *;simp at *;omega)
     rw[hq];exact⟨rfl,hS.keeps⟩
     ·intro np;refine dB ?_;refine OM ?_;refine bS ?_;refine Ow [6] ?_;refine O0 [4,5] ?_;refine Oi ?_;have hpe:p=l.length:=by rw[wd_size] at np; omega
      subst hpe;have hq:Qm l m=true:=by
       have h1:=Tj hb;unfold Qm;rw[h1,decide_eq_true (show l≠[] from g11),decide_eq_true (show l.length≤m by omega)];simp;by_cases h2:l.length=1;exact .inl h2
       ·right;intro h3;obtain⟨c,l',rfl⟩:∃ c l',l=c::l':=by
         cases l with
         | nil=>exact absurd rfl g11
         | cons c l'=>exact⟨c,l',rfl⟩
        simp at h3;subst h3
        first
          | (exact absurd rfl c26; done)
          | (simp at c26; done)
          | (rw[fB] at g21 h2; omega)
      rw[hq,dZ];exact⟨rfl,hS.keeps⟩
   ·intro g21;have g21:=of_decide_eq_false g21;refine OI ?_;refine OB ?_;refine OB ?_;refine Oj [0,26] ?_;refine OM ?_;refine OD [0] ?_;refine OI ?_;refine bl ?_;refine OI ?_;refine KOps.range hS rfl ?_;intro v28 h' hv28 hS;refine Oj [6,28] ?_;refine Oz ?_;refine Kd (X:=Nat) (fun p=>[(6,.int .i64 (Z0 (l.take p))),(28,v28)]) (fun p h'=>p≤l.length∧(∀ q,q<p→Yn (l.getD q 0)=true)∧St h h' [walkO v28 (wdQ l) p]) (fun p=>l.length - p) 0 ?_ ?_;exact⟨fU _,fun q hq=>absurd hq (fA _),hS⟩;rintro p h2 ⟨hp,hb,hS⟩;refine Ot ?_;refine KOps.next hS hv28 (i:=0) rfl rfl ?_ ?_;intro np h' hS;simp only[dT,dV,dX] at hS;have hlt:p<l.length:=by rw[wd_size] at np; exact np
    obtain⟨hn0,hn1⟩:=W6 p aA hb;have hn2:(10:Int) ^ p≤10 ^ 4:=by
     have : 10 ^ p≤10 ^ 4:=fI aE aA
     exact_mod_cast this
    have hn3:(10:Int) ^ 4=10000:=by decide
    have hu:=(l.getD p 0).toNat_lt;refine dB ?_;refine KW ?_;refine OD [6,28,29] ?_;refine Oz ?_;refine O0 [6,8,28] ?_;refine OI ?_;refine Qq ?_;refine Oe ?_;refine Ov (dj:=34) rfl rfl false true rfl ?_ ?_;intro g34;have g34:=of_decide_eq_false g34;refine OI ?_;refine Zy ?_;refine OB ?_;refine Oj [6,8,28,35,36,37] ?_;refine On ?_ ?_;intro c37;refine O0 [4,5] ?_;refine Oi ?_;have hq:Qm l m=false:=Jt hlt (by
     unfold Yn;rw[decide_eq_false_iff_not];intro hd;rw[YX hlt aA] at *;simp at *;omega)
    rw[hq];exact⟨rfl,hS.keeps⟩;intro c37;refine OD [6,8,28,35,36] ?_;refine Kc rfl ?_;have hd:(l.getD p 0).toNat<128:=by
     apply dQ;intro hn;have:=Wc hlt (show 128≤(l.getD p 0).toNat by omega);omega
    simp only[YX hlt hd] at hS c37 g34⊢;refine dH ?_;exact Zx (p+1) aZ ⟨hlt,fun q hq=>by
     rcases dR.1 hq with g|rfl
     exact hb q g;unfold Yn; rw[decide_eq_true_iff]; omega,hS⟩ aA
    intro g34;have g34:=of_decide_eq_true g34;refine Om (dj:=34) rfl rfl rfl ?_;refine O1 ?_;refine Oj [6,8,28,35,36,37] ?_;refine KW ?_;refine O0 [4,5] ?_;refine Oi ?_;have hq:Qm l m=false:=Jt hlt (by
     unfold Yn;rw[decide_eq_false_iff_not];intro hd;rw[YX hlt aA] at *;simp at *;omega)
    rw[hq];exact⟨rfl,hS.keeps⟩
    ·intro np;refine dB ?_;refine OM ?_;refine bS ?_;refine Ow [6] ?_;refine O0 [4,5] ?_;refine Oi ?_;have hpe:p=l.length:=by rw[wd_size] at np; omega
     subst hpe;have hq:Qm l m=true:=by
      have h1:=Tj hb;unfold Qm;rw[h1,decide_eq_true (show l≠[] from g11),decide_eq_true (show l.length≤m by omega)];simp;by_cases h2:l.length=1;exact .inl h2
      ·right;intro h3;obtain⟨c,l',rfl⟩:∃ c l',l=c::l':=by
        cases l with
        | nil=>exact absurd rfl g11
        | cons c l'=>exact⟨c,l',rfl⟩
       simp at h3;subst h3
       first
         | (exact absurd rfl c26; done)
         | (simp at c26; done)
         | (rw[fB] at g21 h2; omega)
     rw[hq,dZ];exact⟨rfl,hS.keeps⟩
  intro g17;have g17:=of_decide_eq_true g17;refine OI ?_;refine cn ?_;have hq:Qm l m=false:=by
   unfold Qm;rw[decide_eq_false (show¬ l.length≤m by omega)];simp
  rw[hq];exact⟨rfl,hS.keeps⟩
 intro g11;have g11:=of_decide_eq_true g11;refine OI ?_;refine O1 ?_;refine OI ?_;refine cn ?_;have hq:Qm l m=false:=by
  unfold Qm;rw[g11];simp
 rw[hq];exact⟨rfl,hS.keeps⟩
end Go.Am
namespace Go.Am
open Go.RowKit
theorem Ev.of_belowQ {P : Program} {f : FuncId} {args : List AV} {r : AV} {h : AHeap} (hok : Okf P f)
    (hc:∀ (φ:Emb) (w:World) (cs:List Value),HRel φ h w→VRels φ args cs→Calls P f cs.toArray w fun e w'=>∃ v,e = .returned v∧VRel φ r v∧Below w.heap.size w w'):Ev P f args h r h:=by
 refine⟨hok,HGrow.refl h,?_⟩;intro φ w cs _ rr ha;refine(hc φ w cs rr ha).mono ?_;rintro e w' ⟨v,rfl,hv,bel⟩;have hk:∀ k,k<w.heap.size→w'.heap[k]? = w.heap[k]?:=fun k hk=>bel.block k hk
 refine⟨v,φ,rfl,⟨Emb.le_refl φ,fun b h1 h2=>by omega,fun b p h1 h2=>aq,fun b k i z h1 h2=>aq,fun k hk' _=>hk k hk',bel.os,bel.tape,bel.output,bel.size⟩,?_,hv⟩;refine⟨rr.glob,fun b k i z hb=>Nat.lt_of_lt_of_le (rr.lt b k i z hb) bel.size,?_,?_,rr.one,rr.sep,rr.map,rr.ext⟩;intro b k i z B hb hB hv;exact(rr.blk b k i z B hb hB hv).world (hk k (rr.lt b k i z hb));intro b k i z F p cs hb hB;obtain⟨c,e,h2,h3⟩:=rr.arr b k i z F p cs hb hB;exact⟨c,e,h2.old (hk k (rr.lt b k i z hb)),h3⟩
def VarAt (h:AHeap) (g:Nat) (cs:List AV):Prop:=h.globs.contains g=true∧h.get g=some (.cells none 1 cs)
theorem VarAt.ext {h h':AHeap} {g:Nat} {cs:List AV} (z:VarAt h g cs) (k:Keeps h h'):VarAt h' g cs:=⟨by rw[k.globs]; exact z.1,k.get_some z.2⟩
theorem VarAt.rel {φ:Emb} {h:AHeap} {w:World} {g:Nat} {cs:List AV} (z:VarAt h g cs) (r:HRel φ h w):∃ c e f,w.heap[g]? = some (.cells c e f)∧c.size=cs.length∧∀ (j:Nat) (x:AV),cs[j]? = some x→∃ v,c[j]? = some v∧VRel φ x v:=by
 obtain⟨u,hu⟩:=r.glob g (by simpa using z.1);have hb:=r.blk g g 0 u _ hu z.2 (by unfold AHeap.valid; rw[z.2]);obtain⟨_,c,e,f,h1,h2⟩:=hb.2 rfl;refine⟨c,e,f,h1,h2,fun j x hx=>?_⟩;obtain⟨v,h3,h4⟩:=hb.1 j x hx;refine⟨v,?_,h4⟩;rw[dX] at h3;simpa [World.cell?,h1] using h3
theorem idx1 (c:UInt8):∀ l:Str,Lib.index l [c]=if c∈l then (O4 l c:Int) else -1:=by
 intro l
 induction l with
 | nil=>rfl
 | cons a l ih=>
  unfold Lib.index;have hp : [c].isPrefixOf (a::l)=(c == a):=by simp[List.isPrefixOf]
  rw[hp,ih];by_cases h:c=a;subst h; simp[O4];have hb:(c == a)=false:=by simpa using h
  rw[hb];by_cases hm:c∈l;rw[if_neg aE,if_pos hm,if_pos (List.mem_cons_of_mem _ hm)];rw[if_neg (by rw[beq_iff_eq]; omega)];simp only[O4,if_neg h];omega;rw[if_neg aE,if_neg hm,if_neg (fun hc=>(dW.1 hc).elim h hm)];rfl
theorem splitC_no (c:UInt8):∀ l:Str,c ∉ l→Kf c l = [l]:=by
 intro l
 induction l with
 | nil=>intro _; rfl
 | cons a l ih=>
  intro h;simp only[dW,not_or] at h;simp only[Kf,if_neg (fun e=>h.1 (Eq.symm e)),ih h.2]
theorem splitC_ne (c:UInt8):∀ l:Str,Kf c l≠[]:=by
 intro l
 cases l with
 | nil=>simp[Kf]
 | cons a l=>
  simp only[Kf];split;simp;split <;> simp
theorem splitC_hit (c:UInt8):∀ l:Str,c∈l→Kf c l=l.take (O4 l c)::Kf c (l.drop (O4 l c+1)):=by
 intro l
 induction l with
 | nil=>intro h; cases h
 | cons a l ih=>
  intro h;by_cases he:c=a;subst he;simp[Kf,O4];have hm:=(dW.1 h).resolve_left he;simp only[Kf,if_neg (fun e=>he (Eq.symm e)),O4,if_neg he,ih hm,List.take_succ_cons,List.drop_succ_cons]
theorem JF (c:UInt8):∀ (k:Nat) (l:Str),Lib.countB (wdQ l) (wdQ [c])=k→Lib.splitB (wdQ [c]) 0 k (wdQ l)=(Kf c l).map wdQ:=by
 intro k
 induction k with
 | zero=>
  intro l h;by_cases hm:c∈l;exfalso;have hi:Lib.indexB (wdQ l) (wdQ [c])=(O4 l c:Int):=by
   show Lib.index l [c]=_;rw[idx1,if_pos hm]
  have:=Lib.countB_hit (wdQ l) (wdQ [c]) (O4 l c) ai hi;omega;rw[splitC_no c l hm];rfl
 | succ k ih=>
  intro l h;by_cases hm:c∈l;have hi:Lib.indexB (wdQ l) (wdQ [c])=(O4 l c:Int):=by
   show Lib.index l [c]=_;rw[idx1,if_pos hm]
  have h2:=Lib.countB_hit (wdQ l) (wdQ [c]) (O4 l c) ai hi;have e1:(wdQ l).extract (O4 l c+(wdQ [c]).size) (wdQ l).size=wdQ (l.drop (O4 l c+1)):=by
   rw[Rr,wd_size,wd_size,dZ];rfl
  have e2:(wdQ l).extract 0 (O4 l c+0)=wdQ (l.take (O4 l c)):=by
   rw[Rr]; rfl
  rw[e1] at h2;rw[Lib.splitB_hit _ _ _ _ _ hi,e1,e2,splitC_hit c l hm,List.map_cons,ih _ aA];exfalso;have hi:Lib.indexB (wdQ l) (wdQ [c]) = -1:=by
   show Lib.index l [c]=_;rw[idx1,if_neg hm]
  have:=Lib.countB_miss (wdQ l) (wdQ [c]) hi;omega
def Mx (h:AHeap):Prop:=∃ m:Int,VarAt h 4 [.int .i64 m]
theorem Mx.ext {h h':AHeap} (z:Mx h) (k:Keeps h h'):Mx h':=let⟨m,hm⟩:=z; ⟨m,hm.ext k⟩
theorem split_c {h:AHeap} {l:Str} {c:UInt8} (hM:Mx h) (hl:l.length≤1000000):ACalls Go.Proofs.Tryz.prog 134 [.str (wdQ l),.str (wdQ [c])] h (fun q h'=>Je q∧St h h' [⟨q,1,wcsQ (Kf c l),true⟩]):=by
 have hlen:(Kf c l).length=Lib.countB (wdQ l) (wdQ [c])+1:=by
  have:=Lib.splitB_all (wdQ [c]) ai 0 _ (wdQ l) rfl;rw[JF c _ l rfl,List.length_map] at this;exact this
 have hle:=Lib.countB_le (wdQ [c]) ai _ (wdQ l) (Nat.le_refl _);rw[wd_size] at hle;refine⟨.slc h.next 0 (Kf c l).length 1 true,h.alloc (wcsQ (Kf c l)),⟨⟨_,Go.Proofs.Tryz.func134,by decide,rfl⟩,HGrow.alloc _ _,?_⟩,⟨_,_,_,_,_,rfl⟩,St.alloc (St.refl h) (.inl ⟨_,_,rfl,by simp,by decide⟩)⟩;intro φ w cs hfr rr ha;obtain⟨a,b,rfl⟩:∃ a b,cs = [a,b]:=by
  match cs,ha.1 with
  | [a,b],_=>exact⟨a,b,rfl⟩
 have h1:=ha.2 0 _ _ rfl rfl;have h2:=ha.2 1 _ _ rfl rfl
 cases h1; cases h2
 obtain⟨m,hm⟩:=hM;obtain⟨C,e,f,g1,g2,g3⟩:=hm.rel rr;obtain⟨v,g4,g5⟩:=g3 0 _ rfl;cases g5;refine(Go.Proofs.Tryz.strings_Split (wdQ l) (wdQ [c]) m w (by rw[wd_size]; omega) (by simp[World.cell?,g1,g4]) ai).mono ?_;rintro e w' ⟨rfl,rfl⟩;have hφ : φ h.next=none:=hfr h.next (Nat.le_refl _) (by rw[AHeap.next_alloc]; omega);have hca:CellsAt φ (wcsQ (Kf c l)) ((Lib.splitB (wdQ [c]) 0 (Lib.countB (wdQ l) (wdQ [c])) (wdQ l)).map Value.string).toArray 0:=by
  intro j x hx;rw[List.getElem?_map,Option.map_eq_some_iff] at hx;obtain⟨y,hy,rfl⟩:=hx;refine⟨.string (wdQ y),?_,.str _⟩;rw[JF c _ l rfl];simp[hy]
 obtain⟨r',tr⟩:=rr.alloc hφ (wcsQ (Kf c l)) _ 9 (by rw[JF c _ l rfl]; simp) hca;refine⟨_,_,rfl,tr,r',?_⟩;rw[←hlen];refine .slc _ _ _ _ _ _ _ aA (by unfold maxLen; omega) (fun _=>by omega) (.inr ⟨_,0,_,Emb.upd_same _ _ _,by simp,?_⟩);rw[JF c _ l rfl];simp
def abc:Str:=[97,98,99,100,101,102,103,104,105,106,107,108,109,110,111,112,113,114,115,116,117,118,119,120,121,122]
theorem trim_c {h:AHeap} {l:Str} (hl:l.length≤1000000):ACalls Go.Proofs.Tryz.prog 176 [.str (wdQ l),.str (wdQ abc)] h (fun q h'=>q = .str (wdQ (Lib.trimS l abc))∧h=h'):=by
 refine⟨_,_,Ev.of_belowQ ⟨_,Go.Proofs.Tryz.func176,by decide,rfl⟩ ?_,rfl,rfl⟩;intro φ w cs _ ha;obtain⟨a,b,rfl⟩:∃ a b,cs = [a,b]:=by
  match cs,ha.1 with
  | [a,b],_=>exact⟨a,b,rfl⟩
 have h1:=ha.2 0 _ _ rfl rfl;have h2:=ha.2 1 _ _ rfl rfl
 cases h1; cases h2
 refine(Go.Proofs.Tryz.strings_Trim_laid (wdQ l) (wdQ abc) w (by rw[wd_size]; omega) (by rw[wd_size]; decide) (Go.Proofs.ascii_of_all aE)).mono ?_;rintro e w' ⟨rfl,bel⟩;exact⟨_,rfl,.str _,bel⟩
theorem TG {α:Type} (p : α→Bool):∀ l:List α,l.dropWhile p = []↔∀ x∈l,p x=true:=by
 intro l
 induction l with
 | nil=>simp
 | cons a l ih=>
  rw[fO];by_cases h:p a=true;rw[if_pos h,ih]; simp[h];rw[if_neg h]; simp[h]
theorem trim_nil (l cs:Str):Lib.trimS l cs = []↔∀ c∈l,c∈cs:=by
 unfold Lib.trimS Lib.trimLeftS Lib.trimRightS;rw[TG];constructor
 ·intro h c hc;have key:∀ m:Str,(∀ x∈(m.dropWhile (cs.contains ·)).reverse,cs.contains x=true)→∀ x∈m,cs.contains x=true:=by
   intro m
   induction m with
   | nil=>intro _ x hx; cases hx
   | cons a m ih=>
    intro hm x hx;rw[fO] at hm;by_cases ha:cs.contains a=true;rw[if_pos ha] at hm;rcases dW.1 hx with rfl|hx
    exact ha;exact ih hm x hx;rw[if_neg ha] at hm;exact hm x (dS.2 hx)
  have:=key l.reverse h c (dS.2 hc);simpa using this
 intro h x hx;have:=List.dropWhile_sublist (p:=(cs.contains ·)) (l:=l.reverse);have hm:=this.subset (dS.1 hx);have:=h x (dS.1 hm);simpa using this
def Pow (h:AHeap):Prop:=VarAt h 1 (Lib.pow10Tab.map (AV.int .u64))
end Go.Am
