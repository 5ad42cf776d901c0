/-
  Layer 14: small functions of Go's library.
  Conditions: none.
-/
import Derived.Test.YtgnogfjajnnaoaaGreatDoorBb
open Classical renaming byContradiction → fC
open List renaming getElem?_eq_getElem → fE, getD_eq_getElem?_getD → fI, set_cons_zero → fY, set_cons_succ → fB, mem_iff_getElem → fF, getElem_mem → fH, length_cons → fL, take_length → fM
open Nat renaming le_of_ble_eq_true → fA, lt_succ_iff_lt_or_eq → fU, not_lt_zero → fD, zero_add → fG, zero_le → fJ, pow_le_pow_right → fK
open Option renaming getD_some → fO
set_option maxRecDepth 99999
set_option maxHeartbeats 4000000
namespace Go.Am
def ixE (l:List Str) (x:Str):Int:=if x∈l then (Kh l x:Int) else -1
theorem Rb {κ:Type} [DecidableEq κ] {l:List κ} {x : κ} {i:Nat} (hi:i<l.length) (hx:x=l[i]) (hno:∀ j (hj:j<i),x≠l[j]'aB):Kh l x=i:=by
 induction l generalizing i with
 | nil=>simp at hi
 | cons a l ih=>
  simp only[Kh]
  cases i with
  | zero=>rw[if_pos bH]
  | succ i=>
   have h0:=hno 0 aB;rw[if_neg (by simpa using h0),ih (i:=i) au bH (fun j hj=>by simpa using hno (j+1) aB)]
theorem U3 {h:AHeap} {v:AV} {l:List Str} {x:Str} (hv:WRow h v l) (hl:l.length≤1000000):ACalls Go.Proofs.Tryz.prog 60 [v,.str (wd x)] h (fun q h'=>q = .int .i64 (ixE l x)∧h=h'):=by
 refine OV 19 [.tmp 4] Go.Proofs.Tryz.func60 rfl aD rfl rfl (fA rfl) ?_;show KA _ 19 _ _ [(0,v),(1,.str (wd x))] _;refine cD ?_;refine O8 hv ?_;refine Oa [0,1,7,8] ?_;refine Oz ?_;refine Kc (X:=Nat) (fun i=>[(0,v),(1,.str (wd x)),(7,.int .i64 (l.length:Int)),(8,.int .i64 (i:Int))]) (fun i h'=>i≤l.length∧(∀ j,j<i→x≠l.getD j [])∧h=h') (fun i=>l.length - i) 0 ⟨fJ _,fun j hj=>absurd hj (fD _),rfl⟩ ?_;rintro i h2 ⟨hi,hno,rfl⟩;refine dc ?_;refine Ok ?_ ?_
 ·intro c9;refine On [0,1,7,8] ?_;refine b4 ?_;refine Oa [0,1,5,7,8] ?_;refine Oc ?_;refine Oq hv (j:=i) rfl aA ?_;intro p14 hp14;refine OY hp14 hv aA ?_;refine Oa [0,1,5,7,8,16] ?_;refine Ok ?_ ?_;intro c16;refine bv ?_;have hil:i<l.length:=by omega
  rw[fI,fE hil,fO] at c16;have hio:=Rb hil c16 (fun j hj=>by
   have:=hno j hj;rw[fI,fE (show j<l.length by omega),fO] at this;exact this)
  exact⟨by rw[ixE,if_pos (c16 ▸ fH hil),hio],rfl⟩;intro c16;refine bu ?_;refine Oo [0,1,7,8] ?_;refine bw ?_;exact lpN (i+1) ⟨by omega,fun j hj=>by
   rcases fU.1 hj with q|rfl
   exact hno j q;exact c16,rfl⟩ aB
 intro c9;refine cE ?_;have hie:i=l.length:=by omega
 refine⟨?_,rfl⟩;rw[ixE,if_neg];intro hm;obtain⟨j,hj,he⟩:=fF.1 hm;refine hno j aB ?_;rw[fI,fE hj,fO,he]
theorem YG {h:AHeap} {v:AV} {l:List Str} {x:Str} (hv:WRow h v l) (hl:l.length≤1000000):ACalls Go.Proofs.Tryz.prog 52 [v,.str (wd x)] h (fun q h'=>q = .bool (decide (x∈l))∧h=h'):=by
 refine OV 9 [.tmp 4] Go.Proofs.Tryz.func52 rfl aD rfl rfl (fA rfl) ?_;show KA _ 9 _ _ [(0,v),(1,.str (wd x))] _;refine cD ?_;refine Oj rfl (U3 hv aB) ?_;rintro _ _ ⟨rfl,rfl⟩;refine bv ?_;refine dm ?_;unfold ixE;by_cases hm:x∈l;rw[if_pos hm,decide_eq_true hm,decide_eq_true aB];rw[if_neg hm,decide_eq_false hm,decide_eq_false aB]
theorem cloneS_nil {h:AHeap}:ACalls Go.Proofs.Tryz.prog 66 [.nils] h (fun q h'=>q = .nils∧h=h'):=by
 refine OV 8 [.tmp 2] Go.Proofs.Tryz.func66 rfl aD rfl rfl (fA rfl) ?_;show KA _ 8 _ _ [(0,.nils)] _;refine dI ?_;refine KOps.nilEqY rfl ?_;refine Om [0,4] ?_;refine eH ?_;exact⟨rfl,rfl⟩
theorem cloneS_slc {h:AHeap} {v:AV} {l:List Str} (hv:WRow h v l) (hs:VZ v) (hl:l.length≤1000000):ACalls Go.Proofs.Tryz.prog 66 [v] h (fun q h'=>St h h' [⟨q,1,wcs l,true⟩]):=by
 refine OV 8 [.tmp 2] Go.Proofs.Tryz.func66 rfl aD rfl rfl (fA rfl) ?_;have hS:=St.refl h;show KA _ 8 _ _ [(0,v)] _;refine dI ?_;refine KOps.nilEqS hs ?_;refine di ?_;refine Ou ?_;refine cH ?_;intro v5 h' hS;refine Oh ?_;refine Qh hS (fun _=>rfl) (i:=0) rfl (a:=0) rfl (Rd.ext hS.keeps hv) (b:=l.length) aR bP aB ?_;intro v7 h' hS;simp only[fY,fB,fG] at hS;refine br ?_;exact hS
theorem UY {h:AHeap} {v:AV} {l:List Str} (hv:WRow h v l) (hl:l.length≤1000000):ACalls Go.Proofs.Tryz.prog 66 [v] h (fun q h'=>St h h' [⟨q,1,wcs l,true⟩]):=by
 rcases Rd.nilOr hv aD with ⟨h1,h2⟩|h1
 subst h1;have e:l = []:=by simpa using h2
 subst e;refine cloneS_nil.mono ?_;rintro q h' ⟨rfl,rfl⟩;exact(St.refl h).nil 1;exact cloneS_slc hv h1 hl
theorem cloneI_nil {h:AHeap}:ACalls Go.Proofs.Tryz.prog 89 [.nils] h (fun q h'=>q = .nils∧h=h'):=by
 refine OV 8 [.tmp 2] Go.Proofs.Tryz.func89 rfl aD rfl rfl (fA rfl) ?_;show KA _ 8 _ _ [(0,.nils)] _;refine dI ?_;refine KOps.nilEqY rfl ?_;refine Om [0,4] ?_;refine eH ?_;exact⟨rfl,rfl⟩
theorem cloneI_slc {h:AHeap} {v:AV} {l:List Int} (hv:Row h v l) (hs:VZ v) (hl:l.length≤1000000):ACalls Go.Proofs.Tryz.prog 89 [v] h (fun q h'=>St h h' [⟨q,1,ints l,true⟩]):=by
 refine OV 8 [.tmp 2] Go.Proofs.Tryz.func89 rfl aD rfl rfl (fA rfl) ?_;have hS:=St.refl h;show KA _ 8 _ _ [(0,v)] _;refine dI ?_;refine KOps.nilEqS hs ?_;refine di ?_;refine Ou ?_;refine cH ?_;intro v5 h' hS;refine Oh ?_;refine Qh hS (fun _=>rfl) (i:=0) rfl (a:=0) rfl (Rd.ext hS.keeps hv) (b:=l.length) aR bP aB ?_;intro v7 h' hS;simp only[fY,fB,fG] at hS;refine br ?_;exact hS
theorem UX {h:AHeap} {v:AV} {l:List Int} (hv:Row h v l) (hl:l.length≤1000000):ACalls Go.Proofs.Tryz.prog 89 [v] h (fun q h'=>St h h' [⟨q,1,ints l,true⟩]):=by
 rcases Rd.nilOr hv aD with ⟨h1,h2⟩|h1
 subst h1;have e:l = []:=by simpa using h2
 subst e;refine cloneI_nil.mono ?_;rintro q h' ⟨rfl,rfl⟩;exact(St.refl h).nil 1;exact cloneI_slc hv h1 hl
end Go.Am
namespace Go.Am
def V2 (c:UInt8):Bool:=decide (c.toNat<32∨126<c.toNat)
theorem any_at {p:UInt8→Bool} {l:Str} {i:Nat} (hi:i<l.length) (h:p (l.getD i 0)=true):l.any p=true:=by
 rw[List.any_eq_true];rw[fI,fE hi,fO] at h;exact⟨_,fH hi,h⟩
theorem any_no {p:UInt8→Bool} {l:Str} (h:∀ i,i<l.length→p (l.getD i 0)=false):l.any p=false:=by
 rw[List.any_eq_false];intro x hx;obtain⟨i,hi,rfl⟩:=fF.1 hx;have:=h i hi;rw[fI,fE hi,fO] at this;simp[this]
theorem badR_c {h:AHeap} {r:Nat}:ACalls Go.Proofs.Tryz.prog 106 [.int .i32 (r:Int)] h (fun q h'=>q = .bool (decide (r<32∨126<r))∧h=h'):=by
 refine OV 9 [.tmp 2] Go.Proofs.Tryz.func106 rfl aD rfl rfl (fA rfl) ?_;show KA _ 9 _ _ [(0,.int .i32 (r:Int))] _;refine dI ?_;refine Oy (dj:=5) rfl rfl false true rfl ?_ ?_;intro g5;have g5:=of_decide_eq_false g5;refine br ?_;refine dm ?_;rw[Bool.eq_iff_iff,decide_eq_true_iff];simp;omega;intro g5;have g5:=of_decide_eq_true g5;refine br ?_;refine dm ?_;rw[Bool.eq_iff_iff,decide_eq_true_iff];simp;omega
theorem indexBad_c {h:AHeap} {l:Str} (hl:l.length≤1000000):ACalls Go.Proofs.Tryz.prog 177 [.str (wd l),.fn 106 [],.bool true] h (fun q h'=>(∃ c:Int,q = .int .i64 c∧(0≤c↔l.any V2=true))∧Keeps h h'):=by
 refine OV 21 [.tmp 6] Go.Proofs.Tryz.func177 rfl aD rfl rfl (fA rfl) ?_;have hS:=St.refl h;show KA _ 21 _ _ [(0,.str (wd l)),(1,.fn 106 []),(2,.bool true)] _;refine O2 [0,1,2] ?_;refine Ov ?_;refine KOps.range hS rfl ?_;intro v10 h' hv10 hS;refine Om [1,2,10] ?_;refine Oz ?_;refine Kc (X:=Nat) (fun p=>[(1,.fn 106 []),(2,.bool true),(10,v10)]) (fun p h'=>p≤l.length∧(∀ q,q<p→V2 (l.getD q 0)=false)∧St h h' [walkO v10 (wd l) p]) (fun p=>l.length - p) 0 ?_ ?_;exact⟨fJ _,fun q hq=>absurd hq (fD _),hS⟩;rintro p h2 ⟨hp,hb,hS⟩;refine Ou ?_;refine KOps.next hS hv10 (i:=0) rfl rfl ?_ ?_;intro np h' hS;simp only[fY,fB,fG] at hS;have hlt:p<l.length:=by rw[wd_size] at np; exact np
 refine eB ?_;refine Kw ?_;refine On [1,2,10,11] ?_;refine Oz ?_;refine O2 [1,2,7,8,10] ?_;refine Ov ?_;refine Oj rfl (badR_c) ?_;rintro _ _ ⟨rfl,rfl⟩;refine Oh ?_;refine KOps.eqlB aF ?_;refine Om [1,2,7,10,19] ?_;refine Ko ?_ ?_;intro c19;refine O2 [6] ?_;refine Oi ?_;refine⟨⟨_,rfl,⟨fun _=>any_at hlt ?_,fun _=>by omega⟩⟩,hS.keeps⟩;unfold V2;by_cases hd:(l.getD p 0).toNat<128;rw[Y9 hlt hd] at c19; simpa using c19;rw[decide_eq_true_iff]; omega;intro c19;refine dG ?_;have hd:(l.getD p 0).toNat<128:=by
  apply fC;intro hn;have:=UZ hlt (show 128≤(l.getD p 0).toNat by omega);simp at c19;omega
 rw[Y9 hlt hd] at hS c19;exact lpN (p+1) ⟨hlt,fun q hq=>by
  rcases fU.1 hq with g|rfl
  exact hb q g;unfold V2; simpa using c19,hS⟩ aB
 intro np;refine eB ?_;refine OP ?_;refine bh ?_;refine Oo [] ?_;refine Ov ?_;refine cV ?_;refine Oi ?_;have hpe:p=l.length:=by rw[wd_size] at np; omega
 subst hpe;refine⟨⟨_,rfl,⟨fun h=>absurd h aD,fun h=>?_⟩⟩,hS.keeps⟩;rw[any_no hb] at h;cases h
theorem Sc {h:AHeap} {l:Str} (hl:l.length≤1000000):ACalls Go.Proofs.Tryz.prog 139 [.str (wd l),.fn 106 []] h (fun q h'=>(∃ c:Int,q = .int .i64 c∧(0≤c↔l.any V2=true))∧Keeps h h'):=by
 refine OV 8 [.tmp 4] Go.Proofs.Tryz.func139 rfl aD rfl rfl (fA rfl) ?_;show KA _ 8 _ _ [(0,.str (wd l)),(1,.fn 106 [])] _;refine cD ?_;refine Oj rfl (indexBad_c hl) ?_;rintro _ h2 ⟨⟨c,rfl,hc⟩,hK⟩;refine bv ?_;exact⟨⟨_,rfl,hc⟩,hK⟩
theorem RY {h:AHeap} {l:Str} (hl:l.length≤1000000):ACalls Go.Proofs.Tryz.prog 105 [.str (wd l),.fn 106 []] h (fun q h'=>q = .bool (l.any V2)∧Keeps h h'):=by
 refine OV 9 [.tmp 4] Go.Proofs.Tryz.func105 rfl aD rfl rfl (fA rfl) ?_;show KA _ 9 _ _ [(0,.str (wd l)),(1,.fn 106 [])] _;refine cD ?_;refine Oj rfl (Sc hl) ?_;rintro _ h2 ⟨⟨c,rfl,hc⟩,hK⟩;refine bv ?_;refine⟨congrArg AV.bool ?_,hK⟩;rw[Bool.eq_iff_iff,decide_eq_true_iff];exact hc
end Go.Am
namespace Go.Am
theorem numV_snoc (l:Str) (c:UInt8):K9 (l ++ [c])=10*K9 l+((c.toNat:Int) - 48):=by simp[K9]
theorem YX {l:Str} {p:Nat} (hp:p<l.length):K9 (l.take (p+1))=10*K9 (l.take p)+(((l.getD p 0).toNat:Int) - 48):=by
 rw[List.take_add_one,fE hp,Option.toList_some,numV_snoc,fI,fE hp,fO]
def ZU (c:UInt8):Bool:=decide (48≤c.toNat∧c.toNat≤57)
theorem Vc:∀ {l:Str} (p:Nat),p≤l.length→(∀ q,q<p→ZU (l.getD q 0)=true)→0≤K9 (l.take p)∧K9 (l.take p)<10 ^ p:=by
 intro l p
 induction p with
 | zero=>intro _ _; rw[List.take_zero]; exact⟨by decide,by decide⟩
 | succ p ih=>
  intro hp hd;obtain⟨h1,h2⟩:=ih aB (fun q hq=>hd q aB);have h3:=hd p aB;rw[ZU,decide_eq_true_iff] at h3;rw[YX aB,Int.pow_succ];omega
theorem YA {l:Str} {m p:Nat} (hp:p<l.length) (h:ZU (l.getD p 0)=false):K6 l m=false:=by
 have:(l.all fun c=>decide (48≤c.toNat∧c.toNat≤57))=false:=by
  rw[List.all_eq_false];rw[fI,fE hp,fO] at h;refine⟨_,fH hp,?_⟩;unfold ZU at h;rw[h]; decide
 unfold K6;rw[this,Bool.and_false]
theorem Ue {l:Str} (h:∀ q,q<l.length→ZU (l.getD q 0)=true):(l.all fun c=>decide (48≤c.toNat∧c.toNat≤57))=true:=by
 rw[List.all_eq_true];intro x hx;obtain⟨i,hi,rfl⟩:=fF.1 hx;have:=h i hi;rw[fI,fE hi,fO] at this;exact this
theorem form_c {h:AHeap} {k:Str}:ACalls Go.Proofs.Tryz.prog 107 [.str (wd k)] h (fun q h'=>q = .str (wd (OJ k))∧h=h'):=by
 refine OV 20 [.tmp 2] Go.Proofs.Tryz.func107 rfl aD rfl rfl (fA rfl) ?_;show KA _ 20 _ _ [(0,.str (wd k))] _;refine Oa [0] ?_;refine Oa [3] ?_;refine Oz ?_;refine Oa [3,4] ?_;refine Ok ?_ ?_
 ·intro c4;refine OB ?_;refine Od ?_;refine Ok ?_ ?_
  ·intro c4;refine br ?_;refine⟨congrArg (fun l=>AV.str (wd l)) ?_,rfl⟩
   exact bc
  ·intro c4;refine Oa [3,7] ?_;refine Ok ?_ ?_
   ·intro c7;refine br ?_;refine⟨congrArg (fun l=>AV.str (wd l)) ?_,rfl⟩
    exact bc
   ·intro c7;refine Oa [3,9] ?_;refine Ok ?_ ?_
    ·intro c9;refine OB ?_;refine Od ?_;refine Ok ?_ ?_
     ·intro c9;refine br ?_;refine⟨congrArg (fun l=>AV.str (wd l)) ?_,rfl⟩
      exact bc
     ·intro c9;refine Oa [3,13] ?_;refine Ok ?_ ?_
      ·intro c13;refine br ?_;refine⟨congrArg (fun l=>AV.str (wd l)) ?_,rfl⟩
       exact bc
      ·intro c13;refine Oa [3,15] ?_;refine Ok ?_ ?_
       ·intro c15;refine On [15] ?_;refine Ok ?_ ?_
        ·intro c15;refine br ?_;refine⟨congrArg (fun l=>AV.str (wd l)) ?_,rfl⟩
         exact bc
        ·intro c15;refine bg ?_;refine⟨congrArg (fun l=>AV.str (wd l)) ?_,rfl⟩
         exact bc
       ·intro c15;refine Oa [3,15] ?_;refine Ok ?_ ?_
        ·intro c15;refine On [15] ?_;refine Ok ?_ ?_
         ·intro c15;refine br ?_;refine⟨congrArg (fun l=>AV.str (wd l)) ?_,rfl⟩
          exact bc
         ·intro c15;refine bg ?_;refine⟨congrArg (fun l=>AV.str (wd l)) ?_,rfl⟩
          exact bc
        ·intro c15;refine Oa [3,15] ?_;refine Ok ?_ ?_
         ·intro c15;refine On [15] ?_;refine Ok ?_ ?_
          ·intro c15;refine br ?_;refine⟨congrArg (fun l=>AV.str (wd l)) ?_,rfl⟩
           exact bc
          ·intro c15;refine bg ?_;refine⟨congrArg (fun l=>AV.str (wd l)) ?_,rfl⟩
           exact bc
         ·intro c15;refine Oa [15] ?_;refine Ok ?_ ?_
          ·intro c15;refine br ?_;refine⟨congrArg (fun l=>AV.str (wd l)) ?_,rfl⟩
           exact bc
          ·intro c15;refine bg ?_;refine⟨congrArg (fun l=>AV.str (wd l)) ?_,rfl⟩
           exact bc
    ·intro c9;refine Oa [3,9] ?_;refine Ok ?_ ?_
     ·intro c9;refine OB ?_;refine Od ?_;refine Ok ?_ ?_
      ·intro c9;refine br ?_;refine⟨congrArg (fun l=>AV.str (wd l)) ?_,rfl⟩
       exact bc
      ·intro c9;refine Oa [3,13] ?_;refine Ok ?_ ?_
       ·intro c13;refine br ?_;refine⟨congrArg (fun l=>AV.str (wd l)) ?_,rfl⟩
        exact bc
       ·intro c13;refine Oa [3,15] ?_;refine Ok ?_ ?_
        ·intro c15;refine On [15] ?_;refine Ok ?_ ?_
         ·intro c15;refine br ?_;refine⟨congrArg (fun l=>AV.str (wd l)) ?_,rfl⟩
          exact bc
         ·intro c15;refine bg ?_;refine⟨congrArg (fun l=>AV.str (wd l)) ?_,rfl⟩
          exact bc
        ·intro c15;refine Oa [3,15] ?_;refine Ok ?_ ?_
         ·intro c15;refine On [15] ?_;refine Ok ?_ ?_
          ·intro c15;refine br ?_;refine⟨congrArg (fun l=>AV.str (wd l)) ?_,rfl⟩
           exact bc
          ·intro c15;refine bg ?_;refine⟨congrArg (fun l=>AV.str (wd l)) ?_,rfl⟩
           exact bc
         ·intro c15;refine Oa [3,15] ?_;refine Ok ?_ ?_
          ·intro c15;refine On [15] ?_;refine Ok ?_ ?_
           ·intro c15;refine br ?_;refine⟨congrArg (fun l=>AV.str (wd l)) ?_,rfl⟩
            exact bc
           ·intro c15;refine bg ?_;refine⟨congrArg (fun l=>AV.str (wd l)) ?_,rfl⟩
            exact bc
          ·intro c15;refine Oa [15] ?_;refine Ok ?_ ?_
           ·intro c15;refine br ?_;refine⟨congrArg (fun l=>AV.str (wd l)) ?_,rfl⟩
            exact bc
           ·intro c15;refine bg ?_;refine⟨congrArg (fun l=>AV.str (wd l)) ?_,rfl⟩
            exact bc
     ·intro c9;refine Oa [3,9] ?_;refine Ok ?_ ?_
      ·intro c9;refine br ?_;refine⟨congrArg (fun l=>AV.str (wd l)) ?_,rfl⟩
       exact bc
      ·intro c9;refine Oa [3,13] ?_;refine Ok ?_ ?_
       ·intro c13;refine br ?_;refine⟨congrArg (fun l=>AV.str (wd l)) ?_,rfl⟩
        exact bc
       ·intro c13;refine Oa [3,15] ?_;refine Ok ?_ ?_
        ·intro c15;refine On [15] ?_;refine Ok ?_ ?_
         ·intro c15;refine br ?_;refine⟨congrArg (fun l=>AV.str (wd l)) ?_,rfl⟩
          exact bc
         ·intro c15;refine bg ?_;refine⟨congrArg (fun l=>AV.str (wd l)) ?_,rfl⟩
          exact bc
        ·intro c15;refine Oa [3,15] ?_;refine Ok ?_ ?_
         ·intro c15;refine On [15] ?_;refine Ok ?_ ?_
          ·intro c15;refine br ?_;refine⟨congrArg (fun l=>AV.str (wd l)) ?_,rfl⟩
           exact bc
          ·intro c15;refine bg ?_;refine⟨congrArg (fun l=>AV.str (wd l)) ?_,rfl⟩
           exact bc
         ·intro c15;refine Oa [3,15] ?_;refine Ok ?_ ?_
          ·intro c15;refine On [15] ?_;refine Ok ?_ ?_
           ·intro c15;refine br ?_;refine⟨congrArg (fun l=>AV.str (wd l)) ?_,rfl⟩
            exact bc
           ·intro c15;refine bg ?_;refine⟨congrArg (fun l=>AV.str (wd l)) ?_,rfl⟩
            exact bc
          ·intro c15;refine Oa [15] ?_;refine Ok ?_ ?_
           ·intro c15;refine br ?_;refine⟨congrArg (fun l=>AV.str (wd l)) ?_,rfl⟩
            exact bc
           ·intro c15;refine bg ?_;refine⟨congrArg (fun l=>AV.str (wd l)) ?_,rfl⟩
            exact bc
 ·intro c4;refine Oa [3,4] ?_;refine Ok ?_ ?_
  ·intro c4;refine br ?_;refine⟨congrArg (fun l=>AV.str (wd l)) ?_,rfl⟩
   exact bc
  ·intro c4;refine Oa [3,7] ?_;refine Ok ?_ ?_
   ·intro c7;refine br ?_;refine⟨congrArg (fun l=>AV.str (wd l)) ?_,rfl⟩
    exact bc
   ·intro c7;refine Oa [3,9] ?_;refine Ok ?_ ?_
    ·intro c9;refine OB ?_;refine Od ?_;refine Ok ?_ ?_
     ·intro c9;refine br ?_;refine⟨congrArg (fun l=>AV.str (wd l)) ?_,rfl⟩
      exact bc
     ·intro c9;refine Oa [3,13] ?_;refine Ok ?_ ?_
      ·intro c13;refine br ?_;refine⟨congrArg (fun l=>AV.str (wd l)) ?_,rfl⟩
       exact bc
      ·intro c13;refine Oa [3,15] ?_;refine Ok ?_ ?_
       ·intro c15;refine On [15] ?_;refine Ok ?_ ?_
        ·intro c15;refine br ?_;refine⟨congrArg (fun l=>AV.str (wd l)) ?_,rfl⟩
         exact bc
        ·intro c15;refine bg ?_;refine⟨congrArg (fun l=>AV.str (wd l)) ?_,rfl⟩
         exact bc
       ·intro c15;refine Oa [3,15] ?_;refine Ok ?_ ?_
        ·intro c15;refine On [15] ?_;refine Ok ?_ ?_
         ·intro c15;refine br ?_;refine⟨congrArg (fun l=>AV.str (wd l)) ?_,rfl⟩
          exact bc
         ·intro c15;refine bg ?_;refine⟨congrArg (fun l=>AV.str (wd l)) ?_,rfl⟩
          exact bc
        ·intro c15;refine Oa [3,15] ?_;refine Ok ?_ ?_
         ·intro c15;refine On [15] ?_;refine Ok ?_ ?_
          ·intro c15;refine br ?_;refine⟨congrArg (fun l=>AV.str (wd l)) ?_,rfl⟩
           exact bc
          ·intro c15;refine bg ?_;refine⟨congrArg (fun l=>AV.str (wd l)) ?_,rfl⟩
           exact bc
         ·intro c15;refine Oa [15] ?_;refine Ok ?_ ?_
          ·intro c15;refine br ?_;refine⟨congrArg (fun l=>AV.str (wd l)) ?_,rfl⟩
           exact bc
          ·intro c15;refine bg ?_;refine⟨congrArg (fun l=>AV.str (wd l)) ?_,rfl⟩
           exact bc
    ·intro c9;refine Oa [3,9] ?_;refine Ok ?_ ?_
     ·intro c9;refine OB ?_;refine Od ?_;refine Ok ?_ ?_
      ·intro c9;refine br ?_;refine⟨congrArg (fun l=>AV.str (wd l)) ?_,rfl⟩
       exact bc
      ·intro c9;refine Oa [3,13] ?_;refine Ok ?_ ?_
       ·intro c13;refine br ?_;refine⟨congrArg (fun l=>AV.str (wd l)) ?_,rfl⟩
        exact bc
       ·intro c13;refine Oa [3,15] ?_;refine Ok ?_ ?_
        ·intro c15;refine On [15] ?_;refine Ok ?_ ?_
         ·intro c15;refine br ?_;refine⟨congrArg (fun l=>AV.str (wd l)) ?_,rfl⟩
          exact bc
         ·intro c15;refine bg ?_;refine⟨congrArg (fun l=>AV.str (wd l)) ?_,rfl⟩
          exact bc
        ·intro c15;refine Oa [3,15] ?_;refine Ok ?_ ?_
         ·intro c15;refine On [15] ?_;refine Ok ?_ ?_
          ·intro c15;refine br ?_;refine⟨congrArg (fun l=>AV.str (wd l)) ?_,rfl⟩
           exact bc
          ·intro c15;refine bg ?_;refine⟨congrArg (fun l=>AV.str (wd l)) ?_,rfl⟩
           exact bc
         ·intro c15;refine Oa [3,15] ?_;refine Ok ?_ ?_
          ·intro c15;refine On [15] ?_;refine Ok ?_ ?_
           ·intro c15;refine br ?_;refine⟨congrArg (fun l=>AV.str (wd l)) ?_,rfl⟩
            exact bc
           ·intro c15;refine bg ?_;refine⟨congrArg (fun l=>AV.str (wd l)) ?_,rfl⟩
            exact bc
          ·intro c15;refine Oa [15] ?_;refine Ok ?_ ?_
           ·intro c15;refine br ?_;refine⟨congrArg (fun l=>AV.str (wd l)) ?_,rfl⟩
            exact bc
           ·intro c15;refine bg ?_;refine⟨congrArg (fun l=>AV.str (wd l)) ?_,rfl⟩
            exact bc
     ·intro c9;refine Oa [3,9] ?_;refine Ok ?_ ?_
      ·intro c9;refine br ?_;refine⟨congrArg (fun l=>AV.str (wd l)) ?_,rfl⟩
       exact bc
      ·intro c9;refine Oa [3,13] ?_;refine Ok ?_ ?_
       ·intro c13;refine br ?_;refine⟨congrArg (fun l=>AV.str (wd l)) ?_,rfl⟩
        exact bc
       ·intro c13;refine Oa [3,15] ?_;refine Ok ?_ ?_
        ·intro c15;refine On [15] ?_;refine Ok ?_ ?_
         ·intro c15;refine br ?_;refine⟨congrArg (fun l=>AV.str (wd l)) ?_,rfl⟩
          exact bc
         ·intro c15;refine bg ?_;refine⟨congrArg (fun l=>AV.str (wd l)) ?_,rfl⟩
          exact bc
        ·intro c15;refine Oa [3,15] ?_;refine Ok ?_ ?_
         ·intro c15;refine On [15] ?_;refine Ok ?_ ?_
          ·intro c15;refine br ?_;refine⟨congrArg (fun l=>AV.str (wd l)) ?_,rfl⟩
           exact bc
          ·intro c15;refine bg ?_;refine⟨congrArg (fun l=>AV.str (wd l)) ?_,rfl⟩
           exact bc
         ·intro c15;refine Oa [3,15] ?_;refine Ok ?_ ?_
          ·intro c15;refine On [15] ?_;refine Ok ?_ ?_
           ·intro c15;refine br ?_;refine⟨congrArg (fun l=>AV.str (wd l)) ?_,rfl⟩
            exact bc
           ·intro c15;refine bg ?_;refine⟨congrArg (fun l=>AV.str (wd l)) ?_,rfl⟩
            exact bc
          ·intro c15;refine Oa [15] ?_;refine Ok ?_ ?_
           ·intro c15;refine br ?_;refine⟨congrArg (fun l=>AV.str (wd l)) ?_,rfl⟩
            exact bc
           ·intro c15;refine bg ?_;refine⟨congrArg (fun l=>AV.str (wd l)) ?_,rfl⟩
            exact bc
theorem number_c {h:AHeap} {l:Str} {m:Nat} (hm:m≤4) (hl:l.length≤1000000):ACalls Go.Proofs.Tryz.prog 95 [.str (wd l),.int .i64 (m:Int)] h (fun q h'=>q = .tup [.int .i64 (if K6 l m then K9 l else 0),.bool (K6 l m)]∧Keeps h h'):=by
 refine OV 45 [.tmp 4,.tmp 5] Go.Proofs.Tryz.func95 rfl aD rfl rfl (fA rfl) ?_;have hS:=St.refl h;show KA _ 45 _ _ [(0,.str (wd l)),(1,.int .i64 (m:Int))] _;refine O2 [0,1] ?_;refine Ov ?_;refine KOps.wEql ?_;refine Oh ?_;refine Oy (dj:=11) rfl rfl false true rfl ?_ ?_
 ·intro g11;have g11:=of_decide_eq_false g11;refine Ov ?_;refine ZD ?_;refine Ov ?_;refine ZK ?_;refine OS ?_;refine Oh ?_;refine Oy (dj:=17) rfl rfl false true rfl ?_ ?_
  ·intro g17;have g17:=of_decide_eq_false g17;refine Ov ?_;refine ZD ?_;refine Og (dj:=17) rfl rfl ?_;refine ZK ?_;refine Ov ?_;refine Oy (dj:=21) rfl rfl true false rfl ?_ ?_
   ·intro g21;have g21:=of_decide_eq_true g21;refine Ov ?_;refine Q2 (j:=0) rfl aA ?_;refine Og (dj:=21) rfl rfl ?_;refine QW ?_;refine Og (dj:=17) rfl rfl ?_;refine Kl ?_;refine OS ?_;refine Om [0,26] ?_;refine Ok ?_ ?_
    ·intro c26;refine dK ?_;have hq:K6 l m=false:=by
      obtain⟨c,l',rfl⟩:∃ c l',l=c::l':=by
       cases l with
       | nil=>exact absurd rfl g11
       | cons c l'=>exact⟨c,l',rfl⟩
      have hc : c = 48 := UInt8.toNat_inj.1 (by have h48 : (48 : UInt8).toNat = 48 := by decide
                                                rw[h48]; simp at c26; omega)
      have hl1:¬ (c::l').length=1:=by omega
      unfold K6;rw[decide_eq_false hl1,hc];simp
     rw[hq];exact⟨rfl,hS.keeps⟩
    ·intro c26;refine On [0] ?_;refine Ov ?_;refine cV ?_;refine Ov ?_;refine KOps.range hS rfl ?_;intro v28 h' hv28 hS;refine Om [6,28] ?_;refine Oz ?_;refine Kc (X:=Nat) (fun p=>[(6,.int .i64 (K9 (l.take p))),(28,v28)]) (fun p h'=>p≤l.length∧(∀ q,q<p→ZU (l.getD q 0)=true)∧St h h' [walkO v28 (wd l) p]) (fun p=>l.length - p) 0 ?_ ?_;exact⟨fJ _,fun q hq=>absurd hq (fD _),hS⟩;rintro p h2 ⟨hp,hb,hS⟩;refine Ou ?_;refine KOps.next hS hv28 (i:=0) rfl rfl ?_ ?_;intro np h' hS;simp only[fY,fB,fG] at hS;have hlt:p<l.length:=by rw[wd_size] at np; exact np
     obtain⟨hn0,hn1⟩:=Vc p aB hb;have hn2:(10:Int) ^ p≤10 ^ 4:=by
      have : 10 ^ p≤10 ^ 4:=fK aD aB
      exact_mod_cast this
     have hn3:(10:Int) ^ 4=10000:=by decide
     have hu:=(l.getD p 0).toNat_lt;refine eB ?_;refine Kw ?_;refine On [6,28,29] ?_;refine Oz ?_;refine O2 [6,8,28] ?_;refine Ov ?_;refine Q1 ?_;refine Oh ?_;refine Oy (dj:=34) rfl rfl false true rfl ?_ ?_;intro g34;have g34:=of_decide_eq_false g34;refine Ov ?_;refine ZK ?_;refine OS ?_;refine Om [6,8,28,35,36,37] ?_;refine Ok ?_ ?_;intro c37;refine dK ?_;have hq:K6 l m=false:=YA hlt (by
      unfold ZU;rw[decide_eq_false_iff_not];intro hd;rw[Y9 hlt aB] at *;simp at *;omega)
     rw[hq];exact⟨rfl,hS.keeps⟩;intro c37;refine On [6,8,28,35,36] ?_;refine Kr rfl ?_;have hd:(l.getD p 0).toNat<128:=by
      apply fC;intro hn;have:=UZ hlt (show 128≤(l.getD p 0).toNat by omega);omega
     simp only[Y9 hlt hd] at hS c37 g34⊢;refine eI ?_;exact KB (p+1) aW ⟨hlt,fun q hq=>by
      rcases fU.1 hq with g|rfl
      exact hb q g;unfold ZU; rw[decide_eq_true_iff]; omega,hS⟩ aB
     intro g34;have g34:=of_decide_eq_true g34;refine KO (dj:=34) rfl rfl rfl ?_;refine Kl ?_;refine Om [6,8,28,35,36,37] ?_;refine Kw ?_;refine dK ?_;have hq:K6 l m=false:=YA hlt (by
      unfold ZU;rw[decide_eq_false_iff_not];intro hd;rw[Y9 hlt aB] at *;simp at *;omega)
     rw[hq];exact⟨rfl,hS.keeps⟩
     ·intro np;refine eB ?_;refine OP ?_;refine bh ?_;refine Oo [6] ?_;refine dK ?_;have hpe:p=l.length:=by rw[wd_size] at np; omega
      subst hpe;have hq:K6 l m=true:=by
       have h1:=Ue hb;unfold K6;rw[h1,decide_eq_true g11,decide_eq_true (show l.length≤m by omega)];simp;by_cases h2:l.length=1;exact .inl h2
       ·right;intro h3;obtain⟨c,l',rfl⟩:∃ c l',l=c::l':=by
         cases l with
         | nil=>exact absurd rfl g11
         | cons c l'=>exact⟨c,l',rfl⟩
        simp at h3;subst h3
        first
          | (exact absurd rfl c26; done)
          | (simp at c26; done)
          | (rw[fL] at g21 h2; omega)
      rw[hq,fM];exact⟨rfl,hS.keeps⟩
   ·intro g21;have g21:=of_decide_eq_false g21;refine Ov ?_;refine OS ?_;refine OS ?_;refine Om [0,26] ?_;refine OP ?_;refine On [0] ?_;refine Ov ?_;refine cV ?_;refine Ov ?_;refine KOps.range hS rfl ?_;intro v28 h' hv28 hS;refine Om [6,28] ?_;refine Oz ?_;refine Kc (X:=Nat) (fun p=>[(6,.int .i64 (K9 (l.take p))),(28,v28)]) (fun p h'=>p≤l.length∧(∀ q,q<p→ZU (l.getD q 0)=true)∧St h h' [walkO v28 (wd l) p]) (fun p=>l.length - p) 0 ?_ ?_;exact⟨fJ _,fun q hq=>absurd hq (fD _),hS⟩;rintro p h2 ⟨hp,hb,hS⟩;refine Ou ?_;refine KOps.next hS hv28 (i:=0) rfl rfl ?_ ?_;intro np h' hS;simp only[fY,fB,fG] at hS;have hlt:p<l.length:=by rw[wd_size] at np; exact np
    obtain⟨hn0,hn1⟩:=Vc p aB hb;have hn2:(10:Int) ^ p≤10 ^ 4:=by
     have : 10 ^ p≤10 ^ 4:=fK aD aB
     exact_mod_cast this
    have hn3:(10:Int) ^ 4=10000:=by decide
    have hu:=(l.getD p 0).toNat_lt;refine eB ?_;refine Kw ?_;refine On [6,28,29] ?_;refine Oz ?_;refine O2 [6,8,28] ?_;refine Ov ?_;refine Q1 ?_;refine Oh ?_;refine Oy (dj:=34) rfl rfl false true rfl ?_ ?_;intro g34;have g34:=of_decide_eq_false g34;refine Ov ?_;refine ZK ?_;refine OS ?_;refine Om [6,8,28,35,36,37] ?_;refine Ok ?_ ?_;intro c37;refine dK ?_;have hq:K6 l m=false:=YA hlt (by
     unfold ZU;rw[decide_eq_false_iff_not];intro hd;rw[Y9 hlt aB] at *;simp at *;omega)
    rw[hq];exact⟨rfl,hS.keeps⟩;intro c37;refine On [6,8,28,35,36] ?_;refine Kr rfl ?_;have hd:(l.getD p 0).toNat<128:=by
     apply fC;intro hn;have:=UZ hlt (show 128≤(l.getD p 0).toNat by omega);omega
    simp only[Y9 hlt hd] at hS c37 g34⊢;refine eI ?_;exact KB (p+1) aW ⟨hlt,fun q hq=>by
     rcases fU.1 hq with g|rfl
     exact hb q g;unfold ZU; rw[decide_eq_true_iff]; omega,hS⟩ aB
    intro g34;have g34:=of_decide_eq_true g34;refine KO (dj:=34) rfl rfl rfl ?_;refine Kl ?_;refine Om [6,8,28,35,36,37] ?_;refine Kw ?_;refine dK ?_;have hq:K6 l m=false:=YA hlt (by
     unfold ZU;rw[decide_eq_false_iff_not];intro hd;rw[Y9 hlt aB] at *;simp at *;omega)
    rw[hq];exact⟨rfl,hS.keeps⟩
    ·intro np;refine eB ?_;refine OP ?_;refine bh ?_;refine Oo [6] ?_;refine dK ?_;have hpe:p=l.length:=by rw[wd_size] at np; omega
     subst hpe;have hq:K6 l m=true:=by
      have h1:=Ue hb;unfold K6;rw[h1,decide_eq_true g11,decide_eq_true (show l.length≤m by omega)];simp;by_cases h2:l.length=1;exact .inl h2
      ·right;intro h3;obtain⟨c,l',rfl⟩:∃ c l',l=c::l':=by
        cases l with
        | nil=>exact absurd rfl g11
        | cons c l'=>exact⟨c,l',rfl⟩
       simp at h3;subst h3
       first
         | (exact absurd rfl c26; done)
         | (simp at c26; done)
         | (rw[fL] at g21 h2; omega)
     rw[hq,fM];exact⟨rfl,hS.keeps⟩
  intro g17;have g17:=of_decide_eq_true g17;refine d9 ?_;have hq:K6 l m=false:=by
   unfold K6;rw[decide_eq_false (show¬ l.length≤m by omega)];simp
  rw[hq];exact⟨rfl,hS.keeps⟩
 intro g11;have g11:=of_decide_eq_true g11;refine Ov ?_;refine Kl ?_;refine d9 ?_;have hq:K6 l m=false:=by
  unfold K6;rw[g11];simp
 rw[hq];exact⟨rfl,hS.keeps⟩
end Go.Am
