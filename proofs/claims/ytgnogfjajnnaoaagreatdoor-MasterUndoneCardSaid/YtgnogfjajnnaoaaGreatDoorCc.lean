/-
  Layer 14: small functions of Go's library.
  Conditions: none.
-/
import Derived.Test.YtgnogfjajnnaoaaGreatDoorBb
set_option maxRecDepth 99999
set_option maxHeartbeats 4000000
namespace Go.Am
def ixE (l:List Str) (x:Str):Int:=if x∈l then (OY l x:Int) else -1
theorem ixOf_no {κ:Type} [DecidableEq κ] {l:List κ} {x : κ} {i:Nat} (hi:i<l.length) (hx:x=l[i]) (hno:∀ j (hj:j<i),x≠l[j]'(by omega)):OY l x=i:=by
  induction l generalizing i with
  | nil=>simp at hi
  | cons a l ih=>
    simp only[OY]
    cases i with
    | zero=>rw[if_pos (by simpa using hx)]
    | succ i=>
      have h0:=hno 0 (by omega);rw[if_neg (by simpa using h0),ih (i:=i) (by simpa using hi) (by simpa using hx) (fun j hj=>by simpa using hno (j+1) (by omega))]
theorem V8 {h:AHeap} {v:AV} {l:List Str} {x:Str} (hv:WRow h v l) (hl:l.length≤1000000):ACalls Go.Proofs.Tryz.prog 60 [v,.str (wd x)] h (fun q h'=>q = .int .i64 (ixE l x)∧h=h'):=by
  refine OI 19 [.tmp 4] Go.Proofs.Tryz.func60 rfl (by decide) rfl rfl (Nat.le_of_ble_eq_true rfl) ?_;show KA _ 19 _ _ [(0,v),(1,.str (wd x))] _;refine Oa [0,1] ?_;refine Oc ?_;refine OT hv ?_;refine Oa [0,1,7,8] ?_;refine Oy ?_;refine Kd (X:=Nat) (fun i=>[(0,v),(1,.str (wd x)),(7,.int .i64 (l.length:Int)),(8,.int .i64 (i:Int))]) (fun i h'=>i≤l.length∧(∀ j,j<i→x≠l.getD j [])∧h=h') (fun i=>l.length - i) 0 ⟨Nat.zero_le _,fun j hj=>absurd hj (Nat.not_lt_zero _),rfl⟩ ?_;rintro i h2 ⟨hi,hno,rfl⟩;refine Oc ?_;refine Oh ?_;refine Od ?_;refine Ot ?_;refine Om ?_ ?_
  · intro c9;refine Ox [0,1,7,8] ?_;refine Ot ?_;refine Oy ?_;refine Oa [0,1,5,7,8] ?_;refine Oc ?_;refine Ou hv (j:=i) rfl (by first|omega|(simp; done)|(simp; omega)) ?_;intro p14 hp14;refine O3 hp14 hv (by first|omega|(simp; done)|(simp; omega)) ?_;refine Oa [0,1,5,7,8,16] ?_;refine Om ?_ ?_
    · intro c16;refine Oa [4] ?_;refine Oj ?_;have hil:i<l.length:=by omega
      rw[List.getD_eq_getElem?_getD,List.getElem?_eq_getElem hil,Option.getD_some] at c16;have hio:=ixOf_no hil c16 (fun j hj=>by
        have:=hno j hj;rw[List.getD_eq_getElem?_getD,List.getElem?_eq_getElem (show j<l.length by omega),Option.getD_some] at this;exact this)
      exact⟨by rw[ixE,if_pos (c16 ▸ List.getElem_mem hil),hio],rfl⟩
    · intro c16;refine Ow ?_;refine Ol ?_;refine Od ?_;refine Oq [0,1,7,8] ?_;refine Oc ?_;refine Oh ?_;exact lpN (i+1) ⟨by omega,fun j hj=>by
        rcases Nat.lt_succ_iff_lt_or_eq.1 hj with q|rfl
        · exact hno j q
        · exact c16,rfl⟩ (by omega)
  · intro c9;refine Kc ?_;refine OV ?_;refine O6 ?_;refine OZ ?_;refine Od ?_;refine Oq [] ?_;refine Oc ?_;refine Oh ?_;refine Od ?_;refine Oj ?_;have hie:i=l.length:=by omega
    refine⟨?_,rfl⟩;rw[ixE,if_neg];intro hm;obtain⟨j,hj,he⟩:=List.mem_iff_getElem.1 hm;refine hno j (by omega) ?_;rw[List.getD_eq_getElem?_getD,List.getElem?_eq_getElem hj,Option.getD_some,he]
theorem Xq {h:AHeap} {v:AV} {l:List Str} {x:Str} (hv:WRow h v l) (hl:l.length≤1000000):ACalls Go.Proofs.Tryz.prog 52 [v,.str (wd x)] h (fun q h'=>q = .bool (decide (x∈l))∧h=h'):=by
 refine OI 9 [.tmp 4] Go.Proofs.Tryz.func52 rfl (by decide) rfl rfl (Nat.le_of_ble_eq_true rfl) ?_;show KA _ 9 _ _ [(0,v),(1,.str (wd x))] _;refine Oa [0,1] ?_;refine Oc ?_;refine Oi rfl (V8 hv (by omega)) ?_;rintro _ _ ⟨rfl,rfl⟩;refine Oa [4] ?_;refine Oj ?_;refine⟨congrArg AV.bool ?_,rfl⟩;unfold ixE;by_cases hm:x∈l
 ·rw[if_pos hm,decide_eq_true hm,decide_eq_true (by omega)]
 ·rw[if_neg hm,decide_eq_false hm,decide_eq_false (by omega)]
theorem cloneS_nil {h:AHeap}:ACalls Go.Proofs.Tryz.prog 66 [.nils] h (fun q h'=>q = .nils∧h=h'):=by
 refine OI 8 [.tmp 2] Go.Proofs.Tryz.func66 rfl (by decide) rfl rfl (Nat.le_of_ble_eq_true rfl) ?_;show KA _ 8 _ _ [(0,.nils)] _;refine Oa [0] ?_;refine Oc ?_;refine KOps.nilEqY rfl ?_;refine Oo [0,4] ?_;refine Kz ?_;refine Oa [2] ?_;refine Oj ?_;exact⟨rfl,rfl⟩
theorem cloneS_slc {h:AHeap} {v:AV} {l:List Str} (hv:WRow h v l) (hs:Yn v) (hl:l.length≤1000000):ACalls Go.Proofs.Tryz.prog 66 [v] h (fun q h'=>St h h' [⟨q,1,wcs l,true⟩]):=by
 refine OI 8 [.tmp 2] Go.Proofs.Tryz.func66 rfl (by decide) rfl rfl (Nat.le_of_ble_eq_true rfl) ?_;have hS:=St.refl h;show KA _ 8 _ _ [(0,v)] _;refine Oa [0] ?_;refine Oc ?_;refine KOps.nilEqS hs ?_;refine Oo [0,4] ?_;refine OH ?_;refine Ox [0] ?_;refine Ov ?_;refine OE hS rfl (by decide) rfl ?_;intro v5 h' hS;refine Og ?_;refine KOps.append hS (fun _=>rfl) (i:=0) rfl (a:=0) rfl (Rd.ext hS.keeps hv) (b:=l.length) (by simp) (by simp[AV.one]) (by omega) ?_;intro v7 h' hS;simp only[List.set_cons_zero,List.set_cons_succ,Nat.zero_add] at hS;refine Oa [2] ?_;refine Oj ?_;exact hS
theorem V6 {h:AHeap} {v:AV} {l:List Str} (hv:WRow h v l) (hl:l.length≤1000000):ACalls Go.Proofs.Tryz.prog 66 [v] h (fun q h'=>St h h' [⟨q,1,wcs l,true⟩]):=by
 rcases Rd.nilOr hv (by decide) with ⟨h1,h2⟩|h1
 ·subst h1;have e:l = []:=by simpa using h2
  subst e;refine cloneS_nil.mono ?_;rintro q h' ⟨rfl,rfl⟩;exact(St.refl h).nil 1
 ·exact cloneS_slc hv h1 hl
theorem cloneI_nil {h:AHeap}:ACalls Go.Proofs.Tryz.prog 89 [.nils] h (fun q h'=>q = .nils∧h=h'):=by
 refine OI 8 [.tmp 2] Go.Proofs.Tryz.func89 rfl (by decide) rfl rfl (Nat.le_of_ble_eq_true rfl) ?_;show KA _ 8 _ _ [(0,.nils)] _;refine Oa [0] ?_;refine Oc ?_;refine KOps.nilEqY rfl ?_;refine Oo [0,4] ?_;refine Kz ?_;refine Oa [2] ?_;refine Oj ?_;exact⟨rfl,rfl⟩
theorem cloneI_slc {h:AHeap} {v:AV} {l:List Int} (hv:Row h v l) (hs:Yn v) (hl:l.length≤1000000):ACalls Go.Proofs.Tryz.prog 89 [v] h (fun q h'=>St h h' [⟨q,1,ints l,true⟩]):=by
 refine OI 8 [.tmp 2] Go.Proofs.Tryz.func89 rfl (by decide) rfl rfl (Nat.le_of_ble_eq_true rfl) ?_;have hS:=St.refl h;show KA _ 8 _ _ [(0,v)] _;refine Oa [0] ?_;refine Oc ?_;refine KOps.nilEqS hs ?_;refine Oo [0,4] ?_;refine OH ?_;refine Ox [0] ?_;refine Ov ?_;refine OE hS rfl (by decide) rfl ?_;intro v5 h' hS;refine Og ?_;refine KOps.append hS (fun _=>rfl) (i:=0) rfl (a:=0) rfl (Rd.ext hS.keeps hv) (b:=l.length) (by simp) (by simp[AV.one]) (by omega) ?_;intro v7 h' hS;simp only[List.set_cons_zero,List.set_cons_succ,Nat.zero_add] at hS;refine Oa [2] ?_;refine Oj ?_;exact hS
theorem V5 {h:AHeap} {v:AV} {l:List Int} (hv:Row h v l) (hl:l.length≤1000000):ACalls Go.Proofs.Tryz.prog 89 [v] h (fun q h'=>St h h' [⟨q,1,ints l,true⟩]):=by
 rcases Rd.nilOr hv (by decide) with ⟨h1,h2⟩|h1
 ·subst h1;have e:l = []:=by simpa using h2
  subst e;refine cloneI_nil.mono ?_;rintro q h' ⟨rfl,rfl⟩;exact(St.refl h).nil 1
 ·exact cloneI_slc hv h1 hl
end Go.Am
namespace Go.Am
def Yo (c:UInt8):Bool:=decide (c.toNat<32∨126<c.toNat)
theorem any_at {p:UInt8→Bool} {l:Str} {i:Nat} (hi:i<l.length) (h:p (l.getD i 0)=true):l.any p=true:=by
 rw[List.any_eq_true];rw[List.getD_eq_getElem?_getD,List.getElem?_eq_getElem hi,Option.getD_some] at h;exact⟨_,List.getElem_mem hi,h⟩
theorem any_no {p:UInt8→Bool} {l:Str} (h:∀ i,i<l.length→p (l.getD i 0)=false):l.any p=false:=by
 rw[List.any_eq_false];intro x hx;obtain⟨i,hi,rfl⟩:=List.mem_iff_getElem.1 hx;have:=h i hi;rw[List.getD_eq_getElem?_getD,List.getElem?_eq_getElem hi,Option.getD_some] at this;simp[this]
theorem badR_c {h:AHeap} {r:Nat}:ACalls Go.Proofs.Tryz.prog 106 [.int .i32 (r:Int)] h (fun q h'=>q = .bool (decide (r<32∨126<r))∧h=h'):=by
 refine OI 9 [.tmp 2] Go.Proofs.Tryz.func106 rfl (by decide) rfl rfl (Nat.le_of_ble_eq_true rfl) ?_;show KA _ 9 _ _ [(0,.int .i32 (r:Int))] _;refine Oa [0] ?_;refine Oc ?_;refine OD (dj:=5) rfl rfl false true rfl ?_ ?_
 ·intro g5;have g5:=of_decide_eq_false g5;refine Oa [2] ?_;refine Oj ?_;refine⟨congrArg AV.bool ?_,rfl⟩;rw[Bool.eq_iff_iff,decide_eq_true_iff];simp;omega
 ·intro g5;have g5:=of_decide_eq_true g5;refine Oa [2] ?_;refine Oj ?_;refine⟨congrArg AV.bool ?_,rfl⟩;rw[Bool.eq_iff_iff,decide_eq_true_iff];simp;omega
theorem indexBad_c {h:AHeap} {l:Str} (hl:l.length≤1000000):ACalls Go.Proofs.Tryz.prog 177 [.str (wd l),.fn 106 [],.bool true] h (fun q h'=>(∃ c:Int,q = .int .i64 c∧(0≤c↔l.any Yo=true))∧Keeps h h'):=by
 refine OI 21 [.tmp 6] Go.Proofs.Tryz.func177 rfl (by decide) rfl rfl (Nat.le_of_ble_eq_true rfl) ?_;have hS:=St.refl h;show KA _ 21 _ _ [(0,.str (wd l)),(1,.fn 106 []),(2,.bool true)] _;refine O1 [0,1,2] ?_;refine Oz ?_;refine KOps.range hS rfl ?_;intro v10 h' hv10 hS;refine Oo [1,2,10] ?_;refine Oy ?_;refine Kd (X:=Nat) (fun p=>[(1,.fn 106 []),(2,.bool true),(10,v10)]) (fun p h'=>p≤l.length∧(∀ q,q<p→Yo (l.getD q 0)=false)∧St h h' [walkO v10 (wd l) p]) (fun p=>l.length - p) 0 ?_ ?_
 ·exact⟨Nat.zero_le _,fun q hq=>absurd hq (Nat.not_lt_zero _),hS⟩
 rintro p h2 ⟨hp,hb,hS⟩;refine Ov ?_;refine KOps.next hS hv10 (i:=0) rfl rfl ?_ ?_
 ·intro np h' hS;simp only[List.set_cons_zero,List.set_cons_succ,Nat.zero_add] at hS;have hlt:p<l.length:=by rw[wd_size] at np; exact np
  refine OW ?_;refine Oh ?_;refine Od ?_;refine Ot ?_;refine Kz ?_;refine Ox [1,2,10,11] ?_;refine Oy ?_;refine O1 [1,2,7,8,10] ?_;refine Oz ?_;refine Oi rfl (badR_c) ?_;rintro _ _ ⟨rfl,rfl⟩;refine Og ?_;refine KOps.eqlB (by kernel_rfl) ?_;refine Oo [1,2,7,10,19] ?_;refine Ki ?_ ?_
  ·intro c19;refine O1 [6] ?_;refine Oj ?_;refine⟨⟨_,rfl,⟨fun _=>any_at hlt ?_,fun _=>by omega⟩⟩,hS.keeps⟩;unfold Yo;by_cases hd:(l.getD p 0).toNat<128
   ·rw[XL hlt hd] at c19; simpa using c19
   ·rw[decide_eq_true_iff]; omega
  ·intro c19;refine Ow ?_;refine Ol ?_;have hd:(l.getD p 0).toNat<128:=by
    apply Classical.byContradiction;intro hn;have:=V7 hlt (show 128≤(l.getD p 0).toNat by omega);simp at c19;omega
   rw[XL hlt hd] at hS c19;exact lpN (p+1) ⟨hlt,fun q hq=>by
    rcases Nat.lt_succ_iff_lt_or_eq.1 hq with g|rfl
    ·exact hb q g
    ·unfold Yo; simpa using c19,hS⟩ (by omega)
 ·intro np;refine OW ?_;refine Oh ?_;refine Od ?_;refine Ot ?_;refine OH ?_;refine Kc ?_;refine OV ?_;refine O6 ?_;refine OZ ?_;refine Od ?_;refine Oq [] ?_;refine Oz ?_;refine Oh ?_;refine Od ?_;refine Oj ?_;have hpe:p=l.length:=by rw[wd_size] at np; omega
  subst hpe;refine⟨⟨_,rfl,⟨fun h=>absurd h (by decide),fun h=>?_⟩⟩,hS.keeps⟩;rw[any_no hb] at h
  cases h
theorem Wq {h:AHeap} {l:Str} (hl:l.length≤1000000):ACalls Go.Proofs.Tryz.prog 139 [.str (wd l),.fn 106 []] h (fun q h'=>(∃ c:Int,q = .int .i64 c∧(0≤c↔l.any Yo=true))∧Keeps h h'):=by
 refine OI 8 [.tmp 4] Go.Proofs.Tryz.func139 rfl (by decide) rfl rfl (Nat.le_of_ble_eq_true rfl) ?_;show KA _ 8 _ _ [(0,.str (wd l)),(1,.fn 106 [])] _;refine Oa [0,1] ?_;refine Oc ?_;refine Oi rfl (indexBad_c hl) ?_;rintro _ h2 ⟨⟨c,rfl,hc⟩,hK⟩;refine Oa [4] ?_;refine Oj ?_;exact⟨⟨_,rfl,hc⟩,hK⟩
theorem Ut {h:AHeap} {l:Str} (hl:l.length≤1000000):ACalls Go.Proofs.Tryz.prog 105 [.str (wd l),.fn 106 []] h (fun q h'=>q = .bool (l.any Yo)∧Keeps h h'):=by
 refine OI 9 [.tmp 4] Go.Proofs.Tryz.func105 rfl (by decide) rfl rfl (Nat.le_of_ble_eq_true rfl) ?_;show KA _ 9 _ _ [(0,.str (wd l)),(1,.fn 106 [])] _;refine Oa [0,1] ?_;refine Oc ?_;refine Oi rfl (Wq hl) ?_;rintro _ h2 ⟨⟨c,rfl,hc⟩,hK⟩;refine Oa [4] ?_;refine Oj ?_;refine⟨congrArg AV.bool ?_,hK⟩;rw[Bool.eq_iff_iff,decide_eq_true_iff];exact hc
end Go.Am
namespace Go.Am
theorem numV_snoc (l:Str) (c:UInt8):Zb (l ++ [c])=10*Zb l+((c.toNat:Int) - 48):=by simp[Zb]
theorem Vt {l:Str} {p:Nat} (hp:p<l.length):Zb (l.take (p+1))=10*Zb (l.take p)+(((l.getD p 0).toNat:Int) - 48):=by
 rw[List.take_add_one,List.getElem?_eq_getElem hp,Option.toList_some,numV_snoc,List.getD_eq_getElem?_getD,List.getElem?_eq_getElem hp,Option.getD_some]
def Xm (c:UInt8):Bool:=decide (48≤c.toNat∧c.toNat≤57)
theorem JC:∀ {l:Str} (p:Nat),p≤l.length→(∀ q,q<p→Xm (l.getD q 0)=true)→0≤Zb (l.take p)∧Zb (l.take p)<10 ^ p:=by
 intro l p
 induction p with
 | zero=>intro _ _; rw[List.take_zero]; exact⟨by decide,by decide⟩
 | succ p ih=>
  intro hp hd;obtain⟨h1,h2⟩:=ih (by omega) (fun q hq=>hd q (by omega));have h3:=hd p (by omega);rw[Xm,decide_eq_true_iff] at h3;rw[Vt (by omega),Int.pow_succ];omega
theorem YR {l:Str} {m p:Nat} (hp:p<l.length) (h:Xm (l.getD p 0)=false):K8 l m=false:=by
 have:(l.all fun c=>decide (48≤c.toNat∧c.toNat≤57))=false:=by
  rw[List.all_eq_false];rw[List.getD_eq_getElem?_getD,List.getElem?_eq_getElem hp,Option.getD_some] at h;refine⟨_,List.getElem_mem hp,?_⟩;unfold Xm at h;rw[h]; decide
 unfold K8;rw[this,Bool.and_false]
theorem Uf {l:Str} (h:∀ q,q<l.length→Xm (l.getD q 0)=true):(l.all fun c=>decide (48≤c.toNat∧c.toNat≤57))=true:=by
 rw[List.all_eq_true];intro x hx;obtain⟨i,hi,rfl⟩:=List.mem_iff_getElem.1 hx;have:=h i hi;rw[List.getD_eq_getElem?_getD,List.getElem?_eq_getElem hi,Option.getD_some] at this;exact this
theorem form_c {h:AHeap} {k:Str}:ACalls Go.Proofs.Tryz.prog 107 [.str (wd k)] h (fun q h'=>q = .str (wd (OU k))∧h=h'):=by
  refine OI 20 [.tmp 2] Go.Proofs.Tryz.func107 rfl (by decide) rfl rfl (Nat.le_of_ble_eq_true rfl) ?_;show KA _ 20 _ _ [(0,.str (wd k))] _;refine Oa [0] ?_;refine Oa [3] ?_;refine Oy ?_;refine Oa [3,4] ?_;refine Om ?_ ?_
  · intro c4;refine Ow ?_;refine Od ?_;refine Om ?_ ?_
    · intro c4;refine Oa [2] ?_;refine Oj ?_;refine⟨congrArg (fun l=>AV.str (wd l)) ?_,rfl⟩
      first
        | contradiction
        | (subst_vars; decide)
        | (unfold OU; simp only[OQ,O5,OK,OL,OM,OR,OP,ON,OO,OJ,Kb]; simp[*])
    · intro c4;refine Oa [3,7] ?_;refine Om ?_ ?_
      · intro c7;refine Oa [2] ?_;refine Oj ?_;refine⟨congrArg (fun l=>AV.str (wd l)) ?_,rfl⟩
        first
          | contradiction
          | (subst_vars; decide)
          | (unfold OU; simp only[OQ,O5,OK,OL,OM,OR,OP,ON,OO,OJ,Kb]; simp[*])
      · intro c7;refine Oa [3,9] ?_;refine Om ?_ ?_
        · intro c9;refine Ow ?_;refine Od ?_;refine Om ?_ ?_
          · intro c9;refine Oa [2] ?_;refine Oj ?_;refine⟨congrArg (fun l=>AV.str (wd l)) ?_,rfl⟩
            first
              | contradiction
              | (subst_vars; decide)
              | (unfold OU; simp only[OQ,O5,OK,OL,OM,OR,OP,ON,OO,OJ,Kb]; simp[*])
          · intro c9;refine Oa [3,13] ?_;refine Om ?_ ?_
            · intro c13;refine Oa [2] ?_;refine Oj ?_;refine⟨congrArg (fun l=>AV.str (wd l)) ?_,rfl⟩
              first
                | contradiction
                | (subst_vars; decide)
                | (unfold OU; simp only[OQ,O5,OK,OL,OM,OR,OP,ON,OO,OJ,Kb]; simp[*])
            · intro c13;refine Oa [3,15] ?_;refine Om ?_ ?_
              · intro c15;refine Ox [15] ?_;refine Om ?_ ?_
                · intro c15;refine Oa [2] ?_;refine Oj ?_;refine⟨congrArg (fun l=>AV.str (wd l)) ?_,rfl⟩
                  first
                    | contradiction
                    | (subst_vars; decide)
                    | (unfold OU; simp only[OQ,O5,OK,OL,OM,OR,OP,ON,OO,OJ,Kb]; simp[*])
                · intro c15;refine Ow ?_;refine Ol ?_;refine Od ?_;refine Oq [] ?_;refine Oc ?_;refine Oh ?_;refine Od ?_;refine Oj ?_;refine⟨congrArg (fun l=>AV.str (wd l)) ?_,rfl⟩
                  first
                    | contradiction
                    | (subst_vars; decide)
                    | (unfold OU; simp only[OQ,O5,OK,OL,OM,OR,OP,ON,OO,OJ,Kb]; simp[*])
              · intro c15;refine Oa [3,15] ?_;refine Om ?_ ?_
                · intro c15;refine Ox [15] ?_;refine Om ?_ ?_
                  · intro c15;refine Oa [2] ?_;refine Oj ?_;refine⟨congrArg (fun l=>AV.str (wd l)) ?_,rfl⟩
                    first
                      | contradiction
                      | (subst_vars; decide)
                      | (unfold OU; simp only[OQ,O5,OK,OL,OM,OR,OP,ON,OO,OJ,Kb]; simp[*])
                  · intro c15;refine Ow ?_;refine Ol ?_;refine Od ?_;refine Oq [] ?_;refine Oc ?_;refine Oh ?_;refine Od ?_;refine Oj ?_;refine⟨congrArg (fun l=>AV.str (wd l)) ?_,rfl⟩
                    first
                      | contradiction
                      | (subst_vars; decide)
                      | (unfold OU; simp only[OQ,O5,OK,OL,OM,OR,OP,ON,OO,OJ,Kb]; simp[*])
                · intro c15;refine Oa [3,15] ?_;refine Om ?_ ?_
                  · intro c15;refine Ox [15] ?_;refine Om ?_ ?_
                    · intro c15;refine Oa [2] ?_;refine Oj ?_;refine⟨congrArg (fun l=>AV.str (wd l)) ?_,rfl⟩
                      first
                        | contradiction
                        | (subst_vars; decide)
                        | (unfold OU; simp only[OQ,O5,OK,OL,OM,OR,OP,ON,OO,OJ,Kb]; simp[*])
                    · intro c15;refine Ow ?_;refine Ol ?_;refine Od ?_;refine Oq [] ?_;refine Oc ?_;refine Oh ?_;refine Od ?_;refine Oj ?_;refine⟨congrArg (fun l=>AV.str (wd l)) ?_,rfl⟩
                      first
                        | contradiction
                        | (subst_vars; decide)
                        | (unfold OU; simp only[OQ,O5,OK,OL,OM,OR,OP,ON,OO,OJ,Kb]; simp[*])
                  · intro c15;refine Oa [15] ?_;refine Om ?_ ?_
                    · intro c15;refine Oa [2] ?_;refine Oj ?_;refine⟨congrArg (fun l=>AV.str (wd l)) ?_,rfl⟩
                      first
                        | contradiction
                        | (subst_vars; decide)
                        | (unfold OU; simp only[OQ,O5,OK,OL,OM,OR,OP,ON,OO,OJ,Kb]; simp[*])
                    · intro c15;refine Ow ?_;refine Ol ?_;refine Od ?_;refine Oq [] ?_;refine Oc ?_;refine Oh ?_;refine Od ?_;refine Oj ?_;refine⟨congrArg (fun l=>AV.str (wd l)) ?_,rfl⟩
                      first
                        | contradiction
                        | (subst_vars; decide)
                        | (unfold OU; simp only[OQ,O5,OK,OL,OM,OR,OP,ON,OO,OJ,Kb]; simp[*])
        · intro c9;refine Oa [3,9] ?_;refine Om ?_ ?_
          · intro c9;refine Ow ?_;refine Od ?_;refine Om ?_ ?_
            · intro c9;refine Oa [2] ?_;refine Oj ?_;refine⟨congrArg (fun l=>AV.str (wd l)) ?_,rfl⟩
              first
                | contradiction
                | (subst_vars; decide)
                | (unfold OU; simp only[OQ,O5,OK,OL,OM,OR,OP,ON,OO,OJ,Kb]; simp[*])
            · intro c9;refine Oa [3,13] ?_;refine Om ?_ ?_
              · intro c13;refine Oa [2] ?_;refine Oj ?_;refine⟨congrArg (fun l=>AV.str (wd l)) ?_,rfl⟩
                first
                  | contradiction
                  | (subst_vars; decide)
                  | (unfold OU; simp only[OQ,O5,OK,OL,OM,OR,OP,ON,OO,OJ,Kb]; simp[*])
              · intro c13;refine Oa [3,15] ?_;refine Om ?_ ?_
                · intro c15;refine Ox [15] ?_;refine Om ?_ ?_
                  · intro c15;refine Oa [2] ?_;refine Oj ?_;refine⟨congrArg (fun l=>AV.str (wd l)) ?_,rfl⟩
                    first
                      | contradiction
                      | (subst_vars; decide)
                      | (unfold OU; simp only[OQ,O5,OK,OL,OM,OR,OP,ON,OO,OJ,Kb]; simp[*])
                  · intro c15;refine Ow ?_;refine Ol ?_;refine Od ?_;refine Oq [] ?_;refine Oc ?_;refine Oh ?_;refine Od ?_;refine Oj ?_;refine⟨congrArg (fun l=>AV.str (wd l)) ?_,rfl⟩
                    first
                      | contradiction
                      | (subst_vars; decide)
                      | (unfold OU; simp only[OQ,O5,OK,OL,OM,OR,OP,ON,OO,OJ,Kb]; simp[*])
                · intro c15;refine Oa [3,15] ?_;refine Om ?_ ?_
                  · intro c15;refine Ox [15] ?_;refine Om ?_ ?_
                    · intro c15;refine Oa [2] ?_;refine Oj ?_;refine⟨congrArg (fun l=>AV.str (wd l)) ?_,rfl⟩
                      first
                        | contradiction
                        | (subst_vars; decide)
                        | (unfold OU; simp only[OQ,O5,OK,OL,OM,OR,OP,ON,OO,OJ,Kb]; simp[*])
                    · intro c15;refine Ow ?_;refine Ol ?_;refine Od ?_;refine Oq [] ?_;refine Oc ?_;refine Oh ?_;refine Od ?_;refine Oj ?_;refine⟨congrArg (fun l=>AV.str (wd l)) ?_,rfl⟩
                      first
                        | contradiction
                        | (subst_vars; decide)
                        | (unfold OU; simp only[OQ,O5,OK,OL,OM,OR,OP,ON,OO,OJ,Kb]; simp[*])
                  · intro c15;refine Oa [3,15] ?_;refine Om ?_ ?_
                    · intro c15;refine Ox [15] ?_;refine Om ?_ ?_
                      · intro c15;refine Oa [2] ?_;refine Oj ?_;refine⟨congrArg (fun l=>AV.str (wd l)) ?_,rfl⟩
                        first
                          | contradiction
                          | (subst_vars; decide)
                          | (unfold OU; simp only[OQ,O5,OK,OL,OM,OR,OP,ON,OO,OJ,Kb]; simp[*])
                      · intro c15;refine Ow ?_;refine Ol ?_;refine Od ?_;refine Oq [] ?_;refine Oc ?_;refine Oh ?_;refine Od ?_;refine Oj ?_;refine⟨congrArg (fun l=>AV.str (wd l)) ?_,rfl⟩
                        first
                          | contradiction
                          | (subst_vars; decide)
                          | (unfold OU; simp only[OQ,O5,OK,OL,OM,OR,OP,ON,OO,OJ,Kb]; simp[*])
                    · intro c15;refine Oa [15] ?_;refine Om ?_ ?_
                      · intro c15;refine Oa [2] ?_;refine Oj ?_;refine⟨congrArg (fun l=>AV.str (wd l)) ?_,rfl⟩
                        first
                          | contradiction
                          | (subst_vars; decide)
                          | (unfold OU; simp only[OQ,O5,OK,OL,OM,OR,OP,ON,OO,OJ,Kb]; simp[*])
                      · intro c15;refine Ow ?_;refine Ol ?_;refine Od ?_;refine Oq [] ?_;refine Oc ?_;refine Oh ?_;refine Od ?_;refine Oj ?_;refine⟨congrArg (fun l=>AV.str (wd l)) ?_,rfl⟩
                        first
                          | contradiction
                          | (subst_vars; decide)
                          | (unfold OU; simp only[OQ,O5,OK,OL,OM,OR,OP,ON,OO,OJ,Kb]; simp[*])
          · intro c9;refine Oa [3,9] ?_;refine Om ?_ ?_
            · intro c9;refine Oa [2] ?_;refine Oj ?_;refine⟨congrArg (fun l=>AV.str (wd l)) ?_,rfl⟩
              first
                | contradiction
                | (subst_vars; decide)
                | (unfold OU; simp only[OQ,O5,OK,OL,OM,OR,OP,ON,OO,OJ,Kb]; simp[*])
            · intro c9;refine Oa [3,13] ?_;refine Om ?_ ?_
              · intro c13;refine Oa [2] ?_;refine Oj ?_;refine⟨congrArg (fun l=>AV.str (wd l)) ?_,rfl⟩
                first
                  | contradiction
                  | (subst_vars; decide)
                  | (unfold OU; simp only[OQ,O5,OK,OL,OM,OR,OP,ON,OO,OJ,Kb]; simp[*])
              · intro c13;refine Oa [3,15] ?_;refine Om ?_ ?_
                · intro c15;refine Ox [15] ?_;refine Om ?_ ?_
                  · intro c15;refine Oa [2] ?_;refine Oj ?_;refine⟨congrArg (fun l=>AV.str (wd l)) ?_,rfl⟩
                    first
                      | contradiction
                      | (subst_vars; decide)
                      | (unfold OU; simp only[OQ,O5,OK,OL,OM,OR,OP,ON,OO,OJ,Kb]; simp[*])
                  · intro c15;refine Ow ?_;refine Ol ?_;refine Od ?_;refine Oq [] ?_;refine Oc ?_;refine Oh ?_;refine Od ?_;refine Oj ?_;refine⟨congrArg (fun l=>AV.str (wd l)) ?_,rfl⟩
                    first
                      | contradiction
                      | (subst_vars; decide)
                      | (unfold OU; simp only[OQ,O5,OK,OL,OM,OR,OP,ON,OO,OJ,Kb]; simp[*])
                · intro c15;refine Oa [3,15] ?_;refine Om ?_ ?_
                  · intro c15;refine Ox [15] ?_;refine Om ?_ ?_
                    · intro c15;refine Oa [2] ?_;refine Oj ?_;refine⟨congrArg (fun l=>AV.str (wd l)) ?_,rfl⟩
                      first
                        | contradiction
                        | (subst_vars; decide)
                        | (unfold OU; simp only[OQ,O5,OK,OL,OM,OR,OP,ON,OO,OJ,Kb]; simp[*])
                    · intro c15;refine Ow ?_;refine Ol ?_;refine Od ?_;refine Oq [] ?_;refine Oc ?_;refine Oh ?_;refine Od ?_;refine Oj ?_;refine⟨congrArg (fun l=>AV.str (wd l)) ?_,rfl⟩
                      first
                        | contradiction
                        | (subst_vars; decide)
                        | (unfold OU; simp only[OQ,O5,OK,OL,OM,OR,OP,ON,OO,OJ,Kb]; simp[*])
                  · intro c15;refine Oa [3,15] ?_;refine Om ?_ ?_
                    · intro c15;refine Ox [15] ?_;refine Om ?_ ?_
                      · intro c15;refine Oa [2] ?_;refine Oj ?_;refine⟨congrArg (fun l=>AV.str (wd l)) ?_,rfl⟩
                        first
                          | contradiction
                          | (subst_vars; decide)
                          | (unfold OU; simp only[OQ,O5,OK,OL,OM,OR,OP,ON,OO,OJ,Kb]; simp[*])
                      · intro c15;refine Ow ?_;refine Ol ?_;refine Od ?_;refine Oq [] ?_;refine Oc ?_;refine Oh ?_;refine Od ?_;refine Oj ?_;refine⟨congrArg (fun l=>AV.str (wd l)) ?_,rfl⟩
                        first
                          | contradiction
                          | (subst_vars; decide)
                          | (unfold OU; simp only[OQ,O5,OK,OL,OM,OR,OP,ON,OO,OJ,Kb]; simp[*])
                    · intro c15;refine Oa [15] ?_;refine Om ?_ ?_
                      · intro c15;refine Oa [2] ?_;refine Oj ?_;refine⟨congrArg (fun l=>AV.str (wd l)) ?_,rfl⟩
                        first
                          | contradiction
                          | (subst_vars; decide)
                          | (unfold OU; simp only[OQ,O5,OK,OL,OM,OR,OP,ON,OO,OJ,Kb]; simp[*])
                      · intro c15;refine Ow ?_;refine Ol ?_;refine Od ?_;refine Oq [] ?_;refine Oc ?_;refine Oh ?_;refine Od ?_;refine Oj ?_;refine⟨congrArg (fun l=>AV.str (wd l)) ?_,rfl⟩
                        first
                          | contradiction
                          | (subst_vars; decide)
                          | (unfold OU; simp only[OQ,O5,OK,OL,OM,OR,OP,ON,OO,OJ,Kb]; simp[*])
  · intro c4;refine Oa [3,4] ?_;refine Om ?_ ?_
    · intro c4;refine Oa [2] ?_;refine Oj ?_;refine⟨congrArg (fun l=>AV.str (wd l)) ?_,rfl⟩
      first
        | contradiction
        | (subst_vars; decide)
        | (unfold OU; simp only[OQ,O5,OK,OL,OM,OR,OP,ON,OO,OJ,Kb]; simp[*])
    · intro c4;refine Oa [3,7] ?_;refine Om ?_ ?_
      · intro c7;refine Oa [2] ?_;refine Oj ?_;refine⟨congrArg (fun l=>AV.str (wd l)) ?_,rfl⟩
        first
          | contradiction
          | (subst_vars; decide)
          | (unfold OU; simp only[OQ,O5,OK,OL,OM,OR,OP,ON,OO,OJ,Kb]; simp[*])
      · intro c7;refine Oa [3,9] ?_;refine Om ?_ ?_
        · intro c9;refine Ow ?_;refine Od ?_;refine Om ?_ ?_
          · intro c9;refine Oa [2] ?_;refine Oj ?_;refine⟨congrArg (fun l=>AV.str (wd l)) ?_,rfl⟩
            first
              | contradiction
              | (subst_vars; decide)
              | (unfold OU; simp only[OQ,O5,OK,OL,OM,OR,OP,ON,OO,OJ,Kb]; simp[*])
          · intro c9;refine Oa [3,13] ?_;refine Om ?_ ?_
            · intro c13;refine Oa [2] ?_;refine Oj ?_;refine⟨congrArg (fun l=>AV.str (wd l)) ?_,rfl⟩
              first
                | contradiction
                | (subst_vars; decide)
                | (unfold OU; simp only[OQ,O5,OK,OL,OM,OR,OP,ON,OO,OJ,Kb]; simp[*])
            · intro c13;refine Oa [3,15] ?_;refine Om ?_ ?_
              · intro c15;refine Ox [15] ?_;refine Om ?_ ?_
                · intro c15;refine Oa [2] ?_;refine Oj ?_;refine⟨congrArg (fun l=>AV.str (wd l)) ?_,rfl⟩
                  first
                    | contradiction
                    | (subst_vars; decide)
                    | (unfold OU; simp only[OQ,O5,OK,OL,OM,OR,OP,ON,OO,OJ,Kb]; simp[*])
                · intro c15;refine Ow ?_;refine Ol ?_;refine Od ?_;refine Oq [] ?_;refine Oc ?_;refine Oh ?_;refine Od ?_;refine Oj ?_;refine⟨congrArg (fun l=>AV.str (wd l)) ?_,rfl⟩
                  first
                    | contradiction
                    | (subst_vars; decide)
                    | (unfold OU; simp only[OQ,O5,OK,OL,OM,OR,OP,ON,OO,OJ,Kb]; simp[*])
              · intro c15;refine Oa [3,15] ?_;refine Om ?_ ?_
                · intro c15;refine Ox [15] ?_;refine Om ?_ ?_
                  · intro c15;refine Oa [2] ?_;refine Oj ?_;refine⟨congrArg (fun l=>AV.str (wd l)) ?_,rfl⟩
                    first
                      | contradiction
                      | (subst_vars; decide)
                      | (unfold OU; simp only[OQ,O5,OK,OL,OM,OR,OP,ON,OO,OJ,Kb]; simp[*])
                  · intro c15;refine Ow ?_;refine Ol ?_;refine Od ?_;refine Oq [] ?_;refine Oc ?_;refine Oh ?_;refine Od ?_;refine Oj ?_;refine⟨congrArg (fun l=>AV.str (wd l)) ?_,rfl⟩
                    first
                      | contradiction
                      | (subst_vars; decide)
                      | (unfold OU; simp only[OQ,O5,OK,OL,OM,OR,OP,ON,OO,OJ,Kb]; simp[*])
                · intro c15;refine Oa [3,15] ?_;refine Om ?_ ?_
                  · intro c15;refine Ox [15] ?_;refine Om ?_ ?_
                    · intro c15;refine Oa [2] ?_;refine Oj ?_;refine⟨congrArg (fun l=>AV.str (wd l)) ?_,rfl⟩
                      first
                        | contradiction
                        | (subst_vars; decide)
                        | (unfold OU; simp only[OQ,O5,OK,OL,OM,OR,OP,ON,OO,OJ,Kb]; simp[*])
                    · intro c15;refine Ow ?_;refine Ol ?_;refine Od ?_;refine Oq [] ?_;refine Oc ?_;refine Oh ?_;refine Od ?_;refine Oj ?_;refine⟨congrArg (fun l=>AV.str (wd l)) ?_,rfl⟩
                      first
                        | contradiction
                        | (subst_vars; decide)
                        | (unfold OU; simp only[OQ,O5,OK,OL,OM,OR,OP,ON,OO,OJ,Kb]; simp[*])
                  · intro c15;refine Oa [15] ?_;refine Om ?_ ?_
                    · intro c15;refine Oa [2] ?_;refine Oj ?_;refine⟨congrArg (fun l=>AV.str (wd l)) ?_,rfl⟩
                      first
                        | contradiction
                        | (subst_vars; decide)
                        | (unfold OU; simp only[OQ,O5,OK,OL,OM,OR,OP,ON,OO,OJ,Kb]; simp[*])
                    · intro c15;refine Ow ?_;refine Ol ?_;refine Od ?_;refine Oq [] ?_;refine Oc ?_;refine Oh ?_;refine Od ?_;refine Oj ?_;refine⟨congrArg (fun l=>AV.str (wd l)) ?_,rfl⟩
                      first
                        | contradiction
                        | (subst_vars; decide)
                        | (unfold OU; simp only[OQ,O5,OK,OL,OM,OR,OP,ON,OO,OJ,Kb]; simp[*])
        · intro c9;refine Oa [3,9] ?_;refine Om ?_ ?_
          · intro c9;refine Ow ?_;refine Od ?_;refine Om ?_ ?_
            · intro c9;refine Oa [2] ?_;refine Oj ?_;refine⟨congrArg (fun l=>AV.str (wd l)) ?_,rfl⟩
              first
                | contradiction
                | (subst_vars; decide)
                | (unfold OU; simp only[OQ,O5,OK,OL,OM,OR,OP,ON,OO,OJ,Kb]; simp[*])
            · intro c9;refine Oa [3,13] ?_;refine Om ?_ ?_
              · intro c13;refine Oa [2] ?_;refine Oj ?_;refine⟨congrArg (fun l=>AV.str (wd l)) ?_,rfl⟩
                first
                  | contradiction
                  | (subst_vars; decide)
                  | (unfold OU; simp only[OQ,O5,OK,OL,OM,OR,OP,ON,OO,OJ,Kb]; simp[*])
              · intro c13;refine Oa [3,15] ?_;refine Om ?_ ?_
                · intro c15;refine Ox [15] ?_;refine Om ?_ ?_
                  · intro c15;refine Oa [2] ?_;refine Oj ?_;refine⟨congrArg (fun l=>AV.str (wd l)) ?_,rfl⟩
                    first
                      | contradiction
                      | (subst_vars; decide)
                      | (unfold OU; simp only[OQ,O5,OK,OL,OM,OR,OP,ON,OO,OJ,Kb]; simp[*])
                  · intro c15;refine Ow ?_;refine Ol ?_;refine Od ?_;refine Oq [] ?_;refine Oc ?_;refine Oh ?_;refine Od ?_;refine Oj ?_;refine⟨congrArg (fun l=>AV.str (wd l)) ?_,rfl⟩
                    first
                      | contradiction
                      | (subst_vars; decide)
                      | (unfold OU; simp only[OQ,O5,OK,OL,OM,OR,OP,ON,OO,OJ,Kb]; simp[*])
                · intro c15;refine Oa [3,15] ?_;refine Om ?_ ?_
                  · intro c15;refine Ox [15] ?_;refine Om ?_ ?_
                    · intro c15;refine Oa [2] ?_;refine Oj ?_;refine⟨congrArg (fun l=>AV.str (wd l)) ?_,rfl⟩
                      first
                        | contradiction
                        | (subst_vars; decide)
                        | (unfold OU; simp only[OQ,O5,OK,OL,OM,OR,OP,ON,OO,OJ,Kb]; simp[*])
                    · intro c15;refine Ow ?_;refine Ol ?_;refine Od ?_;refine Oq [] ?_;refine Oc ?_;refine Oh ?_;refine Od ?_;refine Oj ?_;refine⟨congrArg (fun l=>AV.str (wd l)) ?_,rfl⟩
                      first
                        | contradiction
                        | (subst_vars; decide)
                        | (unfold OU; simp only[OQ,O5,OK,OL,OM,OR,OP,ON,OO,OJ,Kb]; simp[*])
                  · intro c15;refine Oa [3,15] ?_;refine Om ?_ ?_
                    · intro c15;refine Ox [15] ?_;refine Om ?_ ?_
                      · intro c15;refine Oa [2] ?_;refine Oj ?_;refine⟨congrArg (fun l=>AV.str (wd l)) ?_,rfl⟩
                        first
                          | contradiction
                          | (subst_vars; decide)
                          | (unfold OU; simp only[OQ,O5,OK,OL,OM,OR,OP,ON,OO,OJ,Kb]; simp[*])
                      · intro c15;refine Ow ?_;refine Ol ?_;refine Od ?_;refine Oq [] ?_;refine Oc ?_;refine Oh ?_;refine Od ?_;refine Oj ?_;refine⟨congrArg (fun l=>AV.str (wd l)) ?_,rfl⟩
                        first
                          | contradiction
                          | (subst_vars; decide)
                          | (unfold OU; simp only[OQ,O5,OK,OL,OM,OR,OP,ON,OO,OJ,Kb]; simp[*])
                    · intro c15;refine Oa [15] ?_;refine Om ?_ ?_
                      · intro c15;refine Oa [2] ?_;refine Oj ?_;refine⟨congrArg (fun l=>AV.str (wd l)) ?_,rfl⟩
                        first
                          | contradiction
                          | (subst_vars; decide)
                          | (unfold OU; simp only[OQ,O5,OK,OL,OM,OR,OP,ON,OO,OJ,Kb]; simp[*])
                      · intro c15;refine Ow ?_;refine Ol ?_;refine Od ?_;refine Oq [] ?_;refine Oc ?_;refine Oh ?_;refine Od ?_;refine Oj ?_;refine⟨congrArg (fun l=>AV.str (wd l)) ?_,rfl⟩
                        first
                          | contradiction
                          | (subst_vars; decide)
                          | (unfold OU; simp only[OQ,O5,OK,OL,OM,OR,OP,ON,OO,OJ,Kb]; simp[*])
          · intro c9;refine Oa [3,9] ?_;refine Om ?_ ?_
            · intro c9;refine Oa [2] ?_;refine Oj ?_;refine⟨congrArg (fun l=>AV.str (wd l)) ?_,rfl⟩
              first
                | contradiction
                | (subst_vars; decide)
                | (unfold OU; simp only[OQ,O5,OK,OL,OM,OR,OP,ON,OO,OJ,Kb]; simp[*])
            · intro c9;refine Oa [3,13] ?_;refine Om ?_ ?_
              · intro c13;refine Oa [2] ?_;refine Oj ?_;refine⟨congrArg (fun l=>AV.str (wd l)) ?_,rfl⟩
                first
                  | contradiction
                  | (subst_vars; decide)
                  | (unfold OU; simp only[OQ,O5,OK,OL,OM,OR,OP,ON,OO,OJ,Kb]; simp[*])
              · intro c13;refine Oa [3,15] ?_;refine Om ?_ ?_
                · intro c15;refine Ox [15] ?_;refine Om ?_ ?_
                  · intro c15;refine Oa [2] ?_;refine Oj ?_;refine⟨congrArg (fun l=>AV.str (wd l)) ?_,rfl⟩
                    first
                      | contradiction
                      | (subst_vars; decide)
                      | (unfold OU; simp only[OQ,O5,OK,OL,OM,OR,OP,ON,OO,OJ,Kb]; simp[*])
                  · intro c15;refine Ow ?_;refine Ol ?_;refine Od ?_;refine Oq [] ?_;refine Oc ?_;refine Oh ?_;refine Od ?_;refine Oj ?_;refine⟨congrArg (fun l=>AV.str (wd l)) ?_,rfl⟩
                    first
                      | contradiction
                      | (subst_vars; decide)
                      | (unfold OU; simp only[OQ,O5,OK,OL,OM,OR,OP,ON,OO,OJ,Kb]; simp[*])
                · intro c15;refine Oa [3,15] ?_;refine Om ?_ ?_
                  · intro c15;refine Ox [15] ?_;refine Om ?_ ?_
                    · intro c15;refine Oa [2] ?_;refine Oj ?_;refine⟨congrArg (fun l=>AV.str (wd l)) ?_,rfl⟩
                      first
                        | contradiction
                        | (subst_vars; decide)
                        | (unfold OU; simp only[OQ,O5,OK,OL,OM,OR,OP,ON,OO,OJ,Kb]; simp[*])
                    · intro c15;refine Ow ?_;refine Ol ?_;refine Od ?_;refine Oq [] ?_;refine Oc ?_;refine Oh ?_;refine Od ?_;refine Oj ?_;refine⟨congrArg (fun l=>AV.str (wd l)) ?_,rfl⟩
                      first
                        | contradiction
                        | (subst_vars; decide)
                        | (unfold OU; simp only[OQ,O5,OK,OL,OM,OR,OP,ON,OO,OJ,Kb]; simp[*])
                  · intro c15;refine Oa [3,15] ?_;refine Om ?_ ?_
                    · intro c15;refine Ox [15] ?_;refine Om ?_ ?_
                      · intro c15;refine Oa [2] ?_;refine Oj ?_;refine⟨congrArg (fun l=>AV.str (wd l)) ?_,rfl⟩
                        first
                          | contradiction
                          | (subst_vars; decide)
                          | (unfold OU; simp only[OQ,O5,OK,OL,OM,OR,OP,ON,OO,OJ,Kb]; simp[*])
                      · intro c15;refine Ow ?_;refine Ol ?_;refine Od ?_;refine Oq [] ?_;refine Oc ?_;refine Oh ?_;refine Od ?_;refine Oj ?_;refine⟨congrArg (fun l=>AV.str (wd l)) ?_,rfl⟩
                        first
                          | contradiction
                          | (subst_vars; decide)
                          | (unfold OU; simp only[OQ,O5,OK,OL,OM,OR,OP,ON,OO,OJ,Kb]; simp[*])
                    · intro c15;refine Oa [15] ?_;refine Om ?_ ?_
                      · intro c15;refine Oa [2] ?_;refine Oj ?_;refine⟨congrArg (fun l=>AV.str (wd l)) ?_,rfl⟩
                        first
                          | contradiction
                          | (subst_vars; decide)
                          | (unfold OU; simp only[OQ,O5,OK,OL,OM,OR,OP,ON,OO,OJ,Kb]; simp[*])
                      · intro c15;refine Ow ?_;refine Ol ?_;refine Od ?_;refine Oq [] ?_;refine Oc ?_;refine Oh ?_;refine Od ?_;refine Oj ?_;refine⟨congrArg (fun l=>AV.str (wd l)) ?_,rfl⟩
                        first
                          | contradiction
                          | (subst_vars; decide)
                          | (unfold OU; simp only[OQ,O5,OK,OL,OM,OR,OP,ON,OO,OJ,Kb]; simp[*])
theorem number_c {h:AHeap} {l:Str} {m:Nat} (hm:m≤4) (hl:l.length≤1000000):ACalls Go.Proofs.Tryz.prog 95 [.str (wd l),.int .i64 (m:Int)] h (fun q h'=>q = .tup [.int .i64 (if K8 l m then Zb l else 0),.bool (K8 l m)]∧Keeps h h'):=by
  refine OI 45 [.tmp 4,.tmp 5] Go.Proofs.Tryz.func95 rfl (by decide) rfl rfl (Nat.le_of_ble_eq_true rfl) ?_;have hS:=St.refl h;show KA _ 45 _ _ [(0,.str (wd l)),(1,.int .i64 (m:Int))] _;refine O1 [0,1] ?_;refine Oz ?_;refine KOps.wEql ?_;refine Og ?_;refine OD (dj:=11) rfl rfl false true rfl ?_ ?_
  · intro g11;have g11:=of_decide_eq_false g11;refine Oz ?_;refine KOps.lenW ?_;refine Oz ?_;refine KOps.gtr ?_;refine OG ?_;refine Og ?_;refine OD (dj:=17) rfl rfl false true rfl ?_ ?_
    · intro g17;have g17:=of_decide_eq_false g17;refine Oz ?_;refine KOps.lenW ?_;refine Oe (dj:=17) rfl rfl ?_;refine KOps.gtr ?_;refine Oz ?_;refine OD (dj:=21) rfl rfl true false rfl ?_ ?_
      · intro g21;have g21:=of_decide_eq_true g21;refine Oz ?_;refine KOps.wAt (j:=0) rfl (by first|omega|(simp; done)|(simp; omega)) ?_;refine Oe (dj:=21) rfl rfl ?_;refine KOps.eql ?_;refine Oe (dj:=17) rfl rfl ?_;refine KN ?_;refine OG ?_;refine Oo [0,26] ?_;refine Om ?_ ?_
        · intro c26;refine O1 [4,5] ?_;refine Oj ?_;have hq:K8 l m=false:=by
            obtain⟨c,l',rfl⟩:∃ c l',l=c::l':=by
              cases l with
              | nil=>exact absurd rfl g11
              | cons c l'=>exact⟨c,l',rfl⟩
            have hc : c = 48 := UInt8.toNat_inj.1 (by have h48 : (48 : UInt8).toNat = 48 := by decide
                                                      rw[h48]; simp at c26; omega)
            have hl1:¬ (c::l').length=1:=by omega
            unfold K8;rw[decide_eq_false hl1,hc];simp
          rw[hq];exact⟨rfl,hS.keeps⟩
        · intro c26;refine Ox [0] ?_;refine Oz ?_;refine Oh ?_;refine Od ?_;refine Oz ?_;refine KOps.range hS rfl ?_;intro v28 h' hv28 hS;refine Oo [6,28] ?_;refine Oy ?_;refine Kd (X:=Nat) (fun p=>[(6,.int .i64 (Zb (l.take p))),(28,v28)]) (fun p h'=>p≤l.length∧(∀ q,q<p→Xm (l.getD q 0)=true)∧St h h' [walkO v28 (wd l) p]) (fun p=>l.length - p) 0 ?_ ?_
          · exact⟨Nat.zero_le _,fun q hq=>absurd hq (Nat.not_lt_zero _),hS⟩
          rintro p h2 ⟨hp,hb,hS⟩;refine Ov ?_;refine KOps.next hS hv28 (i:=0) rfl rfl ?_ ?_
          · intro np h' hS;simp only[List.set_cons_zero,List.set_cons_succ,Nat.zero_add] at hS;have hlt:p<l.length:=by rw[wd_size] at np; exact np
            obtain⟨hn0,hn1⟩:=JC p (by omega) hb;have hn2:(10:Int) ^ p≤10 ^ 4:=by
              have : 10 ^ p≤10 ^ 4:=Nat.pow_le_pow_right (by decide) (by omega)
              exact_mod_cast this
            have hn3:(10:Int) ^ 4=10000:=by decide
            have hu:=(l.getD p 0).toNat_lt;refine OW ?_;refine Oh ?_;refine Od ?_;refine Ot ?_;refine Kz ?_;refine Ox [6,28,29] ?_;refine Oy ?_;refine O1 [6,8,28] ?_;refine Oz ?_;refine QW ?_;refine Og ?_;refine OD (dj:=34) rfl rfl false true rfl ?_ ?_
            · intro g34;have g34:=of_decide_eq_false g34;refine Oz ?_;refine KOps.gtr ?_;refine OG ?_;refine Oo [6,8,28,35,36,37] ?_;refine Om ?_ ?_
              · intro c37;refine O1 [4,5] ?_;refine Oj ?_;have hq:K8 l m=false:=YR hlt (by
                  unfold Xm;rw[decide_eq_false_iff_not];intro hd;rw[XL hlt (by omega)] at *;simp at *;omega)
                rw[hq];exact⟨rfl,hS.keeps⟩
              · intro c37;refine Ox [6,8,28,35,36] ?_;refine Ke rfl ?_;have hd:(l.getD p 0).toNat<128:=by
                  apply Classical.byContradiction;intro hn;have:=V7 hlt (show 128≤(l.getD p 0).toNat by omega);omega
                simp only[XL hlt hd] at hS c37 g34⊢;refine Og ?_;refine KOps.mul (by first|omega|(simp; omega)) (by first|omega|(simp; omega)) ?_;refine Og ?_;refine KOps.subK (wrap32 (by first|omega|(simp; omega)) (by first|omega|(simp; omega))) ?_;refine KOps.convIn (wrap64 (by omega) (by omega)) ?_;refine KX (by first|omega|(simp; omega)) (by first|omega|(simp; omega)) ?_;refine OC ?_;refine Oh ?_;refine Ol ?_;exact KW (p+1) (by repeat (first|exact Sub.nil _|refine Sub.cons Look.eq ?_|refine Sub.cons (Eq.trans Look.eq (congrArg (AV.int _) (by first|omega|(dsimp only; omega)))) ?_|refine Sub.cons (Eq.trans Look.eq (by rw[Vt hlt])) ?_)) ⟨hlt,fun q hq=>by
                  rcases Nat.lt_succ_iff_lt_or_eq.1 hq with g|rfl
                  · exact hb q g
                  · unfold Xm; rw[decide_eq_true_iff]; omega,hS⟩ (by omega)
            · intro g34;have g34:=of_decide_eq_true g34;refine Qs (dj:=34) rfl rfl rfl ?_;refine KN ?_;refine Oo [6,8,28,35,36,37] ?_;refine Kz ?_;refine O1 [4,5] ?_;refine Oj ?_;have hq:K8 l m=false:=YR hlt (by
                unfold Xm;rw[decide_eq_false_iff_not];intro hd;rw[XL hlt (by omega)] at *;simp at *;omega)
              rw[hq];exact⟨rfl,hS.keeps⟩
          · intro np;refine OW ?_;refine Oh ?_;refine Od ?_;refine Ot ?_;refine OH ?_;refine Kc ?_;refine OV ?_;refine O6 ?_;refine OZ ?_;refine Od ?_;refine Oq [6] ?_;refine O1 [4,5] ?_;refine Oj ?_;have hpe:p=l.length:=by rw[wd_size] at np; omega
            subst hpe;have hq:K8 l m=true:=by
              have h1:=Uf hb;unfold K8;rw[h1,decide_eq_true g11,decide_eq_true (show l.length≤m by omega)];simp;by_cases h2:l.length=1
              · exact .inl h2
              · right;intro h3;obtain⟨c,l',rfl⟩:∃ c l',l=c::l':=by
                  cases l with
                  | nil=>exact absurd rfl g11
                  | cons c l'=>exact⟨c,l',rfl⟩
                simp at h3;subst h3
                first
                  | (exact absurd rfl c26; done)
                  | (simp at c26; done)
                  | (rw[List.length_cons] at g21 h2; omega)
            rw[hq,List.take_length];exact⟨rfl,hS.keeps⟩
      · intro g21;have g21:=of_decide_eq_false g21;refine Oz ?_;refine OG ?_;refine OG ?_;refine Oo [0,26] ?_;refine OH ?_;refine Ox [0] ?_;refine Oz ?_;refine Oh ?_;refine Od ?_;refine Oz ?_;refine KOps.range hS rfl ?_;intro v28 h' hv28 hS;refine Oo [6,28] ?_;refine Oy ?_;refine Kd (X:=Nat) (fun p=>[(6,.int .i64 (Zb (l.take p))),(28,v28)]) (fun p h'=>p≤l.length∧(∀ q,q<p→Xm (l.getD q 0)=true)∧St h h' [walkO v28 (wd l) p]) (fun p=>l.length - p) 0 ?_ ?_
        · exact⟨Nat.zero_le _,fun q hq=>absurd hq (Nat.not_lt_zero _),hS⟩
        rintro p h2 ⟨hp,hb,hS⟩;refine Ov ?_;refine KOps.next hS hv28 (i:=0) rfl rfl ?_ ?_
        · intro np h' hS;simp only[List.set_cons_zero,List.set_cons_succ,Nat.zero_add] at hS;have hlt:p<l.length:=by rw[wd_size] at np; exact np
          obtain⟨hn0,hn1⟩:=JC p (by omega) hb;have hn2:(10:Int) ^ p≤10 ^ 4:=by
            have : 10 ^ p≤10 ^ 4:=Nat.pow_le_pow_right (by decide) (by omega)
            exact_mod_cast this
          have hn3:(10:Int) ^ 4=10000:=by decide
          have hu:=(l.getD p 0).toNat_lt;refine OW ?_;refine Oh ?_;refine Od ?_;refine Ot ?_;refine Kz ?_;refine Ox [6,28,29] ?_;refine Oy ?_;refine O1 [6,8,28] ?_;refine Oz ?_;refine QW ?_;refine Og ?_;refine OD (dj:=34) rfl rfl false true rfl ?_ ?_
          · intro g34;have g34:=of_decide_eq_false g34;refine Oz ?_;refine KOps.gtr ?_;refine OG ?_;refine Oo [6,8,28,35,36,37] ?_;refine Om ?_ ?_
            · intro c37;refine O1 [4,5] ?_;refine Oj ?_;have hq:K8 l m=false:=YR hlt (by
                unfold Xm;rw[decide_eq_false_iff_not];intro hd;rw[XL hlt (by omega)] at *;simp at *;omega)
              rw[hq];exact⟨rfl,hS.keeps⟩
            · intro c37;refine Ox [6,8,28,35,36] ?_;refine Ke rfl ?_;have hd:(l.getD p 0).toNat<128:=by
                apply Classical.byContradiction;intro hn;have:=V7 hlt (show 128≤(l.getD p 0).toNat by omega);omega
              simp only[XL hlt hd] at hS c37 g34⊢;refine Og ?_;refine KOps.mul (by first|omega|(simp; omega)) (by first|omega|(simp; omega)) ?_;refine Og ?_;refine KOps.subK (wrap32 (by first|omega|(simp; omega)) (by first|omega|(simp; omega))) ?_;refine KOps.convIn (wrap64 (by omega) (by omega)) ?_;refine KX (by first|omega|(simp; omega)) (by first|omega|(simp; omega)) ?_;refine OC ?_;refine Oh ?_;refine Ol ?_;exact KW (p+1) (by repeat (first|exact Sub.nil _|refine Sub.cons Look.eq ?_|refine Sub.cons (Eq.trans Look.eq (congrArg (AV.int _) (by first|omega|(dsimp only; omega)))) ?_|refine Sub.cons (Eq.trans Look.eq (by rw[Vt hlt])) ?_)) ⟨hlt,fun q hq=>by
                rcases Nat.lt_succ_iff_lt_or_eq.1 hq with g|rfl
                · exact hb q g
                · unfold Xm; rw[decide_eq_true_iff]; omega,hS⟩ (by omega)
          · intro g34;have g34:=of_decide_eq_true g34;refine Qs (dj:=34) rfl rfl rfl ?_;refine KN ?_;refine Oo [6,8,28,35,36,37] ?_;refine Kz ?_;refine O1 [4,5] ?_;refine Oj ?_;have hq:K8 l m=false:=YR hlt (by
              unfold Xm;rw[decide_eq_false_iff_not];intro hd;rw[XL hlt (by omega)] at *;simp at *;omega)
            rw[hq];exact⟨rfl,hS.keeps⟩
        · intro np;refine OW ?_;refine Oh ?_;refine Od ?_;refine Ot ?_;refine OH ?_;refine Kc ?_;refine OV ?_;refine O6 ?_;refine OZ ?_;refine Od ?_;refine Oq [6] ?_;refine O1 [4,5] ?_;refine Oj ?_;have hpe:p=l.length:=by rw[wd_size] at np; omega
          subst hpe;have hq:K8 l m=true:=by
            have h1:=Uf hb;unfold K8;rw[h1,decide_eq_true g11,decide_eq_true (show l.length≤m by omega)];simp;by_cases h2:l.length=1
            · exact .inl h2
            · right;intro h3;obtain⟨c,l',rfl⟩:∃ c l',l=c::l':=by
                cases l with
                | nil=>exact absurd rfl g11
                | cons c l'=>exact⟨c,l',rfl⟩
              simp at h3;subst h3
              first
                | (exact absurd rfl c26; done)
                | (simp at c26; done)
                | (rw[List.length_cons] at g21 h2; omega)
          rw[hq,List.take_length];exact⟨rfl,hS.keeps⟩
    · intro g17;have g17:=of_decide_eq_true g17;refine Oz ?_;refine Q2 (dj:=21) rfl rfl ?_;refine Q2 (dj:=21) rfl rfl ?_;refine Q2 (dj:=21) rfl rfl ?_;refine Qs (dj:=17) rfl rfl rfl ?_;refine KN ?_;refine Oo [0,26] ?_;refine Kz ?_;refine O1 [4,5] ?_;refine Oj ?_;have hq:K8 l m=false:=by
        unfold K8;rw[decide_eq_false (show¬ l.length≤m by omega)];simp
      rw[hq];exact⟨rfl,hS.keeps⟩
  · intro g11;have g11:=of_decide_eq_true g11;refine Oz ?_;refine KN ?_;refine Oz ?_;refine Q2 (dj:=21) rfl rfl ?_;refine Q2 (dj:=21) rfl rfl ?_;refine Q2 (dj:=21) rfl rfl ?_;refine Qs (dj:=17) rfl rfl rfl ?_;refine KN ?_;refine Oo [0,26] ?_;refine Kz ?_;refine O1 [4,5] ?_;refine Oj ?_;have hq:K8 l m=false:=by
      unfold K8;rw[g11];simp
    rw[hq];exact⟨rfl,hS.keeps⟩
end Go.Am
