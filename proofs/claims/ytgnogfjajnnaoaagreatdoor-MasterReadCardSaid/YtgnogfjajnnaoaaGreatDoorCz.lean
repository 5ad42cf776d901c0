/-
  Layer 14: the law's own examples: works().
  Conditions: none.
-/
import Derived.Test.YtgnogfjajnnaoaaGreatDoorOi
import Derived.Test.YtgnogfjajnnaoaaGreatDoorAmU
import Derived.Test.YtgnogfjajnnaoaaGreatDoorRows
import Derived.MakeChecks
import Derived.HandedShaped
import Derived.Shelf.Vars
open Bool renaming not_eq_false → dL, not_eq_true → fE, and_eq_true → fK, eq_iff_iff → fQ
open Go.Lib renaming itoa → dY, decDigits → dD, decDigits_one → dV, itoa_nonneg → fI, itoa_length_le → fF, nDigits → fJ
open List renaming getD_eq_getElem?_getD → dE, getElem?_eq_getElem → dI, isSuffixOf_iff_suffix → dU, isPrefixOf_iff_prefix → dC, length_append → dF, cons_append → dG, nil_append → dJ, mem_append → dK, append_assoc → dM, take_length → dN, length_dropLast → dP, getD_cons_succ → dQ, mem_singleton → dS, getElem?_append_right → dT, getElem?_eq_some_iff → dW, all_eq_true → dX, length_take → dZ, length_drop → fA, take_append_drop → fO, length_singleton → fU, getElem?_set_ne → fY, getElem?_take → fB, getElem?_drop → fC, getElem?_map → fG, ext_getElem → fL, length_map → fM, take_left' → fN, drop_left' → fP
open Nat renaming le_of_ble_eq_true → dO, le_refl → dR, add_comm → fD
open Option.some renaming inj → dH, injEq → fH
set_option maxRecDepth 99999
set_option maxHeartbeats 4000000
namespace Go.Am
theorem YU {l:List Str} {x:Str} {e:Int} (h:O3 l x=e) (he:e≠0):doL l x=l:=if_neg (by rw[h]; exact he)
theorem XO {l:List Str} {x:Str} (h:O3 l x=0):doL l x=l ++ [x]:=if_pos h
section
variable {P:Program} {n:Nat} {ops:Array Oper} {ex:List Nat} {Q:KF→AHeap→Prop} {k:Nat} {os:List Oper} {K:KF} {h:AHeap} {d:Nat} {ty:TypeId} {pos:String} {after:Array Edge}
theorem O9 {t t':TypeId} {x y:Operand} {kd:IntKind} {a b:Int} [hx:EvK h.globs n K x (.int kd a)] [hy:EvK h.globs n K y (.int kd b)] (he:a=b) (hk:KOps P n ops ex Q (k+1) os ((d,.bool false)::K) h):KOps P n ops ex Q k (⟨some d,.binOp .neq t x y t',ty,pos,after,none⟩::os) K h:=by
 refine KOps.neq ?_;rw[decide_eq_true he]; exact hk
theorem KOps.eqlV {t t':TypeId} {x y:Operand} {kd:IntKind} {a b:Int} [hx:EvK h.globs n K x (.int kd a)] [hy:EvK h.globs n K y (.int kd b)] (he:a=b) (hk:KOps P n ops ex Q (k+1) os ((d,.bool true)::K) h):KOps P n ops ex Q k (⟨some d,.binOp .eql t x y t',ty,pos,after,none⟩::os) K h:=by
 refine KV ?_;rw[decide_eq_true he]; exact hk
theorem KOps.notT {t:TypeId} {x:Operand} [hx:EvK h.globs n K x (.bool true)] (hk:KOps P n ops ex Q (k+1) os ((d,.bool false)::K) h):KOps P n ops ex Q k (⟨some d,.unOp .not t x,ty,pos,after,none⟩::os) K h:=by
 refine QE (b:=true) ?_;exact hk
end
theorem works_c {h:AHeap} (hV:Vs h):ACalls Go.Proofs.Tryz.prog 15 [] h (fun q h'=>q = .bool true∧Keeps h h'):=by
 refine OH 240 [.tmp 0] Go.Proofs.Tryz.func15 rfl aE rfl rfl (dO rfl) ?_;have hS:=St.refl h;show KA _ 240 _ _ [] _;refine O5 [] ?_;refine Ot ?_;refine Oj rfl (bLines_c) ?_;rintro v19 h19 hS;refine Oj rfl (toldX_c (hS.rd 0 rfl) aE aP (hV.ext hS.keeps)) ?_;rintro _ h5 ⟨b,rfl,hB⟩;have hT1:QN bLines bLines.length=bLines:=told_B.1;have hT2:Zc bLines bLines.length=true:=told_B.2;rw[hT1] at hB;rw[hT2];obtain⟨vl,A,hb,hS5⟩:=hB;have hSB:St h h5 (ZV b vl A bLines ++ [⟨v19,1,wcs bLines,true⟩]):=by
  have hx:=St.trans hS hS5;rwa [List.append_nil] at hx
 have hV5:=hV.ext hSB.keeps;have r:=St.rbk hSB hb;clear hS;have hS:=St.refl h5;refine O5 [1,2] ?_;refine OC ?_;refine Oj rfl (boundsB_c (w:=sIn) (r.ext hS.keeps)) ?_;rintro _ _ ⟨rfl,rfl⟩;rw[e1,show tup3 (5,99,0)=AV.tup [.int .i64 5,.int .i64 99,.int .i64 0] from rfl];refine O5 [1,2,3,4,5] ?_;refine OC ?_;refine Oj rfl (UC (w:=X5) (r.ext hS.keeps)) ?_;rintro _ h7 ⟨rfl,hK⟩;have hS0:=St.on hS hK;clear hS;have hS:=hS0;clear hS0;rw[e2,show tup3 (5,6,0)=AV.tup [.int .i64 5,.int .i64 6,.int .i64 0] from rfl];refine O5 [1,2,3,4,5,6,7,8] ?_;refine OC ?_;refine Oj rfl (whyB_c (w:=X5) (r.ext hS.keeps) (hV5.ext hS.keeps)) ?_;rintro _ h8 ⟨v37,rfl,hSN⟩;rw[e3.1] at hSN;rw[e3.2];replace hS:St _ _ (_::_):=St.trans hS hSN;refine O5 [1,2,3,4,5,6,7,8,9,10] ?_;refine OC ?_;refine Oj rfl (whyB_c (w:=Jg) (r.ext hS.keeps) (hV5.ext hS.keeps)) ?_;rintro _ h9 ⟨v42,rfl,hSN⟩;rw[e4.1] at hSN;rw[e4.2];replace hS:St _ _ (_::_):=St.trans hS hSN;refine O5 [1,2,3,4,5,6,7,8,9,10,11,12] ?_;refine OC ?_;refine KOps.notT ?_;refine OC ?_;refine bc ?_;refine bc ?_;refine bc ?_;refine bc ?_;refine bc ?_;refine bc ?_;refine bc ?_;refine bc ?_;refine bl ?_;intro v81 h' hS;refine Of (dj:=79) rfl rfl ?_;refine Oj rfl (ZA) ?_;rintro _ _ ⟨rfl,rfl⟩;refine Of (dj:=79) rfl rfl ?_;refine Oj rfl (Xy (a:=[sTax,YZ]) (b:=[sTax,YZ]) (hS.rd 2 rfl) (hS.rd 0 rfl) aE) ?_;rintro _ _ ⟨rfl,rfl⟩;rw[show decide _=true from by decide];refine Of (dj:=79) rfl rfl ?_;refine KOps.notT ?_;refine OG ?_;refine OC ?_;refine OZ (hS.rd 1 rfl) ?_;refine OC ?_;refine Oj rfl (Ji (r.ext hS.keeps)) ?_;rintro v90 h10 hSN;rw[e5] at hSN;replace hS:St _ _ (_::_):=St.trans hS hSN;refine Of (dj:=86) rfl rfl ?_;refine OZ (hS.rd 0 rfl) ?_;refine Of (dj:=86) rfl rfl ?_;refine Kn aE aE ?_;refine Of (dj:=86) rfl rfl ?_;refine bc ?_;refine Oj rfl (JL (r.ext hS.keeps)) ?_;rintro v97 h11 hSN;rw[e6] at hSN;replace hS:St _ _ (_::_):=St.trans hS hSN;refine Of (dj:=95) rfl rfl ?_;refine bl ?_;intro v98 h' hS;refine Of (dj:=95) rfl rfl ?_;refine Oj rfl (ZA) ?_;rintro _ _ ⟨rfl,rfl⟩;refine Of (dj:=95) rfl rfl ?_;refine Oj rfl (Xy (a:=[sTax,sPress,YZ]) (b:=[sTax,sPress,YZ]) (hS.rd 1 rfl) (hS.rd 0 rfl) aE) ?_;rintro _ _ ⟨rfl,rfl⟩;rw[show decide _=true from by decide];refine Of (dj:=95) rfl rfl ?_;refine KOps.notT ?_;refine OG ?_;refine Om [1,102] ?_;refine OK ?_;refine Oy [1] ?_;refine OC ?_;have hSB2:=St.drop (St.trans hSB hS);clear hSB hS;have hSB:=hSB2;clear hSB2;refine Oj rfl (Xj (line:=[99,108,97,105,109,32,105,110,32,55]) hb hSB (hV.ext hSB.keeps) aE) ?_;rintro _ _ ⟨rfl,hB⟩;rw[show O3 bLines [99,108,97,105,109,32,105,110,32,55]=_ from a1];rw[YU a1 aE] at hB;clear hb hSB;obtain⟨vl,A,hb,hSB⟩:=hB;refine O9 aQ ?_;refine OC ?_;refine Oj rfl (Xj (line:=[99,108,97,105,109,32,105,110,32,53]) hb hSB (hV.ext hSB.keeps) aE) ?_;rintro _ _ ⟨rfl,hB⟩;rw[show O3 bLines [99,108,97,105,109,32,105,110,32,53]=_ from a2];rw[YU a2 aE] at hB;clear hb hSB;obtain⟨vl,A,hb,hSB⟩:=hB;refine Of (dj:=106) rfl rfl ?_;refine bc ?_;refine Oj rfl (Xj (line:=[109,111,115,116,32,105,110,32,52]) hb hSB (hV.ext hSB.keeps) aE) ?_;rintro _ _ ⟨rfl,hB⟩;rw[show O3 bLines [109,111,115,116,32,105,110,32,52]=_ from a3];rw[YU a3 aE] at hB;clear hb hSB;obtain⟨vl,A,hb,hSB⟩:=hB;refine Of (dj:=111) rfl rfl ?_;refine bc ?_;refine Oj rfl (Xj (line:=[108,101,97,115,116,32,111,117,116,32,55]) hb hSB (hV.ext hSB.keeps) aE) ?_;rintro _ _ ⟨rfl,hB⟩;rw[show O3 bLines [108,101,97,115,116,32,111,117,116,32,55]=_ from a4];rw[YU a4 aE] at hB;clear hb hSB;obtain⟨vl,A,hb,hSB⟩:=hB;refine Of (dj:=116) rfl rfl ?_;refine bc ?_;refine Oj rfl (Xj (line:=[108,101,97,115,116,32,104,111,109,101,32,54]) hb hSB (hV.ext hSB.keeps) aE) ?_;rintro _ _ ⟨rfl,hB⟩;rw[show O3 bLines [108,101,97,115,116,32,104,111,109,101,32,54]=_ from a5];rw[XO (x:=[108,101,97,115,116,32,104,111,109,101,32,54]) a5,show bLines ++ [[108,101,97,115,116,32,104,111,109,101,32,54]]=L1 from rfl] at hB;clear hb hSB;obtain⟨vl,A,hb,hSB⟩:=hB;refine Of (dj:=121) rfl rfl ?_;refine bc ?_;refine Oj rfl (Xj (line:=[99,108,97,105,109,32,105,110,32,54]) hb hSB (hV.ext hSB.keeps) aE) ?_;rintro _ _ ⟨rfl,hB⟩;rw[show O3 L1 [99,108,97,105,109,32,105,110,32,54]=_ from a6];rw[XO (x:=[99,108,97,105,109,32,105,110,32,54]) a6,show L1 ++ [[99,108,97,105,109,32,105,110,32,54]]=L2 from rfl] at hB;clear hb hSB;obtain⟨vl,A,hb,hSB⟩:=hB;refine Of (dj:=126) rfl rfl ?_;refine bc ?_;refine Oj rfl (Xj (line:=[108,101,97,115,116,32,105,110,32,49]) hb hSB (hV.ext hSB.keeps) aE) ?_;rintro _ _ ⟨rfl,hB⟩;rw[show O3 L2 [108,101,97,115,116,32,105,110,32,49]=_ from a7];rw[YU a7 aE] at hB;clear hb hSB;obtain⟨vl,A,hb,hSB⟩:=hB;refine Of (dj:=131) rfl rfl ?_;refine bc ?_;refine Oj rfl (Ji (St.rbk hSB hb)) ?_;rintro _ _ hS;rw[e7] at hS;refine Of (dj:=136) rfl rfl ?_;refine bl ?_;intro v139 h' hS;refine Of (dj:=136) rfl rfl ?_;refine Oj rfl (ZA) ?_;rintro _ _ ⟨rfl,rfl⟩;refine Of (dj:=136) rfl rfl ?_;refine Oj rfl (Xy (a:=[sIn,X5,Jg]) (b:=[sIn,X5,Jg]) (hS.rd 1 rfl) (hS.rd 0 rfl) aE) ?_;rintro _ _ ⟨rfl,rfl⟩;rw[show decide _=true from by decide];refine Of (dj:=136) rfl rfl ?_;refine KOps.notT ?_;refine OG ?_;refine Om [1,143] ?_;refine OK ?_;refine Oy [1] ?_;refine OC ?_;have hSB2:=St.drop (St.trans hSB hS);clear hSB hS;have hSB:=hSB2;clear hSB2;refine Oj rfl (Xj (line:=[112,97,99,107,32,49,50,32,111,117,116]) hb hSB (hV.ext hSB.keeps) aE) ?_;rintro _ _ ⟨rfl,hB⟩;rw[show O3 L2 [112,97,99,107,32,49,50,32,111,117,116]=_ from a8];rw[XO (x:=[112,97,99,107,32,49,50,32,111,117,116]) a8,show L2 ++ [[112,97,99,107,32,49,50,32,111,117,116]]=L3 from rfl] at hB;clear hb hSB;obtain⟨vl,A,hb,hSB⟩:=hB;refine O9 aQ ?_;refine OC ?_;refine Oj rfl (Xj (line:=[112,97,99,107,32,49,50,32,105,110]) hb hSB (hV.ext hSB.keeps) aE) ?_;rintro _ _ ⟨rfl,hB⟩;rw[show O3 L3 [112,97,99,107,32,49,50,32,105,110]=_ from a9];rw[YU a9 aE] at hB;clear hb hSB;obtain⟨vl,A,hb,hSB⟩:=hB;refine Of (dj:=147) rfl rfl ?_;refine bc ?_;refine Oj rfl (Xj (line:=[115,101,97,108,32,49,50]) hb hSB (hV.ext hSB.keeps) aE) ?_;rintro _ _ ⟨rfl,hB⟩;rw[show O3 L3 [115,101,97,108,32,49,50]=_ from a10];rw[XO (x:=[115,101,97,108,32,49,50]) a10,show L3 ++ [[115,101,97,108,32,49,50]]=L4 from rfl] at hB;clear hb hSB;obtain⟨vl,A,hb,hSB⟩:=hB;refine Of (dj:=152) rfl rfl ?_;refine bc ?_;refine Oj rfl (would_c (line:=[98,117,114,110,32,49,50]) hb hSB (hV.ext hSB.keeps) aE) ?_;rintro _ _ ⟨rfl,hSB2⟩;rw[show O3 L4 [98,117,114,110,32,49,50]=20 from a11];clear hSB;have hSB:=hSB2;clear hSB2;refine Of (dj:=157) rfl rfl ?_;refine bc ?_;refine Oj rfl (Xj (line:=[100,101,97,108,32,49,50]) hb hSB (hV.ext hSB.keeps) aE) ?_;rintro _ _ ⟨rfl,hB⟩;rw[show O3 L4 [100,101,97,108,32,49,50]=_ from a12];rw[XO (x:=[100,101,97,108,32,49,50]) a12,show L4 ++ [[100,101,97,108,32,49,50]]=L5 from rfl] at hB;clear hb hSB;obtain⟨vl,A,hb,hSB⟩:=hB;refine Of (dj:=162) rfl rfl ?_;refine bc ?_;refine Oj rfl (Xj (line:=[98,97,99,107,32,49,50]) hb hSB (hV.ext hSB.keeps) aE) ?_;rintro _ _ ⟨rfl,hB⟩;rw[show O3 L5 [98,97,99,107,32,49,50]=_ from a13];rw[XO (x:=[98,97,99,107,32,49,50]) a13,show L5 ++ [[98,97,99,107,32,49,50]]=L6 from rfl] at hB;clear hb hSB;obtain⟨vl,A,hb,hSB⟩:=hB;refine Of (dj:=167) rfl rfl ?_;refine bc ?_;refine Oj rfl (Xj (line:=[98,117,114,110,32,49,50]) hb hSB (hV.ext hSB.keeps) aE) ?_;rintro _ _ ⟨rfl,hB⟩;rw[show O3 L6 [98,117,114,110,32,49,50]=_ from a14];rw[XO (x:=[98,117,114,110,32,49,50]) a14,show L6 ++ [[98,117,114,110,32,49,50]]=L7 from rfl] at hB;clear hb hSB;obtain⟨vl,A,hb,hSB⟩:=hB;refine Of (dj:=172) rfl rfl ?_;refine O9 aQ ?_;refine OG ?_;refine Om [1,176] ?_;refine OK ?_;refine Oy [1] ?_;refine OC ?_;refine Oj rfl (JJ (w:=X5) (St.rbk hSB hb)) ?_;rintro _ _ ⟨v177,rfl,hS⟩;rw[e8.1] at hS;rw[e8.2];refine O5 [1,5,13] ?_;refine OC ?_;refine Oj rfl (Vp (p:=12) ((St.rbk hSB hb).ext hS.keeps)) ?_;rintro _ _ ⟨rfl,rfl⟩;rw[e9];refine O5 [1,5,8,13] ?_;refine OC ?_;refine O9 aQ ?_;refine OC ?_;refine bc ?_;refine OZ (hS.rd 0 rfl) ?_;refine Of (dj:=193) rfl rfl ?_;refine bc ?_;refine Oj rfl (undo_c hb (St.drop (St.trans hSB hS)) hV (by intro x hx; have hx2:=dX.1 (show(L7.all fun x=>decide (x.length≤1000000))=true by decide) x hx; exact of_decide_eq_true hx2)) ?_;rintro _ _ ⟨rfl,hB⟩;rw[if_neg (show¬ L7 = [] by decide)];rw[show L7.dropLast=L6 from rfl] at hB;clear hb hSB;obtain⟨vl,A,hb,hSB⟩:=hB;refine Of (dj:=198) rfl rfl ?_;refine bc ?_;refine Oj rfl (undo_c hb hSB hV (by intro x hx; have hx2:=dX.1 (show(L6.all fun x=>decide (x.length≤1000000))=true by decide) x hx; exact of_decide_eq_true hx2)) ?_;rintro _ _ ⟨rfl,hB⟩;rw[if_neg (show¬ L6 = [] by decide)];rw[show L6.dropLast=L5 from rfl] at hB;clear hb hSB;obtain⟨vl,A,hb,hSB⟩:=hB;refine Of (dj:=203) rfl rfl ?_;refine O9 aQ ?_;refine OG ?_;refine Om [1,207] ?_;refine OK ?_;refine Oy [1] ?_;refine OC ?_;refine Oj rfl (Vp (p:=12) (St.rbk hSB hb)) ?_;rintro _ _ ⟨rfl,rfl⟩;rw[e10];refine O5 [1,10,14] ?_;refine OC ?_;refine Oj rfl (Uz (St.rbk hSB hb)) ?_;rintro _ _ ⟨v213,rfl,hSP⟩;rw[e11.1] at hSP;rw[e11.2];clear hS;have hS:=hSP;refine O5 [10,14,15,16] ?_;refine Ot ?_;refine Oj rfl (new_c) ?_;rintro b2 h18 ⟨vl2,A2,hb2,hSN⟩;have r2:=St.rbk hSN hb2;have hw15:WRow h18 v213 [sIn]:=Rd.ext hSN.keeps (hS.rd 0 rfl);have hV18:=((hV.ext hSB.keeps).ext hS.keeps).ext hSN.keeps;have hK18:Keeps h h18:=(hSB.keeps.trans hS.keeps).trans hSN.keeps;clear hS;have hS:=St.refl h18;refine O5 [10,14,15,16,17] ?_;refine OC ?_;refine KOps.eqlV aQ ?_;refine OC ?_;refine KOps.eqlV aQ ?_;refine Ks ?_;refine OC ?_;refine bl ?_;intro v227 h' hS;refine Of (dj:=225) rfl rfl ?_;refine Oj rfl (ZA) ?_;rintro _ _ ⟨rfl,rfl⟩;refine Of (dj:=225) rfl rfl ?_;refine Oj rfl (Xy (a:=[sIn]) (b:=[sIn]) (Rd.ext hS.keeps hw15) (hS.rd 0 rfl) aE) ?_;rintro _ _ ⟨rfl,rfl⟩;rw[show decide _=true from by decide];refine Ks ?_;refine OC ?_;refine KOps.eqlV aQ ?_;refine Ks ?_;refine OC ?_;refine Oj rfl (Yg (r2.ext hS.keeps) (hV18.ext hS.keeps)) ?_;rintro _ _ ⟨rfl,rfl⟩;rw[e12];refine Of (dj:=235) rfl rfl ?_;refine KOps.wEql ?_;refine Ks ?_;refine O5 [0] ?_;refine Oi ?_;exact⟨rfl,hK18.trans hS.keeps⟩
end Go.Am
namespace Go.Am
theorem VRels.split {φ:Emb} {a b:List AV} {cs:List Value} {s:Nat} (h1:VRels φ a (cs.take s)) (h2:VRels φ b (cs.drop s)) (hs:s≤cs.length):VRels φ (a ++ b) cs∧(a ++ b).take s=a∧(a ++ b).drop s=b:=by
 have ha:a.length=s:=by rw[h1.1,dZ]; omega
 have h3:=VRels.append h1 h2;rw[fO] at h3;exact⟨h3,by rw[←ha,List.take_left],by rw[←ha,List.drop_left]⟩
end Go.Am
namespace Go
variable {H:Type} {enc:TypeId × Value→H}
theorem returnsInHanded_of_change_andShaped {a : Assume} {C : Checked} {os : Os} {f : FuncId} {fn : Func} {s : ChangeSpec} {conds : List PathCond} {apart fresh handsOn again : Bool} {X : World → Array Value → Prop}
    (hX:∀ (w w':World) (args:Array Value),w.heap=w'.heap→X w args→X w' args)
    (own:ownKnob C.prog.godebug=none) (started:os.Started) (noInit:C.prog.inits.idxOf? f=none) (hfn:C.prog.funcs[f]? = some fn)
    (witness : ∃ (w : World) (tape : Tape) (i : Input), w.os = os ∧ (w.forCall tape i).Shaped C.prog ∧ i.vars = [] ∧ Input.okWide C.prog (w.forCall tape i) .any w.heap.size f i ∧
      ((s.pre enc C.prog fn conds apart (w.forCall tape i).memory i.args∧X (w.forCall tape i).memory i.args)∧sizedMet enc C.prog fn (OpenSpec.ofChange s) apart (w.forCall tape i).memory i.args)∧a.holds C.prog (lone (Frame.enter C.prog f i.args .normal) [] (w.forCall tape i)))
    (contract : ∀ (W : World) (base : Nat) (args : Array Value) (ds gs : List (DataW H)) (before : List MemPlace),
      (∀ (j:Nat) t v,fn.params[j]? = some t→args[j]? = some v→Value.okWide C.prog W .any base t v)→
      DataW.Whole enc C.prog fn.params.toList s.vars apart W args.toList ds gs before→
      conds.all (PathCond.test C.prog ⟨fn.params.toList,ds,s.plain.varTypes C.prog,gs⟩)=true→
      (DataW.weightsEach C.prog (fn.params.toList ++ s.plain.varTypes C.prog) (ds ++ gs)).all (·≤reachBytes)=true→X W args→W.ShapedOpen C.prog→
      a.holds C.prog (lone (Frame.enter C.prog f args .normal) [] W)→
      Calls C.prog f args W fun e W'=>∃ v,e = .returned v∧s.post enc C.prog fn apart fresh handsOn again W args v W') :
    ReturnsInHanded a C os f .any (fun w args=>(s.pre enc C.prog fn conds apart w args∧X w args)∧sizedMet enc C.prog fn (OpenSpec.ofChange s) apart w args) (s.post enc C.prog fn apart fresh handsOn again):=by
 refine returnsInHanded_of_calls own started noInit witness ?_;intro w tape i _ hsh _ hok hpre hholds;obtain⟨_,_,_,fn',hfn',_,_,_,_,hval⟩:=hok;have e:fn'=fn:=dH (hfn'.symm.trans hfn);subst e;obtain⟨⟨⟨ds,gs,before,hw,hc⟩,hx⟩,hz⟩:=hpre;have hw':=DataW.Whole.of_heap (w':=w.forCall tape i) (by rfl) hw;refine(contract (w.forCall tape i) w.heap.size i.args ds gs before hval hw' hc (hz.weights hw) (hX _ _ _ (by rfl) hx) hsh hholds).mono fun e W' ⟨v,he,hp⟩=>?_
 subst he;exact ChangeSpec.post_blind hp
end Go
namespace Go.Am
open Go.ChangeShapes Go.WideShapes
def VF (W:World) (g:Nat) (cs:List AV):Prop:=(∃ c e f,W.heap[g]? = some (.cells c e f)∧c.size=cs.length)∧∀ j x,cs[j]? = some x→∃ v,W.cell? ⟨g,j,none⟩=some v∧∀ φ,VRel φ x v
theorem VF.push {W:World} {φ:Emb} {h:AHeap} (im:Imp W φ h) {g:Nat} {cs:List AV} (v:VF W g cs) (p0:Nat):Imp W (fun b=>if b=h.next then some (g,0,cs.length) else φ b) (h.push (.cells none p0 cs))∧φ.le (fun b=>if b=h.next then some (g,0,cs.length) else φ b):=by
 refine im.pushP p0 cs _ ?_;intro k i z hq;cases hq;obtain⟨⟨c,e,f,h1,h2⟩,h3⟩:=v;refine⟨(Array.getElem?_eq_some_iff.1 h1).1,fun j x hx=>?_,fun _=>⟨rfl,c,e,f,h1,h2⟩⟩;obtain⟨v,h4,h5⟩:=h3 j x hx;exact⟨v,by rw[Nat.zero_add]; exact h4,h5 _⟩
theorem Imp.none {W:World} {φ:Emb} {h:AHeap} (im:Imp W φ h):Imp W (fun b=>if b=h.next then .none else φ b) (h.push (.cells .none 0 [])):=(im.push [] .none (by intro k i z hq; cases hq)).1
theorem Imp.vars {W:World} {a b c:List AV} (ha:VF W 0 a) (hb:VF W 3 b) (hc:VF W 4 c):∃ φ h,Imp W φ h∧(h.globs.contains 0=true∧Rd h (.ptr 0 0) 0 a)∧VarAt h 3 b∧VarAt h 4 c:=by
 have im:=(VF.push (VF.push ((VF.push (Imp.empty W) ha 0).1.none).none hb 1).1 hc 1).1;refine⟨_,⟨_,_,[0,3,4]⟩,⟨⟨?_,im.rel.lt,im.rel.blk,im.rel.arr,im.rel.one,im.rel.sep,im.rel.map,im.rel.ext⟩,im.ro,im.out⟩,⟨rfl,.inr (.inl ⟨0,0,.none,0,a,.inr ⟨rfl,rfl⟩,rfl,rfl,by rw[List.drop_zero,dN]⟩)⟩,⟨rfl,rfl⟩,rfl,rfl⟩;intro g hg;have hg:g=0∨g=3∨g=4:=by simpa using hg
 rcases hg with rfl|rfl|rfl
 exact⟨a.length,rfl⟩;exact⟨b.length,rfl⟩;exact⟨c.length,rfl⟩
def laidL:List (String × DataW Unit):=[("math/bits.deBruijn32tab",Go.Proofs.YtgnogfjajnnaoaaGreatDoor.Rows.laid_math_bits_deBruijn32tab),("math/bits.deBruijn64tab",Go.Proofs.YtgnogfjajnnaoaaGreatDoor.Rows.laid_math_bits_deBruijn64tab),("internal/strconv.uint64pow10",Go.Proofs.YtgnogfjajnnaoaaGreatDoor.Rows.laid_internal_strconv_uint64pow10),("unicode/utf8.acceptRanges",Go.Proofs.YtgnogfjajnnaoaaGreatDoor.Rows.laid_unicode_utf8_acceptRanges),("spadille/stamp.sizes",Go.Proofs.YtgnogfjajnnaoaaGreatDoor.Rows.laid_spadille_stamp_sizes),("unicode/utf8.first",Go.Proofs.YtgnogfjajnnaoaaGreatDoor.Rows.laid_unicode_utf8_first)]
def litI : DataW Unit → Option Int
  | .lit (.int _ n)=>some n
  | _=>none
def aggL : DataW Unit → List (DataW Unit)
  | .agg l=>l
  | _=>[]
def sizeL:List Int:=(List.range 64).map fun s=>((Ky s 6).length:Int)
def powL:List Int:=Lib.pow10Tab
theorem sizes_lits:(aggL Go.Proofs.YtgnogfjajnnaoaaGreatDoor.Rows.laid_spadille_stamp_sizes).map litI=sizeL.map some:=by decide +kernel
theorem pow_lits:(aggL Go.Proofs.YtgnogfjajnnaoaaGreatDoor.Rows.laid_internal_strconv_uint64pow10).map litI=powL.map some:=by decide +kernel
theorem Ju {W : World} {l : List Int} {lay : DataW Unit} {k : IntKind} {g t et n : Nat} {nm : String} {cs : Array Value} {f : Nat} {p : List MemPlace}
    (hU:Go.Proofs.Tryz.prog.underlying t=some (.array n et)) (hE:Go.Proofs.Tryz.prog.underlying et=some (.int k)) (c1:Go.Proofs.Tryz.prog.cellsOf et=1) (c2:Go.Proofs.Tryz.prog.cellsOf t=l.length) (hn:n=l.length) (hlits:(aggL lay).map litI=l.map some)
    (hg0:Go.Proofs.Tryz.prog.globalNamed nm=some g) (hv0:W.var? Go.Proofs.Tryz.prog nm=some cs)
    (hd0:DataW.trod (fun _=>()) Go.Proofs.Tryz.prog W 0 (fun _=>true) false f t cs.toList=some (lay,p)) :
    VF W g (l.map fun v=>AV.int k v):=by
 obtain⟨xs,m,rfl,hx1,hl,hxl,hx⟩:=DataW.trod_array hU hd0;rw[c2] at hl;have hd:=(Prod.mk.inj hx1).1;have hxs:xs.map (fun x=>litI x.1)=l.map some:=by
  rw[←hlits,hd];show _=(xs.map (·.1)).map litI;rw[List.map_map]; rfl
 have key:∀ i (hi:i<l.length),cs.toList[i]? = some (.int k l[i]):=by
  intro i hi;have h2:=hx i aA;rw[c1,Nat.mul_one,dI aA] at h2;obtain⟨c,h3,h4,_⟩:=DataW.trod_int hE h2;have h5:((cs.toList.drop i).take 1)[0]? = some (.int k c):=by rw[h3]; rfl
  have h6:cs.toList[i]? = some (.int k c):=by simpa [fB,fC] using h5
  have h7:=congrArg (fun l=>l[i]?) hxs;simp only[fG,dI (show i<xs.length by omega),dI hi,Option.map_some,fH] at h7;rw[h4] at h7;have h8:c=l[i]:=by simpa [litI] using h7
  rw[h6,h8]
 refine⟨?_,fun i x hx=>?_⟩;have hv:=hv0;simp only[World.var?,hg0,Option.bind_some] at hv;split at hv;rename_i c e f' he;cases hv;exact⟨_,_,_,he,by rw[fM,←hl,Array.length_toList]⟩;cases hv;have hi:i<l.length:=by
  have:=(dW.1 hx).1;rwa [fM] at this
 rw[fG,dI hi] at hx;cases hx;refine⟨.int k l[i],?_,fun φ=>.int _ _⟩;rw[World.var?_cell hg0 hv0 i,←Array.getElem?_toList];exact key i hi
theorem vf_int {W : World} {g : Nat} {t : TypeId} {k : IntKind} (h : W.ShapedOpen Go.Proofs.Tryz.prog) (hg : g < Go.Proofs.Tryz.prog.globals.size)
    (h0:((Go.begin Go.Proofs.Tryz.prog (fun _ _=>0) default).world.heap[g]?).bind Obj.row? = some (#[.int k 0],t))
    (hb:Go.Proofs.Tryz.prog.buildable t=true) (hc:Go.Proofs.Tryz.prog.cellTypes Go.Proofs.Tryz.prog.depth t=some [t]) (hu:Go.Proofs.Tryz.prog.underlying t=some (.int k)) :
    ∃ m,VF W g [.int k m]:=by
 obtain⟨m,hm⟩:=Go.Proofs.cell_of_shapedOpen_int h hg h0 rfl hb hc hu;obtain⟨cs,hh,hs,_⟩:=h.1 g _ t hg h0;refine⟨m,⟨cs,_,_,hh,hs⟩,fun j x hx=>?_⟩;have hj:j=0:=by
  have:=(dW.1 hx).1;simpa using this
 subst hj;cases hx;exact⟨_,hm,fun φ=>.int _ _⟩
theorem vs_laid {W:World} (h:laidMetH Go.Proofs.Tryz.prog laidL W) (hs:W.ShapedOpen Go.Proofs.Tryz.prog):∃ φ hp,Imp W φ hp∧Vs hp:=by
 rw[MakeChecks.laidMetH_plain _ _ _ aD] at h;obtain⟨ps,⟨g0,t0,cs0,f0,p0,q0,hg0,ht0,hv0,hd0,⟨g1,t1,cs1,f1,p1,q1,hg1,ht1,hv1,hd1,⟨g2,t2,cs2,f2,p2,q2,hg2,ht2,hv2,hd2,⟨g3,t3,cs3,f3,p3,q3,hg3,ht3,hv3,hd3,⟨g4,t4,cs4,f4,p4,q4,hg4,ht4,hv4,hd4,⟨g5,t5,cs5,f5,p5,q5,hg5,ht5,hv5,hd5,_,_⟩,_⟩,_⟩,_⟩,_⟩,_⟩,_,_⟩:=h;obtain rfl:=dH ((show Go.Proofs.Tryz.prog.globalNamed "internal/strconv.uint64pow10" = some 4 by kernel_rfl).symm.trans hg2);obtain rfl:=dH ((show(Go.Proofs.Tryz.prog.globals[4]?).map (·.type)=some 269 by kernel_rfl).symm.trans ht2);obtain rfl:=dH ((show Go.Proofs.Tryz.prog.globalNamed "spadille/stamp.sizes" = some 0 by kernel_rfl).symm.trans hg4);obtain rfl:=dH ((show(Go.Proofs.Tryz.prog.globals[0]?).map (·.type)=some 230 by kernel_rfl).symm.trans ht4);have a0:=Ju Go.Proofs.Tryz.underlying230 Go.Proofs.Tryz.underlying229 aD (show _=sizeL.length by kernel_rfl) rfl sizes_lits hg4 hv4 hd4;have a4:=Ju Go.Proofs.Tryz.underlying269 Go.Proofs.Tryz.underlying238 aD (show _=powL.length by kernel_rfl) rfl pow_lits hg2 hv2 hd2;obtain⟨m,a3⟩:=vf_int (g:=3) (t:=3) (k:=.i64) hs (of_decide_eq_true aD) aD aD aD Go.Proofs.Tryz.underlying3;have e0:V0=sizeL.map fun v=>AV.int .i8 v:=by rw[V0,sizeL,List.map_map]; rfl
 rw[←e0] at a0;obtain⟨φ,hp,im,h0,h3,h4⟩:=Imp.vars a0 a3 a4;exact⟨φ,hp,im,h0,⟨m,h3⟩,h4⟩
end Go.Am
namespace Go.Am
def kB:Str:=[115,112,97,100,105,108,108,101]
def kEnd:Str:=[101,110,100,32]
def ZB (i:Nat):Str:=dY (i:Int) ++ [46,32]
def V9 (i:Nat) (l:Str):Str:=l.drop (ZB i).length
def Q9 (ls : List Str) : Nat → List Str
  | 0=>ls
  | i+1=>(Q9 ls i).set (i+1) (V9 (i+1) (ls.getD (i+1) []))
def XF (ls : List Str) : Nat → Bool
  | 0=>true
  | i+1=>XF ls i && (ZB (i+1)).isPrefixOf (ls.getD (i+1) [])
def OW (f:Str):List Str:=O0 10 f.dropLast
def QV (ls:List Str):Str:=ls.getD (ls.length - 1) []
def endE (f:Str) (e:Str):Int:=
  if kEnd.isPrefixOf e=false∨KU (e.drop 4) 4=false∨9972<QF (e.drop 4) then 9
  else if QF (e.drop 4)≠Go.Proofs.Tryz.sumTo (f.take (f.length - e.length - 1)) then 17 else 0
def QK (f:Str):Int:=
  if 18000<f.length then 19 else if [10].isSuffixOf f=false then 18
  else if (OW f).length<2∨(OW f).getD 0 []≠kB then 9
  else if XF (OW f) ((OW f).length - 2)=false then 9
  else endE f (QV (OW f))
def KX (f:Str):List Str:=((Q9 (OW f) ((OW f).length - 2)).drop 1).take ((OW f).length - 2)
noncomputable def Za (bk : List Str) : List Str → Int × List Str
  | []=>(0,bk)
  | x::r=>if O3 bk x=0 then Za (bk ++ [x]) r else (O3 bk x,bk)
theorem VK:∀ (l m bk:List Str),(Za bk l).1=0→Za bk (l ++ m)=Za (bk ++ l) m:=by
 intro l
 induction l with
 | nil=>intro m bk _; simp
 | cons x r ih=>
  intro m bk h;rw[dG];unfold Za at h;by_cases hx:O3 bk x=0;rw[if_pos hx] at h;rw[Za,if_pos hx,ih m _ h]; simp;rw[if_neg hx] at h; exact absurd h hx
theorem Done.all {lines:List Str} (hD:Done lines):Za [] lines=(0,lines):=by
 induction hD with
 | nil=>rfl
 | @snoc lines line hD he ih=>
  rw[VK _ _ _ (by rw[ih]),dJ,Za,if_pos he]; rfl
def ZW (l:List Str):Str:=l.flatMap (· ++ [10])
theorem splitC_app (c:UInt8):∀ (a b:Str),c ∉ a→O0 c (a ++ c::b)=a::O0 c b:=by
 intro a
 induction a with
 | nil=>intro b _; simp[O0]
 | cons x a ih=>
  intro b h;simp only[List.mem_cons,not_or] at h;simp only[dG,O0,if_neg (fun e=>h.1 (Eq.symm e)),ih b h.2]
theorem Rx (e:Str) (he:(10:UInt8) ∉ e):∀ l:List Str,(∀ a∈l,(10:UInt8) ∉ a)→O0 10 (ZW l ++ e)=l ++ [e]:=by
 intro l
 induction l with
 | nil=>intro _; rw[ZW,List.flatMap_nil,dJ,UZ _ _ he]; rfl
 | cons a l ih=>
  intro h;have h1:ZW (a::l) ++ e=a ++ 10::(ZW l ++ e):=by simp[ZW]
  rw[h1,splitC_app _ _ _ (h a List.mem_cons_self),ih (fun b hb=>h b (List.mem_cons_of_mem _ hb))]; rfl
theorem flat_split:∀ s:Str,∀ (l:List Str) (e:Str),O0 10 s=l ++ [e]→s=ZW l ++ e:=by
 intro s
 induction s with
 | nil=>
  intro l e h;simp only[O0] at h
  cases l with
  | nil=>simp at h; subst h; rfl
  | cons a l=>simp at h
 | cons x s ih=>
  intro l e h;simp only[O0] at h;split at h
  ·rename_i hx
   cases l with
   | nil=>simp at h; exact absurd h.2 (V2 _ _)
   | cons a l=>
    simp at h;obtain⟨rfl,h⟩:=h;rw[ih l e h,hx]; simp[ZW]
  ·split at h
   ·rename_i w ws hw
    cases l with
    | nil=>
     simp at h;obtain⟨rfl,rfl⟩:=h;have:=ih [] w (by rw[hw]; rfl);rw[this]; rfl
    | cons a l=>
     simp at h;obtain⟨rfl,rfl⟩:=h;have:=ih (w::l) e (by rw[hw]; rfl);rw[this]; simp[ZW]
   rename_i hw; exact absurd hw (V2 _ _)
def Zk : Nat → List Str → List Str
  | _,[]=>[]
  | i,l::r=>(ZB i ++ l)::Zk (i+1) r
theorem QW:∀ (l:List Str) (i:Nat),(Zk i l).length=l.length:=by
 intro l
 induction l with
 | nil=>intro i; rfl
 | cons a l ih=>intro i; simp[Zk,ih]
theorem Vc:∀ (l:List Str) (i j:Nat),j<l.length→(Zk i l).getD j []=ZB (i+j) ++ l.getD j []:=by
 intro l
 induction l with
 | nil=>intro i j h; cases h
 | cons a l ih=>
  intro i j h
  cases j with
  | zero=>rfl
  | succ j=>
   have:=ih (i+1) j (by simpa using h);simp only[Zk,dQ];rw[this,show i+1+j=i+(j+1) by omega]
theorem Rq:∀ (l:List Str) (i:Nat) (x:Str),Zk i (l ++ [x])=Zk i l ++ [ZB (i+l.length) ++ x]:=by
 intro l
 induction l with
 | nil=>intro i x; rfl
 | cons a l ih=>
  intro i x;simp only[dG,Zk,ih];rw[show i+1+l.length=i+(a::l).length by simp; omega]
theorem JS (lines:List Str):∀ k:Nat,k≤lines.length→bodyT lines k=ZW (kB::Zk 1 (lines.take k)):=by
 intro k
 induction k with
 | zero=>intro _; rfl
 | succ k ih=>
  intro h;rw[←Xx (l:=lines) (i:=k) (d:=[]) aA,Rq,bodyT,ih aA,dZ,Nat.min_eq_left aA];have:((1+k:Nat):Int)=(k:Int)+1:=by omega
  simp[ZW,lineT,ZB,this]
def dgs (w:Str):Prop:=∀ c∈w,48≤c.toNat∧c.toNat≤57
theorem dig_n {d:Nat} (h:d<10):(UInt8.ofNat (48+d)).toNat=48+d:=by rw[UInt8.toNat_ofNat',Nat.mod_eq_of_lt aA]
theorem dec_val:∀ (k u:Nat),u<k→QF (dD u)=u∧dgs (dD u)∧(1≤u→(dD u).head?≠some 48)∧dD u≠[]:=by
 intro k
 induction k with
 | zero=>intro u h; omega
 | succ k ih=>
  intro u h;by_cases h10:u<10;rw[dV h10];have:=dig_n h10;refine⟨?_,?_,?_,by simp⟩;simp only[QF,List.foldl]; rw[this]; omega;intro c hc;rw[dS] at hc;subst hc; omega;intro h1 he;simp only[List.head?_cons,fH] at he;rw[he] at this;have:(48:Nat)=48+u:=this;omega
  ·obtain⟨h1,h2,h3,h4⟩:=ih (u / 10) aA;have hd:=dig_n (show u % 10<10 by omega);rw[dD,dif_neg h10];refine⟨?_,?_,?_,by simp⟩;rw[VV,h1,hd]; omega;intro c hc;rcases dK.1 hc with hc|hc
   exact h2 c hc;rw[dS] at hc;subst hc; omega
   ·intro _;rw[List.head?_append]
    cases hx:dD (u / 10) with
    | nil=>exact absurd hx h4
    | cons a l=>
     have:=h3 aA;rw[hx] at this;simpa using this
theorem dec_back:∀ (k:Nat) (w:Str),w.length≤k→w≠[]→dgs w→(w.length=1∨w.head?≠some 48)→∃ u:Nat,QF w=u∧dD u=w∧(w.head?≠some 48→1≤u):=by
 intro k
 induction k with
 | zero=>intro w h1 h2; exact absurd (List.eq_nil_of_length_eq_zero aA) h2
 | succ k ih=>
  intro w h1 h2 h3 h4;obtain⟨l,c,rfl⟩:∃ l c,w=l ++ [c]:=⟨w.dropLast,w.getLast h2,(List.dropLast_concat_getLast h2).symm⟩;have hc:=h3 c aV;have hcd:UInt8.ofNat (48+(c.toNat - 48))=c:=by
   apply UInt8.toNat_inj.1;rw[dig_n aA]; omega
  rw[VV]
  cases hl:l with
  | nil=>
   refine⟨c.toNat - 48,by simp only[QF,List.foldl]; omega,by rw[dV aA,hcd]; rfl,fun hn=>?_⟩;rcases Nat.lt_or_ge 48 c.toNat with h|h
   omega;exfalso;apply hn;have:c=48:=by apply UInt8.toNat_inj.1; show c.toNat=48; omega
   rw[this]; rfl
  | cons a r=>
   have hne:l.head?≠some 48:=by
    rcases h4 with h4|h4
    rw[hl] at h4; simp at h4;rw[hl] at h4⊢; simpa using h4
   obtain⟨u,e1,e2,e3⟩:=ih l (by rw[dF,fU] at h1; omega) (by rw[hl]; simp) (fun x hx=>h3 x (by simp[hx])) (.inr hne);have h1u:=e3 hne;rw[←hl];refine⟨10*u+(c.toNat - 48),by rw[e1]; omega,?_,fun _=>by omega⟩;rw[dD,dif_neg aA,show(10*u+(c.toNat - 48)) / 10=u by omega,show(10*u+(c.toNat - 48)) % 10=c.toNat - 48 by omega,e2,hcd]
theorem dec_len {u:Nat} (h:u<10000):(dD u).length≤4:=by
 rw[Lib.decDigits_length,fJ];split;omega;rw[fJ];split;omega;rw[fJ];split;omega;rw[Lib.nDigits_small aA]; omega
theorem dgs_no {w:Str} (h:dgs w):(10:UInt8) ∉ w:=fun hm=>absurd (h 10 hm).1 aE
theorem numP_no (i:Nat):(10:UInt8) ∉ ZB i:=by
 intro hm;rw[ZB,fI] at hm;rcases dK.1 hm with h|h
 exact dgs_no (dec_val (i+1) i aA).2.1 h;exact absurd h aE
theorem readE_no {l:Str} (h:KO l=0):(10:UInt8) ∉ l:=by
 intro hm;unfold KO at h;dsimp only at h;split at h;cases h;split at h;cases h;rename_i h2;refine h2 (.inr (List.any_eq_true.2 ⟨10,hm,rfl⟩))
theorem Done.no {lines:List Str} (hD:Done lines):∀ x∈lines,(10:UInt8) ∉ x:=by
 induction hD with
 | nil=>intro x hx; cases hx
 | @snoc lines line hD he ih=>
  intro x hx;rw[dK,dS] at hx;rcases hx with h|rfl
  exact ih x h;exact readE_no (ZI he).1
theorem isNum_iff {w:Str} {k:Nat}:KU w k=true↔w≠[]∧w.length≤k∧(w.length=1∨w.head?≠some 48)∧dgs w:=by
 unfold KU dgs;simp only[fK,Bool.or_eq_true,decide_eq_true_eq,Bool.not_eq_true',decide_eq_false_iff_not,dX,and_assoc]
theorem sum_num (n:Nat) (hn:n<9973):KU (dY (n:Int)) 4=true∧QF (dY (n:Int))=(n:Int)∧(10:UInt8) ∉ dY (n:Int)∧(dY (n:Int)).length≤4:=by
 rw[fI];obtain⟨h1,h2,h3,h4⟩:=dec_val (n+1) n aA;have h5:=dec_len (show n<10000 by omega);refine⟨isNum_iff.2 ⟨h4,h5,?_,h2⟩,h1,dgs_no h2,h5⟩;rcases Nat.eq_zero_or_pos n with h|h
 left;rw[h,dV aA]; rfl;exact .inr (h3 h)
theorem itoa_num {w:Str} (h:KU w 4=true):dY (QF w)=w:=by
 obtain⟨h1,h2,h3,h4⟩:=isNum_iff.1 h;obtain⟨u,e1,e2,_⟩:=dec_back w.length w (dR _) h1 h4 h3;rw[e1,fI,e2]
theorem Yx (ls:List Str):∀ i:Nat,(Q9 ls i).length=ls.length:=by
 intro i
 induction i with
 | zero=>rfl
 | succ i ih=>rw[Q9,List.length_set,ih]
theorem Wx (ls:List Str):∀ i j:Nat,i<j→(Q9 ls i).getD j []=ls.getD j []:=by
 intro i
 induction i with
 | zero=>intro j _; rfl
 | succ i ih=>
  intro j h;rw[Q9,dE,fY aA,←dE,ih j aA]
theorem cutTo_le (ls:List Str):∀ i j:Nat,0<j→j≤i→j<ls.length→(Q9 ls i).getD j []=V9 j (ls.getD j []):=by
 intro i
 induction i with
 | zero=>intro j h1 h2; omega
 | succ i ih=>
  intro j h1 h2 h3;rw[Q9,dE];by_cases he:i+1=j;subst he;rw[List.getElem?_set_self (by rw[Yx]; exact h3),Option.getD_some];rw[fY he,←dE,ih j h1 aA h3]
theorem good_at {ls:List Str}:∀ {k:Nat},XF ls k=true→∀ j,j<k→(ZB (j+1)).isPrefixOf (ls.getD (j+1) [])=true:=by
 intro k
 induction k with
 | zero=>intro _ j h; omega
 | succ k ih=>
  intro h j hj;rw[XF,fK] at h;by_cases he:j=k;subst he; exact h.2;exact ih h.1 j aA
theorem good_of {ls:List Str}:∀ {k:Nat},(∀ j,j<k→(ZB (j+1)).isPrefixOf (ls.getD (j+1) [])=true)→XF ls k=true:=by
 intro k
 induction k with
 | zero=>intro _; rfl
 | succ k ih=>
  intro h;rw[XF,ih (fun j hj=>h j aA),h k aA]; rfl
theorem VM (f:Str):(KX f).length=(OW f).length - 2:=by
 rw[KX,dZ,fA,Yx]; omega
theorem VL (f:Str) {j:Nat} (h:j<(OW f).length - 2):(KX f).getD j []=V9 (j+1) ((OW f).getD (j+1) []):=by
 rw[KX,dE,fB,if_pos h,fC,←dE,fD 1 j,cutTo_le _ _ _ aA aA aA]
theorem U9 (a:Str) (c:UInt8):(a ++ [c]).dropLast=a:=by simp
theorem J2 {lines:List Str} (hD:Done lines):QK (fileT lines)=0∧KX (fileT lines)=lines:=by
 have hn:=hD.wf.2.1;have hsm:=hD.small;generalize hs:Go.Proofs.Tryz.sumTo (bodyT lines lines.length)=s;have hs2:=Go.Proofs.Tryz.sumTo_in (bodyT lines lines.length);rw[hs] at hs2;obtain⟨n,rfl⟩:∃ n:Nat,s=n:=⟨s.toNat,by omega⟩;obtain⟨g1,g2,g3,g4⟩:=sum_num n aA;have hf:fileT lines=bodyT lines lines.length ++ (kEnd ++ dY (n:Int)) ++ [10]:=by
  rw[fileT,hs]; simp[kEnd]
 have hb:=JS lines lines.length (dR _);rw[dN] at hb;have hL:OW (fileT lines)=(kB::Zk 1 lines) ++ [kEnd ++ dY (n:Int)]:=by
  unfold OW;rw[hf,U9,hb];refine Rx _ ?_ _ ?_;intro hm;rcases dK.1 hm with h|h
  exact absurd h aE;exact g3 h;intro a ha;rcases List.mem_cons.1 ha with rfl|ha
  decide;obtain⟨j,hj,rfl⟩:=List.getElem_of_mem ha;rw[QW] at hj;have:=Vc lines 1 j hj;rw[dE,dI (by rw[QW]; exact hj),Option.getD_some] at this;rw[this];intro hm;rcases dK.1 hm with h|h
  exact numP_no _ h;exact hD.no _ (getD_mem hj) h
 have hlen:(OW (fileT lines)).length=lines.length+2:=by rw[hL]; simp[QW]
 have hget:∀ j,j<lines.length→(OW (fileT lines)).getD (j+1) []=ZB (j+1) ++ lines.getD j []:=by
  intro j hj;rw[hL,dG,dQ,Xr _ (by rw[QW]; exact hj),Vc _ _ _ hj,fD 1 j]
 have hlast:QV (OW (fileT lines))=kEnd ++ dY (n:Int):=by
  unfold QV;rw[hlen,hL,dE,dT (by simp[QW])];simp[QW]
 have hbl:=Go.Proofs.Tryz.body_len lines (fun x hx=>Nat.le_trans (hsm x hx) aA);have hbl:(bodyT lines lines.length).length≤9+46*lines.length:=by
  have:∀ k:Nat,k≤lines.length→(bodyT lines k).length≤9+46*k:=by
   intro k
   induction k with
   | zero=>intro _; exact dR _
   | succ k ih=>
    intro hk;have h1:=ih aA;have h2:=Go.Proofs.Tryz.itoa_len k aA;have h3:(lines.getD k []).length≤40:=hsm _ (getD_mem aA);show(bodyT lines k ++ lineT k (lines.getD k [])).length≤_;unfold lineT;simp only[dF,List.length_cons,List.length_nil];omega
  exact this _ (dR _)
 have hfl:(fileT lines).length=(bodyT lines lines.length).length+(kEnd ++ dY (n:Int)).length+1:=by rw[hf]; simp; omega
 have hel:(kEnd ++ dY (n:Int)).length≤8:=by rw[dF]; show 4+_≤8; omega
 refine⟨?_,?_⟩;unfold QK;rw[if_neg aA,if_neg (by rw[hf,dL]; exact dU.2 ⟨_,rfl⟩),if_neg,if_neg,hlast];unfold endE;have e1:kEnd.isPrefixOf (kEnd ++ dY (n:Int))=true:=by simp
 have e2:(kEnd ++ dY (n:Int)).drop 4=dY (n:Int):=rfl;rw[e1,e2,g1,g2,if_neg ai];have e3:(fileT lines).take ((fileT lines).length - (kEnd ++ dY (n:Int)).length - 1)=bodyT lines lines.length:=by
  rw[hfl,show(bodyT lines lines.length).length+(kEnd ++ dY (n:Int)).length+1 - (kEnd ++ dY (n:Int)).length - 1=(bodyT lines lines.length).length by omega,hf,dM,fN];rfl
 rw[e3,hs,if_neg aV];rw[hlen,dL];refine good_of fun j hj=>?_
 rw[hget j aA]; simp;rw[hlen,hL]; simp;refine fL (by rw[VM,hlen]; omega) fun j h1 h2=>?_
 have:=VL (fileT lines) (j:=j) (by rw[hlen]; omega);rw[hget j h2,V9,fP,dE,dI h1,dE,dI h2] at this;exact this;rfl
theorem Uf {g:Str} (h:QK g=0):fileT (KX g)=g:=by
 unfold QK at h;split at h;cases h;split at h;cases h;rename_i hsf;split at h;cases h;rename_i h2;split at h;cases h;rename_i hg;rw[dL] at hg hsf;unfold endE at h;split at h;cases h;rename_i h3;split at h;rename_i h4; cases h;rename_i h4;simp only[not_or,dL,Decidable.not_not] at h2 h3 h4;obtain⟨hk,h0⟩:=h2;obtain⟨p1,p2,p3⟩:=h3;have hgd:g=g.dropLast ++ [10]:=by
  obtain⟨t,ht⟩:=dU.1 hsf;rw[←ht]; simp
 have hlen:=VM g;have hL:OW g=(kB::Zk 1 (KX g)) ++ [QV (OW g)]:=by
  refine fL (by simp[QW,hlen]; omega) fun j h1 h2=>?_
  have e:∀ (l:List Str) (hj:j<l.length),l[j]=l.getD j []:=fun l hj=>by rw[dE,dI hj]; rfl
  rw[e _ h1,e _ h2];by_cases hj0:j=0;subst hj0; exact h0;obtain⟨i,rfl⟩:∃ i,j=i+1:=⟨j - 1,by omega⟩;rw[dG,dQ];by_cases hi:i<(OW g).length - 2;rw[Xr _ (by rw[QW,hlen]; exact hi),Vc _ _ _ (by rw[hlen]; exact hi),VL _ hi,fD 1 i];obtain⟨t,ht⟩:=dC.1 (good_at hg i hi);rw[←ht,V9,fP]; rfl;have hie:i+1=(OW g).length - 1:=by omega
  rw[dE (l:=Zk 1 (KX g) ++ [QV (OW g)]),dT (by rw[QW,hlen]; omega),QW,hlen,show i - ((OW g).length - 2)=0 by omega,hie];rfl
 have hd:=flat_split _ _ _ hL;generalize he:QV (OW g)=e at *;obtain⟨w,hw⟩:=dC.1 p1;have hw4:e.drop 4=w:=by rw[←hw]; rfl
 rw[hw4] at p2 p3 h4;have hb:=JS (KX g) (KX g).length (dR _);rw[dN] at hb;have hgl:=congrArg List.length hgd;rw[dF,hd,dF,fU] at hgl;have hg2:g=ZW (kB::Zk 1 (KX g)) ++ (e ++ [10]):=hgd.trans (by rw[hd,dM]);have ht:g.take (g.length - e.length - 1)=bodyT (KX g) (KX g).length:=by
  rw[show g.length - e.length - 1=(ZW (kB::Zk 1 (KX g))).length by omega,hb];exact(congrArg (List.take _) hg2).trans (fN rfl)
 rw[ht] at h4;rw[fileT,←h4,itoa_num p2,hb];show ZW (kB::Zk 1 (KX g)) ++ kEnd ++ w ++ [10]=g;rw[dM (ZW _) kEnd w,hw,dM];exact hg2.symm
end Go.Am
namespace Go.Am
theorem pre_take (a p:Str):decide (a.take p.length=p)=p.isPrefixOf a:=by
 rw[fQ,decide_eq_true_iff,dC,List.prefix_iff_eq_take];exact⟨Eq.symm,Eq.symm⟩
theorem pre_long {a p:Str} (h:a.length<p.length):p.isPrefixOf a=false:=by
 rw[←fE,dC];intro hp;have:=hp.length_le;omega
theorem suf_drop {a p:Str} (h:p.length≤a.length):decide (a.drop (a.length - p.length)=p)=p.isSuffixOf a:=by
 rw[fQ,decide_eq_true_iff,dU,List.suffix_iff_eq_drop];exact⟨Eq.symm,Eq.symm⟩
theorem suf_long {a p:Str} (h:a.length<p.length):p.isSuffixOf a=false:=by
 rw[←fE,dU];intro hp;have:=hp.length_le;omega
theorem WL {h:AHeap} {a p:Str} (ha:a.length≤1000000) (hp:p.length≤1000000):ACalls Go.Proofs.Tryz.prog 169 [.str (wd a),.str (wd p)] h (fun q h'=>q = .bool (p.isPrefixOf a)∧h=h'):=by
 refine OH 18 [.tmp 4] Go.Proofs.Tryz.func169 rfl aE rfl rfl (dO rfl) ?_;show KA _ 18 _ _ [(0,.str (wd a)),(1,.str (wd p))] _;refine bf ?_;refine OD (dj:=10) rfl rfl true false rfl ?_ ?_
 ·intro g10;have g10:=of_decide_eq_true g10;refine Oc ?_;refine KOps.wHi (j:=_) rfl aB ?_;refine bV ?_;exact⟨congrArg AV.bool (pre_take a p),rfl⟩
 intro g10;have g10:=of_decide_eq_false g10;refine bV ?_;exact⟨congrArg AV.bool (pre_long aA).symm,rfl⟩
theorem Ww {h:AHeap} {a p:Str} (ha:a.length≤1000000) (hp:p.length≤1000000):ACalls Go.Proofs.Tryz.prog 131 [.str (wd a),.str (wd p)] h (fun q h'=>q = .tup [.str (wd (if p.isPrefixOf a then a.drop p.length else a)),.bool (p.isPrefixOf a)]∧h=h'):=by
 refine OH 15 [.tmp 4,.tmp 5] Go.Proofs.Tryz.func131 rfl aE rfl rfl (dO rfl) ?_;show KA _ 15 _ _ [(0,.str (wd a)),(1,.str (wd p))] _;refine bf ?_;refine Oj rfl (WL ha hp) ?_;rintro _ _ ⟨rfl,rfl⟩;refine Oa [0,1,9] ?_;refine Kb ?_ ?_;intro c9;have c9:p.isPrefixOf a=false:=by simpa using c9
 refine b3 ?_;exact⟨by rw[c9]; rfl,rfl⟩
 ·intro c9;have c9:p.isPrefixOf a=true:=by simpa using c9
  have hle:p.length≤a.length:=(dC.1 c9).length_le;refine Oy [0,1] ?_;refine Oc ?_;refine KOps.wLo (j:=_) rfl aB ?_;refine b3 ?_;exact⟨by rw[c9]; rfl,rfl⟩
theorem Jm {h:AHeap} {a p:Str} (ha:a.length≤1000000) (hp:p.length≤1000000):ACalls Go.Proofs.Tryz.prog 94 [.str (wd a),.str (wd p)] h (fun q h'=>q = .tup [.str (wd (if p.isPrefixOf a then a.drop p.length else a)),.bool (p.isPrefixOf a)]∧h=h'):=by
 refine OH 11 [.tmp 4,.tmp 5] Go.Proofs.Tryz.func94 rfl aE rfl rfl (dO rfl) ?_;show KA _ 11 _ _ [(0,.str (wd a)),(1,.str (wd p))] _;refine bf ?_;refine Oj rfl (Ww ha hp) ?_;rintro _ _ ⟨rfl,rfl⟩;refine b3 ?_;exact⟨rfl,rfl⟩
theorem VO {h:AHeap} {a p:Str} (ha:a.length≤1000000) (hp:p.length≤1000000):ACalls Go.Proofs.Tryz.prog 129 [.str (wd a),.str (wd p)] h (fun q h'=>q = .bool (p.isSuffixOf a)∧h=h'):=by
 refine OH 21 [.tmp 4] Go.Proofs.Tryz.func129 rfl aE rfl rfl (dO rfl) ?_;show KA _ 21 _ _ [(0,.str (wd a)),(1,.str (wd p))] _;refine bf ?_;refine OD (dj:=10) rfl rfl true false rfl ?_ ?_;intro g10;have g10:=of_decide_eq_true g10;refine Oc ?_;refine KOps.wLo (j:=a.length - p.length) aA aA ?_;refine bV ?_;exact⟨congrArg AV.bool (suf_drop aA),rfl⟩;intro g10;have g10:=of_decide_eq_false g10;refine bV ?_;exact⟨congrArg AV.bool (suf_long aA).symm,rfl⟩
theorem Rn {h:AHeap} {a p:Str} (ha:a.length≤1000000) (hp:p.length≤1000000):ACalls Go.Proofs.Tryz.prog 92 [.str (wd a),.str (wd p)] h (fun q h'=>q = .bool (p.isSuffixOf a)∧h=h'):=by
 refine OH 8 [.tmp 4] Go.Proofs.Tryz.func92 rfl aE rfl rfl (dO rfl) ?_;show KA _ 8 _ _ [(0,.str (wd a)),(1,.str (wd p))] _;refine bf ?_;refine Oj rfl (VO ha hp) ?_;rintro _ _ ⟨rfl,rfl⟩;refine bV ?_;exact⟨rfl,rfl⟩
theorem Wh {h:AHeap} {a p:Str} (ha:a.length≤1000000) (hp:p.length≤1000000):ACalls Go.Proofs.Tryz.prog 130 [.str (wd a),.str (wd p)] h (fun q h'=>q = .str (wd (if p.isSuffixOf a then a.take (a.length - p.length) else a))∧h=h'):=by
 refine OH 16 [.tmp 4] Go.Proofs.Tryz.func130 rfl aE rfl rfl (dO rfl) ?_;show KA _ 16 _ _ [(0,.str (wd a)),(1,.str (wd p))] _;refine bf ?_;refine Oj rfl (VO ha hp) ?_;rintro _ _ ⟨rfl,rfl⟩;refine Om [0,1,7] ?_;refine Kb ?_ ?_;intro c7;have hle:p.length≤a.length:=(dU.1 c7).length_le;refine Oc ?_;refine KOps.wHi (j:=a.length - p.length) aA aA ?_;refine bV ?_;exact⟨by rw[c7]; rfl,rfl⟩;intro c7;refine Oy [0] ?_;refine bV ?_;exact⟨by rw[c7]; rfl,rfl⟩
theorem Ra {h:AHeap} {a p:Str} (ha:a.length≤1000000) (hp:p.length≤1000000):ACalls Go.Proofs.Tryz.prog 93 [.str (wd a),.str (wd p)] h (fun q h'=>q = .str (wd (if p.isSuffixOf a then a.take (a.length - p.length) else a))∧h=h'):=by
 refine OH 8 [.tmp 4] Go.Proofs.Tryz.func93 rfl aE rfl rfl (dO rfl) ?_;show KA _ 8 _ _ [(0,.str (wd a)),(1,.str (wd p))] _;refine bf ?_;refine Oj rfl (Wh ha hp) ?_;rintro _ _ ⟨rfl,rfl⟩;refine bV ?_;exact⟨rfl,rfl⟩
theorem summed_c {h:AHeap} {l:Str} (hl:l.length≤1000000):ACalls Go.Proofs.Tryz.prog 74 [.str (wd l)] h (fun q h'=>q = .int .i64 (Go.Proofs.Tryz.sumTo l)∧h=h'):=by
 refine⟨_,_,Ev.of_below ⟨_,Go.Proofs.Tryz.func74,by decide,rfl⟩ ?_,rfl,rfl⟩;intro φ w cs _ ha;obtain⟨a,rfl⟩:∃ a,cs = [a]:=by
  match cs,ha.1 with
  | [a],_=>exact⟨a,rfl⟩
 have h1:=ha.2 0 _ _ rfl rfl;cases h1;refine(Go.Proofs.Tryz.summed_walk l hl w).mono ?_;rintro e w' ⟨rfl,bel⟩;exact⟨_,rfl,.int _ _,bel⟩
noncomputable def QG (f:Str):Int:=if QK f=0 then (Za [] (KX f)).1 else QK f
theorem ZL {h h':AHeap} {f:Str} {e:Int} (k:Keeps h h') (E:QK f=e) (he:e≠0):(QG f≠0∧AV.tup [.nilp,.int .i64 e] = .tup [.nilp,.int .i64 (QG f)]∧Keeps h h')∨(QG f=0∧∃ b,AV.tup [.nilp,.int .i64 e] = .tup [b,.int .i64 0]∧Bk h h' b (KX f) []):=by
 have:QG f=e:=by rw[QG,E,if_neg he]
 rw[this];exact .inl ⟨he,rfl,k⟩
theorem fE_text {f:Str} (h1:¬ 18000<f.length) (h2 : [10].isSuffixOf f=true) (h3:(OW f).length<2∨(OW f).getD 0 []≠kB):QK f=9:=by
 rw[QK,if_neg h1,if_neg (by simp only[h2]; decide),if_pos h3]
theorem fE_good {f:Str} (h1:¬ 18000<f.length) (h2 : [10].isSuffixOf f=true) {i:Nat} (h3:i+2<(OW f).length) (h4:(ZB (i+1)).isPrefixOf ((OW f).getD (i+1) [])=false):QK f=9:=by
 rw[QK,if_neg h1,if_neg (by simp only[h2]; decide)];split;rfl;rw[if_pos];rw[←fE];intro hg;have:=good_at hg i aA;rw[h4] at this;cases this
theorem fE_end {f:Str} (h1:¬ 18000<f.length) (h2 : [10].isSuffixOf f=true) (h3 : 2≤(OW f).length) (h5:(OW f).getD 0 []=kB) (h4:XF (OW f) ((OW f).length - 2)=true):QK f=endE f (QV (OW f)):=by
 rw[QK,if_neg h1,if_neg (by simp only[h2]; decide),if_neg,if_neg (by simp only[h4]; decide)];rintro(h|h);omega;exact h h5
theorem trimNl_c {h:AHeap} {f:Str} (hf:f.length≤1000000) (hsf : [10].isSuffixOf f=true):ACalls Go.Proofs.Tryz.prog 93 [.str (wd f),.str (wd [10])] h (fun q h'=>q = .str (wd f.dropLast)∧h=h'):=by
 have:=Ra (h:=h) (a:=f) (p:=[10]) hf aE;rw[if_pos hsf] at this;rw[List.dropLast_eq_take];exact this
theorem WG {f e:Str} (h1:kEnd.isPrefixOf e=true) (h2:KU (e.drop 4) 4=true) (h3:¬ 9972<QF (e.drop 4)):endE f e=if QF (e.drop 4)≠Go.Proofs.Tryz.sumTo (f.take (f.length - e.length - 1)) then 17 else 0:=by
 rw[endE,if_neg];rintro(h|h|h);rw[h1] at h; cases h;rw[h2] at h; cases h;exact h3 h
theorem fileL_len (f:Str):(OW f).length≤f.length+1:=by
 have:=Ui 10 f.dropLast;rw[dP] at this;unfold OW; omega
theorem VN {f w:Str} (hw:w∈OW f):w.length≤f.length - 1:=by
 have:=V3 10 f.dropLast w hw;rwa [dP] at this
theorem doAll_next {l:List Str} {i:Nat} (h0:(Za [] (l.take i)).1=0) (hi:i<l.length) (ha:O3 (l.take i) (l.getD i [])=0):(Za [] (l.take (i+1))).1=0∧doL (l.take i) (l.getD i [])=l.take (i+1):=by
 have e:l.take i ++ [l.getD i []]=l.take (i+1):=Xx hi;refine⟨?_,by rw[doL,if_pos ha,e]⟩;rw[←e,VK _ _ _ h0,dJ,Za,if_pos ha,Za]
theorem doAll_stop {l:List Str} {i:Nat} (h0:(Za [] (l.take i)).1=0) (hi:i<l.length) (ha:O3 (l.take i) (l.getD i [])≠0):(Za [] l).1=O3 (l.take i) (l.getD i []):=by
 have e:l=l.take i ++ (l.getD i []::l.drop (i+1)):=by
  have h2:l.getD i []::l.drop (i+1)=l.drop i:=by
   rw[dE,dI hi,Option.getD_some,List.getElem_cons_drop]
  rw[h2,fO]
 have h3:Za [] l=Za [] (l.take i ++ (l.getD i []::l.drop (i+1))):=congrArg _ e;rw[h3,VK _ _ _ h0,dJ,Za,if_neg ha]
theorem readF_c {h:AHeap} {f:Str} (hf:f.length≤1000000) (hV:Vs h):ACalls Go.Proofs.Tryz.prog 48 [.str (wd f)] h (fun q h'=>(QG f≠0∧q = .tup [.nilp,.int .i64 (QG f)]∧Keeps h h')∨(QG f=0∧∃ b,q = .tup [b,.int .i64 0]∧Bk h h' b (KX f) [])):=by
 refine OH 117 [.tmp 2,.tmp 3] Go.Proofs.Tryz.func48 rfl aE rfl rfl (dO rfl) ?_;have hS:=St.refl h;show KA _ 117 _ _ [(0,.str (wd f))] _;refine Ot ?_;refine On ?_;refine On ?_;refine Om [0] ?_;refine bj ?_;refine bd ?_;refine Ze ?_;refine KOps.gtr ?_;refine On ?_;refine Om [0,17] ?_;refine Oo ?_ ?_;intro c17;have c17 : 18000<f.length:=by omega
 refine bp ?_;exact ZL hS.keeps (by rw[QK,if_pos c17]) aE
 ·intro c17;have c17:¬ 18000<f.length:=by omega
  refine bd ?_;refine Oj rfl (Rn (p:=[10]) hf aE) ?_;rintro _ _ ⟨rfl,rfl⟩;refine QE ?_;refine On ?_;refine Om [0,21] ?_;refine Kb ?_ ?_;intro c21;have c21 : [10].isSuffixOf f=false:=by simpa using c21
  refine bp ?_;exact ZL hS.keeps (by rw[QK,if_neg c17,if_pos c21]) aE
  ·intro c21;have hsf : [10].isSuffixOf f=true:=by simpa using c21
   have hnL:=fileL_len f;refine bY ?_;refine Ou [0] ?_;refine bd ?_;refine Oj rfl (trimNl_c hf hsf) ?_;rintro _ _ ⟨rfl,rfl⟩;refine Oj rfl (split_c (c:=10) hV.mx (by rw[dP]; omega)) ?_;rintro v27 h27 ⟨hs27,hS27⟩;replace hS:St _ _ [⟨v27,1,wcs (OW f),true⟩]:=St.trans hS hS27;refine On ?_;refine Om [0,4] ?_;refine bd ?_;refine OZ (hS.rd 0 rfl) ?_;refine Q2 aC aC ?_;refine On ?_;refine Om [0,4,5] ?_;refine Ov ?_;refine bd ?_;refine Qn ?_;refine Od ?_;refine OD (dj:=33) rfl rfl false true rfl ?_ ?_
   ·intro g33;have g33:=of_decide_eq_false g33;refine Od ?_;refine Of (dj:=33) rfl rfl ?_;refine Ow (hS.rd 0 rfl) (j:=0) rfl aB ?_;intro p35 hp35;refine Of (dj:=33) rfl rfl ?_;refine OY hp35 (hS.rd 0 rfl) aB ?_;refine Of (dj:=33) rfl rfl ?_;refine KOps.wNeq ?_;refine OG ?_;refine Om [0,4,5,38] ?_;refine O7 ?_ ?_;intro c38;refine Ot ?_;refine cj ?_;refine Qw ?_;refine Q3 ?_;exact ZL hS.keeps (fE_text c17 hsf (.inr c38)) aE
    ·intro c38;have hk0:(OW f).getD 0 []=kB:=c38;refine Oy [0,4,5] ?_;refine b4 ?_;refine cW ?_;refine Oe ?_;refine Oz ?_;refine Kd (X:=Nat) (fun i=>[(0,.str (wd f)),(4,v27),(5,.int .i64 ((OW f).length - 1:Int)),(6,.int .i64 ((i:Int)+1))]) (fun i h'=>i+2≤(OW f).length∧XF (OW f) i=true∧St h h' [⟨v27,1,wcs (Q9 (OW f) i),true⟩]) (fun i=>(OW f).length - i) 0 ?_ ?_;exact⟨by omega,rfl,hS⟩;rintro i h10 ⟨hi,hg,hS⟩;refine Ov ?_;refine cO ?_;refine Qn ?_;refine Om [0,4,5,6,41] ?_;refine Oo ?_ ?_
     ·intro c41;have hge:=Wx (OW f) i (i+1) aA;have hlen2:=Yx (OW f) i;have hlj:((Q9 (OW f) i).getD (i+1) []).length≤1000000:=by
       rw[hge];have:=VN (f:=f) (w:=(OW f).getD (i+1) []) (getD_mem aA);omega
      have hnl:(ZB (i+1)).length≤1000000:=by
       have:=fF ((i+1:Nat):Int) aA aA;rw[ZB,dF];show _+2≤_;omega
      have hnP:dY ((i:Int)+1) ++ [46,32]=ZB (i+1):=rfl;have hil:=fF ((i:Int)+1) aA aA;refine Oy [0,4,5,6] ?_;refine bj ?_;refine Ov ?_;refine ON [5,7] mixed rfl aD ?_;refine Od ?_;refine Od ?_;refine Ow (hS.rd 0 rfl) (j:=_) rfl aB ?_;intro p47 hp47;refine OY hp47 (hS.rd 0 rfl) aB ?_;refine Od ?_;refine Kf aI (VR (hV.ext hS.keeps).pw aA aA) ?_;rintro _ _ ⟨rfl,rfl⟩;refine Kt aB ?_;rw[hnP];refine Kf aI (Jm (p:=ZB (i+1)) hlj hnl) ?_;rintro _ _ ⟨rfl,rfl⟩;refine bh ?_;refine Om [0,4,5,6,7,8] ?_;refine Ov ?_;refine bd ?_;refine QE ?_;refine Om [0,4,5,6,7,56] ?_;refine Kb ?_ ?_;intro c56;have c56:(ZB (i+1)).isPrefixOf ((Q9 (OW f) i).getD (i+1) [])=false:=by simpa using c56
      rw[hge] at c56;refine Ot ?_;refine cj ?_;refine Qw ?_;refine Qu ?_;refine Qw ?_;refine lpQ.ret ?_;refine Qu ?_;refine Qw ?_;refine Q3 ?_;exact ZL hS.keeps (fE_good c17 hsf aA c56) aE
      ·intro c56;have c56:(ZB (i+1)).isPrefixOf ((Q9 (OW f) i).getD (i+1) [])=true:=by simpa using c56
       refine Oy [0,4,5,6,7] ?_;refine OI rfl ?_;refine Od ?_;refine Od ?_;refine Od ?_;refine Ow (hS.rd 0 rfl) (j:=_) rfl aB ?_;intro p60 hp60;refine KOps.storeW hS rfl (i:=0) rfl hp60 aB ?_;intro h' hS;refine bw ?_;refine Ou [0,4,5,6] ?_;refine OI rfl ?_;refine Od ?_;refine Kn aC aC ?_;refine cW ?_;refine lpN (i+1) ⟨by omega,?_,?_⟩ aA;rw[XF,hg,←hge,c56]; rfl;have e:(Q9 (OW f) i).set (i+1) (if (ZB (i+1)).isPrefixOf ((Q9 (OW f) i).getD (i+1) [])=true then ((Q9 (OW f) i).getD (i+1) []).drop (ZB (i+1)).length else (Q9 (OW f) i).getD (i+1) [])=Q9 (OW f) (i+1):=by
        rw[if_pos c56,hge]; rfl
       rw[←e];exact hS
     ·intro c41;have hie:i=(OW f).length - 2:=by omega
      have hE:QK f=endE f (QV (OW f)):=fE_end c17 hsf aA hk0 (hie ▸ hg);subst hie;have hlen2:=Yx (OW f) ((OW f).length - 2);have hlast:(Q9 (OW f) ((OW f).length - 2)).getD ((OW f).length - 1) []=QV (OW f):=Wx _ _ _ aA;have hem:(QV (OW f)).length≤f.length - 1:=VN (getD_mem aA);have hf0 : 0<f.length:=by
       rw[dU] at hsf;exact hsf.length_le
      have hll:(QV (OW f)).length≤1000000:=by omega
      have hel:(if kEnd.isPrefixOf (QV (OW f)) then (QV (OW f)).drop kEnd.length else QV (OW f)).length≤1000000:=by
       split;rw[fA]; omega;exact hll
      refine bQ ?_;refine Ou [0,4,5] ?_;refine cO ?_;refine Ow (hS.rd 0 rfl) (j:=(OW f).length - 1) aC aB ?_;intro p64 hp64;refine OY hp64 (hS.rd 0 rfl) aB ?_;rw[hlast];refine Oj rfl (Jm (p:=kEnd) hll aE) ?_;rintro _ _ ⟨rfl,rfl⟩;refine bh ?_;refine Om [0,4,5,9,10] ?_;refine bd ?_;refine Oj rfl (WW (m:=4) aE hel) ?_;rintro _ hx ⟨rfl,hK⟩;replace hS:St _ _ _:=St.trans hS (St.ofK hK);simp only[dJ] at hS;refine bh ?_;refine Om [0,4,5,10,11,12] ?_;refine bj ?_;refine bd ?_;refine QE ?_;refine Od ?_;refine OD (dj:=77) rfl rfl false true rfl ?_ ?_
      ·intro g77;refine Od ?_;refine Of (dj:=77) rfl rfl ?_;refine QE ?_;refine OG ?_;refine Od ?_;refine OD (dj:=81) rfl rfl false true rfl ?_ ?_
       ·intro g81;refine Od ?_;refine Of (dj:=81) rfl rfl ?_;refine KOps.gtr ?_;refine OG ?_;refine On ?_;refine Om [0,4,5,11,74] ?_;refine Oo ?_ ?_;intro c74;have hpe:kEnd.isPrefixOf (QV (OW f))=true:=by simpa using g77
        rw[if_pos hpe] at g81 c74;have hnu:KU ((QV (OW f)).drop kEnd.length) 4=true:=by simpa using g81
        rw[if_pos hnu] at c74;refine bp ?_;exact ZL hS.keeps (hE.trans (if_pos (.inr (.inr c74)))) aE
        ·intro c74;have hpe:kEnd.isPrefixOf (QV (OW f))=true:=by simpa using g77
         rw[if_pos hpe] at g81 c74;have hnu:KU ((QV (OW f)).drop kEnd.length) 4=true:=by simpa using g81
         rw[if_pos hnu] at c74;refine cO ?_;refine Od ?_;refine Ze ?_;refine Od ?_;refine Od ?_;refine Ow (hS.rd 0 rfl) (j:=(OW f).length - 1) aC aB ?_;intro p92 hp92;refine OY hp92 (hS.rd 0 rfl) aB ?_;rw[hlast];refine Ze ?_;refine Q2 aC aC ?_;refine Q2 aC aC ?_;refine KOps.wHi (j:=f.length - (QV (OW f)).length - 1) aA aA ?_;refine Oj rfl (summed_c ai) ?_;rintro _ _ ⟨rfl,rfl⟩;refine KOps.neq ?_;refine On ?_;refine Om [4,5,85] ?_;refine O7 ?_ ?_;intro c85;rw[if_pos hpe,if_pos hnu] at c85;refine bp ?_;exact ZL hS.keeps (hE.trans ((WG hpe hnu c74).trans (if_pos c85))) aE
         ·intro c85;rw[if_pos hpe,if_pos hnu] at c85;have hE0:QK f=0:=hE.trans ((WG hpe hnu c74).trans (if_neg (fun h=>h c85)));refine bY ?_;refine Ou [4,5] ?_;refine Ot ?_;refine Oj rfl (new_c) ?_;rintro b h22 hB;obtain⟨vl0,A0,hb0,hSB⟩:=hB;refine On ?_;refine Om [4,5,13] ?_;refine Ov ?_;refine cO ?_;refine KOps.sliceBoth ((hS.rd 0 rfl).ext hSB.keeps) (m:=(OW f).length) (by rw[UD,hlen2]) aA aA aA ?_;intro v103 hv103;have hp103:WRow hx v103 (KX f):=by
           have hq:=Rd.part (hS.rd 0 rfl) hv103 aA;have e:wcs (KX f)=List.take (((((OW f).length:Int) - 1).toNat - (1:Int).toNat)*1) (List.drop ((1:Int).toNat*1) (wcs (Q9 (OW f) ((OW f).length - 2)))):=by
            unfold KX wcs;rw[List.map_take,List.map_drop];congr 1;omega
           unfold WRow;rw[e]; exact hq
          have hp103b:=hp103.ext hSB.keeps;have hbl:=VM f;refine OZ hp103b ?_;refine Od ?_;refine Om [13,103,104,105] ?_;refine Oz ?_;refine Kd (X:=Nat × AV) (fun x=>[(13,x.2),(103,v103),(104,.int .i64 ((KX f).length:Int)),(105,.int .i64 (x.1:Int))]) (fun x h'=>x.1≤(KX f).length∧(Za [] ((KX f).take x.1)).1=0∧Bk hx h' x.2 ((KX f).take x.1) []) (fun x=>(KX f).length - x.1) (0,b) ?_ ?_;exact⟨Nat.zero_le _,rfl,vl0,A0,hb0,hSB⟩;rintro⟨i,b2⟩ h24 ⟨hi,hd,hB⟩;dsimp only at hi hd hB⊢;obtain⟨vl,A,hb,hS5⟩:=hB;have hvk:=hp103.ext hS5.keeps;refine Ot ?_;refine Qn ?_;refine br ?_;refine Oo ?_ ?_
          ·intro c106;have hlt:i<(KX f).length:=by omega
           have hxl:((KX f).getD i []).length≤1000000:=by
            rw[VL f aA,V9,fA];have:=VN (f:=f) (w:=(OW f).getD (i+1) []) (getD_mem aA);omega
           refine Oy [13,103,104,105] ?_;refine ct ?_;refine Ow hvk (j:=i) rfl aB ?_;intro p107 hp107;refine OY hp107 hvk aB ?_;refine On ?_;refine Om [13,15,103,104,105] ?_;refine cO ?_;refine Oj rfl (Xj hb hS5 ((hV.ext hS.keeps).ext hS5.keeps) hxl) ?_;rintro _ h26 ⟨rfl,hB⟩;refine On ?_;refine Om [13,16,103,104,105] ?_;refine bd ?_;refine KOps.neq ?_;refine Om [13,16,103,104,105,113] ?_;refine O7 ?_ ?_;intro c113;refine bd ?_;refine cj ?_;refine Qu ?_;refine Qw ?_;refine lpQ.ret ?_;refine Qu ?_;refine Qw ?_;refine Q3 ?_;have hr:QG f=O3 ((KX f).take i) ((KX f).getD i []):=by rw[QG,if_pos hE0]; exact doAll_stop hd hlt c113
           obtain⟨_,_,_,hS6⟩:=hB;exact .inl ⟨by rw[hr]; exact c113,by rw[hr],hS.keeps.trans hS6.keeps⟩;intro c113;refine bY ?_;refine Ou [13,103,104,105] ?_;refine OI rfl ?_;refine Kn aC aC ?_;refine Od ?_;refine Og ?_;obtain⟨e1,e2⟩:=doAll_next hd hlt c113;rw[e2] at hB;exact lpN (i+1,b2) ⟨by dsimp only; omega,e1,hB⟩ aK
          intro c106;refine bQ ?_;refine Ou [13] ?_;refine bd ?_;refine cj ?_;refine Q3 ?_;have hie:i=(KX f).length:=by omega
          subst hie;rw[dN] at hb hS5 hd;exact .inr ⟨by rw[QG,if_pos hE0]; exact hd,b2,rfl,vl,A,hb,St.drop (St.perm List.perm_append_comm (St.trans hS hS5))⟩
       intro g81;refine Ke (dj:=81) rfl rfl rfl ?_;refine Ks ?_;refine On ?_;refine Om [0,4,5,11,74] ?_;refine KI ?_;refine bp ?_;exact ZL hS.keeps (hE.trans (if_pos (.inr (.inl (by rw[if_pos (show kEnd.isPrefixOf (QV (OW f))=true by simpa using g77)] at g81; exact(by simpa using g81:KU ((QV (OW f)).drop kEnd.length) 4=false)))))) aE
      intro g77;refine Ke (dj:=77) rfl rfl rfl ?_;refine Ks ?_;refine Od ?_;refine Ke (dj:=81) rfl rfl rfl ?_;refine Ke (dj:=81) rfl rfl rfl ?_;refine Ks ?_;refine On ?_;refine Om [0,4,5,11,74] ?_;refine KI ?_;refine bp ?_;exact ZL hS.keeps (hE.trans (if_pos (.inl (by simpa using g77)))) aE
   intro g33;have g33:=of_decide_eq_true g33;refine Ke (dj:=33) rfl rfl rfl ?_;refine Ke (dj:=33) rfl rfl rfl ?_;refine Ke (dj:=33) rfl rfl rfl ?_;refine Ks ?_;refine Om [0,4,5,38] ?_;refine KI ?_;refine Ot ?_;refine cj ?_;refine Qw ?_;refine Q3 ?_;exact ZL hS.keeps (fE_text c17 hsf (.inl aA)) aE
end Go.Am
namespace Go.Am
theorem k1:QK [115,112,97,100,105,108,108,101,10,101,110,100,32,56,56,52,10]=17:=by decide +kernel
theorem k2:QK [115,112,97,100,105,108,108,101,10,101,110,100,32,48,56,56,51,10]=9:=by decide +kernel
theorem k3:QK [115,112,97,100,105,108,108,101,10,101,110,100,32,56,56,51,10]=0:=by decide +kernel
theorem k4:KX [115,112,97,100,105,108,108,101,10,101,110,100,32,56,56,51,10] = []:=by decide +kernel
theorem k5:QG [115,112,97,100,105,108,108,101,10,101,110,100,32,56,56,51,10]=0:=by rw[QG,if_pos k3,k4]; rfl
theorem k6:(after bLines).whyL sIn 7 = [sTax]∧(after bLines).whyE sIn 7=0:=UE (a:=5) (b:=6) aP
theorem q0:O3 bLines [114,111,111,109,32,84,97,120]=10:=Qs aP
theorem q1:O3 bLines [114,111,111,109]=5:=Qs aP
theorem q2:O3 bLines [102,108,121,32,120]=8:=Qs aP
theorem q3:O3 bLines [112,97,99,107,32,48,32,105,110]=1:=Qs aP
theorem q4:O3 bLines [108,101,97,115,116,32,105,110,32,49,48,48]=1:=Qs aP
theorem q5:O3 bLines [112,97,99,107,32,48,55,32,105,110]=9:=Qs aP
end Go.Am
