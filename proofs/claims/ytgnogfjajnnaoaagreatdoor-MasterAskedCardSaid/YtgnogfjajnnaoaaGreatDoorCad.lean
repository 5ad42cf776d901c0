/-
  Layer 14: the law's own examples: works().
  Conditions: none.
-/
import Derived.Test.YtgnogfjajnnaoaaGreatDoorOi
import Derived.Test.YtgnogfjajnnaoaaGreatDoorSSa
import Derived.Test.YtgnogfjajnnaoaaGreatDoorRows
import Derived.MakeChecks
import Derived.HandedShaped
import Derived.Shelf.Vars
open List renaming getElem?_eq_getElem → fA, getD_eq_getElem?_getD → fE, mem_iff_getElem → fY, all_eq_true → fC, length_take → fD, take_length → fF, length_drop → fG, length_singleton → fH, take_append_of_le_length → fJ, length_pos_iff → fK, length_append → fN, getElem?_eq_some_iff → fP, length_map → fQ, take_append_drop → fS, mem_singleton → fV, getElem?_map → fW, getElem_drop → fZ, cons_append → gA, getElem_mem → gE, append_nil → gI, mem_append → gO, length_nil → gU
open Nat renaming lt_succ_iff_lt_or_eq → fI, le_of_ble_eq_true → fO, zero_le → fL, le_refl → fM, not_lt_zero → fR, pow_le_pow_right → fT
open Option renaming getD_some → fU
open Option.some renaming inj → fB, injEq → fX
set_option maxRecDepth 99999
set_option maxHeartbeats 4000000
namespace Go.Am
theorem Jd {l:List Str} {x:Str} {e:Int} (h:Kk l x=e) (he:e≠0):doL l x=l:=if_neg (by rw[h]; exact he)
theorem Yx {l:List Str} {x:Str} (h:Kk l x=0):doL l x=l ++ [x]:=if_pos h
section
variable {P:Program} {n:Nat} {ops:Array Oper} {ex:List Nat} {Q:KF→AHeap→Prop} {k:Nat} {os:List Oper} {K:KF} {h:AHeap} {d:Nat} {ty:TypeId} {pos:String} {after:Array Edge}
theorem Kt {t t':TypeId} {x y:Operand} {kd:IntKind} {a b:Int} [hx:EvK h.globs n K x (.int kd a)] [hy:EvK h.globs n K y (.int kd b)] (he:a=b) (hk:KOps P n ops ex Q (k+1) os ((d,.bool false)::K) h):KOps P n ops ex Q k (⟨some d,.binOp .neq t x y t',ty,pos,after,none⟩::os) K h:=by
 refine KOps.neq ?_;rw[decide_eq_true he]; exact hk
theorem ZX {t t':TypeId} {x y:Operand} {kd:IntKind} {a b:Int} [hx:EvK h.globs n K x (.int kd a)] [hy:EvK h.globs n K y (.int kd b)] (he:a=b) (hk:KOps P n ops ex Q (k+1) os ((d,.bool true)::K) h):KOps P n ops ex Q k (⟨some d,.binOp .eql t x y t',ty,pos,after,none⟩::os) K h:=by
 refine QW ?_;rw[decide_eq_true he]; exact hk
theorem KOps.notT {t:TypeId} {x:Operand} [hx:EvK h.globs n K x (.bool true)] (hk:KOps P n ops ex Q (k+1) os ((d,.bool false)::K) h):KOps P n ops ex Q k (⟨some d,.unOp .not t x,ty,pos,after,none⟩::os) K h:=by
 refine Qz (b:=true) ?_;exact hk
end
theorem Rk {h:AHeap} (hV:Vs h):ACalls Go.Proofs.Tryz.prog 15 [] h (fun q h'=>q = .bool true∧Keeps h h'):=by
 refine OV 240 [.tmp 0] Go.Proofs.Tryz.func15 rfl aD rfl rfl (fO rfl) ?_;have hS:=St.refl h;show KA _ 240 _ _ [] _;refine O2 [] ?_;refine Ou ?_;refine Oj rfl (bLines_c) ?_;rintro v19 h19 hS;refine Oj rfl (toldX_c (hS.rd 0 rfl) aD aU (hV.ext hS.keeps)) ?_;rintro _ h5 ⟨b,rfl,hB⟩;have hT1:Q0 bLines bLines.length=bLines:=told_B.1;have hT2:Zo bLines bLines.length=true:=told_B.2;rw[hT1] at hB;rw[hT2];obtain⟨vl,A,hb,hS5⟩:=hB;have hSB:St h h5 (QZ b vl A bLines ++ [⟨v19,1,wcs bLines,true⟩]):=by
  have hx:=St.trans hS hS5;rwa [gI] at hx
 have hV5:=hV.ext hSB.keeps;have r:=St.rbk hSB hb;clear hS;have hS:=St.refl h5;refine O2 [1,2] ?_;refine Ov ?_;refine Oj rfl (Rt (w:=sIn) (r.ext hS.keeps)) ?_;rintro _ _ ⟨rfl,rfl⟩;rw[e1,show V8 (5,99,0)=AV.tup [.int .i64 5,.int .i64 99,.int .i64 0] from rfl];refine O2 [1,2,3,4,5] ?_;refine Ov ?_;refine Oj rfl (spanB_c (w:=Y2) (r.ext hS.keeps)) ?_;rintro _ h7 ⟨rfl,hK⟩;have hS0:=St.on hS hK;clear hS;have hS:=hS0;clear hS0;rw[e2,show V8 (5,6,0)=AV.tup [.int .i64 5,.int .i64 6,.int .i64 0] from rfl];refine O2 [1,2,3,4,5,6,7,8] ?_;refine Ov ?_;refine Oj rfl (whyB_c (w:=Y2) (r.ext hS.keeps) (hV5.ext hS.keeps)) ?_;rintro _ h8 ⟨v37,rfl,hSN⟩;rw[e3.1] at hSN;rw[e3.2];replace hS:St _ _ (_::_):=St.trans hS hSN;refine O2 [1,2,3,4,5,6,7,8,9,10] ?_;refine Ov ?_;refine Oj rfl (whyB_c (w:=UG) (r.ext hS.keeps) (hV5.ext hS.keeps)) ?_;rintro _ h9 ⟨v42,rfl,hSN⟩;rw[e4.1] at hSN;rw[e4.2];replace hS:St _ _ (_::_):=St.trans hS hSN;refine O2 [1,2,3,4,5,6,7,8,9,10,11,12] ?_;refine Ov ?_;refine KOps.notT ?_;refine Ov ?_;refine cA ?_;refine cA ?_;refine cA ?_;refine cA ?_;refine cA ?_;refine cA ?_;refine cA ?_;refine cA ?_;refine cH ?_;intro v81 h' hS;refine Og (dj:=79) rfl rfl ?_;refine Oj rfl (Ji) ?_;rintro _ _ ⟨rfl,rfl⟩;refine Og (dj:=79) rfl rfl ?_;refine Oj rfl (XR (a:=[sTax,Jo]) (b:=[sTax,Jo]) (hS.rd 2 rfl) (hS.rd 0 rfl) aD) ?_;rintro _ _ ⟨rfl,rfl⟩;rw[show decide _=true from by decide];refine Og (dj:=79) rfl rfl ?_;refine KOps.notT ?_;refine OS ?_;refine Ov ?_;refine O8 (hS.rd 1 rfl) ?_;refine Ov ?_;refine Oj rfl (Ri (r.ext hS.keeps)) ?_;rintro v90 h10 hSN;rw[e5] at hSN;replace hS:St _ _ (_::_):=St.trans hS hSN;refine Og (dj:=86) rfl rfl ?_;refine O8 (hS.rd 0 rfl) ?_;refine Og (dj:=86) rfl rfl ?_;refine KT aD aD ?_;refine Og (dj:=86) rfl rfl ?_;refine cA ?_;refine Oj rfl (TQ (r.ext hS.keeps)) ?_;rintro v97 h11 hSN;rw[e6] at hSN;replace hS:St _ _ (_::_):=St.trans hS hSN;refine Og (dj:=95) rfl rfl ?_;refine cH ?_;intro v98 h' hS;refine Og (dj:=95) rfl rfl ?_;refine Oj rfl (Ji) ?_;rintro _ _ ⟨rfl,rfl⟩;refine Og (dj:=95) rfl rfl ?_;refine Oj rfl (XR (a:=[sTax,sPress,Jo]) (b:=[sTax,sPress,Jo]) (hS.rd 1 rfl) (hS.rd 0 rfl) aD) ?_;rintro _ _ ⟨rfl,rfl⟩;rw[show decide _=true from by decide];refine Og (dj:=95) rfl rfl ?_;refine KOps.notT ?_;refine OS ?_;refine Om [1,102] ?_;refine OP ?_;refine On [1] ?_;refine Ov ?_;have hSB2:=St.drop (St.trans hSB hS);clear hSB hS;have hSB:=hSB2;clear hSB2;refine Oj rfl (X0 (line:=[99,108,97,105,109,32,105,110,32,55]) hb hSB (hV.ext hSB.keeps) aD) ?_;rintro _ _ ⟨rfl,hB⟩;rw[show Kk bLines [99,108,97,105,109,32,105,110,32,55]=_ from a1];rw[Jd a1 aD] at hB;clear hb hSB;obtain⟨vl,A,hb,hSB⟩:=hB;refine Kt aV ?_;refine Ov ?_;refine Oj rfl (X0 (line:=[99,108,97,105,109,32,105,110,32,53]) hb hSB (hV.ext hSB.keeps) aD) ?_;rintro _ _ ⟨rfl,hB⟩;rw[show Kk bLines [99,108,97,105,109,32,105,110,32,53]=_ from a2];rw[Jd a2 aD] at hB;clear hb hSB;obtain⟨vl,A,hb,hSB⟩:=hB;refine Og (dj:=106) rfl rfl ?_;refine cA ?_;refine Oj rfl (X0 (line:=[109,111,115,116,32,105,110,32,52]) hb hSB (hV.ext hSB.keeps) aD) ?_;rintro _ _ ⟨rfl,hB⟩;rw[show Kk bLines [109,111,115,116,32,105,110,32,52]=_ from a3];rw[Jd a3 aD] at hB;clear hb hSB;obtain⟨vl,A,hb,hSB⟩:=hB;refine Og (dj:=111) rfl rfl ?_;refine cA ?_;refine Oj rfl (X0 (line:=[108,101,97,115,116,32,111,117,116,32,55]) hb hSB (hV.ext hSB.keeps) aD) ?_;rintro _ _ ⟨rfl,hB⟩;rw[show Kk bLines [108,101,97,115,116,32,111,117,116,32,55]=_ from a4];rw[Jd a4 aD] at hB;clear hb hSB;obtain⟨vl,A,hb,hSB⟩:=hB;refine Og (dj:=116) rfl rfl ?_;refine cA ?_;refine Oj rfl (X0 (line:=[108,101,97,115,116,32,104,111,109,101,32,54]) hb hSB (hV.ext hSB.keeps) aD) ?_;rintro _ _ ⟨rfl,hB⟩;rw[show Kk bLines [108,101,97,115,116,32,104,111,109,101,32,54]=_ from a5];rw[Yx (x:=[108,101,97,115,116,32,104,111,109,101,32,54]) a5,show bLines ++ [[108,101,97,115,116,32,104,111,109,101,32,54]]=L1 from rfl] at hB;clear hb hSB;obtain⟨vl,A,hb,hSB⟩:=hB;refine Og (dj:=121) rfl rfl ?_;refine cA ?_;refine Oj rfl (X0 (line:=[99,108,97,105,109,32,105,110,32,54]) hb hSB (hV.ext hSB.keeps) aD) ?_;rintro _ _ ⟨rfl,hB⟩;rw[show Kk L1 [99,108,97,105,109,32,105,110,32,54]=_ from a6];rw[Yx (x:=[99,108,97,105,109,32,105,110,32,54]) a6,show L1 ++ [[99,108,97,105,109,32,105,110,32,54]]=L2 from rfl] at hB;clear hb hSB;obtain⟨vl,A,hb,hSB⟩:=hB;refine Og (dj:=126) rfl rfl ?_;refine cA ?_;refine Oj rfl (X0 (line:=[108,101,97,115,116,32,105,110,32,49]) hb hSB (hV.ext hSB.keeps) aD) ?_;rintro _ _ ⟨rfl,hB⟩;rw[show Kk L2 [108,101,97,115,116,32,105,110,32,49]=_ from a7];rw[Jd a7 aD] at hB;clear hb hSB;obtain⟨vl,A,hb,hSB⟩:=hB;refine Og (dj:=131) rfl rfl ?_;refine cA ?_;refine Oj rfl (Ri (St.rbk hSB hb)) ?_;rintro _ _ hS;rw[e7] at hS;refine Og (dj:=136) rfl rfl ?_;refine cH ?_;intro v139 h' hS;refine Og (dj:=136) rfl rfl ?_;refine Oj rfl (Ji) ?_;rintro _ _ ⟨rfl,rfl⟩;refine Og (dj:=136) rfl rfl ?_;refine Oj rfl (XR (a:=[sIn,Y2,UG]) (b:=[sIn,Y2,UG]) (hS.rd 1 rfl) (hS.rd 0 rfl) aD) ?_;rintro _ _ ⟨rfl,rfl⟩;rw[show decide _=true from by decide];refine Og (dj:=136) rfl rfl ?_;refine KOps.notT ?_;refine OS ?_;refine Om [1,143] ?_;refine OP ?_;refine On [1] ?_;refine Ov ?_;have hSB2:=St.drop (St.trans hSB hS);clear hSB hS;have hSB:=hSB2;clear hSB2;refine Oj rfl (X0 (line:=[112,97,99,107,32,49,50,32,111,117,116]) hb hSB (hV.ext hSB.keeps) aD) ?_;rintro _ _ ⟨rfl,hB⟩;rw[show Kk L2 [112,97,99,107,32,49,50,32,111,117,116]=_ from a8];rw[Yx (x:=[112,97,99,107,32,49,50,32,111,117,116]) a8,show L2 ++ [[112,97,99,107,32,49,50,32,111,117,116]]=L3 from rfl] at hB;clear hb hSB;obtain⟨vl,A,hb,hSB⟩:=hB;refine Kt aV ?_;refine Ov ?_;refine Oj rfl (X0 (line:=[112,97,99,107,32,49,50,32,105,110]) hb hSB (hV.ext hSB.keeps) aD) ?_;rintro _ _ ⟨rfl,hB⟩;rw[show Kk L3 [112,97,99,107,32,49,50,32,105,110]=_ from a9];rw[Jd a9 aD] at hB;clear hb hSB;obtain⟨vl,A,hb,hSB⟩:=hB;refine Og (dj:=147) rfl rfl ?_;refine cA ?_;refine Oj rfl (X0 (line:=[115,101,97,108,32,49,50]) hb hSB (hV.ext hSB.keeps) aD) ?_;rintro _ _ ⟨rfl,hB⟩;rw[show Kk L3 [115,101,97,108,32,49,50]=_ from a10];rw[Yx (x:=[115,101,97,108,32,49,50]) a10,show L3 ++ [[115,101,97,108,32,49,50]]=L4 from rfl] at hB;clear hb hSB;obtain⟨vl,A,hb,hSB⟩:=hB;refine Og (dj:=152) rfl rfl ?_;refine cA ?_;refine Oj rfl (would_c (line:=[98,117,114,110,32,49,50]) hb hSB (hV.ext hSB.keeps) aD) ?_;rintro _ _ ⟨rfl,hSB2⟩;rw[show Kk L4 [98,117,114,110,32,49,50]=20 from a11];clear hSB;have hSB:=hSB2;clear hSB2;refine Og (dj:=157) rfl rfl ?_;refine cA ?_;refine Oj rfl (X0 (line:=[100,101,97,108,32,49,50]) hb hSB (hV.ext hSB.keeps) aD) ?_;rintro _ _ ⟨rfl,hB⟩;rw[show Kk L4 [100,101,97,108,32,49,50]=_ from a12];rw[Yx (x:=[100,101,97,108,32,49,50]) a12,show L4 ++ [[100,101,97,108,32,49,50]]=L5 from rfl] at hB;clear hb hSB;obtain⟨vl,A,hb,hSB⟩:=hB;refine Og (dj:=162) rfl rfl ?_;refine cA ?_;refine Oj rfl (X0 (line:=[98,97,99,107,32,49,50]) hb hSB (hV.ext hSB.keeps) aD) ?_;rintro _ _ ⟨rfl,hB⟩;rw[show Kk L5 [98,97,99,107,32,49,50]=_ from a13];rw[Yx (x:=[98,97,99,107,32,49,50]) a13,show L5 ++ [[98,97,99,107,32,49,50]]=L6 from rfl] at hB;clear hb hSB;obtain⟨vl,A,hb,hSB⟩:=hB;refine Og (dj:=167) rfl rfl ?_;refine cA ?_;refine Oj rfl (X0 (line:=[98,117,114,110,32,49,50]) hb hSB (hV.ext hSB.keeps) aD) ?_;rintro _ _ ⟨rfl,hB⟩;rw[show Kk L6 [98,117,114,110,32,49,50]=_ from a14];rw[Yx (x:=[98,117,114,110,32,49,50]) a14,show L6 ++ [[98,117,114,110,32,49,50]]=L7 from rfl] at hB;clear hb hSB;obtain⟨vl,A,hb,hSB⟩:=hB;refine Og (dj:=172) rfl rfl ?_;refine Kt aV ?_;refine OS ?_;refine Om [1,176] ?_;refine OP ?_;refine On [1] ?_;refine Ov ?_;refine Oj rfl (TK (w:=Y2) (St.rbk hSB hb)) ?_;rintro _ _ ⟨v177,rfl,hS⟩;rw[e8.1] at hS;rw[e8.2];refine O2 [1,5,13] ?_;refine Ov ?_;refine Oj rfl (Wc (p:=12) ((St.rbk hSB hb).ext hS.keeps)) ?_;rintro _ _ ⟨rfl,rfl⟩;rw[e9];refine O2 [1,5,8,13] ?_;refine Ov ?_;refine Kt aV ?_;refine Ov ?_;refine cA ?_;refine O8 (hS.rd 0 rfl) ?_;refine Og (dj:=193) rfl rfl ?_;refine cA ?_;refine Oj rfl (undo_c hb (St.drop (St.trans hSB hS)) hV (by intro x hx; have hx2:=fC.1 (show(L7.all fun x=>decide (x.length≤1000000))=true by decide) x hx; exact of_decide_eq_true hx2)) ?_;rintro _ _ ⟨rfl,hB⟩;rw[if_neg (show¬ L7 = [] by decide)];rw[show L7.dropLast=L6 from rfl] at hB;clear hb hSB;obtain⟨vl,A,hb,hSB⟩:=hB;refine Og (dj:=198) rfl rfl ?_;refine cA ?_;refine Oj rfl (undo_c hb hSB hV (by intro x hx; have hx2:=fC.1 (show(L6.all fun x=>decide (x.length≤1000000))=true by decide) x hx; exact of_decide_eq_true hx2)) ?_;rintro _ _ ⟨rfl,hB⟩;rw[if_neg (show¬ L6 = [] by decide)];rw[show L6.dropLast=L5 from rfl] at hB;clear hb hSB;obtain⟨vl,A,hb,hSB⟩:=hB;refine Og (dj:=203) rfl rfl ?_;refine Kt aV ?_;refine OS ?_;refine Om [1,207] ?_;refine OP ?_;refine On [1] ?_;refine Ov ?_;refine Oj rfl (Wc (p:=12) (St.rbk hSB hb)) ?_;rintro _ _ ⟨rfl,rfl⟩;rw[e10];refine O2 [1,10,14] ?_;refine Ov ?_;refine Oj rfl (paidB_c (St.rbk hSB hb)) ?_;rintro _ _ ⟨v213,rfl,hSP⟩;rw[e11.1] at hSP;rw[e11.2];clear hS;have hS:=hSP;refine O2 [10,14,15,16] ?_;refine Ou ?_;refine Oj rfl (new_c) ?_;rintro b2 h18 ⟨vl2,A2,hb2,hSN⟩;have r2:=St.rbk hSN hb2;have hw15:WRow h18 v213 [sIn]:=Rd.ext hSN.keeps (hS.rd 0 rfl);have hV18:=((hV.ext hSB.keeps).ext hS.keeps).ext hSN.keeps;have hK18:Keeps h h18:=(hSB.keeps.trans hS.keeps).trans hSN.keeps;clear hS;have hS:=St.refl h18;refine O2 [10,14,15,16,17] ?_;refine Ov ?_;refine ZX aV ?_;refine Ov ?_;refine ZX aV ?_;refine Kl ?_;refine Ov ?_;refine cH ?_;intro v227 h' hS;refine Og (dj:=225) rfl rfl ?_;refine Oj rfl (Ji) ?_;rintro _ _ ⟨rfl,rfl⟩;refine Og (dj:=225) rfl rfl ?_;refine Oj rfl (XR (a:=[sIn]) (b:=[sIn]) (Rd.ext hS.keeps hw15) (hS.rd 0 rfl) aD) ?_;rintro _ _ ⟨rfl,rfl⟩;rw[show decide _=true from by decide];refine Kl ?_;refine Ov ?_;refine ZX aV ?_;refine Kl ?_;refine Ov ?_;refine Oj rfl (fileB_c (r2.ext hS.keeps) (hV18.ext hS.keeps)) ?_;rintro _ _ ⟨rfl,rfl⟩;rw[e12];refine Og (dj:=235) rfl rfl ?_;refine KOps.wEql ?_;refine Kl ?_;refine O2 [0] ?_;refine Oi ?_;exact⟨rfl,hK18.trans hS.keeps⟩
end Go.Am
namespace Go.Am
theorem VRels.split {φ:Emb} {a b:List AV} {cs:List Value} {s:Nat} (h1:VRels φ a (cs.take s)) (h2:VRels φ b (cs.drop s)) (hs:s≤cs.length):VRels φ (a ++ b) cs∧(a ++ b).take s=a∧(a ++ b).drop s=b:=by
 have ha:a.length=s:=by rw[h1.1,fD]; omega
 have h3:=VRels.append h1 h2;rw[fS] at h3;exact⟨h3,by rw[←ha,List.take_left],by rw[←ha,List.drop_left]⟩
end Go.Am
namespace Go
variable {H:Type} {enc:TypeId × Value→H}
theorem returnsInHanded_of_change_andShaped {a : Assume} {C : Checked} {os : Os} {f : FuncId} {fn : Func} {s : ChangeSpec} {conds : List PathCond} {apart fresh handsOn again : Bool} {X : World → Array Value → Prop}
    (hX:∀ (w w':World) (args:Array Value),w.heap=w'.heap→X w args→X w' args)
    (own:ownKnob C.prog.godebug=none) (started:os.Started) (noInit:C.prog.inits.idxOf? f=none) (hfn:C.prog.funcs[f]? = some fn)
    (witness : ∃ (w : World) (tape : Tape) (i : Input), w.os = os ∧ (w.forCall tape i).Shaped C.prog ∧ i.vars = [] ∧ Input.okWide C.prog (w.forCall tape i) .any w.heap.size f i ∧
      ((s.pre enc C.prog fn conds apart (w.forCall tape i).memory i.args∧X (w.forCall tape i).memory i.args)∧sizedMet enc C.prog fn (OpenSpec.ofChange s) apart (w.forCall tape i).memory i.args)∧a.holds C.prog (lone (Frame.enter C.prog f i.args .normal) [] (w.forCall tape i)))
    (contract : ∀ (W : World) (base : Nat) (args : Array Value) (ds gs : List (DataW H)) (before : List MemPlace),
      (∀ (j:Nat) t v,fn.params[j]? = some t→args[j]? = some v→Value.okWide C.prog W .any base t v)→
      DataW.Whole enc C.prog fn.params.toList s.vars apart W args.toList ds gs before→
      conds.all (PathCond.test C.prog ⟨fn.params.toList,ds,s.plain.varTypes C.prog,gs⟩)=true→
      (DataW.weightsEach C.prog (fn.params.toList ++ s.plain.varTypes C.prog) (ds ++ gs)).all (·≤reachBytes)=true→X W args→W.ShapedOpen C.prog→
      a.holds C.prog (lone (Frame.enter C.prog f args .normal) [] W)→
      Calls C.prog f args W fun e W'=>∃ v,e = .returned v∧s.post enc C.prog fn apart fresh handsOn again W args v W') :
    ReturnsInHanded a C os f .any (fun w args=>(s.pre enc C.prog fn conds apart w args∧X w args)∧sizedMet enc C.prog fn (OpenSpec.ofChange s) apart w args) (s.post enc C.prog fn apart fresh handsOn again):=by
 refine returnsInHanded_of_calls own started noInit witness ?_;intro w tape i _ hsh _ hok hpre hholds;obtain⟨_,_,_,fn',hfn',_,_,_,_,hval⟩:=hok;have e:fn'=fn:=fB (hfn'.symm.trans hfn);subst e;obtain⟨⟨⟨ds,gs,before,hw,hc⟩,hx⟩,hz⟩:=hpre;have hw':=DataW.Whole.of_heap (w':=w.forCall tape i) (by rfl) hw;refine(contract (w.forCall tape i) w.heap.size i.args ds gs before hval hw' hc (hz.weights hw) (hX _ _ _ (by rfl) hx) hsh hholds).mono fun e W' ⟨v,he,hp⟩=>?_
 subst he;exact ChangeSpec.post_blind hp
end Go
namespace Go.Am
open Go.ChangeShapes Go.WideShapes
def VF (W:World) (g:Nat) (cs:List AV):Prop:=(∃ c e f,W.heap[g]? = some (.cells c e f)∧c.size=cs.length)∧∀ j x,cs[j]? = some x→∃ v,W.cell? ⟨g,j,none⟩=some v∧∀ φ,VRel φ x v
theorem VF.push {W:World} {φ:Emb} {h:AHeap} (im:Imp W φ h) {g:Nat} {cs:List AV} (v:VF W g cs) (p0:Nat):Imp W (fun b=>if b=h.next then some (g,0,cs.length) else φ b) (h.push (.cells none p0 cs))∧φ.le (fun b=>if b=h.next then some (g,0,cs.length) else φ b):=by
 refine im.pushP p0 cs _ ?_;intro k i z hq;cases hq;obtain⟨⟨c,e,f,h1,h2⟩,h3⟩:=v;refine⟨(Array.getElem?_eq_some_iff.1 h1).1,fun j x hx=>?_,fun _=>⟨rfl,c,e,f,h1,h2⟩⟩;obtain⟨v,h4,h5⟩:=h3 j x hx;exact⟨v,by rw[Nat.zero_add]; exact h4,h5 _⟩
theorem Imp.none {W:World} {φ:Emb} {h:AHeap} (im:Imp W φ h):Imp W (fun b=>if b=h.next then .none else φ b) (h.push (.cells .none 0 [])):=(im.push [] .none (by intro k i z hq; cases hq)).1
theorem Imp.vars {W:World} {a b c:List AV} (ha:VF W 0 a) (hb:VF W 3 b) (hc:VF W 4 c):∃ φ h,Imp W φ h∧(h.globs.contains 0=true∧Rd h (.ptr 0 0) 0 a)∧VarAt h 3 b∧VarAt h 4 c:=by
 have im:=(VF.push (VF.push ((VF.push (Imp.empty W) ha 0).1.none).none hb 1).1 hc 1).1;refine⟨_,⟨_,_,[0,3,4]⟩,⟨⟨?_,im.rel.lt,im.rel.blk,im.rel.arr,im.rel.one,im.rel.sep,im.rel.map,im.rel.ext⟩,im.ro,im.out⟩,⟨rfl,.inr (.inl ⟨0,0,.none,0,a,.inr ⟨rfl,rfl⟩,rfl,rfl,by rw[List.drop_zero,fF]⟩)⟩,⟨rfl,rfl⟩,rfl,rfl⟩;intro g hg;have hg:g=0∨g=3∨g=4:=by simpa using hg
 rcases hg with rfl|rfl|rfl
 exact⟨a.length,rfl⟩;exact⟨b.length,rfl⟩;exact⟨c.length,rfl⟩
def laidL:List (String × DataW Unit):=[("math/bits.deBruijn32tab",Go.Proofs.YtgnogfjajnnaoaaGreatDoor.Rows.laid_math_bits_deBruijn32tab),("math/bits.deBruijn64tab",Go.Proofs.YtgnogfjajnnaoaaGreatDoor.Rows.laid_math_bits_deBruijn64tab),("internal/strconv.uint64pow10",Go.Proofs.YtgnogfjajnnaoaaGreatDoor.Rows.laid_internal_strconv_uint64pow10),("unicode/utf8.acceptRanges",Go.Proofs.YtgnogfjajnnaoaaGreatDoor.Rows.laid_unicode_utf8_acceptRanges),("spadille/stamp.sizes",Go.Proofs.YtgnogfjajnnaoaaGreatDoor.Rows.laid_spadille_stamp_sizes),("unicode/utf8.first",Go.Proofs.YtgnogfjajnnaoaaGreatDoor.Rows.laid_unicode_utf8_first)]
def litI : DataW Unit → Option Int
  | .lit (.int _ n)=>some n
  | _=>none
def aggL : DataW Unit → List (DataW Unit)
  | .agg l=>l
  | _=>[]
def sizeL:List Int:=(List.range 64).map fun s=>((Ks s 6).length:Int)
def powL:List Int:=Lib.pow10Tab
theorem sizes_lits:(aggL Go.Proofs.YtgnogfjajnnaoaaGreatDoor.Rows.laid_spadille_stamp_sizes).map litI=sizeL.map some:=by decide +kernel
theorem pow_lits:(aggL Go.Proofs.YtgnogfjajnnaoaaGreatDoor.Rows.laid_internal_strconv_uint64pow10).map litI=powL.map some:=by decide +kernel
theorem US {W : World} {l : List Int} {lay : DataW Unit} {k : IntKind} {g t et n : Nat} {nm : String} {cs : Array Value} {f : Nat} {p : List MemPlace}
    (hU:Go.Proofs.Tryz.prog.underlying t=some (.array n et)) (hE:Go.Proofs.Tryz.prog.underlying et=some (.int k)) (c1:Go.Proofs.Tryz.prog.cellsOf et=1) (c2:Go.Proofs.Tryz.prog.cellsOf t=l.length) (hn:n=l.length) (hlits:(aggL lay).map litI=l.map some)
    (hg0:Go.Proofs.Tryz.prog.globalNamed nm=some g) (hv0:W.var? Go.Proofs.Tryz.prog nm=some cs)
    (hd0:DataW.trod (fun _=>()) Go.Proofs.Tryz.prog W 0 (fun _=>true) false f t cs.toList=some (lay,p)) :
    VF W g (l.map fun v=>AV.int k v):=by
 obtain⟨xs,m,rfl,hx1,hl,hxl,hx⟩:=DataW.trod_array hU hd0;rw[c2] at hl;have hd:=(Prod.mk.inj hx1).1;have hxs:xs.map (fun x=>litI x.1)=l.map some:=by
  rw[←hlits,hd];show _=(xs.map (·.1)).map litI;rw[List.map_map]; rfl
 have key:∀ i (hi:i<l.length),cs.toList[i]? = some (.int k l[i]):=by
  intro i hi;have h2:=hx i aB;rw[c1,Nat.mul_one,fA aB] at h2;obtain⟨c,h3,h4,_⟩:=DataW.trod_int hE h2;have h5:((cs.toList.drop i).take 1)[0]? = some (.int k c):=by rw[h3]; rfl
  have h6:cs.toList[i]? = some (.int k c):=by simpa [List.getElem?_take,List.getElem?_drop] using h5
  have h7:=congrArg (fun l=>l[i]?) hxs;simp only[fW,fA (show i<xs.length by omega),fA hi,Option.map_some,fX] at h7;rw[h4] at h7;have h8:c=l[i]:=by simpa [litI] using h7
  rw[h6,h8]
 refine⟨?_,fun i x hx=>?_⟩;have hv:=hv0;simp only[World.var?,hg0,Option.bind_some] at hv;split at hv;rename_i c e f' he;cases hv;exact⟨_,_,_,he,by rw[fQ,←hl,Array.length_toList]⟩;cases hv;have hi:i<l.length:=by
  have:=(fP.1 hx).1;rwa [fQ] at this
 rw[fW,fA hi] at hx;cases hx;refine⟨.int k l[i],?_,fun φ=>.int _ _⟩;rw[World.var?_cell hg0 hv0 i,←Array.getElem?_toList];exact key i hi
theorem vf_int {W : World} {g : Nat} {t : TypeId} {k : IntKind} (h : W.ShapedOpen Go.Proofs.Tryz.prog) (hg : g < Go.Proofs.Tryz.prog.globals.size)
    (h0:((Go.begin Go.Proofs.Tryz.prog (fun _ _=>0) default).world.heap[g]?).bind Obj.row? = some (#[.int k 0],t))
    (hb:Go.Proofs.Tryz.prog.buildable t=true) (hc:Go.Proofs.Tryz.prog.cellTypes Go.Proofs.Tryz.prog.depth t=some [t]) (hu:Go.Proofs.Tryz.prog.underlying t=some (.int k)) :
    ∃ m,VF W g [.int k m]:=by
 obtain⟨m,hm⟩:=Go.Proofs.cell_of_shapedOpen_int h hg h0 rfl hb hc hu;obtain⟨cs,hh,hs,_⟩:=h.1 g _ t hg h0;refine⟨m,⟨cs,_,_,hh,hs⟩,fun j x hx=>?_⟩;have hj:j=0:=by
  have:=(fP.1 hx).1;simpa using this
 subst hj;cases hx;exact⟨_,hm,fun φ=>.int _ _⟩
theorem vs_laid {W:World} (h:laidMetH Go.Proofs.Tryz.prog laidL W) (hs:W.ShapedOpen Go.Proofs.Tryz.prog):∃ φ hp,Imp W φ hp∧Vs hp:=by
 rw[MakeChecks.laidMetH_plain _ _ _ aF] at h;obtain⟨ps,⟨g0,t0,cs0,f0,p0,q0,hg0,ht0,hv0,hd0,⟨g1,t1,cs1,f1,p1,q1,hg1,ht1,hv1,hd1,⟨g2,t2,cs2,f2,p2,q2,hg2,ht2,hv2,hd2,⟨g3,t3,cs3,f3,p3,q3,hg3,ht3,hv3,hd3,⟨g4,t4,cs4,f4,p4,q4,hg4,ht4,hv4,hd4,⟨g5,t5,cs5,f5,p5,q5,hg5,ht5,hv5,hd5,_,_⟩,_⟩,_⟩,_⟩,_⟩,_⟩,_,_⟩:=h;obtain rfl:=fB ((show Go.Proofs.Tryz.prog.globalNamed "internal/strconv.uint64pow10" = some 4 by kernel_rfl).symm.trans hg2);obtain rfl:=fB ((show(Go.Proofs.Tryz.prog.globals[4]?).map (·.type)=some 269 by kernel_rfl).symm.trans ht2);obtain rfl:=fB ((show Go.Proofs.Tryz.prog.globalNamed "spadille/stamp.sizes" = some 0 by kernel_rfl).symm.trans hg4);obtain rfl:=fB ((show(Go.Proofs.Tryz.prog.globals[0]?).map (·.type)=some 230 by kernel_rfl).symm.trans ht4);have a0:=US Go.Proofs.Tryz.underlying230 Go.Proofs.Tryz.underlying229 aF (show _=sizeL.length by kernel_rfl) rfl sizes_lits hg4 hv4 hd4;have a4:=US Go.Proofs.Tryz.underlying269 Go.Proofs.Tryz.underlying238 aF (show _=powL.length by kernel_rfl) rfl pow_lits hg2 hv2 hd2;obtain⟨m,a3⟩:=vf_int (g:=3) (t:=3) (k:=.i64) hs (of_decide_eq_true aF) aF aF aF Go.Proofs.Tryz.underlying3;have e0:Ur=sizeL.map fun v=>AV.int .i8 v:=by rw[Ur,sizeL,List.map_map]; rfl
 rw[←e0] at a0;obtain⟨φ,hp,im,h0,h3,h4⟩:=Imp.vars a0 a3 a4;exact⟨φ,hp,im,h0,⟨m,h3⟩,h4⟩
end Go.Am
namespace Go.Am
open Go.ChangeShapes Go.WideShapes
theorem rows_words {h:AHeap}:∀ {rows:List (List AV)} {xs:List ByteArray},rows.length=xs.length→(∀ (i:Nat) (r:List AV) (x:ByteArray),rows[i]? = some r→xs[i]? = some x→r.length=1∧EStr h r x)→rows.flatten=wcs (xs.map fun b=>b.data.toList):=by
 intro rows
 induction rows with
 | nil=>intro xs hl _; rw[List.length_eq_zero_iff.1 hl.symm]; rfl
 | cons r rows ih=>
  intro xs hl hx
  cases xs with
  | nil=>cases hl
  | cons x xs=>
   obtain⟨_,h1,_⟩:=hx 0 r x rfl rfl;have ih2:=ih bC (fun i r y hr hy=>hx (i+1) r y (by simpa using hr) bT);rw[List.flatten_cons,ih2,h1];show [AV.str x] ++ _=AV.str (wd x.data.toList)::_;rw[←wd_of x]; rfl
theorem words_of {h:AHeap} {av:AV} {x:List ByteArray} (hE:ESl 1 EStr h [av] x):∃ ls:List Str,WRow h av ls:=by
 obtain⟨v,rows,h2,h3,h4,h5⟩:=hE;cases h2;refine⟨x.map fun b=>b.data.toList,?_⟩;unfold WRow;rw[←rows_words h4 h5]; exact h3
theorem ic_words {H:Type} {enc:TypeId × Value→H}:IC enc Go.Proofs.Tryz.prog 22 (ESl 1 EStr):=
  IC.slice (s:=1) Go.Proofs.Tryz.underlying22 aF aD (IC.str Go.Proofs.Tryz.underlying9)
end Go.Am
namespace Go.Am
def kB:Str:=[115,112,97,100,105,108,108,101]
def kEnd:Str:=[101,110,100,32]
def numP (i:Nat):Str:=Lib.itoa (i:Int) ++ [46,32]
def cutAt (i:Nat) (l:Str):Str:=l.drop (numP i).length
def cutTo (ls : List Str) : Nat → List Str
  | 0=>ls
  | i+1=>(cutTo ls i).set (i+1) (cutAt (i+1) (ls.getD (i+1) []))
def goodTo (ls : List Str) : Nat → Bool
  | 0=>true
  | i+1=>goodTo ls i && (numP (i+1)).isPrefixOf (ls.getD (i+1) [])
def VN (f:Str):List Str:=OH 10 f.dropLast
def lastL (ls:List Str):Str:=ls.getD (ls.length - 1) []
def endE (f:Str) (e:Str):Int:=
  if kEnd.isPrefixOf e=false∨K6 (e.drop 4) 4=false∨9972<K9 (e.drop 4) then 9
  else if K9 (e.drop 4)≠Go.Proofs.Tryz.sumTo (f.take (f.length - e.length - 1)) then 17 else 0
def Wt (f:Str):Int:=
  if 18000<f.length then 19 else if [10].isSuffixOf f=false then 18
  else if (VN f).length<2∨(VN f).getD 0 []≠kB then 9
  else if goodTo (VN f) ((VN f).length - 2)=false then 9
  else endE f (lastL (VN f))
def fileB (f:Str):List Str:=((cutTo (VN f) ((VN f).length - 2)).drop 1).take ((VN f).length - 2)
noncomputable def Va (bk : List Str) : List Str → Int × List Str
  | []=>(0,bk)
  | x::r=>if Kk bk x=0 then Va (bk ++ [x]) r else (Kk bk x,bk)
theorem doAll_app:∀ (l m bk:List Str),(Va bk l).1=0→Va bk (l ++ m)=Va (bk ++ l) m:=by
 intro l
 induction l with
 | nil=>intro m bk _; simp
 | cons x r ih=>
  intro m bk h;rw[gA];unfold Va at h;by_cases hx:Kk bk x=0;rw[if_pos hx] at h;rw[Va,if_pos hx,ih m _ h]; simp;rw[if_neg hx] at h; exact absurd h hx
theorem Done.all {lines:List Str} (hD:Done lines):Va [] lines=(0,lines):=by
 induction hD with
 | nil=>rfl
 | @snoc lines line hD he ih=>
  rw[doAll_app _ _ _ (by rw[ih]),List.nil_append,Va,if_pos he]; rfl
theorem splitC_app (c:UInt8):∀ (a b:Str),c ∉ a→OH c (a ++ c::b)=a::OH c b:=by
 intro a
 induction a with
 | nil=>intro b _; simp[OH]
 | cons x a ih=>
  intro b h;simp only[List.mem_cons,not_or] at h;simp only[gA,OH,if_neg (fun e=>h.1 (Eq.symm e)),ih b h.2]
def dgs (w:Str):Prop:=∀ c∈w,48≤c.toNat∧c.toNat≤57
theorem isNum_iff {w:Str} {k:Nat}:K6 w k=true↔w≠[]∧w.length≤k∧(w.length=1∨w.head?≠some 48)∧dgs w:=by
 unfold K6 dgs;simp only[Bool.and_eq_true,Bool.or_eq_true,decide_eq_true_eq,Bool.not_eq_true',decide_eq_false_iff_not,fC,and_assoc]
end Go.Am
namespace Go.Am
noncomputable def readF (f:Str):Int:=if Wt f=0 then (Va [] (fileB f)).1 else Wt f
end Go.Am
namespace Go.Am
theorem k1:Wt [115,112,97,100,105,108,108,101,10,101,110,100,32,56,56,52,10]=17:=by decide +kernel
theorem k2:Wt [115,112,97,100,105,108,108,101,10,101,110,100,32,48,56,56,51,10]=9:=by decide +kernel
theorem k3:Wt [115,112,97,100,105,108,108,101,10,101,110,100,32,56,56,51,10]=0:=by decide +kernel
theorem k4:fileB [115,112,97,100,105,108,108,101,10,101,110,100,32,56,56,51,10] = []:=by decide +kernel
theorem k5:readF [115,112,97,100,105,108,108,101,10,101,110,100,32,56,56,51,10]=0:=by rw[readF,if_pos k3,k4]; rfl
theorem k6:(after bLines).whyL sIn 7 = [sTax]∧(after bLines).whyE sIn 7=0:=Rj (a:=5) (b:=6) aU
theorem q0:Kk bLines [114,111,111,109,32,84,97,120]=10:=QK aU
theorem q1:Kk bLines [114,111,111,109]=5:=QK aU
theorem q2:Kk bLines [102,108,121,32,120]=8:=QK aU
theorem q3:Kk bLines [112,97,99,107,32,48,32,105,110]=1:=QK aU
theorem q4:Kk bLines [108,101,97,115,116,32,105,110,32,49,48,48]=1:=QK aU
theorem q5:Kk bLines [112,97,99,107,32,48,55,32,105,110]=9:=QK aU
end Go.Am
namespace Go.Am
theorem sure_len {O:Off}:O.sureL.length≤O.ways.length:=by
 rw[Off.sureL,fQ]; exact List.length_filter_le _ _
theorem WF.pks_len {O:Off} (hW:WF O) (w:Str):(O.pks w).length≤99:=by
 unfold Off.pks
 cases hm:OC O.ways w with
 | none=>exact fL _
 | some l=>
  obtain⟨i,hi,h1,_⟩:=YC hm;exact hW.lp (w,l) (List.mem_of_getElem? h1)
theorem Done.take {l:List Str} (hD:Done l) (i:Nat):Done (l.take i):=by
 induction hD with
 | nil=>rw[List.take_nil]; exact .nil
 | @snoc lines line h he ih=>
  by_cases hi:i≤lines.length;rw[fJ hi]; exact ih;rw[List.take_of_length_le bG]; exact .snoc h he
theorem Done.one {l:List Str} (hD:Done l):∀ i,i<l.length→Kk (l.take i) (l.getD i [])=0:=by
 induction hD with
 | nil=>intro i hi; cases hi
 | @snoc lines line h he ih=>
  intro i hi;by_cases hl:i<lines.length;rw[fJ (Nat.le_of_lt hl),ZO _ hl]; exact ih i hl;have:i=lines.length:=by rw[fN,fH] at hi; omega
  subst this;rw[List.take_left',fE,List.getElem?_concat_length];exact he;rfl
end Go.Am
namespace Go.Am
def XZ (l:Str):Prop:=[]∈OH 32 l∨(l.any fun c=>decide (c.toNat<32∨126<c.toNat))=true
instance (l:Str):Decidable (XZ l):=inferInstanceAs (Decidable (_∨_))
def okC (c:UInt8):Prop:=32≤c.toNat∧c.toNat≤126
theorem badCh {l:Str} {i:Nat} (hi:i<l.length) (h:¬ okC (l.getD i 0)):XZ l:=by
 right;rw[fE,fA hi,fU] at h;rw[List.any_eq_true];refine⟨_,gE hi,decide_eq_true ?_⟩;unfold okC at h;omega
theorem goodC {l:Str} (h:∀ j,j<l.length→okC (l.getD j 0)):(l.any fun c=>decide (c.toNat<32∨126<c.toNat))=false:=by
 rw[List.any_eq_false];intro c hc;obtain⟨i,hi,rfl⟩:=fY.1 hc;have:=h i hi;rw[fE,fA hi,fU] at this;unfold okC at this;rw[decide_eq_true_eq];omega
theorem toNat32 {c:UInt8}:c.toNat=32↔c=32:=⟨fun h=>UInt8.toNat_inj.1 h,fun h=>by subst h; rfl⟩
theorem TV {l:Str} {f i:Nat} (hf:f≤i) (hi:i<l.length) (hn:∀ j,f≤j→j<i→l.getD j 0≠32) (h:l.getD i 0=32):OH 32 (l.drop f)=(l.take i).drop f::OH 32 (l.drop (i+1)):=by
 have e:l.drop f=(l.take i).drop f ++ 32::l.drop (i+1):=by
  have h1:l.drop i=32::l.drop (i+1):=by
   rw[fE,fA hi,fU] at h;rw[←h,List.getElem_cons_drop]
  rw[←h1,←List.drop_append_of_le_length bB,fS]
 rw[e,splitC_app];intro hm;obtain⟨j,hj,he⟩:=fY.1 hm;rw[fG,fD] at hj;refine hn (f+j) aB aB ?_;rw[fZ,List.getElem_take] at he;rw[fE,fA aB,fU,he]
theorem split_end {l:Str} {f:Nat} (hf:f≤l.length) (hn:∀ j,f≤j→j<l.length→l.getD j 0≠32):OH 32 (l.drop f) = [(l.take l.length).drop f]:=by
 rw[fF,RN];intro hm;obtain⟨j,hj,he⟩:=fY.1 hm;rw[fG] at hj;refine hn (f+j) aB aB ?_;rw[fZ] at he;rw[fE,fA aB,fU,he]
structure Wds (l:Str) (f i:Nat) (ws:List Str):Prop where
  fi:f≤i
  il:i≤l.length+1
  ok:∀ j,j<i→j<l.length→okC (l.getD j 0)
  no:∀ j,f≤j→j<i→j<l.length→l.getD j 0≠32
  ne : [] ∉ ws
  mid:i≤l.length→OH 32 l=ws ++ OH 32 (l.drop f)
  fin:l.length<i→OH 32 l=ws
  ln:ws.length≤i
theorem Wds.init (l:Str):Wds l 0 0 []:=⟨fM _,fL _,fun j h=>by omega,fun j _ h=>by omega,by simp,fun _=>rfl,fun h=>by omega,fM _⟩
theorem Wds.on {l:Str} {f i:Nat} {ws:List Str} (w:Wds l f i ws) (hi:i<l.length) (h1 : 33≤(l.getD i 0).toNat∧(l.getD i 0).toNat≤126):Wds l f (i+1) ws:=by
 refine⟨by have:=w.fi; omega,by omega,fun j h2 h3=>?_,fun j h0 h2 h3=>?_,w.ne,fun _=>w.mid aB,fun h=>by omega,by have:=w.ln; omega⟩;rcases fI.1 h2 with h4|rfl
 exact w.ok j h4 h3;unfold okC; omega;rcases fI.1 h2 with h4|rfl
 exact w.no j h0 h4 h3;intro e;rw[e] at h1;have:(32:UInt8).toNat=32:=rfl;omega
theorem Wds.sp {l:Str} {f i:Nat} {ws:List Str} (w:Wds l f i ws) (hi:i<l.length) (h1:l.getD i 0=32) (hne:i≠f):Wds l (i+1) (i+1) (ws ++ [(l.take i).drop f]):=by
 have hf:=w.fi;refine⟨fM _,by omega,fun j h2 h3=>?_,fun j h0 h2 h3=>by omega,?_,fun _=>?_,fun h=>by omega,by have:=w.ln; rw[fN,fH]; omega⟩;rcases fI.1 h2 with h4|rfl
 exact w.ok j h4 h3;rw[h1]; exact⟨by decide,by decide⟩;intro hm;rw[gO,fV] at hm;rcases hm with hm|hm
 exact w.ne hm;have:=congrArg List.length hm;rw[fG,fD,gU] at this;omega;rw[w.mid aB,TV hf hi (fun j a b=>w.no j a b aB) h1,List.append_assoc]; rfl
theorem Wds.en {l:Str} {f i:Nat} {ws:List Str} (w:Wds l f i ws) (hi:i=l.length) (hne:i≠f):Wds l (i+1) (i+1) (ws ++ [(l.take i).drop f]):=by
 subst hi;have hf:=w.fi;refine⟨fM _,by omega,fun j h2 h3=>w.ok j h3 h3,fun j h0 h2 h3=>by omega,?_,fun h=>by omega,fun _=>?_,by have:=w.ln; rw[fN,fH]; omega⟩;intro hm;rw[gO,fV] at hm;rcases hm with hm|hm
 exact w.ne hm;have:=congrArg List.length hm;rw[fG,fD,gU] at this;omega;rw[w.mid aB,split_end hf (fun j a b=>w.no j a b b)]
theorem Wds.good {l:Str} {f i:Nat} {ws:List Str} (w:Wds l f i ws) (hi:l.length<i):¬ XZ l∧OH 32 l=ws:=by
 have h1:=w.fin hi;refine⟨?_,h1⟩;rintro(h|h);rw[h1] at h; exact w.ne h;rw[goodC (fun j hj=>w.ok j aB hj)] at h; cases h
theorem Wds.bad {l:Str} {f i:Nat} {ws:List Str} (w:Wds l f i ws) (hi:i≤l.length) (he:i=f) (h1:i=l.length∨l.getD i 0=32):XZ l:=by
 left;rw[w.mid hi];subst he;refine List.mem_append_right _ ?_;rcases h1 with rfl|h1
 rw[List.drop_length]; simp[OH];have hlt:i<l.length:=by
  apply Classical.byContradiction;intro hn;rw[fE,List.getElem?_eq_none aB] at h1;cases h1
 rw[TV (fM _) hlt (fun j a b=>by omega) h1];refine List.mem_cons.2 (.inl ?_);rw[List.drop_eq_nil_of_le bB]
def Ux (l:Str):List Str:=if XZ l then [] else OH 32 l
theorem Wd {l:Str} {h h':AHeap} {X:List Obj} (hb:XZ l) (st:St h h' X):∃ v,AV.tup [.nils,.bool false] = .tup [v,.bool (!decide (XZ l))]∧St h h' [⟨v,1,wcs (Ux l),true⟩]:=by
 refine⟨.nils,by rw[decide_eq_true hb]; rfl,?_⟩;rw[Ux,if_pos hb];exact(St.drop (A:=X) (by rw[gI]; exact st)).nil 1
theorem Uf {h:AHeap} {n lo hi:Int}:ACalls Go.Proofs.Tryz.prog 118 [.int .i64 n,.int .i64 lo,.int .i64 hi] h (fun q h'=>q = .bool (decide (lo≤n∧n≤hi))∧h=h'):=by
 refine OV 15 [.tmp 6] Go.Proofs.Tryz.func118 rfl aD rfl rfl (fO rfl) ?_;show KA _ 15 _ _ [(0,.int .i64 n),(1,.int .i64 lo),(2,.int .i64 hi)] _;refine Oa [0,1,2] ?_;refine Oc ?_;refine Oy (dj:=10) rfl rfl true false rfl ?_ ?_;intro g10;have g10:=of_decide_eq_true g10;refine eG ?_;exact⟨congrArg AV.bool (decide_eq_decide.2 ⟨fun q=>⟨g10,q⟩,fun q=>q.2⟩),rfl⟩;intro g10;have g10:=of_decide_eq_false g10;refine eG ?_;exact⟨congrArg AV.bool (decide_eq_false (fun q=>g10 q.1)).symm,rfl⟩
theorem words_c {h:AHeap} {l:Str} (hl:l.length≤1000000):ACalls Go.Proofs.Tryz.prog 141 [.str (wd l)] h (fun q h'=>∃ v,q = .tup [v,.bool (!decide (XZ l))]∧St h h' [⟨v,1,wcs (Ux l),true⟩]):=by
 refine OV 42 [.tmp 2,.tmp 3] Go.Proofs.Tryz.func141 rfl aD rfl rfl (fO rfl) ?_;have hS:=St.refl h;show KA _ 42 _ _ [(0,.str (wd l))] _;refine Oa [0] ?_;refine bj ?_;refine bj ?_;refine cn ?_;refine Kc (X:=Nat × Nat × AV) (fun x=>[(0,.str (wd l)),(4,x.2.2),(5,.int .i64 (x.1:Int)),(6,.int .i64 (x.2.1:Int))]) (fun x h'=>∃ ws,Wds l x.1 x.2.1 ws∧St h h' [⟨x.2.2,1,wcs ws,true⟩]) (fun x=>l.length+1 - x.2.1) (0,0,.nils) ?_ ?_;exact⟨[],Wds.init l,hS.nil 1⟩;rintro⟨f,i,v4⟩ h2 ⟨ws,hw,hS⟩;dsimp only at hw hS⊢;have hfi:=hw.fi;have hil:=hw.il;have hln:=hw.ln;refine Oa [0,4,5,6,10] ?_;refine Ok ?_ ?_
 ·intro c10;refine On [0,4,5,6] ?_;refine dw ?_;refine Oy (dj:=17) rfl rfl true false rfl ?_ ?_
  ·intro g17;have g17:=of_decide_eq_true g17;have hlt:i<l.length:=by omega
   refine Oc ?_;refine Q2 (j:=i) rfl aA ?_;refine Oa [0,4,5,6,18,19,20,21,22] ?_;refine O3 ?_ ?_
   ·intro c22
    try have hlt:i<l.length:=by omega
    refine Oc ?_;refine Q2 (j:=i) rfl aA ?_;refine KOps.convU aB (by have:=(l.getD i 0).toNat_lt; omega) ?_;refine Oj rfl (Uf) ?_;rintro _ _ ⟨rfl,rfl⟩;refine Oa [0,4,5,6,18,19,20,21,28] ?_;refine O3 ?_ ?_;intro c28;refine cM ?_;exact Wd (badCh hlt (by unfold okC; omega)) hS;intro c28;refine On [0,4,5,6,18,19,20,21] ?_;refine dx ?_;refine bw ?_;exact lpN (f,i+1,v4) ⟨ws,hw.on hlt ⟨by omega,by omega⟩,hS⟩ aL
   ·intro c22;refine On [0,4,5,6,18,19,20,21] ?_;refine Oa [0,4,5,6,18,19,20,21,31] ?_;refine Ok ?_ ?_;intro c31;refine cM ?_;exact Wd (hw.bad aB aB (.inr (toNat32.1 aB))) hS
    ·intro c31;refine On [0,4,5,6,18,19,20,21] ?_;refine Oc ?_;refine KOps.wBoth (i:=f) (j:=i) rfl rfl aA aA ?_;refine cH ?_;intro v37 h' hS;refine K3 hS (fun _=>rfl) (i:=0) rfl aA ?_;intro r38 h' hr38 hS;refine Oa [0,4,6,18,19,20,21] ?_;refine cj ?_;refine Od ?_;refine Oo [0,4,5,6,18,19,20,21] ?_;refine bw ?_;exact lpN (i+1,i+1,r38) ⟨_,hw.sp hlt (toNat32.1 aB) aB,hS⟩ aL
  ·intro g17;have g17:=of_decide_eq_false g17;refine Oa [0,4,5,6,18,19,20,21,22] ?_;refine OP ?_;refine On [0,4,5,6,18,19,20,21] ?_;refine Oa [0,4,5,6,18,19,20,21,31] ?_;refine Ok ?_ ?_;intro c31;refine cM ?_;exact Wd (hw.bad aB aB (.inl aB)) hS
   ·intro c31;refine On [0,4,5,6,18,19,20,21] ?_;refine Oc ?_;refine KOps.wBoth (i:=f) (j:=i) rfl rfl aA aA ?_;refine cH ?_;intro v37 h' hS;refine K3 hS (fun _=>rfl) (i:=0) rfl aA ?_;intro r38 h' hr38 hS;refine Oa [0,4,6,18,19,20,21] ?_;refine cj ?_;refine Od ?_;refine Oo [0,4,5,6,18,19,20,21] ?_;refine bw ?_;exact lpN (i+1,i+1,r38) ⟨_,hw.en aB aB,hS⟩ aL
 intro c10;refine bh ?_;refine Oo [4] ?_;refine cM ?_;obtain⟨h1,h2⟩:=hw.good aB;exact⟨v4,by rw[decide_eq_false h1]; rfl,by rw[Ux,if_neg h1,h2]; exact hS⟩
theorem u8w {a:Int} (h1 : 0≤a) (h2:a≤255):IntKind.u8.wrap a=a:=by
 unfold IntKind.wrap;simp only[IntKind.bits,IntKind.signed,Bool.false_and];rw[if_neg aD];exact Int.emod_eq_of_lt h1 aB
theorem num_all {l:Str} {m:Nat} (hb:∀ q,q<l.length→ZU (l.getD q 0)=true) (h1 : 1≤l.length) (h2:l.length≤m) (h3:¬ (1<l.length∧(l.getD 0 0).toNat=48)):K6 l m=true:=by
 have h4:=Ue hb;unfold K6;rw[h4,decide_eq_true (show l≠[] by intro e; subst e; cases h1),decide_eq_true h2]
 cases l with
 | nil=>cases h1
 | cons c l=>
  simp only[List.length_cons,List.getD_cons_zero,List.head?_cons,Bool.true_and,Bool.and_true,Bool.or_eq_true,decide_eq_true_eq,Bool.not_eq_true',decide_eq_false_iff_not,fX] at h3⊢;by_cases h5:l.length+1=1;exact .inl h5;right;intro e;subst e;exact h3 ⟨by omega,by decide⟩
theorem num_len {l:Str} {m:Nat} (h:¬ (1≤l.length∧l.length≤m)):K6 l m=false:=by
 cases hq:K6 l m with
 | false=>rfl
 | true=>
  obtain⟨h1,h2,_⟩:=isNum_iff.1 hq;exact absurd ⟨fK.2 h1,h2⟩ h
theorem num_zero {l:Str} {m:Nat} (h1 : 1<l.length) (h2:(l.getD 0 0).toNat=48):K6 l m=false:=by
 cases hq:K6 l m with
 | false=>rfl
 | true=>
  obtain⟨_,_,h3,_⟩:=isNum_iff.1 hq
  cases l with
  | nil=>cases h1
  | cons c l=>
   rcases h3 with h3|h3
   omega;exact absurd (congrArg some (UInt8.toNat_inj.1 h2)) h3
def lowC (c:UInt8):Bool:=decide (97≤c.toNat∧c.toNat≤122)
theorem name_no {l:Str} {p:Nat} (hp:p<l.length) (h:lowC (l.getD p 0)=false):XU l=false:=by
 have:(l.all fun c=>decide (97≤c.toNat∧c.toNat≤122))=false:=by
  rw[List.all_eq_false];rw[fE,fA hp,fU] at h;refine⟨_,gE hp,?_⟩;unfold lowC at h;rw[h]; decide
 unfold XU;rw[this,Bool.and_false]
theorem name_is {l:Str} (h:∀ q,q<l.length→lowC (l.getD q 0)=true):XU l=decide (1≤l.length∧l.length≤12):=by
 have:(l.all fun c=>decide (97≤c.toNat∧c.toNat≤122))=true:=by
  rw[fC];intro x hx;obtain⟨i,hi,rfl⟩:=fY.1 hx;have:=h i hi;rw[fE,fA hi,fU] at this;exact this
 unfold XU;rw[this,Bool.and_true,Bool.decide_and,show decide (l≠[])=decide (1≤l.length) from decide_eq_decide.2 ⟨fun q=>fK.2 q,fun q=>fK.1 q⟩]
theorem form14_c {h:AHeap} {k:Str}:ACalls Go.Proofs.Tryz.prog 142 [.str (wd k)] h (fun q h'=>q = .str (wd (OJ k))∧h=h'):=by
 refine OV 37 [.tmp 2] Go.Proofs.Tryz.func142 rfl aD rfl rfl (fO rfl) ?_;show KA _ 37 _ _ [(0,.str (wd k))] _;refine dI ?_;refine Oy (dj:=5) rfl rfl false true rfl ?_ ?_
 ·intro g5;have g5:=of_decide_eq_false g5;refine Oa [0,8] ?_;refine Ok ?_ ?_
  ·intro c8;refine br ?_;refine⟨congrArg (fun l=>AV.str (wd l)) ?_,rfl⟩
   exact bc
  ·intro c8;refine On [0] ?_;refine Oa [0,10] ?_;refine Ok ?_ ?_
   ·intro c10;refine br ?_;refine⟨congrArg (fun l=>AV.str (wd l)) ?_,rfl⟩
    exact bc
   ·intro c10;refine On [0] ?_;refine Oc ?_;refine Oy (dj:=13) rfl rfl false true rfl ?_ ?_
    ·intro g13;have g13:=of_decide_eq_false g13;refine Oc ?_;refine Oy (dj:=17) rfl rfl false true rfl ?_ ?_
     ·intro g17;have g17:=of_decide_eq_false g17;refine Oa [0,20] ?_;refine Ok ?_ ?_
      ·intro c20;refine br ?_;refine⟨congrArg (fun l=>AV.str (wd l)) ?_,rfl⟩
       exact bc
      ·intro c20;refine On [0] ?_;refine Oa [0,22] ?_;refine Ok ?_ ?_
       ·intro c22;refine br ?_;refine⟨congrArg (fun l=>AV.str (wd l)) ?_,rfl⟩
        exact bc
       ·intro c22;refine On [0] ?_;refine Oc ?_;refine Oy (dj:=25) rfl rfl false true rfl ?_ ?_
        ·intro g25;have g25:=of_decide_eq_false g25;refine Oc ?_;refine Oy (dj:=29) rfl rfl false true rfl ?_ ?_
         ·intro g29;have g29:=of_decide_eq_false g29;refine Oc ?_;refine Oy (dj:=33) rfl rfl false true rfl ?_ ?_
          ·intro g33;have g33:=of_decide_eq_false g33;refine Oa [36] ?_;refine Ok ?_ ?_
           ·intro c36;refine br ?_;refine⟨congrArg (fun l=>AV.str (wd l)) ?_,rfl⟩
            exact bc
           ·intro c36;refine On [] ?_;refine bj ?_;refine Oi ?_;refine⟨congrArg (fun l=>AV.str (wd l)) ?_,rfl⟩
            exact bc
          ·intro g33;have g33:=of_decide_eq_true g33;refine Oa [36] ?_;refine eH ?_;refine⟨congrArg (fun l=>AV.str (wd l)) ?_,rfl⟩
           exact bc
         ·intro g29;have g29:=of_decide_eq_true g29;refine Oa [36] ?_;refine eH ?_;refine⟨congrArg (fun l=>AV.str (wd l)) ?_,rfl⟩
          exact bc
        ·intro g25;have g25:=of_decide_eq_true g25;refine Oa [36] ?_;refine eH ?_;refine⟨congrArg (fun l=>AV.str (wd l)) ?_,rfl⟩
         exact bc
     ·intro g17;have g17:=of_decide_eq_true g17;refine Oa [0,20] ?_;refine eH ?_;refine⟨congrArg (fun l=>AV.str (wd l)) ?_,rfl⟩
      exact bc
    ·intro g13;have g13:=of_decide_eq_true g13;refine Oa [0,20] ?_;refine eH ?_;refine⟨congrArg (fun l=>AV.str (wd l)) ?_,rfl⟩
     exact bc
 ·intro g5;have g5:=of_decide_eq_true g5;refine Oa [0,8] ?_;refine eH ?_;refine⟨congrArg (fun l=>AV.str (wd l)) ?_,rfl⟩
  exact bc
theorem digits_c {h:AHeap} {l:Str} {m:Nat} (hm:m≤4) (hl:l.length≤1000000):ACalls Go.Proofs.Tryz.prog 96 [.str (wd l),.int .i64 (m:Int)] h (fun q h'=>q = .tup [.int .i64 (if K6 l m then K9 l else 0),.bool (K6 l m)]∧h=h'):=by
 refine OV 44 [.tmp 4,.tmp 5] Go.Proofs.Tryz.func96 rfl aD rfl rfl (fO rfl) ?_;show KA _ 44 _ _ [(0,.str (wd l)),(1,.int .i64 (m:Int))] _;refine O2 [0,1] ?_;refine Ov ?_;refine ZD ?_;refine Oh ?_;refine Oj rfl (Uf) ?_;rintro _ _ ⟨rfl,rfl⟩;refine Qz ?_;refine Oh ?_;refine Oy (dj:=13) rfl rfl false true rfl ?_ ?_
 ·intro g13;have g13:=Qe g13;refine Ov ?_;refine ZD ?_;refine Og (dj:=13) rfl rfl ?_;refine ZK ?_;refine Ov ?_;refine Oy (dj:=17) rfl rfl true false rfl ?_ ?_
  ·intro g17;have g17:=of_decide_eq_true g17;refine Ov ?_;refine Q2 (j:=0) rfl aA ?_;refine Og (dj:=17) rfl rfl ?_;refine QW ?_;refine Og (dj:=13) rfl rfl ?_;refine Kl ?_;refine OS ?_;refine Om [0,22] ?_;refine Ok ?_ ?_;intro c22;refine dK ?_;rw[num_zero aB aB];exact⟨rfl,rfl⟩
   ·intro c22;refine On [0] ?_;refine Ov ?_;refine cV ?_;refine Ov ?_;refine cV ?_;refine Oz ?_;refine Kc (X:=Nat) (fun p=>[(0,.str (wd l)),(6,.int .i64 (K9 (l.take p))),(7,.int .i64 (p:Int))]) (fun p h'=>p≤l.length∧(∀ q,q<p→ZU (l.getD q 0)=true)∧h=h') (fun p=>l.length - p) 0 ?_ ?_;exact⟨fL _,fun q hq=>absurd hq (fR _),rfl⟩;rintro p h2 ⟨hp,hb,rfl⟩;refine Ov ?_;refine ZD ?_;refine Q1 ?_;refine Om [0,6,7,26] ?_;refine Ok ?_ ?_
    ·intro c26;have hlt:p<l.length:=by omega
     have hl4:l.length≤4:=by omega
     obtain⟨hn0,hn1⟩:=Vc p aB hb;have hn2:(10:Int) ^ p≤10 ^ 4:=by
      have : 10 ^ p≤10 ^ 4:=fT aD aB
      exact_mod_cast this
     have hn3:(10:Int) ^ 4=10000:=by decide
     have hu:=(l.getD p 0).toNat_lt;refine On [0,6,7] ?_;refine b4 ?_;refine Ov ?_;refine Q2 (j:=p) rfl aA ?_;refine KOps.convU aB al ?_;refine Oj rfl (Uf) ?_;rintro _ _ ⟨rfl,rfl⟩;refine Qz ?_;refine Om [0,6,7,34] ?_;refine O3 ?_ ?_;intro c34;refine dK ?_;rw[YA hlt (by unfold ZU; rw[decide_eq_false_iff_not]; omega)];exact⟨rfl,rfl⟩
     ·intro c34;refine eE ?_;refine cF ?_;refine Oo [0,6,7] ?_;refine Ov ?_;refine KT aC aC ?_;refine OG ?_;refine Of ?_;exact KB (p+1) aW ⟨hlt,fun q hq=>by
       rcases fI.1 hq with g|rfl
       exact hb q g;unfold ZU; rw[decide_eq_true_iff]; omega,rfl⟩ aB
    intro c26;refine bh ?_;refine Oo [6] ?_;refine dK ?_;have hpe:p=l.length:=by omega
    subst hpe;rw[num_all hb aB aB aB,fF];exact⟨rfl,rfl⟩
  ·intro g17;have g17:=of_decide_eq_false g17;refine Ov ?_;refine OS ?_;refine OS ?_;refine Om [0,22] ?_;refine OP ?_;refine On [0] ?_;refine Ov ?_;refine cV ?_;refine Ov ?_;refine cV ?_;refine Oz ?_;refine Kc (X:=Nat) (fun p=>[(0,.str (wd l)),(6,.int .i64 (K9 (l.take p))),(7,.int .i64 (p:Int))]) (fun p h'=>p≤l.length∧(∀ q,q<p→ZU (l.getD q 0)=true)∧h=h') (fun p=>l.length - p) 0 ?_ ?_;exact⟨fL _,fun q hq=>absurd hq (fR _),rfl⟩;rintro p h2 ⟨hp,hb,rfl⟩;refine Ov ?_;refine ZD ?_;refine Q1 ?_;refine Om [0,6,7,26] ?_;refine Ok ?_ ?_
   ·intro c26;have hlt:p<l.length:=by omega
    have hl4:l.length≤4:=by omega
    obtain⟨hn0,hn1⟩:=Vc p aB hb;have hn2:(10:Int) ^ p≤10 ^ 4:=by
     have : 10 ^ p≤10 ^ 4:=fT aD aB
     exact_mod_cast this
    have hn3:(10:Int) ^ 4=10000:=by decide
    have hu:=(l.getD p 0).toNat_lt;refine On [0,6,7] ?_;refine b4 ?_;refine Ov ?_;refine Q2 (j:=p) rfl aA ?_;refine KOps.convU aB al ?_;refine Oj rfl (Uf) ?_;rintro _ _ ⟨rfl,rfl⟩;refine Qz ?_;refine Om [0,6,7,34] ?_;refine O3 ?_ ?_;intro c34;refine dK ?_;rw[YA hlt (by unfold ZU; rw[decide_eq_false_iff_not]; omega)];exact⟨rfl,rfl⟩
    ·intro c34;refine eE ?_;refine cF ?_;refine Oo [0,6,7] ?_;refine Ov ?_;refine KT aC aC ?_;refine OG ?_;refine Of ?_;exact KB (p+1) aW ⟨hlt,fun q hq=>by
      rcases fI.1 hq with g|rfl
      exact hb q g;unfold ZU; rw[decide_eq_true_iff]; omega,rfl⟩ aB
   intro c26;refine bh ?_;refine Oo [6] ?_;refine dK ?_;have hpe:p=l.length:=by omega
   subst hpe;rw[num_all hb aB aB aB,fF];exact⟨rfl,rfl⟩
 intro g13;have g13:=KV g13;refine Ov ?_;refine Kg (dj:=17) rfl rfl ?_;refine Kg (dj:=17) rfl rfl ?_;refine Kg (dj:=17) rfl rfl ?_;refine KO (dj:=13) rfl rfl rfl ?_;refine Kl ?_;refine Om [0,22] ?_;refine Kw ?_;refine dK ?_;rw[num_len aB];exact⟨rfl,rfl⟩
theorem rname_c {h:AHeap} {l:Str} (hl:l.length≤1000000):ACalls Go.Proofs.Tryz.prog 143 [.str (wd l)] h (fun q h'=>q = .bool (XU l)∧h=h'):=by
 refine OV 19 [.tmp 2] Go.Proofs.Tryz.func143 rfl aD rfl rfl (fO rfl) ?_;show KA _ 19 _ _ [(0,.str (wd l))] _;refine Oa [0] ?_;refine cn ?_;refine Kc (X:=Nat) (fun p=>[(0,.str (wd l)),(3,.int .i64 (p:Int))]) (fun p h'=>p≤l.length∧(∀ q,q<p→lowC (l.getD q 0)=true)∧h=h') (fun p=>l.length - p) 0 ?_ ?_;exact⟨fL _,fun q hq=>absurd hq (fR _),rfl⟩;rintro p h2 ⟨hp,hb,rfl⟩;refine Oa [0,3,7] ?_;refine Ok ?_ ?_
 ·intro c7;have hlt:p<l.length:=by omega
  refine On [0,3] ?_;refine dw ?_;refine Q2 (j:=p) rfl aA ?_;refine KOps.convU aB al ?_;refine Oj rfl (Uf) ?_;rintro _ _ ⟨rfl,rfl⟩;refine Oa [0,3,15] ?_;refine O3 ?_ ?_;intro c15;refine br ?_;rw[name_no hlt (by unfold lowC; rw[decide_eq_false_iff_not]; omega)];exact⟨rfl,rfl⟩;intro c15;refine bu ?_;refine Oo [0,3] ?_;refine bw ?_;exact lpN (p+1) ⟨hlt,fun q hq=>by
   rcases fI.1 hq with g|rfl
   exact hb q g;unfold lowC; rw[decide_eq_true_iff]; omega,rfl⟩ aB
 intro c7;refine bh ?_;refine Oo [0] ?_;refine Oc ?_;refine Oj rfl (Uf) ?_;rintro _ _ ⟨rfl,rfl⟩;refine br ?_;have hpe:p=l.length:=by omega
 subst hpe;rw[name_is hb];exact⟨congrArg AV.bool (decide_eq_decide.2 aB),rfl⟩
end Go.Am
