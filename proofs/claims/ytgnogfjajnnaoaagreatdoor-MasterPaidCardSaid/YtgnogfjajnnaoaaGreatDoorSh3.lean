/-
  Layer 14: the law's own examples: works().
  Conditions: none.
-/
import Derived.Test.YtgnogfjajnnaoaaGreatDoorOi
import Derived.Test.YtgnogfjajnnaoaaGreatDoorSPb
import Derived.Test.YtgnogfjajnnaoaaGreatDoorRows
import Derived.MakeChecks
import Derived.HandedShaped
import Derived.Shelf.Vars
import Derived.Shelf.Strconv.AtoiAll
import Derived.Test.YtgnogfjajnnaoaaGreatDoorProg
open List renaming set_cons_zero → dE, set_cons_succ → dI, append_assoc → dO, getElem?_eq_getElem → dY, getD_eq_getElem?_getD → dG, getElem?_eq_some_iff → dH, take_of_length_le → dJ, getElem?_map → dK, all_eq_true → dM, length_map → dN
open Nat renaming zero_add → dU, le_of_ble_eq_true → dF, zero_le → dL
set_option maxRecDepth 99999
set_option maxHeartbeats 4000000
namespace Go.Am
theorem YJ {l:List Str} {x:Str} {e:Int} (h:O3 l x=e) (he:e≠0):doL l x=l:=if_neg (by rw[h]; exact he)
theorem Xk {l:List Str} {x:Str} (h:O3 l x=0):doL l x=l ++ [x]:=if_pos h
section
variable {P:Program} {n:Nat} {ops:Array Oper} {ex:List Nat} {Q:KF→AHeap→Prop} {k:Nat} {os:List Oper} {K:KF} {h:AHeap} {d:Nat} {ty:TypeId} {pos:String} {after:Array Edge}
theorem Kf {t t':TypeId} {x y:Operand} {kd:IntKind} {a b:Int} [hx:EvK h.globs n K x (.int kd a)] [hy:EvK h.globs n K y (.int kd b)] (he:a=b) (hk:KOps P n ops ex Q (k+1) os ((d,.bool false)::K) h):KOps P n ops ex Q k (⟨some d,.binOp .neq t x y t',ty,pos,after,none⟩::os) K h:=by
 refine KOps.neq ?_;rw[decide_eq_true he]; exact hk
theorem KOps.eqlV {t t':TypeId} {x y:Operand} {kd:IntKind} {a b:Int} [hx:EvK h.globs n K x (.int kd a)] [hy:EvK h.globs n K y (.int kd b)] (he:a=b) (hk:KOps P n ops ex Q (k+1) os ((d,.bool true)::K) h):KOps P n ops ex Q k (⟨some d,.binOp .eql t x y t',ty,pos,after,none⟩::os) K h:=by
 refine Qb ?_;rw[decide_eq_true he]; exact hk
theorem KOps.notT {t:TypeId} {x:Operand} [hx:EvK h.globs n K x (.bool true)] (hk:KOps P n ops ex Q (k+1) os ((d,.bool false)::K) h):KOps P n ops ex Q k (⟨some d,.unOp .not t x,ty,pos,after,none⟩::os) K h:=by
 refine KOps.not (b:=true) ?_;exact hk
end
theorem works_c {h:AHeap} (hV:Vs h):ACalls Go.Proofs.Tryz.prog 15 [] h (fun q h'=>q = .bool true∧Keeps h h'):=by
 refine OP 240 [.tmp 0] Go.Proofs.Tryz.func15 rfl aD rfl rfl (dF rfl) ?_;have hS:=St.refl h;show KA _ 240 _ _ [] _;refine O8 [] ?_;refine Ow ?_;refine Ol rfl (bLines_c) ?_;rintro v19 h19 hS;refine Ol rfl (toldX_c (hS.rd 0 rfl) aD aP (hV.ext hS.keeps)) ?_;rintro _ h5 ⟨b,rfl,hB⟩;have hT1:QX bLines bLines.length=bLines:=told_B.1;have hT2:Zh bLines bLines.length=true:=told_B.2;rw[hT1] at hB;rw[hT2];obtain⟨vl,A,hb,hS5⟩:=hB;have hSB:St h h5 (ZN b vl A bLines ++ [⟨v19,1,wcs bLines,true⟩]):=by
  have hx:=St.trans hS hS5;rwa [List.append_nil] at hx
 have hV5:=hV.ext hSB.keeps;have r:=St.rbk hSB hb;clear hS;have hS:=St.refl h5;refine O8 [1,2] ?_;refine OC ?_;refine Ol rfl (boundsB_c (w:=sIn) (r.ext hS.keeps)) ?_;rintro _ _ ⟨rfl,rfl⟩;rw[e1,show Jv (5,99,0)=AV.tup [.int .i64 5,.int .i64 99,.int .i64 0] from rfl];refine O8 [1,2,3,4,5] ?_;refine OC ?_;refine Ol rfl (Vv (w:=Yl) (r.ext hS.keeps)) ?_;rintro _ h7 ⟨rfl,hK⟩;have hS0:=St.on hS hK;clear hS;have hS:=hS0;clear hS0;rw[e2,show Jv (5,6,0)=AV.tup [.int .i64 5,.int .i64 6,.int .i64 0] from rfl];refine O8 [1,2,3,4,5,6,7,8] ?_;refine OC ?_;refine Ol rfl (whyB_c (w:=Yl) (r.ext hS.keeps) (hV5.ext hS.keeps)) ?_;rintro _ h8 ⟨v37,rfl,hSN⟩;rw[e3.1] at hSN;rw[e3.2];replace hS:St _ _ (_::_):=St.trans hS hSN;refine O8 [1,2,3,4,5,6,7,8,9,10] ?_;refine OC ?_;refine Ol rfl (whyB_c (w:=JL) (r.ext hS.keeps) (hV5.ext hS.keeps)) ?_;rintro _ h9 ⟨v42,rfl,hSN⟩;rw[e4.1] at hSN;rw[e4.2];replace hS:St _ _ (_::_):=St.trans hS hSN;refine O8 [1,2,3,4,5,6,7,8,9,10,11,12] ?_;refine OC ?_;refine KOps.notT ?_;refine OC ?_;refine be ?_;refine be ?_;refine be ?_;refine be ?_;refine be ?_;refine be ?_;refine be ?_;refine be ?_;refine bf ?_;intro v81 h' hS;refine Oi (dj:=79) rfl rfl ?_;refine Ol rfl (ZH) ?_;rintro _ _ ⟨rfl,rfl⟩;refine Oi (dj:=79) rfl rfl ?_;refine Ol rfl (Vw (a:=[sTax,Vu]) (b:=[sTax,Vu]) (hS.rd 2 rfl) (hS.rd 0 rfl) aD) ?_;rintro _ _ ⟨rfl,rfl⟩;rw[show decide _=true from by decide];refine Oi (dj:=79) rfl rfl ?_;refine KOps.notT ?_;refine OM ?_;refine OC ?_;refine O4 (hS.rd 1 rfl) ?_;refine OC ?_;refine Ol rfl (sureB_c (r.ext hS.keeps)) ?_;rintro v90 h10 hSN;rw[e5] at hSN;replace hS:St _ _ (_::_):=St.trans hS hSN;refine Oi (dj:=86) rfl rfl ?_;refine O4 (hS.rd 0 rfl) ?_;refine Oi (dj:=86) rfl rfl ?_;refine O5 aD aD ?_;refine Oi (dj:=86) rfl rfl ?_;refine be ?_;refine Ol rfl (roomsB_c (r.ext hS.keeps)) ?_;rintro v97 h11 hSN;rw[e6] at hSN;replace hS:St _ _ (_::_):=St.trans hS hSN;refine Oi (dj:=95) rfl rfl ?_;refine bf ?_;intro v98 h' hS;refine Oi (dj:=95) rfl rfl ?_;refine Ol rfl (ZH) ?_;rintro _ _ ⟨rfl,rfl⟩;refine Oi (dj:=95) rfl rfl ?_;refine Ol rfl (Vw (a:=[sTax,sPress,Vu]) (b:=[sTax,sPress,Vu]) (hS.rd 1 rfl) (hS.rd 0 rfl) aD) ?_;rintro _ _ ⟨rfl,rfl⟩;rw[show decide _=true from by decide];refine Oi (dj:=95) rfl rfl ?_;refine KOps.notT ?_;refine OM ?_;refine Oo [1,102] ?_;refine OQ ?_;refine Oz [1] ?_;refine OC ?_;have hSB2:=St.drop (St.trans hSB hS);clear hSB hS;have hSB:=hSB2;clear hSB2;refine Ol rfl (Xd (line:=[99,108,97,105,109,32,105,110,32,55]) hb hSB (hV.ext hSB.keeps) aD) ?_;rintro _ _ ⟨rfl,hB⟩;rw[show O3 bLines [99,108,97,105,109,32,105,110,32,55]=_ from a1];rw[YJ a1 aD] at hB;clear hb hSB;obtain⟨vl,A,hb,hSB⟩:=hB;refine Kf aQ ?_;refine OC ?_;refine Ol rfl (Xd (line:=[99,108,97,105,109,32,105,110,32,53]) hb hSB (hV.ext hSB.keeps) aD) ?_;rintro _ _ ⟨rfl,hB⟩;rw[show O3 bLines [99,108,97,105,109,32,105,110,32,53]=_ from a2];rw[YJ a2 aD] at hB;clear hb hSB;obtain⟨vl,A,hb,hSB⟩:=hB;refine Oi (dj:=106) rfl rfl ?_;refine be ?_;refine Ol rfl (Xd (line:=[109,111,115,116,32,105,110,32,52]) hb hSB (hV.ext hSB.keeps) aD) ?_;rintro _ _ ⟨rfl,hB⟩;rw[show O3 bLines [109,111,115,116,32,105,110,32,52]=_ from a3];rw[YJ a3 aD] at hB;clear hb hSB;obtain⟨vl,A,hb,hSB⟩:=hB;refine Oi (dj:=111) rfl rfl ?_;refine be ?_;refine Ol rfl (Xd (line:=[108,101,97,115,116,32,111,117,116,32,55]) hb hSB (hV.ext hSB.keeps) aD) ?_;rintro _ _ ⟨rfl,hB⟩;rw[show O3 bLines [108,101,97,115,116,32,111,117,116,32,55]=_ from a4];rw[YJ a4 aD] at hB;clear hb hSB;obtain⟨vl,A,hb,hSB⟩:=hB;refine Oi (dj:=116) rfl rfl ?_;refine be ?_;refine Ol rfl (Xd (line:=[108,101,97,115,116,32,104,111,109,101,32,54]) hb hSB (hV.ext hSB.keeps) aD) ?_;rintro _ _ ⟨rfl,hB⟩;rw[show O3 bLines [108,101,97,115,116,32,104,111,109,101,32,54]=_ from a5];rw[Xk (x:=[108,101,97,115,116,32,104,111,109,101,32,54]) a5,show bLines ++ [[108,101,97,115,116,32,104,111,109,101,32,54]]=L1 from rfl] at hB;clear hb hSB;obtain⟨vl,A,hb,hSB⟩:=hB;refine Oi (dj:=121) rfl rfl ?_;refine be ?_;refine Ol rfl (Xd (line:=[99,108,97,105,109,32,105,110,32,54]) hb hSB (hV.ext hSB.keeps) aD) ?_;rintro _ _ ⟨rfl,hB⟩;rw[show O3 L1 [99,108,97,105,109,32,105,110,32,54]=_ from a6];rw[Xk (x:=[99,108,97,105,109,32,105,110,32,54]) a6,show L1 ++ [[99,108,97,105,109,32,105,110,32,54]]=L2 from rfl] at hB;clear hb hSB;obtain⟨vl,A,hb,hSB⟩:=hB;refine Oi (dj:=126) rfl rfl ?_;refine be ?_;refine Ol rfl (Xd (line:=[108,101,97,115,116,32,105,110,32,49]) hb hSB (hV.ext hSB.keeps) aD) ?_;rintro _ _ ⟨rfl,hB⟩;rw[show O3 L2 [108,101,97,115,116,32,105,110,32,49]=_ from a7];rw[YJ a7 aD] at hB;clear hb hSB;obtain⟨vl,A,hb,hSB⟩:=hB;refine Oi (dj:=131) rfl rfl ?_;refine be ?_;refine Ol rfl (sureB_c (St.rbk hSB hb)) ?_;rintro _ _ hS;rw[e7] at hS;refine Oi (dj:=136) rfl rfl ?_;refine bf ?_;intro v139 h' hS;refine Oi (dj:=136) rfl rfl ?_;refine Ol rfl (ZH) ?_;rintro _ _ ⟨rfl,rfl⟩;refine Oi (dj:=136) rfl rfl ?_;refine Ol rfl (Vw (a:=[sIn,Yl,JL]) (b:=[sIn,Yl,JL]) (hS.rd 1 rfl) (hS.rd 0 rfl) aD) ?_;rintro _ _ ⟨rfl,rfl⟩;rw[show decide _=true from by decide];refine Oi (dj:=136) rfl rfl ?_;refine KOps.notT ?_;refine OM ?_;refine Oo [1,143] ?_;refine OQ ?_;refine Oz [1] ?_;refine OC ?_;have hSB2:=St.drop (St.trans hSB hS);clear hSB hS;have hSB:=hSB2;clear hSB2;refine Ol rfl (Xd (line:=[112,97,99,107,32,49,50,32,111,117,116]) hb hSB (hV.ext hSB.keeps) aD) ?_;rintro _ _ ⟨rfl,hB⟩;rw[show O3 L2 [112,97,99,107,32,49,50,32,111,117,116]=_ from a8];rw[Xk (x:=[112,97,99,107,32,49,50,32,111,117,116]) a8,show L2 ++ [[112,97,99,107,32,49,50,32,111,117,116]]=L3 from rfl] at hB;clear hb hSB;obtain⟨vl,A,hb,hSB⟩:=hB;refine Kf aQ ?_;refine OC ?_;refine Ol rfl (Xd (line:=[112,97,99,107,32,49,50,32,105,110]) hb hSB (hV.ext hSB.keeps) aD) ?_;rintro _ _ ⟨rfl,hB⟩;rw[show O3 L3 [112,97,99,107,32,49,50,32,105,110]=_ from a9];rw[YJ a9 aD] at hB;clear hb hSB;obtain⟨vl,A,hb,hSB⟩:=hB;refine Oi (dj:=147) rfl rfl ?_;refine be ?_;refine Ol rfl (Xd (line:=[115,101,97,108,32,49,50]) hb hSB (hV.ext hSB.keeps) aD) ?_;rintro _ _ ⟨rfl,hB⟩;rw[show O3 L3 [115,101,97,108,32,49,50]=_ from a10];rw[Xk (x:=[115,101,97,108,32,49,50]) a10,show L3 ++ [[115,101,97,108,32,49,50]]=L4 from rfl] at hB;clear hb hSB;obtain⟨vl,A,hb,hSB⟩:=hB;refine Oi (dj:=152) rfl rfl ?_;refine be ?_;refine Ol rfl (would_c (line:=[98,117,114,110,32,49,50]) hb hSB (hV.ext hSB.keeps) aD) ?_;rintro _ _ ⟨rfl,hSB2⟩;rw[show O3 L4 [98,117,114,110,32,49,50]=20 from a11];clear hSB;have hSB:=hSB2;clear hSB2;refine Oi (dj:=157) rfl rfl ?_;refine be ?_;refine Ol rfl (Xd (line:=[100,101,97,108,32,49,50]) hb hSB (hV.ext hSB.keeps) aD) ?_;rintro _ _ ⟨rfl,hB⟩;rw[show O3 L4 [100,101,97,108,32,49,50]=_ from a12];rw[Xk (x:=[100,101,97,108,32,49,50]) a12,show L4 ++ [[100,101,97,108,32,49,50]]=L5 from rfl] at hB;clear hb hSB;obtain⟨vl,A,hb,hSB⟩:=hB;refine Oi (dj:=162) rfl rfl ?_;refine be ?_;refine Ol rfl (Xd (line:=[98,97,99,107,32,49,50]) hb hSB (hV.ext hSB.keeps) aD) ?_;rintro _ _ ⟨rfl,hB⟩;rw[show O3 L5 [98,97,99,107,32,49,50]=_ from a13];rw[Xk (x:=[98,97,99,107,32,49,50]) a13,show L5 ++ [[98,97,99,107,32,49,50]]=L6 from rfl] at hB;clear hb hSB;obtain⟨vl,A,hb,hSB⟩:=hB;refine Oi (dj:=167) rfl rfl ?_;refine be ?_;refine Ol rfl (Xd (line:=[98,117,114,110,32,49,50]) hb hSB (hV.ext hSB.keeps) aD) ?_;rintro _ _ ⟨rfl,hB⟩;rw[show O3 L6 [98,117,114,110,32,49,50]=_ from a14];rw[Xk (x:=[98,117,114,110,32,49,50]) a14,show L6 ++ [[98,117,114,110,32,49,50]]=L7 from rfl] at hB;clear hb hSB;obtain⟨vl,A,hb,hSB⟩:=hB;refine Oi (dj:=172) rfl rfl ?_;refine Kf aQ ?_;refine OM ?_;refine Oo [1,176] ?_;refine OQ ?_;refine Oz [1] ?_;refine OC ?_;refine Ol rfl (packsB_c (w:=Yl) (St.rbk hSB hb)) ?_;rintro _ _ ⟨v177,rfl,hS⟩;rw[e8.1] at hS;rw[e8.2];refine O8 [1,5,13] ?_;refine OC ?_;refine Ol rfl (Rj (p:=12) ((St.rbk hSB hb).ext hS.keeps)) ?_;rintro _ _ ⟨rfl,rfl⟩;rw[e9];refine O8 [1,5,8,13] ?_;refine OC ?_;refine Kf aQ ?_;refine OC ?_;refine be ?_;refine O4 (hS.rd 0 rfl) ?_;refine Oi (dj:=193) rfl rfl ?_;refine be ?_;refine Ol rfl (undo_c hb (St.drop (St.trans hSB hS)) hV (by intro x hx; have hx2:=dM.1 (show(L7.all fun x=>decide (x.length≤1000000))=true by decide) x hx; exact of_decide_eq_true hx2)) ?_;rintro _ _ ⟨rfl,hB⟩;rw[if_neg (show¬ L7 = [] by decide)];rw[show L7.dropLast=L6 from rfl] at hB;clear hb hSB;obtain⟨vl,A,hb,hSB⟩:=hB;refine Oi (dj:=198) rfl rfl ?_;refine be ?_;refine Ol rfl (undo_c hb hSB hV (by intro x hx; have hx2:=dM.1 (show(L6.all fun x=>decide (x.length≤1000000))=true by decide) x hx; exact of_decide_eq_true hx2)) ?_;rintro _ _ ⟨rfl,hB⟩;rw[if_neg (show¬ L6 = [] by decide)];rw[show L6.dropLast=L5 from rfl] at hB;clear hb hSB;obtain⟨vl,A,hb,hSB⟩:=hB;refine Oi (dj:=203) rfl rfl ?_;refine Kf aQ ?_;refine OM ?_;refine Oo [1,207] ?_;refine OQ ?_;refine Oz [1] ?_;refine OC ?_;refine Ol rfl (Rj (p:=12) (St.rbk hSB hb)) ?_;rintro _ _ ⟨rfl,rfl⟩;rw[e10];refine O8 [1,10,14] ?_;refine OC ?_;refine Ol rfl (paidB_c (St.rbk hSB hb)) ?_;rintro _ _ ⟨v213,rfl,hSP⟩;rw[e11.1] at hSP;rw[e11.2];clear hS;have hS:=hSP;refine O8 [10,14,15,16] ?_;refine Ow ?_;refine Ol rfl (new_c) ?_;rintro b2 h18 ⟨vl2,A2,hb2,hSN⟩;have r2:=St.rbk hSN hb2;have hw15:WRow h18 v213 [sIn]:=Rd.ext hSN.keeps (hS.rd 0 rfl);have hV18:=((hV.ext hSB.keeps).ext hS.keeps).ext hSN.keeps;have hK18:Keeps h h18:=(hSB.keeps.trans hS.keeps).trans hSN.keeps;clear hS;have hS:=St.refl h18;refine O8 [10,14,15,16,17] ?_;refine OC ?_;refine KOps.eqlV aQ ?_;refine OC ?_;refine KOps.eqlV aQ ?_;refine KN ?_;refine OC ?_;refine bf ?_;intro v227 h' hS;refine Oi (dj:=225) rfl rfl ?_;refine Ol rfl (ZH) ?_;rintro _ _ ⟨rfl,rfl⟩;refine Oi (dj:=225) rfl rfl ?_;refine Ol rfl (Vw (a:=[sIn]) (b:=[sIn]) (Rd.ext hS.keeps hw15) (hS.rd 0 rfl) aD) ?_;rintro _ _ ⟨rfl,rfl⟩;rw[show decide _=true from by decide];refine KN ?_;refine OC ?_;refine KOps.eqlV aQ ?_;refine KN ?_;refine OC ?_;refine Ol rfl (fileB_c (r2.ext hS.keeps) (hV18.ext hS.keeps)) ?_;rintro _ _ ⟨rfl,rfl⟩;rw[e12];refine Oi (dj:=235) rfl rfl ?_;refine Qj ?_;refine KN ?_;refine O8 [0] ?_;refine Oj ?_;exact⟨rfl,hK18.trans hS.keeps⟩
end Go.Am
namespace Go.Am
theorem VRels.split {φ:Emb} {a b:List AV} {cs:List Value} {s:Nat} (h1:VRels φ a (cs.take s)) (h2:VRels φ b (cs.drop s)) (hs:s≤cs.length):VRels φ (a ++ b) cs∧(a ++ b).take s=a∧(a ++ b).drop s=b:=by
 have ha:a.length=s:=by rw[h1.1,List.length_take]; omega
 have h3:=VRels.append h1 h2;rw[List.take_append_drop] at h3;exact⟨h3,by rw[←ha,List.take_left],by rw[←ha,List.drop_left]⟩
end Go.Am
namespace Go
variable {H:Type} {enc:TypeId × Value→H}
theorem returnsInHanded_of_change_andShaped {a : Assume} {C : Checked} {os : Os} {f : FuncId} {fn : Func} {s : ChangeSpec} {conds : List PathCond} {apart fresh handsOn again : Bool} {X : World → Array Value → Prop}
    (hX:∀ (w w':World) (args:Array Value),w.heap=w'.heap→X w args→X w' args)
    (own:ownKnob C.prog.godebug=none) (started:os.Started) (noInit:C.prog.inits.idxOf? f=none) (hfn:C.prog.funcs[f]? = some fn)
    (witness : ∃ (w : World) (tape : Tape) (i : Input), w.os = os ∧ (w.forCall tape i).Shaped C.prog ∧ i.vars = [] ∧ Input.okWide C.prog (w.forCall tape i) .any w.heap.size f i ∧
      ((s.pre enc C.prog fn conds apart (w.forCall tape i).memory i.args∧X (w.forCall tape i).memory i.args)∧sizedMet enc C.prog fn (OpenSpec.ofChange s) apart (w.forCall tape i).memory i.args)∧a.holds C.prog (lone (Frame.enter C.prog f i.args .normal) [] (w.forCall tape i)))
    (contract : ∀ (W : World) (base : Nat) (args : Array Value) (ds gs : List (DataW H)) (before : List MemPlace),
      (∀ (j:Nat) t v,fn.params[j]? = some t→args[j]? = some v→Value.okWide C.prog W .any base t v)→
      DataW.Whole enc C.prog fn.params.toList s.vars apart W args.toList ds gs before→
      conds.all (PathCond.test C.prog ⟨fn.params.toList,ds,s.plain.varTypes C.prog,gs⟩)=true→
      (DataW.weightsEach C.prog (fn.params.toList ++ s.plain.varTypes C.prog) (ds ++ gs)).all (·≤reachBytes)=true→X W args→W.ShapedOpen C.prog→
      a.holds C.prog (lone (Frame.enter C.prog f args .normal) [] W)→
      Calls C.prog f args W fun e W'=>∃ v,e = .returned v∧s.post enc C.prog fn apart fresh handsOn again W args v W') :
    ReturnsInHanded a C os f .any (fun w args=>(s.pre enc C.prog fn conds apart w args∧X w args)∧sizedMet enc C.prog fn (OpenSpec.ofChange s) apart w args) (s.post enc C.prog fn apart fresh handsOn again):=by
 refine returnsInHanded_of_calls own started noInit witness ?_;intro w tape i _ hsh _ hok hpre hholds;obtain⟨_,_,_,fn',hfn',_,_,_,_,hval⟩:=hok;have e:fn'=fn:=Option.some.inj (hfn'.symm.trans hfn);subst e;obtain⟨⟨⟨ds,gs,before,hw,hc⟩,hx⟩,hz⟩:=hpre;have hw':=DataW.Whole.of_heap (w':=w.forCall tape i) (by rfl) hw;refine(contract (w.forCall tape i) w.heap.size i.args ds gs before hval hw' hc (hz.weights hw) (hX _ _ _ (by rfl) hx) hsh hholds).mono fun e W' ⟨v,he,hp⟩=>?_
 subst he;exact ChangeSpec.post_blind hp
end Go
namespace Go.Am
open Go.ChangeShapes Go.WideShapes
def VF (W:World) (g:Nat) (cs:List AV):Prop:=(∃ c e f,W.heap[g]? = some (.cells c e f)∧c.size=cs.length)∧∀ j x,cs[j]? = some x→∃ v,W.cell? ⟨g,j,none⟩=some v∧∀ φ,VRel φ x v
theorem VF.push {W:World} {φ:Emb} {h:AHeap} (im:Imp W φ h) {g:Nat} {cs:List AV} (v:VF W g cs) (p0:Nat):Imp W (fun b=>if b=h.next then some (g,0,cs.length) else φ b) (h.push (.cells none p0 cs))∧φ.le (fun b=>if b=h.next then some (g,0,cs.length) else φ b):=by
 refine im.pushP p0 cs _ ?_;intro k i z hq;cases hq;obtain⟨⟨c,e,f,h1,h2⟩,h3⟩:=v;refine⟨(Array.getElem?_eq_some_iff.1 h1).1,fun j x hx=>?_,fun _=>⟨rfl,c,e,f,h1,h2⟩⟩;obtain⟨v,h4,h5⟩:=h3 j x hx;exact⟨v,by rw[dU]; exact h4,h5 _⟩
theorem Imp.none {W:World} {φ:Emb} {h:AHeap} (im:Imp W φ h):Imp W (fun b=>if b=h.next then .none else φ b) (h.push (.cells .none 0 [])):=(im.push [] .none (by intro k i z hq; cases hq)).1
def litI : DataW Unit → Option Int
  | .lit (.int _ n)=>some n
  | _=>none
def aggL : DataW Unit → List (DataW Unit)
  | .agg l=>l
  | _=>[]
def sizeL:List Int:=(List.range 64).map fun s=>((KC s 6).length:Int)
def powL:List Int:=Lib.pow10Tab
theorem sizes_lits:(aggL Go.Proofs.YtgnogfjajnnaoaaGreatDoor.Rows.laid_spadille_stamp_sizes).map litI=sizeL.map some:=by decide +kernel
theorem pow_lits:(aggL Go.Proofs.YtgnogfjajnnaoaaGreatDoor.Rows.laid_internal_strconv_uint64pow10).map litI=powL.map some:=by decide +kernel
theorem JX {W : World} {l : List Int} {lay : DataW Unit} {k : IntKind} {g t et n : Nat} {nm : String} {cs : Array Value} {f : Nat} {p : List MemPlace}
    (hU:Go.Proofs.Tryz.prog.underlying t=some (.array n et)) (hE:Go.Proofs.Tryz.prog.underlying et=some (.int k)) (c1:Go.Proofs.Tryz.prog.cellsOf et=1) (c2:Go.Proofs.Tryz.prog.cellsOf t=l.length) (hn:n=l.length) (hlits:(aggL lay).map litI=l.map some)
    (hg0:Go.Proofs.Tryz.prog.globalNamed nm=some g) (hv0:W.var? Go.Proofs.Tryz.prog nm=some cs)
    (hd0:DataW.trod (fun _=>()) Go.Proofs.Tryz.prog W 0 (fun _=>true) false f t cs.toList=some (lay,p)) :
    VF W g (l.map fun v=>AV.int k v):=by
 obtain⟨xs,m,rfl,hx1,hl,hxl,hx⟩:=DataW.trod_array hU hd0;rw[c2] at hl;have hd:=(Prod.mk.inj hx1).1;have hxs:xs.map (fun x=>litI x.1)=l.map some:=by
  rw[←hlits,hd];show _=(xs.map (·.1)).map litI;rw[List.map_map]; rfl
 have key:∀ i (hi:i<l.length),cs.toList[i]? = some (.int k l[i]):=by
  intro i hi;have h2:=hx i aA;rw[c1,Nat.mul_one,dY aA] at h2;obtain⟨c,h3,h4,_⟩:=DataW.trod_int hE h2;have h5:((cs.toList.drop i).take 1)[0]? = some (.int k c):=by rw[h3]; rfl
  have h6:cs.toList[i]? = some (.int k c):=by simpa [List.getElem?_take,List.getElem?_drop] using h5
  have h7:=congrArg (fun l=>l[i]?) hxs;simp only[dK,dY (show i<xs.length by omega),dY hi,Option.map_some,Option.some.injEq] at h7;rw[h4] at h7;have h8:c=l[i]:=by simpa [litI] using h7
  rw[h6,h8]
 refine⟨?_,fun i x hx=>?_⟩;have hv:=hv0;simp only[World.var?,hg0,Option.bind_some] at hv;split at hv;rename_i c e f' he;cases hv;exact⟨_,_,_,he,by rw[dN,←hl,Array.length_toList]⟩;cases hv;have hi:i<l.length:=by
  have:=(dH.1 hx).1;rwa [dN] at this
 rw[dK,dY hi] at hx;cases hx;refine⟨.int k l[i],?_,fun φ=>.int _ _⟩;rw[World.var?_cell hg0 hv0 i,←Array.getElem?_toList];exact key i hi
theorem vf_int {W : World} {g : Nat} {t : TypeId} {k : IntKind} (h : W.ShapedOpen Go.Proofs.Tryz.prog) (hg : g < Go.Proofs.Tryz.prog.globals.size)
    (h0:((Go.begin Go.Proofs.Tryz.prog (fun _ _=>0) default).world.heap[g]?).bind Obj.row? = some (#[.int k 0],t))
    (hb:Go.Proofs.Tryz.prog.buildable t=true) (hc:Go.Proofs.Tryz.prog.cellTypes Go.Proofs.Tryz.prog.depth t=some [t]) (hu:Go.Proofs.Tryz.prog.underlying t=some (.int k)) :
    ∃ m,VF W g [.int k m]:=by
 obtain⟨m,hm⟩:=Go.Proofs.cell_of_shapedOpen_int h hg h0 rfl hb hc hu;obtain⟨cs,hh,hs,_⟩:=h.1 g _ t hg h0;refine⟨m,⟨cs,_,_,hh,hs⟩,fun j x hx=>?_⟩;have hj:j=0:=by
  have:=(dH.1 hx).1;simpa using this
 subst hj;cases hx;exact⟨_,hm,fun φ=>.int _ _⟩
end Go.Am
namespace Go.Am
def kB:Str:=[115,112,97,100,105,108,108,101]
def kEnd:Str:=[101,110,100,32]
def numP (i:Nat):Str:=Lib.itoa (i:Int) ++ [46,32]
def cutAt (i:Nat) (l:Str):Str:=l.drop (numP i).length
def cutTo (ls : List Str) : Nat → List Str
  | 0=>ls
  | i+1=>(cutTo ls i).set (i+1) (cutAt (i+1) (ls.getD (i+1) []))
def goodTo (ls : List Str) : Nat → Bool
  | 0=>true
  | i+1=>goodTo ls i && (numP (i+1)).isPrefixOf (ls.getD (i+1) [])
def Y4 (f:Str):List Str:=OK 10 f.dropLast
def lastL (ls:List Str):Str:=ls.getD (ls.length - 1) []
def endE (f:Str) (e:Str):Int:=
  if kEnd.isPrefixOf e=false∨KU (e.drop 4) 4=false∨9972<K8 (e.drop 4) then 9
  else if K8 (e.drop 4)≠Go.Proofs.Tryz.sumTo (f.take (f.length - e.length - 1)) then 17 else 0
def Uq (f:Str):Int:=
  if 18000<f.length then 19 else if [10].isSuffixOf f=false then 18
  else if (Y4 f).length<2∨(Y4 f).getD 0 []≠kB then 9
  else if goodTo (Y4 f) ((Y4 f).length - 2)=false then 9
  else endE f (lastL (Y4 f))
def fileB (f:Str):List Str:=((cutTo (Y4 f) ((Y4 f).length - 2)).drop 1).take ((Y4 f).length - 2)
noncomputable def Yr (bk : List Str) : List Str → Int × List Str
  | []=>(0,bk)
  | x::r=>if O3 bk x=0 then Yr (bk ++ [x]) r else (O3 bk x,bk)
theorem doAll_app:∀ (l m bk:List Str),(Yr bk l).1=0→Yr bk (l ++ m)=Yr (bk ++ l) m:=by
 intro l
 induction l with
 | nil=>intro m bk _; simp
 | cons x r ih=>
  intro m bk h;rw[List.cons_append];unfold Yr at h;by_cases hx:O3 bk x=0;rw[if_pos hx] at h;rw[Yr,if_pos hx,ih m _ h]; simp;rw[if_neg hx] at h; exact absurd h hx
theorem Done.all {lines:List Str} (hD:Done lines):Yr [] lines=(0,lines):=by
 induction hD with
 | nil=>rfl
 | @snoc lines line hD he ih=>
  rw[doAll_app _ _ _ (by rw[ih]),List.nil_append,Yr,if_pos he]; rfl
end Go.Am
namespace Go.Am
noncomputable def readF (f:Str):Int:=if Uq f=0 then (Yr [] (fileB f)).1 else Uq f
end Go.Am
namespace Go.Am
theorem k1:Uq [115,112,97,100,105,108,108,101,10,101,110,100,32,56,56,52,10]=17:=by decide +kernel
theorem k2:Uq [115,112,97,100,105,108,108,101,10,101,110,100,32,48,56,56,51,10]=9:=by decide +kernel
theorem k3:Uq [115,112,97,100,105,108,108,101,10,101,110,100,32,56,56,51,10]=0:=by decide +kernel
theorem k4:fileB [115,112,97,100,105,108,108,101,10,101,110,100,32,56,56,51,10] = []:=by decide +kernel
theorem k5:readF [115,112,97,100,105,108,108,101,10,101,110,100,32,56,56,51,10]=0:=by rw[readF,if_pos k3,k4]; rfl
theorem k6:(after bLines).whyL sIn 7 = [sTax]∧(after bLines).whyE sIn 7=0:=UV (a:=5) (b:=6) aP
theorem q0:O3 bLines [114,111,111,109,32,84,97,120]=10:=Qz aP
theorem q1:O3 bLines [114,111,111,109]=5:=Qz aP
theorem q2:O3 bLines [102,108,121,32,120]=8:=Qz aP
theorem q3:O3 bLines [112,97,99,107,32,48,32,105,110]=1:=Qz aP
theorem q4:O3 bLines [108,101,97,115,116,32,105,110,32,49,48,48]=1:=Qz aP
theorem q5:O3 bLines [112,97,99,107,32,48,55,32,105,110]=9:=Qz aP
theorem q6:O3 bLines [119,97,121,32,120,32,116,97,120,32,116,97,120]=13:=Qz aP
end Go.Am
namespace Go.Am
def roomsL:List Str:=[[116,97,120],[112,114,101,115,115],[112,97,99,107,115]]
def waysL:List Str:=[[105,110],[111,117,116],[104,111,109,101],[108,111,115,116],[109,111,114,101]]
def XS:List Str:=[[114,111,111,109,32,116,97,120],[114,111,111,109,32,112,114,101,115,115],[114,111,111,109,32,112,97,99,107,115],[119,97,121,32,105,110,32,116,97,120,32,112,114,101,115,115],[119,97,121,32,111,117,116,32,112,114,101,115,115,32,112,97,99,107,115],[119,97,121,32,104,111,109,101,32,112,97,99,107,115,32,116,97,120]]
def Zg (l:List Str) (n:Nat):Str:=l.getD (n % l.length) []
structure Q4 where
  a:Nat
  b:Nat
  c:Nat
  d:Nat
instance:Inhabited Q4:=⟨⟨0,0,0,0⟩⟩
def qc (q:Q4):List AV:=[.int .u8 (q.a:Int),.int .u8 (q.b:Int),.int .u8 (q.c:Int),.int .u8 (q.d:Int)]
theorem qc_len (q:Q4):(qc q).length=4:=rfl
def Q4.Ok (q:Q4):Prop:=q.a<256∧q.b<256∧q.c<256∧q.d<256
def yW (q:Q4):Str:=Zg waysL q.b
def yN (q:Q4):Str:=Lib.itoa ((q.c % 10:Nat):Int)
def yP (q:Q4):Str:=Lib.itoa ((1+q.c % 5:Nat):Int)
def Qg (undo:Bool) (q:Q4):Str:=
  let k:=q.a % 16
  if k<3 then [108,101,97,115,116,32] ++ yW q ++ [32] ++ yN q
  else if k<6 then [109,111,115,116,32] ++ yW q ++ [32] ++ yN q
  else if k<8 then [112,97,99,107,32] ++ yP q ++ [32] ++ yW q
  else if k=8 then Zg [[115,101,97,108,32],[98,117,114,110,32]] q.d ++ yP q
  else if k=9 then Zg [[100,101,97,108,32],[98,97,99,107,32]] q.d ++ yP q
  else if k<12 then [99,108,97,105,109,32] ++ yW q ++ [32] ++ yN q
  else if k=12 then [102,114,101,101,32] ++ yW q
  else if k<15 then [119,97,121,32] ++ yW q ++ [32] ++ Zg roomsL q.c ++ [32] ++ Zg roomsL q.d
  else if undo then [117,110,100,111] else [114,111,111,109,32] ++ Zg [[118,97,117,108,116],[116,97,98,108,101]] q.d
def QR (undo:Bool) (y:List Q4):List Str:=XS ++ (y.take 24).map (Qg undo)
instance:ArT Go.Proofs.Tryz.prog 87 4:=ArT.of aE
theorem tm (a:Nat) (b:Nat):(a:Int).tmod (b:Int)=((a % b:Nat):Int):=by rw[Int.tmod_eq_emod_of_nonneg aA]; rfl
theorem tm10 (a:Nat):(a:Int).tmod 10=((a % 10:Nat):Int):=tm a 10
theorem tm5 (a:Nat):(a:Int).tmod 5=((a % 5:Nat):Int):=tm a 5
theorem tm16 (a:Nat):(a:Int).tmod 16=((a % 16:Nat):Int):=tm a 16
theorem tm2 (a:Nat):(a:Int).tmod 2=((a % 2:Nat):Int):=tm a 2
theorem getD_memQ {l:List Q4} {i:Nat} (h:i<l.length):l.getD i default∈l:=by
 rw[dG,dY h]; exact List.getElem_mem h
theorem ZZ {y:List Q4} {f:Q4→Str} {B:List Str} {i:Nat} (h:i<y.length):B ++ ((y.take i).map f ++ [f (y.getD i default)])=B ++ (y.take (i+1)).map f:=by
 rw[←Qp (d:=default) h,List.map_append]; rfl
theorem QT {l:List Str} {n m:Nat} (h:∀ x∈l,x.length≤m):(Zg l n).length≤m:=by
 unfold Zg;rw[dG]
 cases hx:l[n % l.length]? with
 | none=>exact dL _
 | some w=>exact h w (List.mem_of_getElem? hx)
theorem Rs {h:AHeap}:ACalls Go.Proofs.Tryz.prog 40 [] h (fun q h'=>St h h' [⟨q,1,wcs roomsL,true⟩]):=by
 refine OP 3 [.tmp 0] Go.Proofs.Tryz.func40 rfl aD rfl rfl (dF rfl) ?_;have hS:=St.refl h;show KA _ 3 _ _ [] _;refine Oa [] ?_;refine Ow ?_;refine bf ?_;intro v1 h' hS;refine Ol rfl (ZH) ?_;rintro _ _ ⟨rfl,rfl⟩;refine Oa [0] ?_;refine Oj ?_;exact hS
theorem UW {h:AHeap}:ACalls Go.Proofs.Tryz.prog 42 [] h (fun q h'=>St h h' [⟨q,1,wcs waysL,true⟩]):=by
 refine OP 3 [.tmp 0] Go.Proofs.Tryz.func42 rfl aD rfl rfl (dF rfl) ?_;have hS:=St.refl h;show KA _ 3 _ _ [] _;refine Oa [] ?_;refine Ow ?_;refine bf ?_;intro v1 h' hS;refine Ol rfl (ZH) ?_;rintro _ _ ⟨rfl,rfl⟩;refine Oa [0] ?_;refine Oj ?_;exact hS
theorem one_c {h:AHeap} {v:AV} {l:List Str} {n:Nat} (hv:WRow h v l) (h0 : 0<l.length) (hl:l.length≤100) (hn:n<256):ACalls Go.Proofs.Tryz.prog 57 [v,.int .u8 (n:Int)] h (fun q h'=>q = .str (wd (Zg l n))∧h=h'):=by
 refine OP 13 [.tmp 4] Go.Proofs.Tryz.func57 rfl aD rfl rfl (dF rfl) ?_;have hrm:((n:Int)).tmod (l.length:Int)=((n % l.length:Nat):Int):=by rw[Int.tmod_eq_emod_of_nonneg aA]; rfl
 have hlt:=Nat.mod_lt n h0;show KA _ 13 _ _ [(0,v),(1,.int .u8 (n:Int))] _;refine bo ?_;refine KOps.convU aA aA ?_;refine Oe ?_;refine O4 hv ?_;refine KOps.rem aC aC aC ?_;rw[hrm];refine Ou hv (j:=n % l.length) aC aB ?_;intro p11 hp11;refine OJ hp11 hv aB ?_;refine bV ?_;exact⟨rfl,rfl⟩
theorem Rr {h:AHeap} {v:AV} {y:List Q4} {undo:Bool} (hv:Rd h v 4 (flr qc y)) (hy:∀ q∈y,q.Ok) (hV:Vs h):ACalls Go.Proofs.Tryz.prog 38 [v,.bool undo] h (fun q h'=>St h h' [⟨q,1,wcs (QR undo y),true⟩]):=by
 refine OP 159 [.tmp 4] Go.Proofs.Tryz.func38 rfl aD rfl rfl (dF rfl) ?_;have hS:=St.refl h;show KA _ 159 _ _ [(0,v),(1,.bool undo)] _;refine Ow ?_;refine Ov ?_;refine Oo [0,1] ?_;refine Ow ?_;refine bf ?_;intro v11 h' hS;refine Ol rfl (ZH) ?_;rintro r12 _ ⟨rfl,rfl⟩;refine Ov ?_;refine Oo [0,1,5] ?_;refine bw ?_;refine Oe ?_;refine Zi qc_len (Rd.ext hS.keeps hv) ?_;refine Oe ?_;refine Oo [1,5,13,14,15] ?_;refine OB ?_;refine Kk (X:=Nat × AV) (fun x=>[(1,.bool undo),(5,x.2),(13,v),(14,.int .i64 (y.length:Int)),(15,.int .i64 (x.1:Int))]) (fun x h'=>x.1≤y.length∧x.1≤24∧St h h' [⟨x.2,1,wcs (XS ++ (y.take x.1).map (Qg undo)),true⟩]) (fun x=>y.length - x.1) (0,r12) ?_ ?_;exact⟨dL _,dL _,hS⟩;rintro⟨i,v5⟩ h3 ⟨hi,hi2,hS⟩;dsimp only at hi hi2 hS⊢;have hlb:(XS ++ (y.take i).map (Qg undo)).length≤30:=by simp[XS]; omega
 refine Ow ?_;refine QG ?_;refine br ?_;refine Om ?_ ?_
 ·intro c16;have hlt:i<y.length:=by omega
  have hq:=hy _ (getD_memQ hlt);obtain⟨hqa,hqb,hqc,hqd⟩:=id hq;have t10:=tm10 (y.getD i default).c;have t5:=tm5 (y.getD i default).c;have t16:=tm16 (y.getD i default).a;have t2:=tm2 (y.getD i default).d;obtain⟨sw,hsw⟩:∃ s:Str,s=Zg waysL (y.getD i default).b:=⟨_,rfl⟩;have hlw:sw.length≤4:=hsw ▸ QT aD;obtain⟨sn,hsn⟩:∃ s:Str,s=Lib.itoa (((y.getD i default).c % 10:Nat):Int):=⟨_,rfl⟩;have hln:sn.length≤21:=hsn ▸ Lib.itoa_length_le _ aA aA;obtain⟨sp,hsp⟩:∃ s:Str,s=Lib.itoa (1+(((y.getD i default).c % 5:Nat):Int)):=⟨_,rfl⟩;have hlp:sp.length≤21:=hsp ▸ Lib.itoa_length_le _ aA aA;obtain⟨sr,hsr⟩:∃ s:Str,s=Zg roomsL (y.getD i default).c:=⟨_,rfl⟩;have hlr:sr.length≤5:=hsr ▸ QT aD;obtain⟨ss,hss⟩:∃ s:Str,s=Zg roomsL (y.getD i default).d:=⟨_,rfl⟩;have hls:ss.length≤5:=hss ▸ QT aD;obtain⟨sv,hsv⟩:∃ s:Str,s=Zg [[118,97,117,108,116],[116,97,98,108,101]] (y.getD i default).d:=⟨_,rfl⟩;have hlv:sv.length≤5:=hsv ▸ QT aD;obtain⟨se,hse⟩:∃ s:Str,s = [[115,101,97,108,32],[98,117,114,110,32]].getD ((y.getD i default).d % 2) []:=⟨_,rfl⟩;have hle:se.length≤5:=hse ▸ QT aD;obtain⟨sd,hsd⟩:∃ s:Str,s = [[100,101,97,108,32],[98,97,99,107,32]].getD ((y.getD i default).d % 2) []:=⟨_,rfl⟩;have hld:sd.length≤5:=hsd ▸ QT aD;refine Oz [1,5,13,14,15] ?_;refine bj ?_;refine cJ ?_;refine Qv qc_len (Rd.ext hS.keeps hv) (j:=i) rfl aB ?_;intro p18 hp18;refine Qw qc_len aD hp18 (Rd.ext hS.keeps hv) aB ?_;refine Kz hS ?_;intro p7 h' hp7 hS;refine Ov ?_;refine KH hS rfl (i:=0) rfl hp7 aG aM aM aD ?_;intro h' hS;simp only[dE,dI,dU] at hS;refine Oo [1,5,6,7,13,14,15] ?_;refine bw ?_;refine Oe ?_;refine KOps.geq ?_;refine Oo [1,5,7,13,14,15,21] ?_;refine Om ?_ ?_;intro c21;refine Ka ?_;refine OX ?_;refine blQ.exit rfl ?_;refine OX ?_;refine Ke ?_;refine O1 ?_;refine Od ?_;refine Oq [5] ?_;refine cJ ?_;refine Ov ?_;refine Oo [4] ?_;refine KA.ret ?_;refine fnQ.ret1 ?_;have hi24:i=24:=by omega
  subst hi24;exact St.drop (A:=[_]) hS
  ·intro c21;refine Oz [1,5,7,13,14,15] ?_;refine Ox ?_;refine OV [0,3] mixed rfl aE ?_;refine Kq aw (UW) ?_;rintro v22 h22 hS22;replace hS:St _ _ (_::_):=St.trans hS hS22;refine Qh hp7 (j:=1) rfl aD ?_;intro p23 hp23;refine Og hp23 (hS.rd 1 rfl) rfl ?_;refine Kq aJ (one_c (hS.rd 0 rfl) aD aD hq.2.1) ?_;rintro _ _ ⟨rfl,rfl⟩;rw[←hsw];refine Ov ?_;refine Oo [1,5,7,8,13,14,15] ?_;refine Ox ?_;refine OV [4,10] mixed rfl aE ?_;refine Qh hp7 (j:=2) rfl aD ?_;intro p26 hp26;refine Og hp26 (hS.rd 1 rfl) rfl ?_;refine dC ?_;rw[t10];refine Kq aJ (itoa_c (hV.ext hS.keeps).pw aA aA) ?_;rintro _ _ ⟨rfl,rfl⟩;rw[←hsn];refine Qh hp7 (j:=2) rfl aD ?_;intro p31 hp31;refine Og hp31 (hS.rd 1 rfl) rfl ?_;refine dC ?_;rw[t5];refine O5 aC aC ?_;refine Kq aJ (itoa_c (hV.ext hS.keeps).pw aA aA) ?_;rintro _ _ ⟨rfl,rfl⟩;rw[←hsp];refine Ov ?_;refine Ov ?_;refine Oo [1,5,7,8,9,10,13,14,15] ?_;refine Ow ?_;refine Qh hp7 (j:=0) rfl aD ?_;intro p37 hp37;refine Og hp37 (hS.rd 1 rfl) rfl ?_;refine dC ?_;refine Of ?_;rw[t16];refine Od ?_;refine Oq [1,5,7,8,9,10,13,14,15,40] ?_;refine OB ?_;refine KA.meet (X:=Unit) (fun _=>[(1,.bool undo),(5,v5),(7,p7),(8,.str (wd sw)),(9,.str (wd sn)),(10,.str (wd sp)),(13,v),(14,.int .i64 (y.length:Int)),(15,.int .i64 (i:Int)),(40,.int .i64 (((y.getD i default).a % 16:Nat):Int)),(54,.bool (decide ((y.getD i default).a % 16<3)))]) (fun _ h'=>St h h' [⟨p7,0,qc (y.getD i default),true⟩,⟨v5,1,wcs (XS ++ (y.take i).map (Qg undo)),true⟩]) ?_ ?_
   ·
     refine cN ?_;refine Oo [1,5,7,8,9,10,13,14,15,40,54] ?_;refine Om ?_ ?_
     · intro c54
       try have c54:=of_decide_eq_true c54
       refine Oy ?_;exact Ql () aF (St.drop (A:=[_]) hS)
     · intro c54
       try have c54:=of_decide_eq_false c54
       refine cN ?_;refine Oo [1,5,7,8,9,10,13,14,15,40,54] ?_;refine Om ?_ ?_
       · intro c54
         try have c54:=of_decide_eq_true c54
         refine Oy ?_;exact Ql () aF (St.drop (A:=[_]) hS)
       · intro c54
         try have c54:=of_decide_eq_false c54
         refine OE rfl ?_;refine Qb ?_;refine cU ?_;exact Ql () aF (St.drop (A:=[_]) hS)
   ·
     rintro _ h9 hS;refine Kp ?_ ?_
     · intro c54
       try have c54:=of_decide_eq_true c54
       refine b7 ?_;intro v64 h' hS;refine Ks hS (fun _=>rfl) (i:=1) rfl aB ?_;intro r65 h' hr65 hS;refine bZ ?_
       try simp only[dE,dI,dU] at hS
       have e:Qg undo (y.getD i default) = [108,101,97,115,116,32] ++ sw ++ [32] ++ sn:=by
         rw[hsw,hsn];unfold Qg;dsimp only;rw[if_pos c54]
         all_goals rfl
       rw[←e,dO,ZZ hlt] at hS;exact lpN (i+1,r65) ⟨by dsimp only; omega,by dsimp only; omega,St.drop (A:=[_]) hS⟩ aI
     · intro c54
       try have c54:=of_decide_eq_false c54
       refine KA.meet (X:=Unit) (fun _=>[(1,.bool undo),(5,v5),(7,p7),(8,.str (wd sw)),(9,.str (wd sn)),(10,.str (wd sp)),(13,v),(14,.int .i64 (y.length:Int)),(15,.int .i64 (i:Int)),(40,.int .i64 (((y.getD i default).a % 16:Nat):Int)),(66,.bool (decide ((y.getD i default).a % 16<6)))]) (fun _ h'=>St h h' [⟨p7,0,qc (y.getD i default),true⟩,⟨v5,1,wcs (XS ++ (y.take i).map (Qg undo)),true⟩]) ?_ ?_
       ·
         refine cN ?_;refine Oo [1,5,7,8,9,10,13,14,15,40,66] ?_;refine Om ?_ ?_
         · intro c66
           try have c66:=of_decide_eq_true c66
           refine Oy ?_;exact Ql () aF hS
         · intro c66
           try have c66:=of_decide_eq_false c66
           refine cN ?_;refine Oo [1,5,7,8,9,10,13,14,15,40,66] ?_;refine Om ?_ ?_
           · intro c66
             try have c66:=of_decide_eq_true c66
             refine Oy ?_;exact Ql () aF hS
           · intro c66
             try have c66:=of_decide_eq_false c66
             refine OE rfl ?_;refine Qb ?_;refine cU ?_;exact Ql () aF hS
       ·
         rintro _ h9 hS;refine Kp ?_ ?_
         · intro c66
           try have c66:=of_decide_eq_true c66
           refine b7 ?_;intro v76 h' hS;refine Ks hS (fun _=>rfl) (i:=1) rfl aB ?_;intro r77 h' hr77 hS;refine bZ ?_
           try simp only[dE,dI,dU] at hS
           have e:Qg undo (y.getD i default) = [109,111,115,116,32] ++ sw ++ [32] ++ sn:=by
             rw[hsw,hsn];unfold Qg;dsimp only;rw[if_neg c54,if_pos c66]
             all_goals rfl
           rw[←e,dO,ZZ hlt] at hS;exact lpN (i+1,r77) ⟨by dsimp only; omega,by dsimp only; omega,St.drop (A:=[_]) hS⟩ aI
         · intro c66
           try have c66:=of_decide_eq_false c66
           refine KA.meet (X:=Unit) (fun _=>[(1,.bool undo),(5,v5),(7,p7),(8,.str (wd sw)),(9,.str (wd sn)),(10,.str (wd sp)),(13,v),(14,.int .i64 (y.length:Int)),(15,.int .i64 (i:Int)),(40,.int .i64 (((y.getD i default).a % 16:Nat):Int)),(78,.bool (decide ((y.getD i default).a % 16<8)))]) (fun _ h'=>St h h' [⟨p7,0,qc (y.getD i default),true⟩,⟨v5,1,wcs (XS ++ (y.take i).map (Qg undo)),true⟩]) ?_ ?_
           ·
             refine cN ?_;refine Oo [1,5,7,8,9,10,13,14,15,40,78] ?_;refine Om ?_ ?_
             · intro c78
               try have c78:=of_decide_eq_true c78
               refine Oy ?_;exact Ql () aF hS
             · intro c78
               try have c78:=of_decide_eq_false c78
               refine OE rfl ?_;refine Qb ?_;refine cU ?_;exact Ql () aF hS
           ·
             rintro _ h9 hS;refine Kp ?_ ?_
             · intro c78
               try have c78:=of_decide_eq_true c78
               refine b7 ?_;intro v87 h' hS;refine Ks hS (fun _=>rfl) (i:=1) rfl aB ?_;intro r88 h' hr88 hS;refine bZ ?_
               try simp only[dE,dI,dU] at hS
               have e:Qg undo (y.getD i default) = [112,97,99,107,32] ++ sp ++ [32] ++ sw:=by
                 rw[hsp,hsw];unfold Qg;dsimp only;rw[if_neg c54,if_neg c66,if_pos c78]
                 all_goals rfl
               rw[←e,dO,ZZ hlt] at hS;exact lpN (i+1,r88) ⟨by dsimp only; omega,by dsimp only; omega,St.drop (A:=[_]) hS⟩ aI
             · intro c78
               try have c78:=of_decide_eq_false c78
               refine cN ?_;refine Oo [1,5,7,8,9,10,13,14,15,40,89] ?_;refine Om ?_ ?_
               · intro c89;refine OV [2,12] mixed rfl aE ?_;refine Oe ?_;refine bf ?_;intro v92 h' hS;refine Kq aJ (ZH) ?_;rintro r93 _ ⟨rfl,rfl⟩;replace hS:St _ _ (⟨r93,1,wcs [[115,101,97,108,32],[98,117,114,110,32]],true⟩::_):=hS;refine Qh hp7 (j:=3) rfl aD ?_;intro p94 hp94;refine Og hp94 (hS.rd 1 rfl) rfl ?_;refine dC ?_;rw[t2];refine Ou (hS.rd 0 rfl) (j:=_) rfl aB ?_;intro p98 hp98;refine OJ hp98 (hS.rd 0 rfl) aB ?_;rw[←hse];refine Oe ?_;refine KP aB ?_;refine bf ?_;intro v102 h' hS;refine Ks hS (fun _=>rfl) (i:=2) rfl aB ?_;intro r103 h' hr103 hS;refine bZ ?_
                 try simp only[dE,dI,dU] at hS
                 have e:Qg undo (y.getD i default)=se ++ sp:=by
                   rw[hse,hsp];unfold Qg;dsimp only;rw[if_neg c54,if_neg c66,if_neg c78,if_pos aA]
                   all_goals rfl
                 rw[←e,dO,ZZ hlt] at hS;exact lpN (i+1,r103) ⟨by dsimp only; omega,by dsimp only; omega,St.drop (A:=[_,_]) hS⟩ aI
               · intro c89;refine cN ?_;refine Oo [1,5,7,8,9,10,13,14,15,40,104] ?_;refine Om ?_ ?_
                 · intro c104;refine OV [2,12] mixed rfl aE ?_;refine Oe ?_;refine bf ?_;intro v107 h' hS;refine Kq aJ (ZH) ?_;rintro r108 _ ⟨rfl,rfl⟩;replace hS:St _ _ (⟨r108,1,wcs [[100,101,97,108,32],[98,97,99,107,32]],true⟩::_):=hS;refine Qh hp7 (j:=3) rfl aD ?_;intro p109 hp109;refine Og hp109 (hS.rd 1 rfl) rfl ?_;refine dC ?_;rw[t2];refine Ou (hS.rd 0 rfl) (j:=_) rfl aB ?_;intro p113 hp113;refine OJ hp113 (hS.rd 0 rfl) aB ?_;rw[←hsd];refine Oe ?_;refine KP aB ?_;refine bf ?_;intro v117 h' hS;refine Ks hS (fun _=>rfl) (i:=2) rfl aB ?_;intro r118 h' hr118 hS;refine bZ ?_
                   try simp only[dE,dI,dU] at hS
                   have e:Qg undo (y.getD i default)=sd ++ sp:=by
                     rw[hsd,hsp];unfold Qg;dsimp only;rw[if_neg c54,if_neg c66,if_neg c78,if_neg (fun x=>c89 aA),if_pos aA]
                     all_goals rfl
                   rw[←e,dO,ZZ hlt] at hS;exact lpN (i+1,r118) ⟨by dsimp only; omega,by dsimp only; omega,St.drop (A:=[_,_]) hS⟩ aI
                 · intro c104;refine KA.meet (X:=Unit) (fun _=>[(1,.bool undo),(5,v5),(7,p7),(8,.str (wd sw)),(9,.str (wd sn)),(13,v),(14,.int .i64 (y.length:Int)),(15,.int .i64 (i:Int)),(40,.int .i64 (((y.getD i default).a % 16:Nat):Int)),(119,.bool (decide ((y.getD i default).a % 16<12)))]) (fun _ h'=>St h h' [⟨p7,0,qc (y.getD i default),true⟩,⟨v5,1,wcs (XS ++ (y.take i).map (Qg undo)),true⟩]) ?_ ?_
                   ·
                     refine cN ?_;refine Oo [1,5,7,8,9,13,14,15,40,119] ?_;refine Om ?_ ?_
                     · intro c119
                       try have c119:=of_decide_eq_true c119
                       refine Oy ?_;exact Ql () aF hS
                     · intro c119
                       try have c119:=of_decide_eq_false c119
                       refine OE rfl ?_;refine Qb ?_;refine cU ?_;exact Ql () aF hS
                   ·
                     rintro _ h9 hS;refine Kp ?_ ?_
                     · intro c119
                       try have c119:=of_decide_eq_true c119
                       refine b7 ?_;intro v128 h' hS;refine Ks hS (fun _=>rfl) (i:=1) rfl aB ?_;intro r129 h' hr129 hS;refine bZ ?_
                       try simp only[dE,dI,dU] at hS
                       have e:Qg undo (y.getD i default) = [99,108,97,105,109,32] ++ sw ++ [32] ++ sn:=by
                         rw[hsw,hsn];unfold Qg;dsimp only;rw[if_neg c54,if_neg c66,if_neg c78,if_neg (fun x=>c89 aA),if_neg (fun x=>c104 aA),if_pos c119]
                         all_goals rfl
                       rw[←e,dO,ZZ hlt] at hS;exact lpN (i+1,r129) ⟨by dsimp only; omega,by dsimp only; omega,St.drop (A:=[_]) hS⟩ aI
                     · intro c119
                       try have c119:=of_decide_eq_false c119
                       refine cN ?_;refine Oo [1,5,7,8,13,14,15,40,130] ?_;refine Om ?_ ?_
                       · intro c130;refine OE rfl ?_;refine Oe ?_;refine Oe ?_;refine KP aB ?_;refine bf ?_;intro v135 h' hS;refine Ks hS (fun _=>rfl) (i:=1) rfl aB ?_;intro r136 h' hr136 hS;refine bZ ?_
                         try simp only[dE,dI,dU] at hS
                         have e:Qg undo (y.getD i default) = [102,114,101,101,32] ++ sw:=by
                           rw[hsw];unfold Qg;dsimp only;rw[if_neg c54,if_neg c66,if_neg c78,if_neg (fun x=>c89 aA),if_neg (fun x=>c104 aA),if_neg c119,if_pos aA]
                           all_goals rfl
                         rw[←e,dO,ZZ hlt] at hS;exact lpN (i+1,r136) ⟨by dsimp only; omega,by dsimp only; omega,St.drop (A:=[_]) hS⟩ aI
                       · intro c130;refine KA.meet (X:=Unit) (fun _=>[(1,.bool undo),(5,v5),(7,p7),(8,.str (wd sw)),(13,v),(14,.int .i64 (y.length:Int)),(15,.int .i64 (i:Int)),(137,.bool (decide ((y.getD i default).a % 16<15)))]) (fun _ h'=>St h h' [⟨p7,0,qc (y.getD i default),true⟩,⟨v5,1,wcs (XS ++ (y.take i).map (Qg undo)),true⟩]) ?_ ?_
                         ·
                           refine cN ?_;refine Oo [1,5,7,8,13,14,15,40,137] ?_;refine Om ?_ ?_
                           · intro c137
                             try have c137:=of_decide_eq_true c137
                             refine Oy ?_;exact Ql () aF hS
                           · intro c137
                             try have c137:=of_decide_eq_false c137
                             refine OE rfl ?_;refine Qb ?_;refine cU ?_;exact Ql () aF hS
                         ·
                           rintro _ h9 hS;refine Kp ?_ ?_
                           · intro c137
                             try have c137:=of_decide_eq_true c137
                             refine OV [4,7,10,13,16] mixed rfl aE ?_;refine Oe ?_;refine Oe ?_;refine KP aB ?_;refine KP aB ?_;refine Kq aw (Rs) ?_;rintro v144 h144 hS144;replace hS:St _ _ (_::_):=St.trans hS hS144;refine Qh hp7 (j:=2) rfl aD ?_;intro p145 hp145;refine Og hp145 (hS.rd 1 rfl) rfl ?_;refine Kq aJ (one_c (hS.rd 0 rfl) aD aD hq.2.2.1) ?_;rintro _ _ ⟨rfl,rfl⟩;rw[←hsr];refine KP aB ?_;refine KP aB ?_;refine Kq aw (Rs) ?_;rintro v150 h150 hS150;replace hS:St _ _ (_::_):=St.trans hS hS150;refine Qh hp7 (j:=3) rfl aD ?_;intro p151 hp151;refine Og hp151 (hS.rd 2 rfl) rfl ?_;refine Kq aJ (one_c (hS.rd 0 rfl) aD aD hq.2.2.2) ?_;rintro _ _ ⟨rfl,rfl⟩;rw[←hss];refine KP aB ?_;refine bf ?_;intro v155 h' hS;refine Ks hS (fun _=>rfl) (i:=3) rfl aB ?_;intro r156 h' hr156 hS;refine bZ ?_
                             try simp only[dE,dI,dU] at hS
                             have e:Qg undo (y.getD i default) = [119,97,121,32] ++ sw ++ [32] ++ sr ++ [32] ++ ss:=by
                               rw[hsw,hsr,hss];unfold Qg;dsimp only;rw[if_neg c54,if_neg c66,if_neg c78,if_neg (fun x=>c89 aA),if_neg (fun x=>c104 aA),if_neg c119,if_neg (fun x=>c130 aA),if_pos c137]
                               all_goals rfl
                             rw[←e,dO,ZZ hlt] at hS;exact lpN (i+1,r156) ⟨by dsimp only; omega,by dsimp only; omega,St.drop (A:=[_,_,_]) hS⟩ aI
                           · intro c137
                             try have c137:=of_decide_eq_false c137
                             refine cJ ?_;refine Oo [1,5,7,13,14,15,41] ?_;refine Kp ?_ ?_
                             · intro c41;refine OE rfl ?_;refine Oe ?_;refine bf ?_;intro v43 h' hS;refine Ks hS (fun _=>rfl) (i:=1) rfl aB ?_;intro r44 h' hr44 hS;refine bZ ?_
                               try simp only[dE,dI,dU] at hS
                               have e:Qg undo (y.getD i default) = [117,110,100,111]:=by
                                 unfold Qg;dsimp only;rw[if_neg c54,if_neg c66,if_neg c78,if_neg (fun x=>c89 aA),if_neg (fun x=>c104 aA),if_neg c119,if_neg (fun x=>c130 aA),if_neg c137,if_pos c41]
                                 all_goals rfl
                               rw[←e,dO,ZZ hlt] at hS;exact lpN (i+1,r44) ⟨by dsimp only; omega,by dsimp only; omega,St.drop (A:=[_]) hS⟩ aI
                             · intro c41;refine OV [2,5,8] mixed rfl aE ?_;refine Oe ?_;refine bf ?_;intro v46 h' hS;refine Kq aJ (ZH) ?_;rintro r47 _ ⟨rfl,rfl⟩;replace hS:St _ _ (⟨r47,1,wcs [[118,97,117,108,116],[116,97,98,108,101]],true⟩::_):=hS;refine Qh hp7 (j:=3) rfl aD ?_;intro p48 hp48;refine Og hp48 (hS.rd 1 rfl) rfl ?_;refine Kq aJ (one_c (hS.rd 0 rfl) aD aD hq.2.2.2) ?_;rintro _ _ ⟨rfl,rfl⟩;rw[←hsv];refine KP aB ?_;refine bf ?_;intro v52 h' hS;refine Ks hS (fun _=>rfl) (i:=2) rfl aB ?_;intro r53 h' hr53 hS;refine bZ ?_
                               try simp only[dE,dI,dU] at hS
                               have e:Qg undo (y.getD i default) = [114,111,111,109,32] ++ sv:=by
                                 rw[hsv];unfold Qg;dsimp only;rw[if_neg c54,if_neg c66,if_neg c78,if_neg (fun x=>c89 aA),if_neg (fun x=>c104 aA),if_neg c119,if_neg (fun x=>c130 aA),if_neg c137,if_neg (by simp[c41])]
                                 all_goals rfl
                               rw[←e,dO,ZZ hlt] at hS;exact lpN (i+1,r53) ⟨by dsimp only; omega,by dsimp only; omega,St.drop (A:=[_,_]) hS⟩ aI
 intro c16;refine bQ ?_;refine Oq [5] ?_;refine cJ ?_;refine Ov ?_;refine Oo [4] ?_;refine KA.ret ?_;refine fnQ.ret1 ?_;have e:y.take i=y.take 24:=by rw[dJ aA,dJ aA]
 unfold QR;rw[←e];exact hS
end Go.Am
namespace Go.Am
open Go.ChangeShapes Go.WideShapes
def qOf (l:List Int):Q4:=⟨(l.getD 0 0).toNat,(l.getD 1 0).toNat,(l.getD 2 0).toNat,(l.getD 3 0).toNat⟩
theorem nat_i {x:Int} (h : 0≤x∧x≤255):∃ n:Nat,x=n∧n<256:=⟨x.toNat,by omega,by omega⟩
theorem qc_of {l:List Int} (h:l.length=4) (hw:∀ x∈l,(Lit.int .u8 x).wf=true):l.map (AV.int .u8)=qc (qOf l)∧(qOf l).Ok:=by
 match l,h with
 | [a,b,c,d],_=>
  obtain⟨a,rfl,ha⟩:=nat_i (wf_u8 (hw a aV));obtain⟨b,rfl,hb⟩:=nat_i (wf_u8 (hw b aV));obtain⟨c,rfl,hc⟩:=nat_i (wf_u8 (hw c aV));obtain⟨d,rfl,hd⟩:=nat_i (wf_u8 (hw d aV));exact⟨rfl,ha,hb,hc,hd⟩
theorem rows_year {h:AHeap}:∀ {rows:List (List AV)} {xs:List (List Int)},rows.length=xs.length→(∀ (i:Nat) (r:List AV) (x:List Int),rows[i]? = some r→xs[i]? = some x→r.length=4∧EArr .u8 4 h r x)→rows.flatten=flr qc (xs.map qOf)∧∀ q∈xs.map qOf,q.Ok:=by
 intro rows
 induction rows with
 | nil=>intro xs hl _; rw[List.length_eq_zero_iff.1 hl.symm]; exact⟨rfl,fun q hq=>by cases hq⟩
 | cons r rows ih=>
  intro xs hl hx
  cases xs with
  | nil=>cases hl
  | cons x xs=>
   obtain⟨_,h1,h2,h3⟩:=hx 0 r x rfl rfl;have ih2:=ih ak (fun i r y hr hy=>hx (i+1) r y (by simpa using hr) az);obtain⟨h4,h5⟩:=qc_of h2 h3;refine⟨?_,?_⟩;rw[List.flatten_cons,ih2.1,h1,h4];rfl;intro q hq;rw[List.map_cons,List.mem_cons] at hq;rcases hq with rfl|hq
   exact h5;exact ih2.2 q hq
theorem year_of {h:AHeap} {av:AV} {x:List (List Int)} (hE:ESl 4 (EArr .u8 4) h [av] x):∃ ys:List Q4,Rd h av 4 (flr qc ys)∧∀ q∈ys,q.Ok:=by
 obtain⟨v,rows,h2,h3,h4,h5⟩:=hE;cases h2;have h6:=rows_year h4 h5;exact⟨x.map qOf,by rw[←h6.1]; exact h3,h6.2⟩
theorem ic_year {H:Type} {enc:TypeId × Value→H}:IC enc Go.Proofs.Tryz.prog 53 (ESl 4 (EArr .u8 4)):=
  IC.slice (s:=4) Go.Proofs.Tryz.underlying53 aE aD (IC.array Go.Proofs.Tryz.underlying87 aE aE Go.Proofs.Tryz.underlying5)
end Go.Am
namespace Go.Proofs
open Go.Shelf
def Tryz.laysC172_ren:Go.Shelf.Ren:=⟨fun|172=>55|244=>98|245=>99|247=>133|279=>134|280=>135|281=>136|282=>137|287=>174|316=>175|171=>50|205=>176|321=>208|322=>209|243=>97|246=>132|283=>170|284=>171|285=>172|286=>173|129=>204|317=>203|318=>205|319=>206|320=>207|337=>225|338=>226|n=>n,fun|9=>9|3=>3|75=>89|76=>90|4=>4|5=>5|167=>190|37=>74|0=>0|85=>191|2=>2|168=>193|53=>238|175=>243|46=>245|210=>247|127=>168|145=>276|143=>274|21=>21|171=>237|173=>241|212=>269|51=>270|20=>20|213=>271|232=>297|233=>298|80=>33|n=>n,fun|15=>1|16=>2|17=>4|18=>7|19=>8|n=>n⟩
theorem Tryz.laysC172 : Go.Proofs.LaysC.n172 Tryz.prog Tryz.laysC172_ren := {
  mixed:=by kernel_rfl
  f129:=Tryz.func204.trans (congrArg some (by kernel_rfl))
  f171:=Tryz.func50.trans (congrArg some (by kernel_rfl))
  f172:=Tryz.func55.trans (congrArg some (by kernel_rfl))
  f205:=Tryz.func176.trans (congrArg some (by kernel_rfl))
  f243:=Tryz.func97.trans (congrArg some (by kernel_rfl))
  f244:=Tryz.func98.trans (congrArg some (by kernel_rfl))
  f245:=Tryz.func99.trans (congrArg some (by kernel_rfl))
  f246:=Tryz.func132.trans (congrArg some (by kernel_rfl))
  f247:=Tryz.func133.trans (congrArg some (by kernel_rfl))
  f279:=Tryz.func134.trans (congrArg some (by kernel_rfl))
  f280:=Tryz.func135.trans (congrArg some (by kernel_rfl))
  f281:=Tryz.func136.trans (congrArg some (by kernel_rfl))
  f282:=Tryz.func137.trans (congrArg some (by kernel_rfl))
  f283:=Tryz.func170.trans (congrArg some (by kernel_rfl))
  f284:=Tryz.func171.trans (congrArg some (by kernel_rfl))
  f285:=Tryz.func172.trans (congrArg some (by kernel_rfl))
  f286:=Tryz.func173.trans (congrArg some (by kernel_rfl))
  f287:=Tryz.func174.trans (congrArg some (by kernel_rfl))
  f316:=Tryz.func175.trans (congrArg some (by kernel_rfl))
  f317:=Tryz.func203.trans (congrArg some (by kernel_rfl))
  f318:=Tryz.func205.trans (congrArg some (by kernel_rfl))
  f319:=Tryz.func206.trans (congrArg some (by kernel_rfl))
  f320:=Tryz.func207.trans (congrArg some (by kernel_rfl))
  f321:=Tryz.func208.trans (congrArg some (by kernel_rfl))
  f322:=Tryz.func209.trans (congrArg some (by kernel_rfl))
  f337:=Tryz.func225.trans (congrArg some (by kernel_rfl))
  f338:=Tryz.func226.trans (congrArg some (by kernel_rfl))
  t0:=Tryz.underlying0
  a0:=Tryz.isAgg0
  z0:=Tryz.sizeOf0
  v0:=Tryz.zeroValue0
  t2:=Tryz.underlying2
  a2:=Tryz.isAgg2
  z2:=Tryz.sizeOf2
  v2:=Tryz.zeroValue2
  t3:=Tryz.underlying3
  a3:=Tryz.isAgg3
  z3:=Tryz.sizeOf3
  v3:=Tryz.zeroValue3
  t4:=Tryz.underlying4
  a4:=Tryz.isAgg4
  z4:=Tryz.sizeOf4
  v4:=Tryz.zeroValue4
  t5:=Tryz.underlying5
  a5:=Tryz.isAgg5
  z5:=Tryz.sizeOf5
  v5:=Tryz.zeroValue5
  t9:=Tryz.underlying9
  a9:=Tryz.isAgg9
  z9:=Tryz.sizeOf9
  v9:=Tryz.zeroValue9
  t20:=Tryz.underlying20
  a20:=Tryz.isAgg20
  z20:=Tryz.sizeOf20
  v20:=Tryz.zeroValue20
  t21:=Tryz.underlying21
  a21:=Tryz.isAgg21
  z21:=Tryz.sizeOf21
  v21:=Tryz.zeroValue21
  t37:=Tryz.underlying74
  a37:=Tryz.isAgg74
  z37:=Tryz.sizeOf74
  v37:=Tryz.zeroValue74
  t46:=Tryz.underlying245
  a46:=Tryz.isAgg245
  z46:=Tryz.sizeOf245
  v46:=Tryz.zeroValue245
  t51:=Tryz.underlying270
  a51:=Tryz.isAgg270
  z51:=Tryz.sizeOf270
  v51:=Tryz.zeroValue270
  t53:=Tryz.underlying238
  a53:=Tryz.isAgg238
  z53:=Tryz.sizeOf238
  v53:=Tryz.zeroValue238
  t75:=Tryz.underlying89
  a75:=Tryz.isAgg89
  z75:=Tryz.sizeOf89
  v75:=Tryz.zeroValue89
  t76:=Tryz.underlying90
  a76:=Tryz.isAgg90
  z76:=Tryz.sizeOf90
  v76:=Tryz.zeroValue90
  t85:=Tryz.underlying191
  a85:=Tryz.isAgg191
  z85:=Tryz.sizeOf191
  v85:=Tryz.zeroValue191
  t127:=Tryz.underlying168
  a127:=Tryz.isAgg168
  z127:=Tryz.sizeOf168
  v127:=Tryz.zeroValue168
  t143:=Tryz.underlying274
  a143:=Tryz.isAgg274
  z143:=Tryz.sizeOf274
  v143:=Tryz.zeroValue274
  t145:=Tryz.underlying276
  a145:=Tryz.isAgg276
  z145:=Tryz.sizeOf276
  v145:=Tryz.zeroValue276
  t167:=Tryz.underlying190
  a167:=Tryz.isAgg190
  z167:=Tryz.sizeOf190
  v167:=Tryz.zeroValue190
  t168:=Tryz.underlying193
  a168:=Tryz.isAgg193
  z168:=Tryz.sizeOf193
  v168:=Tryz.zeroValue193
  t171:=Tryz.underlying237
  a171:=Tryz.isAgg237
  z171:=Tryz.sizeOf237
  v171:=Tryz.zeroValue237
  t173:=Tryz.underlying241
  a173:=Tryz.isAgg241
  z173:=Tryz.sizeOf241
  v173:=Tryz.zeroValue241
  t175:=Tryz.underlying243
  a175:=Tryz.isAgg243
  z175:=Tryz.sizeOf243
  v175:=Tryz.zeroValue243
  t210:=Tryz.underlying247
  a210:=Tryz.isAgg247
  z210:=Tryz.sizeOf247
  v210:=Tryz.zeroValue247
  t212:=Tryz.underlying269
  a212:=Tryz.isAgg269
  z212:=Tryz.sizeOf269
  v212:=Tryz.zeroValue269
  t213:=Tryz.underlying271
  a213:=Tryz.isAgg271
  z213:=Tryz.sizeOf271
  t232:=Tryz.underlying297
  a232:=Tryz.isAgg297
  z232:=Tryz.sizeOf297
  v232:=Tryz.zeroValue297
  t233:=Tryz.underlying298
  a233:=Tryz.isAgg298
  z233:=Tryz.sizeOf298
  v233:=Tryz.zeroValue298
  g15:=by kernel_rfl
  g16:=by kernel_rfl
  g17:=by kernel_rfl
  g18:=by kernel_rfl
  g19:=by kernel_rfl
  t80:=Tryz.underlying33
  a80:=Tryz.isAgg33
  z80:=Tryz.sizeOf33
  v80:=Tryz.zeroValue33
  i0:=by kernel_rfl
  i2:=by kernel_rfl
  i3:=by kernel_rfl
  i4:=by kernel_rfl
  i5:=by kernel_rfl
  i9:=by kernel_rfl
  i20:=by kernel_rfl
  i21:=by kernel_rfl
  i37:=by kernel_rfl
  i46:=by kernel_rfl
  i51:=by kernel_rfl
  i53:=by kernel_rfl
  i75:=by kernel_rfl
  i76:=by kernel_rfl
  i80:=by kernel_rfl
  i85:=by kernel_rfl
  i127:=by kernel_rfl
  i143:=by kernel_rfl
  i145:=by kernel_rfl
  i167:=by kernel_rfl
  i168:=by kernel_rfl
  i171:=by kernel_rfl
  i173:=by kernel_rfl
  i175:=by kernel_rfl
  i210:=by kernel_rfl
  i212:=by kernel_rfl
  i232:=by kernel_rfl
  i233:=by kernel_rfl
  m15:=by kernel_rfl
  m16:=by kernel_rfl
  m17:=by kernel_rfl
  m18:=by kernel_rfl
  m19:=by kernel_rfl
  c0:=by kernel_rfl
  c2:=by kernel_rfl
  c3:=by kernel_rfl
  c4:=by kernel_rfl
  c5:=by kernel_rfl
  c9:=by kernel_rfl
  c20:=by kernel_rfl
  c21:=by kernel_rfl
  c37:=by kernel_rfl
  c46:=by kernel_rfl
  c51:=by kernel_rfl
  c53:=by kernel_rfl
  c75:=by kernel_rfl
  c76:=by kernel_rfl
  c80:=by kernel_rfl
  c85:=by kernel_rfl
  c127:=by kernel_rfl
  c143:=by kernel_rfl
  c145:=by kernel_rfl
  c167:=by kernel_rfl
  c168:=by kernel_rfl
  c171:=by kernel_rfl
  c173:=by kernel_rfl
  c175:=by kernel_rfl
  c210:=by kernel_rfl
  c212:=by kernel_rfl
  c213:=by kernel_rfl
  c232:=by kernel_rfl
  c233:=by kernel_rfl}
open Go.RowKit in
theorem Tryz.strconv_Atoi_ok (s : ByteArray) (hmax : s.size ≤ 9223372036854775806) (v : Int) (h : Lib.atoiAll s.data.toList = .ok v) (w : World) :
    Calls Tryz.prog 55 #[.string s] w fun e w'=>e = .returned (.tuple #[.int .i64 v,.nilIface])∧(w'=w∨∃ t,w'=Lib.bytesWorld w 5 t):=Any.strconv_Atoi_ok Tryz.laysC172 s hmax v h w
open Go.RowKit in
theorem Tryz.strconv_Atoi_syntax (s : ByteArray) (hlim : s.size ≤ 281474976710656) (h : Lib.atoiAll s.data.toList = Lib.atoiAll []) (ev : Value) (w : World) (hv : w.cell? ⟨1, 0, none⟩ = some ev) (hev : ev = .nilIface ∨ ∃ te pe, ev = .iface te pe) :
    Calls Tryz.prog 55 #[.string s] w fun e w'=>∃ N,e = .returned (.tuple #[.int .i64 (0),.iface 193 (.pointer (some ⟨N,0,none⟩))])∧w.heap.size≤N∧w'.heap[N]? = some (.cells #[.string ⟨#[65,116,111,105]⟩,.string s,ev] 247 (0,0))∧Below w.heap.size w w':=Any.strconv_Atoi_syntax Tryz.laysC172 s hlim h ev w hv hev
end Go.Proofs
