/-
  Layer 14: the law's own examples: works().
  Conditions: none.
-/
import Derived.Test.YtgnogfjajnnaoaaGreatDoorOi
import Derived.Test.YtgnogfjajnnaoaaGreatDoorSPb
import Derived.Test.YtgnogfjajnnaoaaGreatDoorRows
import Derived.MakeChecks
import Derived.HandedShaped
import Derived.Shelf.Vars
open List renaming set_cons_zero → dA, set_cons_succ → dE, append_assoc → dI, getD_eq_getElem?_getD → dU, getElem?_eq_getElem → dB, getElem?_eq_some_iff → dD, take_of_length_le → dG, getElem?_map → dH, all_eq_true → dJ, length_map → dK
open Nat renaming zero_add → dO, le_of_ble_eq_true → dY, zero_le → dF
open Option.some renaming inj → dC
set_option maxRecDepth 99999
set_option maxHeartbeats 4000000
namespace Go.Am
theorem Vt {l:List Str} {x:Str} {e:Int} (h:O2 l x=e) (he:e≠0):doL l x=l:=if_neg (by rw[h]; exact he)
theorem XZ {l:List Str} {x:Str} (h:O2 l x=0):doL l x=l ++ [x]:=if_pos h
section
variable {P:Program} {n:Nat} {ops:Array Oper} {ex:List Nat} {Q:KF→AHeap→Prop} {k:Nat} {os:List Oper} {K:KF} {h:AHeap} {d:Nat} {ty:TypeId} {pos:String} {after:Array Edge}
theorem Kk {t t':TypeId} {x y:Operand} {kd:IntKind} {a b:Int} [hx:EvK h.globs n K x (.int kd a)] [hy:EvK h.globs n K y (.int kd b)] (he:a=b) (hk:KOps P n ops ex Q (k+1) os ((d,.bool false)::K) h):KOps P n ops ex Q k (⟨some d,.binOp .neq t x y t',ty,pos,after,none⟩::os) K h:=by
 refine KOps.neq ?_;rw[decide_eq_true he]; exact hk
theorem KOps.eqlV {t t':TypeId} {x y:Operand} {kd:IntKind} {a b:Int} [hx:EvK h.globs n K x (.int kd a)] [hy:EvK h.globs n K y (.int kd b)] (he:a=b) (hk:KOps P n ops ex Q (k+1) os ((d,.bool true)::K) h):KOps P n ops ex Q k (⟨some d,.binOp .eql t x y t',ty,pos,after,none⟩::os) K h:=by
 refine K9 ?_;rw[decide_eq_true he]; exact hk
theorem KOps.notT {t:TypeId} {x:Operand} [hx:EvK h.globs n K x (.bool true)] (hk:KOps P n ops ex Q (k+1) os ((d,.bool false)::K) h):KOps P n ops ex Q k (⟨some d,.unOp .not t x,ty,pos,after,none⟩::os) K h:=by
 refine KOps.not (b:=true) ?_;exact hk
end
theorem works_c {h:AHeap} (hV:Vs h):ACalls Go.Proofs.Tryz.prog 15 [] h (fun q h'=>q = .bool true∧Keeps h h'):=by
 refine OL 240 [.tmp 0] Go.Proofs.Tryz.func15 rfl aD rfl rfl (dY rfl) ?_;have hS:=St.refl h;show KA _ 240 _ _ [] _;refine OK [] ?_;refine Ox ?_;refine Oi rfl (bLines_c) ?_;rintro v19 h19 hS;refine Oi rfl (toldX_c (hS.rd 0 rfl) aD aP (hV.ext hS.keeps)) ?_;rintro _ h5 ⟨b,rfl,hB⟩;have hT1:QR bLines bLines.length=bLines:=told_B.1;have hT2:Zc bLines bLines.length=true:=told_B.2;rw[hT1] at hB;rw[hT2];obtain⟨vl,A,hb,hS5⟩:=hB;have hSB:St h h5 (Zp b vl A bLines ++ [⟨v19,1,wcs bLines,true⟩]):=by
  have hx:=St.trans hS hS5;rwa [List.append_nil] at hx
 have hV5:=hV.ext hSB.keeps;have r:=St.rbk hSB hb;clear hS;have hS:=St.refl h5;refine OK [1,2] ?_;refine Ou ?_;refine Oi rfl (boundsB_c (w:=sIn) (r.ext hS.keeps)) ?_;rintro _ _ ⟨rfl,rfl⟩;rw[e1,show tup3 (5,99,0)=AV.tup [.int .i64 5,.int .i64 99,.int .i64 0] from rfl];refine OK [1,2,3,4,5] ?_;refine Ou ?_;refine Oi rfl (Wc (w:=Yo) (r.ext hS.keeps)) ?_;rintro _ h7 ⟨rfl,hK⟩;have hS0:=St.on hS hK;clear hS;have hS:=hS0;clear hS0;rw[e2,show tup3 (5,6,0)=AV.tup [.int .i64 5,.int .i64 6,.int .i64 0] from rfl];refine OK [1,2,3,4,5,6,7,8] ?_;refine Ou ?_;refine Oi rfl (UY (w:=Yo) (r.ext hS.keeps) (hV5.ext hS.keeps)) ?_;rintro _ h8 ⟨v37,rfl,hSN⟩;rw[e3.1] at hSN;rw[e3.2];replace hS:St _ _ (_::_):=St.trans hS hSN;refine OK [1,2,3,4,5,6,7,8,9,10] ?_;refine Ou ?_;refine Oi rfl (UY (w:=JK) (r.ext hS.keeps) (hV5.ext hS.keeps)) ?_;rintro _ h9 ⟨v42,rfl,hSN⟩;rw[e4.1] at hSN;rw[e4.2];replace hS:St _ _ (_::_):=St.trans hS hSN;refine OK [1,2,3,4,5,6,7,8,9,10,11,12] ?_;refine Ou ?_;refine KOps.notT ?_;refine Ou ?_;refine bc ?_;refine bc ?_;refine bc ?_;refine bc ?_;refine bc ?_;refine bc ?_;refine bc ?_;refine bc ?_;refine bd ?_;intro v81 h' hS;refine Ol (dj:=79) rfl rfl ?_;refine Oi rfl (Zj) ?_;rintro _ _ ⟨rfl,rfl⟩;refine Ol (dj:=79) rfl rfl ?_;refine Oi rfl (XL (a:=[sTax,VA]) (b:=[sTax,VA]) (hS.rd 2 rfl) (hS.rd 0 rfl) aD) ?_;rintro _ _ ⟨rfl,rfl⟩;rw[show decide _=true from by decide];refine Ol (dj:=79) rfl rfl ?_;refine KOps.notT ?_;refine OU ?_;refine Ou ?_;refine O1 (hS.rd 1 rfl) ?_;refine Ou ?_;refine Oi rfl (JM (r.ext hS.keeps)) ?_;rintro v90 h10 hSN;rw[e5] at hSN;replace hS:St _ _ (_::_):=St.trans hS hSN;refine Ol (dj:=86) rfl rfl ?_;refine O1 (hS.rd 0 rfl) ?_;refine Ol (dj:=86) rfl rfl ?_;refine Ko aD aD ?_;refine Ol (dj:=86) rfl rfl ?_;refine bc ?_;refine Oi rfl (Uc (r.ext hS.keeps)) ?_;rintro v97 h11 hSN;rw[e6] at hSN;replace hS:St _ _ (_::_):=St.trans hS hSN;refine Ol (dj:=95) rfl rfl ?_;refine bd ?_;intro v98 h' hS;refine Ol (dj:=95) rfl rfl ?_;refine Oi rfl (Zj) ?_;rintro _ _ ⟨rfl,rfl⟩;refine Ol (dj:=95) rfl rfl ?_;refine Oi rfl (XL (a:=[sTax,sPress,VA]) (b:=[sTax,sPress,VA]) (hS.rd 1 rfl) (hS.rd 0 rfl) aD) ?_;rintro _ _ ⟨rfl,rfl⟩;rw[show decide _=true from by decide];refine Ol (dj:=95) rfl rfl ?_;refine KOps.notT ?_;refine OU ?_;refine Ot [1,102] ?_;refine ON ?_;refine OB [1] ?_;refine Ou ?_;have hSB2:=St.drop (St.trans hSB hS);clear hSB hS;have hSB:=hSB2;clear hSB2;refine Oi rfl (Xq (line:=[99,108,97,105,109,32,105,110,32,55]) hb hSB (hV.ext hSB.keeps) aD) ?_;rintro _ _ ⟨rfl,hB⟩;rw[show O2 bLines [99,108,97,105,109,32,105,110,32,55]=_ from a1];rw[Vt a1 aD] at hB;clear hb hSB;obtain⟨vl,A,hb,hSB⟩:=hB;refine Kk aQ ?_;refine Ou ?_;refine Oi rfl (Xq (line:=[99,108,97,105,109,32,105,110,32,53]) hb hSB (hV.ext hSB.keeps) aD) ?_;rintro _ _ ⟨rfl,hB⟩;rw[show O2 bLines [99,108,97,105,109,32,105,110,32,53]=_ from a2];rw[Vt a2 aD] at hB;clear hb hSB;obtain⟨vl,A,hb,hSB⟩:=hB;refine Ol (dj:=106) rfl rfl ?_;refine bc ?_;refine Oi rfl (Xq (line:=[109,111,115,116,32,105,110,32,52]) hb hSB (hV.ext hSB.keeps) aD) ?_;rintro _ _ ⟨rfl,hB⟩;rw[show O2 bLines [109,111,115,116,32,105,110,32,52]=_ from a3];rw[Vt a3 aD] at hB;clear hb hSB;obtain⟨vl,A,hb,hSB⟩:=hB;refine Ol (dj:=111) rfl rfl ?_;refine bc ?_;refine Oi rfl (Xq (line:=[108,101,97,115,116,32,111,117,116,32,55]) hb hSB (hV.ext hSB.keeps) aD) ?_;rintro _ _ ⟨rfl,hB⟩;rw[show O2 bLines [108,101,97,115,116,32,111,117,116,32,55]=_ from a4];rw[Vt a4 aD] at hB;clear hb hSB;obtain⟨vl,A,hb,hSB⟩:=hB;refine Ol (dj:=116) rfl rfl ?_;refine bc ?_;refine Oi rfl (Xq (line:=[108,101,97,115,116,32,104,111,109,101,32,54]) hb hSB (hV.ext hSB.keeps) aD) ?_;rintro _ _ ⟨rfl,hB⟩;rw[show O2 bLines [108,101,97,115,116,32,104,111,109,101,32,54]=_ from a5];rw[XZ (x:=[108,101,97,115,116,32,104,111,109,101,32,54]) a5,show bLines ++ [[108,101,97,115,116,32,104,111,109,101,32,54]]=L1 from rfl] at hB;clear hb hSB;obtain⟨vl,A,hb,hSB⟩:=hB;refine Ol (dj:=121) rfl rfl ?_;refine bc ?_;refine Oi rfl (Xq (line:=[99,108,97,105,109,32,105,110,32,54]) hb hSB (hV.ext hSB.keeps) aD) ?_;rintro _ _ ⟨rfl,hB⟩;rw[show O2 L1 [99,108,97,105,109,32,105,110,32,54]=_ from a6];rw[XZ (x:=[99,108,97,105,109,32,105,110,32,54]) a6,show L1 ++ [[99,108,97,105,109,32,105,110,32,54]]=L2 from rfl] at hB;clear hb hSB;obtain⟨vl,A,hb,hSB⟩:=hB;refine Ol (dj:=126) rfl rfl ?_;refine bc ?_;refine Oi rfl (Xq (line:=[108,101,97,115,116,32,105,110,32,49]) hb hSB (hV.ext hSB.keeps) aD) ?_;rintro _ _ ⟨rfl,hB⟩;rw[show O2 L2 [108,101,97,115,116,32,105,110,32,49]=_ from a7];rw[Vt a7 aD] at hB;clear hb hSB;obtain⟨vl,A,hb,hSB⟩:=hB;refine Ol (dj:=131) rfl rfl ?_;refine bc ?_;refine Oi rfl (JM (St.rbk hSB hb)) ?_;rintro _ _ hS;rw[e7] at hS;refine Ol (dj:=136) rfl rfl ?_;refine bd ?_;intro v139 h' hS;refine Ol (dj:=136) rfl rfl ?_;refine Oi rfl (Zj) ?_;rintro _ _ ⟨rfl,rfl⟩;refine Ol (dj:=136) rfl rfl ?_;refine Oi rfl (XL (a:=[sIn,Yo,JK]) (b:=[sIn,Yo,JK]) (hS.rd 1 rfl) (hS.rd 0 rfl) aD) ?_;rintro _ _ ⟨rfl,rfl⟩;rw[show decide _=true from by decide];refine Ol (dj:=136) rfl rfl ?_;refine KOps.notT ?_;refine OU ?_;refine Ot [1,143] ?_;refine ON ?_;refine OB [1] ?_;refine Ou ?_;have hSB2:=St.drop (St.trans hSB hS);clear hSB hS;have hSB:=hSB2;clear hSB2;refine Oi rfl (Xq (line:=[112,97,99,107,32,49,50,32,111,117,116]) hb hSB (hV.ext hSB.keeps) aD) ?_;rintro _ _ ⟨rfl,hB⟩;rw[show O2 L2 [112,97,99,107,32,49,50,32,111,117,116]=_ from a8];rw[XZ (x:=[112,97,99,107,32,49,50,32,111,117,116]) a8,show L2 ++ [[112,97,99,107,32,49,50,32,111,117,116]]=L3 from rfl] at hB;clear hb hSB;obtain⟨vl,A,hb,hSB⟩:=hB;refine Kk aQ ?_;refine Ou ?_;refine Oi rfl (Xq (line:=[112,97,99,107,32,49,50,32,105,110]) hb hSB (hV.ext hSB.keeps) aD) ?_;rintro _ _ ⟨rfl,hB⟩;rw[show O2 L3 [112,97,99,107,32,49,50,32,105,110]=_ from a9];rw[Vt a9 aD] at hB;clear hb hSB;obtain⟨vl,A,hb,hSB⟩:=hB;refine Ol (dj:=147) rfl rfl ?_;refine bc ?_;refine Oi rfl (Xq (line:=[115,101,97,108,32,49,50]) hb hSB (hV.ext hSB.keeps) aD) ?_;rintro _ _ ⟨rfl,hB⟩;rw[show O2 L3 [115,101,97,108,32,49,50]=_ from a10];rw[XZ (x:=[115,101,97,108,32,49,50]) a10,show L3 ++ [[115,101,97,108,32,49,50]]=L4 from rfl] at hB;clear hb hSB;obtain⟨vl,A,hb,hSB⟩:=hB;refine Ol (dj:=152) rfl rfl ?_;refine bc ?_;refine Oi rfl (would_c (line:=[98,117,114,110,32,49,50]) hb hSB (hV.ext hSB.keeps) aD) ?_;rintro _ _ ⟨rfl,hSB2⟩;rw[show O2 L4 [98,117,114,110,32,49,50]=20 from a11];clear hSB;have hSB:=hSB2;clear hSB2;refine Ol (dj:=157) rfl rfl ?_;refine bc ?_;refine Oi rfl (Xq (line:=[100,101,97,108,32,49,50]) hb hSB (hV.ext hSB.keeps) aD) ?_;rintro _ _ ⟨rfl,hB⟩;rw[show O2 L4 [100,101,97,108,32,49,50]=_ from a12];rw[XZ (x:=[100,101,97,108,32,49,50]) a12,show L4 ++ [[100,101,97,108,32,49,50]]=L5 from rfl] at hB;clear hb hSB;obtain⟨vl,A,hb,hSB⟩:=hB;refine Ol (dj:=162) rfl rfl ?_;refine bc ?_;refine Oi rfl (Xq (line:=[98,97,99,107,32,49,50]) hb hSB (hV.ext hSB.keeps) aD) ?_;rintro _ _ ⟨rfl,hB⟩;rw[show O2 L5 [98,97,99,107,32,49,50]=_ from a13];rw[XZ (x:=[98,97,99,107,32,49,50]) a13,show L5 ++ [[98,97,99,107,32,49,50]]=L6 from rfl] at hB;clear hb hSB;obtain⟨vl,A,hb,hSB⟩:=hB;refine Ol (dj:=167) rfl rfl ?_;refine bc ?_;refine Oi rfl (Xq (line:=[98,117,114,110,32,49,50]) hb hSB (hV.ext hSB.keeps) aD) ?_;rintro _ _ ⟨rfl,hB⟩;rw[show O2 L6 [98,117,114,110,32,49,50]=_ from a14];rw[XZ (x:=[98,117,114,110,32,49,50]) a14,show L6 ++ [[98,117,114,110,32,49,50]]=L7 from rfl] at hB;clear hb hSB;obtain⟨vl,A,hb,hSB⟩:=hB;refine Ol (dj:=172) rfl rfl ?_;refine Kk aQ ?_;refine OU ?_;refine Ot [1,176] ?_;refine ON ?_;refine OB [1] ?_;refine Ou ?_;refine Oi rfl (packsB_c (w:=Yo) (St.rbk hSB hb)) ?_;rintro _ _ ⟨v177,rfl,hS⟩;rw[e8.1] at hS;rw[e8.2];refine OK [1,5,13] ?_;refine Ou ?_;refine Oi rfl (RC (p:=12) ((St.rbk hSB hb).ext hS.keeps)) ?_;rintro _ _ ⟨rfl,rfl⟩;rw[e9];refine OK [1,5,8,13] ?_;refine Ou ?_;refine Kk aQ ?_;refine Ou ?_;refine bc ?_;refine O1 (hS.rd 0 rfl) ?_;refine Ol (dj:=193) rfl rfl ?_;refine bc ?_;refine Oi rfl (undo_c hb (St.drop (St.trans hSB hS)) hV (by intro x hx; have hx2:=dJ.1 (show(L7.all fun x=>decide (x.length≤1000000))=true by decide) x hx; exact of_decide_eq_true hx2)) ?_;rintro _ _ ⟨rfl,hB⟩;rw[if_neg (show¬ L7 = [] by decide)];rw[show L7.dropLast=L6 from rfl] at hB;clear hb hSB;obtain⟨vl,A,hb,hSB⟩:=hB;refine Ol (dj:=198) rfl rfl ?_;refine bc ?_;refine Oi rfl (undo_c hb hSB hV (by intro x hx; have hx2:=dJ.1 (show(L6.all fun x=>decide (x.length≤1000000))=true by decide) x hx; exact of_decide_eq_true hx2)) ?_;rintro _ _ ⟨rfl,hB⟩;rw[if_neg (show¬ L6 = [] by decide)];rw[show L6.dropLast=L5 from rfl] at hB;clear hb hSB;obtain⟨vl,A,hb,hSB⟩:=hB;refine Ol (dj:=203) rfl rfl ?_;refine Kk aQ ?_;refine OU ?_;refine Ot [1,207] ?_;refine ON ?_;refine OB [1] ?_;refine Ou ?_;refine Oi rfl (RC (p:=12) (St.rbk hSB hb)) ?_;rintro _ _ ⟨rfl,rfl⟩;rw[e10];refine OK [1,10,14] ?_;refine Ou ?_;refine Oi rfl (Wa (St.rbk hSB hb)) ?_;rintro _ _ ⟨v213,rfl,hSP⟩;rw[e11.1] at hSP;rw[e11.2];clear hS;have hS:=hSP;refine OK [10,14,15,16] ?_;refine Ox ?_;refine Oi rfl (new_c) ?_;rintro b2 h18 ⟨vl2,A2,hb2,hSN⟩;have r2:=St.rbk hSN hb2;have hw15:WRow h18 v213 [sIn]:=Rd.ext hSN.keeps (hS.rd 0 rfl);have hV18:=((hV.ext hSB.keeps).ext hS.keeps).ext hSN.keeps;have hK18:Keeps h h18:=(hSB.keeps.trans hS.keeps).trans hSN.keeps;clear hS;have hS:=St.refl h18;refine OK [10,14,15,16,17] ?_;refine Ou ?_;refine KOps.eqlV aQ ?_;refine Ou ?_;refine KOps.eqlV aQ ?_;refine KQ ?_;refine Ou ?_;refine bd ?_;intro v227 h' hS;refine Ol (dj:=225) rfl rfl ?_;refine Oi rfl (Zj) ?_;rintro _ _ ⟨rfl,rfl⟩;refine Ol (dj:=225) rfl rfl ?_;refine Oi rfl (XL (a:=[sIn]) (b:=[sIn]) (Rd.ext hS.keeps hw15) (hS.rd 0 rfl) aD) ?_;rintro _ _ ⟨rfl,rfl⟩;rw[show decide _=true from by decide];refine KQ ?_;refine Ou ?_;refine KOps.eqlV aQ ?_;refine KQ ?_;refine Ou ?_;refine Oi rfl (fileB_c (r2.ext hS.keeps) (hV18.ext hS.keeps)) ?_;rintro _ _ ⟨rfl,rfl⟩;rw[e12];refine Ol (dj:=235) rfl rfl ?_;refine KOps.wEql ?_;refine KQ ?_;refine OK [0] ?_;refine Og ?_;exact⟨rfl,hK18.trans hS.keeps⟩
end Go.Am
namespace Go.Am
theorem VRels.split {φ:Emb} {a b:List AV} {cs:List Value} {s:Nat} (h1:VRels φ a (cs.take s)) (h2:VRels φ b (cs.drop s)) (hs:s≤cs.length):VRels φ (a ++ b) cs∧(a ++ b).take s=a∧(a ++ b).drop s=b:=by
 have ha:a.length=s:=by rw[h1.1,List.length_take]; omega
 have h3:=VRels.append h1 h2;rw[List.take_append_drop] at h3;exact⟨h3,by rw[←ha,List.take_left],by rw[←ha,List.drop_left]⟩
end Go.Am
namespace Go
variable {H:Type} {enc:TypeId × Value→H}
theorem returnsInHanded_of_change_andShaped {a : Assume} {C : Checked} {os : Os} {f : FuncId} {fn : Func} {s : ChangeSpec} {conds : List PathCond} {apart fresh handsOn again : Bool} {X : World → Array Value → Prop}
    (hX:∀ (w w':World) (args:Array Value),w.heap=w'.heap→X w args→X w' args)
    (own:ownKnob C.prog.godebug=none) (started:os.Started) (noInit:C.prog.inits.idxOf? f=none) (hfn:C.prog.funcs[f]? = some fn)
    (witness : ∃ (w : World) (tape : Tape) (i : Input), w.os = os ∧ (w.forCall tape i).Shaped C.prog ∧ i.vars = [] ∧ Input.okWide C.prog (w.forCall tape i) .any w.heap.size f i ∧
      ((s.pre enc C.prog fn conds apart (w.forCall tape i).memory i.args∧X (w.forCall tape i).memory i.args)∧sizedMet enc C.prog fn (OpenSpec.ofChange s) apart (w.forCall tape i).memory i.args)∧a.holds C.prog (lone (Frame.enter C.prog f i.args .normal) [] (w.forCall tape i)))
    (contract : ∀ (W : World) (base : Nat) (args : Array Value) (ds gs : List (DataW H)) (before : List MemPlace),
      (∀ (j:Nat) t v,fn.params[j]? = some t→args[j]? = some v→Value.okWide C.prog W .any base t v)→
      DataW.Whole enc C.prog fn.params.toList s.vars apart W args.toList ds gs before→
      conds.all (PathCond.test C.prog ⟨fn.params.toList,ds,s.plain.varTypes C.prog,gs⟩)=true→
      (DataW.weightsEach C.prog (fn.params.toList ++ s.plain.varTypes C.prog) (ds ++ gs)).all (·≤reachBytes)=true→X W args→W.ShapedOpen C.prog→
      a.holds C.prog (lone (Frame.enter C.prog f args .normal) [] W)→
      Calls C.prog f args W fun e W'=>∃ v,e = .returned v∧s.post enc C.prog fn apart fresh handsOn again W args v W') :
    ReturnsInHanded a C os f .any (fun w args=>(s.pre enc C.prog fn conds apart w args∧X w args)∧sizedMet enc C.prog fn (OpenSpec.ofChange s) apart w args) (s.post enc C.prog fn apart fresh handsOn again):=by
 refine returnsInHanded_of_calls own started noInit witness ?_;intro w tape i _ hsh _ hok hpre hholds;obtain⟨_,_,_,fn',hfn',_,_,_,_,hval⟩:=hok;have e:fn'=fn:=dC (hfn'.symm.trans hfn);subst e;obtain⟨⟨⟨ds,gs,before,hw,hc⟩,hx⟩,hz⟩:=hpre;have hw':=DataW.Whole.of_heap (w':=w.forCall tape i) (by rfl) hw;refine(contract (w.forCall tape i) w.heap.size i.args ds gs before hval hw' hc (hz.weights hw) (hX _ _ _ (by rfl) hx) hsh hholds).mono fun e W' ⟨v,he,hp⟩=>?_
 subst he;exact ChangeSpec.post_blind hp
end Go
namespace Go.Am
open Go.ChangeShapes Go.WideShapes
def VF (W:World) (g:Nat) (cs:List AV):Prop:=(∃ c e f,W.heap[g]? = some (.cells c e f)∧c.size=cs.length)∧∀ j x,cs[j]? = some x→∃ v,W.cell? ⟨g,j,none⟩=some v∧∀ φ,VRel φ x v
theorem VF.push {W:World} {φ:Emb} {h:AHeap} (im:Imp W φ h) {g:Nat} {cs:List AV} (v:VF W g cs) (p0:Nat):Imp W (fun b=>if b=h.next then some (g,0,cs.length) else φ b) (h.push (.cells none p0 cs))∧φ.le (fun b=>if b=h.next then some (g,0,cs.length) else φ b):=by
 refine im.pushP p0 cs _ ?_;intro k i z hq;cases hq;obtain⟨⟨c,e,f,h1,h2⟩,h3⟩:=v;refine⟨(Array.getElem?_eq_some_iff.1 h1).1,fun j x hx=>?_,fun _=>⟨rfl,c,e,f,h1,h2⟩⟩;obtain⟨v,h4,h5⟩:=h3 j x hx;exact⟨v,by rw[dO]; exact h4,h5 _⟩
theorem Imp.none {W:World} {φ:Emb} {h:AHeap} (im:Imp W φ h):Imp W (fun b=>if b=h.next then .none else φ b) (h.push (.cells .none 0 [])):=(im.push [] .none (by intro k i z hq; cases hq)).1
theorem Imp.vars {W:World} {a b c:List AV} (ha:VF W 0 a) (hb:VF W 3 b) (hc:VF W 4 c):∃ φ h,Imp W φ h∧(h.globs.contains 0=true∧Rd h (.ptr 0 0) 0 a)∧VarAt h 3 b∧VarAt h 4 c:=by
 have im:=(VF.push (VF.push ((VF.push (Imp.empty W) ha 0).1.none).none hb 1).1 hc 1).1;refine⟨_,⟨_,_,[0,3,4]⟩,⟨⟨?_,im.rel.lt,im.rel.blk,im.rel.arr,im.rel.one,im.rel.sep,im.rel.map,im.rel.ext⟩,im.ro,im.out⟩,⟨rfl,.inr (.inl ⟨0,0,.none,0,a,.inr ⟨rfl,rfl⟩,rfl,rfl,by rw[List.drop_zero,List.take_length]⟩)⟩,⟨rfl,rfl⟩,rfl,rfl⟩;intro g hg;have hg:g=0∨g=3∨g=4:=by simpa using hg
 rcases hg with rfl|rfl|rfl
 exact⟨a.length,rfl⟩;exact⟨b.length,rfl⟩;exact⟨c.length,rfl⟩
def laidL:List (String × DataW Unit):=[("math/bits.deBruijn32tab",Go.Proofs.YtgnogfjajnnaoaaGreatDoor.Rows.laid_math_bits_deBruijn32tab),("math/bits.deBruijn64tab",Go.Proofs.YtgnogfjajnnaoaaGreatDoor.Rows.laid_math_bits_deBruijn64tab),("internal/strconv.uint64pow10",Go.Proofs.YtgnogfjajnnaoaaGreatDoor.Rows.laid_internal_strconv_uint64pow10),("unicode/utf8.acceptRanges",Go.Proofs.YtgnogfjajnnaoaaGreatDoor.Rows.laid_unicode_utf8_acceptRanges),("spadille/stamp.sizes",Go.Proofs.YtgnogfjajnnaoaaGreatDoor.Rows.laid_spadille_stamp_sizes),("unicode/utf8.first",Go.Proofs.YtgnogfjajnnaoaaGreatDoor.Rows.laid_unicode_utf8_first)]
def litI : DataW Unit → Option Int
  | .lit (.int _ n)=>some n
  | _=>none
def aggL : DataW Unit → List (DataW Unit)
  | .agg l=>l
  | _=>[]
def sizeL:List Int:=(List.range 64).map fun s=>((O9 s 6).length:Int)
def powL:List Int:=Lib.pow10Tab
theorem sizes_lits:(aggL Go.Proofs.YtgnogfjajnnaoaaGreatDoor.Rows.laid_spadille_stamp_sizes).map litI=sizeL.map some:=by decide +kernel
theorem pow_lits:(aggL Go.Proofs.YtgnogfjajnnaoaaGreatDoor.Rows.laid_internal_strconv_uint64pow10).map litI=powL.map some:=by decide +kernel
theorem JX {W : World} {l : List Int} {lay : DataW Unit} {k : IntKind} {g t et n : Nat} {nm : String} {cs : Array Value} {f : Nat} {p : List MemPlace}
    (hU:Go.Proofs.Tryz.prog.underlying t=some (.array n et)) (hE:Go.Proofs.Tryz.prog.underlying et=some (.int k)) (c1:Go.Proofs.Tryz.prog.cellsOf et=1) (c2:Go.Proofs.Tryz.prog.cellsOf t=l.length) (hn:n=l.length) (hlits:(aggL lay).map litI=l.map some)
    (hg0:Go.Proofs.Tryz.prog.globalNamed nm=some g) (hv0:W.var? Go.Proofs.Tryz.prog nm=some cs)
    (hd0:DataW.trod (fun _=>()) Go.Proofs.Tryz.prog W 0 (fun _=>true) false f t cs.toList=some (lay,p)) :
    VF W g (l.map fun v=>AV.int k v):=by
 obtain⟨xs,m,rfl,hx1,hl,hxl,hx⟩:=DataW.trod_array hU hd0;rw[c2] at hl;have hd:=(Prod.mk.inj hx1).1;have hxs:xs.map (fun x=>litI x.1)=l.map some:=by
  rw[←hlits,hd];show _=(xs.map (·.1)).map litI;rw[List.map_map]; rfl
 have key:∀ i (hi:i<l.length),cs.toList[i]? = some (.int k l[i]):=by
  intro i hi;have h2:=hx i aA;rw[c1,Nat.mul_one,dB aA] at h2;obtain⟨c,h3,h4,_⟩:=DataW.trod_int hE h2;have h5:((cs.toList.drop i).take 1)[0]? = some (.int k c):=by rw[h3]; rfl
  have h6:cs.toList[i]? = some (.int k c):=by simpa [List.getElem?_take,List.getElem?_drop] using h5
  have h7:=congrArg (fun l=>l[i]?) hxs;simp only[dH,dB (show i<xs.length by omega),dB hi,Option.map_some,Option.some.injEq] at h7;rw[h4] at h7;have h8:c=l[i]:=by simpa [litI] using h7
  rw[h6,h8]
 refine⟨?_,fun i x hx=>?_⟩;have hv:=hv0;simp only[World.var?,hg0,Option.bind_some] at hv;split at hv;rename_i c e f' he;cases hv;exact⟨_,_,_,he,by rw[dK,←hl,Array.length_toList]⟩;cases hv;have hi:i<l.length:=by
  have:=(dD.1 hx).1;rwa [dK] at this
 rw[dH,dB hi] at hx;cases hx;refine⟨.int k l[i],?_,fun φ=>.int _ _⟩;rw[World.var?_cell hg0 hv0 i,←Array.getElem?_toList];exact key i hi
theorem vf_int {W : World} {g : Nat} {t : TypeId} {k : IntKind} (h : W.ShapedOpen Go.Proofs.Tryz.prog) (hg : g < Go.Proofs.Tryz.prog.globals.size)
    (h0:((Go.begin Go.Proofs.Tryz.prog (fun _ _=>0) default).world.heap[g]?).bind Obj.row? = some (#[.int k 0],t))
    (hb:Go.Proofs.Tryz.prog.buildable t=true) (hc:Go.Proofs.Tryz.prog.cellTypes Go.Proofs.Tryz.prog.depth t=some [t]) (hu:Go.Proofs.Tryz.prog.underlying t=some (.int k)) :
    ∃ m,VF W g [.int k m]:=by
 obtain⟨m,hm⟩:=Go.Proofs.cell_of_shapedOpen_int h hg h0 rfl hb hc hu;obtain⟨cs,hh,hs,_⟩:=h.1 g _ t hg h0;refine⟨m,⟨cs,_,_,hh,hs⟩,fun j x hx=>?_⟩;have hj:j=0:=by
  have:=(dD.1 hx).1;simpa using this
 subst hj;cases hx;exact⟨_,hm,fun φ=>.int _ _⟩
theorem vs_laid {W:World} (h:laidMetH Go.Proofs.Tryz.prog laidL W) (hs:W.ShapedOpen Go.Proofs.Tryz.prog):∃ φ hp,Imp W φ hp∧Vs hp:=by
 rw[MakeChecks.laidMetH_plain _ _ _ aE] at h;obtain⟨ps,⟨g0,t0,cs0,f0,p0,q0,hg0,ht0,hv0,hd0,⟨g1,t1,cs1,f1,p1,q1,hg1,ht1,hv1,hd1,⟨g2,t2,cs2,f2,p2,q2,hg2,ht2,hv2,hd2,⟨g3,t3,cs3,f3,p3,q3,hg3,ht3,hv3,hd3,⟨g4,t4,cs4,f4,p4,q4,hg4,ht4,hv4,hd4,⟨g5,t5,cs5,f5,p5,q5,hg5,ht5,hv5,hd5,_,_⟩,_⟩,_⟩,_⟩,_⟩,_⟩,_,_⟩:=h;obtain rfl:=dC ((show Go.Proofs.Tryz.prog.globalNamed "internal/strconv.uint64pow10" = some 4 by kernel_rfl).symm.trans hg2);obtain rfl:=dC ((show(Go.Proofs.Tryz.prog.globals[4]?).map (·.type)=some 269 by kernel_rfl).symm.trans ht2);obtain rfl:=dC ((show Go.Proofs.Tryz.prog.globalNamed "spadille/stamp.sizes" = some 0 by kernel_rfl).symm.trans hg4);obtain rfl:=dC ((show(Go.Proofs.Tryz.prog.globals[0]?).map (·.type)=some 230 by kernel_rfl).symm.trans ht4);have a0:=JX Go.Proofs.Tryz.underlying230 Go.Proofs.Tryz.underlying229 aE (show _=sizeL.length by kernel_rfl) rfl sizes_lits hg4 hv4 hd4;have a4:=JX Go.Proofs.Tryz.underlying269 Go.Proofs.Tryz.underlying238 aE (show _=powL.length by kernel_rfl) rfl pow_lits hg2 hv2 hd2;obtain⟨m,a3⟩:=vf_int (g:=3) (t:=3) (k:=.i64) hs (of_decide_eq_true aE) aE aE aE Go.Proofs.Tryz.underlying3;have e0:Js=sizeL.map fun v=>AV.int .i8 v:=by rw[Js,sizeL,List.map_map]; rfl
 rw[←e0] at a0;obtain⟨φ,hp,im,h0,h3,h4⟩:=Imp.vars a0 a3 a4;exact⟨φ,hp,im,h0,⟨m,h3⟩,h4⟩
end Go.Am
namespace Go.Am
def kB:Str:=[115,112,97,100,105,108,108,101]
def kEnd:Str:=[101,110,100,32]
def numP (i:Nat):Str:=Lib.itoa (i:Int) ++ [46,32]
def cutAt (i:Nat) (l:Str):Str:=l.drop (numP i).length
def cutTo (ls : List Str) : Nat → List Str
  | 0=>ls
  | i+1=>(cutTo ls i).set (i+1) (cutAt (i+1) (ls.getD (i+1) []))
def goodTo (ls : List Str) : Nat → Bool
  | 0=>true
  | i+1=>goodTo ls i && (numP (i+1)).isPrefixOf (ls.getD (i+1) [])
def Y9 (f:Str):List Str:=OG 10 f.dropLast
def lastL (ls:List Str):Str:=ls.getD (ls.length - 1) []
def endE (f:Str) (e:Str):Int:=
  if kEnd.isPrefixOf e=false∨K3 (e.drop 4) 4=false∨9972<Qf (e.drop 4) then 9
  else if Qf (e.drop 4)≠Go.Proofs.Tryz.sumTo (f.take (f.length - e.length - 1)) then 17 else 0
def Uw (f:Str):Int:=
  if 18000<f.length then 19 else if [10].isSuffixOf f=false then 18
  else if (Y9 f).length<2∨(Y9 f).getD 0 []≠kB then 9
  else if goodTo (Y9 f) ((Y9 f).length - 2)=false then 9
  else endE f (lastL (Y9 f))
def fileB (f:Str):List Str:=((cutTo (Y9 f) ((Y9 f).length - 2)).drop 1).take ((Y9 f).length - 2)
noncomputable def Yu (bk : List Str) : List Str → Int × List Str
  | []=>(0,bk)
  | x::r=>if O2 bk x=0 then Yu (bk ++ [x]) r else (O2 bk x,bk)
theorem doAll_app:∀ (l m bk:List Str),(Yu bk l).1=0→Yu bk (l ++ m)=Yu (bk ++ l) m:=by
 intro l
 induction l with
 | nil=>intro m bk _; simp
 | cons x r ih=>
  intro m bk h;rw[List.cons_append];unfold Yu at h;by_cases hx:O2 bk x=0;rw[if_pos hx] at h;rw[Yu,if_pos hx,ih m _ h]; simp;rw[if_neg hx] at h; exact absurd h hx
theorem Done.all {lines:List Str} (hD:Done lines):Yu [] lines=(0,lines):=by
 induction hD with
 | nil=>rfl
 | @snoc lines line hD he ih=>
  rw[doAll_app _ _ _ (by rw[ih]),List.nil_append,Yu,if_pos he]; rfl
end Go.Am
namespace Go.Am
noncomputable def readF (f:Str):Int:=if Uw f=0 then (Yu [] (fileB f)).1 else Uw f
end Go.Am
namespace Go.Am
theorem k1:Uw [115,112,97,100,105,108,108,101,10,101,110,100,32,56,56,52,10]=17:=by decide +kernel
theorem k2:Uw [115,112,97,100,105,108,108,101,10,101,110,100,32,48,56,56,51,10]=9:=by decide +kernel
theorem k3:Uw [115,112,97,100,105,108,108,101,10,101,110,100,32,56,56,51,10]=0:=by decide +kernel
theorem k4:fileB [115,112,97,100,105,108,108,101,10,101,110,100,32,56,56,51,10] = []:=by decide +kernel
theorem k5:readF [115,112,97,100,105,108,108,101,10,101,110,100,32,56,56,51,10]=0:=by rw[readF,if_pos k3,k4]; rfl
theorem k6:(after bLines).whyL sIn 7 = [sTax]∧(after bLines).whyE sIn 7=0:=Wd (a:=5) (b:=6) aP
theorem q0:O2 bLines [114,111,111,109,32,84,97,120]=10:=Qw aP
theorem q1:O2 bLines [114,111,111,109]=5:=Qw aP
theorem q2:O2 bLines [102,108,121,32,120]=8:=Qw aP
theorem q3:O2 bLines [112,97,99,107,32,48,32,105,110]=1:=Qw aP
theorem q4:O2 bLines [108,101,97,115,116,32,105,110,32,49,48,48]=1:=Qw aP
theorem q5:O2 bLines [112,97,99,107,32,48,55,32,105,110]=9:=Qw aP
end Go.Am
namespace Go.Am
def roomsL:List Str:=[[116,97,120],[112,114,101,115,115],[112,97,99,107,115]]
def waysL:List Str:=[[105,110],[111,117,116],[104,111,109,101],[108,111,115,116],[109,111,114,101]]
def Xx:List Str:=[[114,111,111,109,32,116,97,120],[114,111,111,109,32,112,114,101,115,115],[114,111,111,109,32,112,97,99,107,115],[119,97,121,32,105,110,32,116,97,120,32,112,114,101,115,115],[119,97,121,32,111,117,116,32,112,114,101,115,115,32,112,97,99,107,115],[119,97,121,32,104,111,109,101,32,112,97,99,107,115,32,116,97,120]]
def Zb (l:List Str) (n:Nat):Str:=l.getD (n % l.length) []
structure Q4 where
  a:Nat
  b:Nat
  c:Nat
  d:Nat
instance:Inhabited Q4:=⟨⟨0,0,0,0⟩⟩
def qc (q:Q4):List AV:=[.int .u8 (q.a:Int),.int .u8 (q.b:Int),.int .u8 (q.c:Int),.int .u8 (q.d:Int)]
theorem qc_len (q:Q4):(qc q).length=4:=rfl
def Q4.Ok (q:Q4):Prop:=q.a<256∧q.b<256∧q.c<256∧q.d<256
def yW (q:Q4):Str:=Zb waysL q.b
def yN (q:Q4):Str:=Lib.itoa ((q.c % 10:Nat):Int)
def yP (q:Q4):Str:=Lib.itoa ((1+q.c % 5:Nat):Int)
def K8 (undo:Bool) (q:Q4):Str:=
  let k:=q.a % 16
  if k<3 then [108,101,97,115,116,32] ++ yW q ++ [32] ++ yN q
  else if k<6 then [109,111,115,116,32] ++ yW q ++ [32] ++ yN q
  else if k<8 then [112,97,99,107,32] ++ yP q ++ [32] ++ yW q
  else if k=8 then Zb [[115,101,97,108,32],[98,117,114,110,32]] q.d ++ yP q
  else if k=9 then Zb [[100,101,97,108,32],[98,97,99,107,32]] q.d ++ yP q
  else if k<12 then [99,108,97,105,109,32] ++ yW q ++ [32] ++ yN q
  else if k=12 then [102,114,101,101,32] ++ yW q
  else if k<15 then [119,97,121,32] ++ yW q ++ [32] ++ Zb roomsL q.c ++ [32] ++ Zb roomsL q.d
  else if undo then [117,110,100,111] else [114,111,111,109,32] ++ Zb [[118,97,117,108,116],[116,97,98,108,101]] q.d
def ZP (undo:Bool) (y:List Q4):List Str:=Xx ++ (y.take 24).map (K8 undo)
instance:ArT Go.Proofs.Tryz.prog 87 4:=ArT.of aE
theorem tm (a:Nat) (b:Nat):(a:Int).tmod (b:Int)=((a % b:Nat):Int):=by rw[Int.tmod_eq_emod_of_nonneg aA]; rfl
theorem tm10 (a:Nat):(a:Int).tmod 10=((a % 10:Nat):Int):=tm a 10
theorem tm5 (a:Nat):(a:Int).tmod 5=((a % 5:Nat):Int):=tm a 5
theorem tm16 (a:Nat):(a:Int).tmod 16=((a % 16:Nat):Int):=tm a 16
theorem tm2 (a:Nat):(a:Int).tmod 2=((a % 2:Nat):Int):=tm a 2
theorem getD_memQ {l:List Q4} {i:Nat} (h:i<l.length):l.getD i default∈l:=by
 rw[dU,dB h]; exact List.getElem_mem h
theorem ZV {y:List Q4} {f:Q4→Str} {B:List Str} {i:Nat} (h:i<y.length):B ++ ((y.take i).map f ++ [f (y.getD i default)])=B ++ (y.take (i+1)).map f:=by
 rw[←Xb (d:=default) h,List.map_append]; rfl
theorem QO {l:List Str} {n m:Nat} (h:∀ x∈l,x.length≤m):(Zb l n).length≤m:=by
 unfold Zb;rw[dU]
 cases hx:l[n % l.length]? with
 | none=>exact dF _
 | some w=>exact h w (List.mem_of_getElem? hx)
theorem Uh {h:AHeap}:ACalls Go.Proofs.Tryz.prog 40 [] h (fun q h'=>St h h' [⟨q,1,wcs roomsL,true⟩]):=by
 refine OL 3 [.tmp 0] Go.Proofs.Tryz.func40 rfl aD rfl rfl (dY rfl) ?_;have hS:=St.refl h;show KA _ 3 _ _ [] _;refine Oa [] ?_;refine Ox ?_;refine bd ?_;intro v1 h' hS;refine Oi rfl (Zj) ?_;rintro _ _ ⟨rfl,rfl⟩;refine Oa [0] ?_;refine Og ?_;exact hS
theorem We {h:AHeap}:ACalls Go.Proofs.Tryz.prog 42 [] h (fun q h'=>St h h' [⟨q,1,wcs waysL,true⟩]):=by
 refine OL 3 [.tmp 0] Go.Proofs.Tryz.func42 rfl aD rfl rfl (dY rfl) ?_;have hS:=St.refl h;show KA _ 3 _ _ [] _;refine Oa [] ?_;refine Ox ?_;refine bd ?_;intro v1 h' hS;refine Oi rfl (Zj) ?_;rintro _ _ ⟨rfl,rfl⟩;refine Oa [0] ?_;refine Og ?_;exact hS
theorem one_c {h:AHeap} {v:AV} {l:List Str} {n:Nat} (hv:WRow h v l) (h0 : 0<l.length) (hl:l.length≤100) (hn:n<256):ACalls Go.Proofs.Tryz.prog 57 [v,.int .u8 (n:Int)] h (fun q h'=>q = .str (wd (Zb l n))∧h=h'):=by
 refine OL 13 [.tmp 4] Go.Proofs.Tryz.func57 rfl aD rfl rfl (dY rfl) ?_;have hrm:((n:Int)).tmod (l.length:Int)=((n % l.length:Nat):Int):=by rw[Int.tmod_eq_emod_of_nonneg aA]; rfl
 have hlt:=Nat.mod_lt n h0;show KA _ 13 _ _ [(0,v),(1,.int .u8 (n:Int))] _;refine bo ?_;refine Zt aA aA ?_;refine Oh ?_;refine O1 hv ?_;refine KOps.rem aB aB aB ?_;rw[hrm];refine Ow hv (j:=n % l.length) aB aC ?_;intro p11 hp11;refine OY hp11 hv aC ?_;refine bW ?_;exact⟨rfl,rfl⟩
theorem yLines_c {h:AHeap} {v:AV} {y:List Q4} {undo:Bool} (hv:Rd h v 4 (flr qc y)) (hy:∀ q∈y,q.Ok) (hV:Vs h):ACalls Go.Proofs.Tryz.prog 38 [v,.bool undo] h (fun q h'=>St h h' [⟨q,1,wcs (ZP undo y),true⟩]):=by
 refine OL 159 [.tmp 4] Go.Proofs.Tryz.func38 rfl aD rfl rfl (dY rfl) ?_;have hS:=St.refl h;show KA _ 159 _ _ [(0,v),(1,.bool undo)] _;refine Ox ?_;refine OE ?_;refine Ot [0,1] ?_;refine Ox ?_;refine bd ?_;intro v11 h' hS;refine Oi rfl (Zj) ?_;rintro r12 _ ⟨rfl,rfl⟩;refine OE ?_;refine Ot [0,1,5] ?_;refine bt ?_;refine Oh ?_;refine Zd qc_len (Rd.ext hS.keeps hv) ?_;refine Oh ?_;refine Ot [1,5,13,14,15] ?_;refine Oz ?_;refine Kd (X:=Nat × AV) (fun x=>[(1,.bool undo),(5,x.2),(13,v),(14,.int .i64 (y.length:Int)),(15,.int .i64 (x.1:Int))]) (fun x h'=>x.1≤y.length∧x.1≤24∧St h h' [⟨x.2,1,wcs (Xx ++ (y.take x.1).map (K8 undo)),true⟩]) (fun x=>y.length - x.1) (0,r12) ?_ ?_;exact⟨dF _,dF _,hS⟩;rintro⟨i,v5⟩ h3 ⟨hi,hi2,hS⟩;dsimp only at hi hi2 hS⊢;have hlb:(Xx ++ (y.take i).map (K8 undo)).length≤30:=by simp[Xx]; omega
 refine cN ?_;refine Om ?_ ?_
 ·intro c16;have hlt:i<y.length:=by omega
  have hq:=hy _ (getD_memQ hlt);obtain⟨hqa,hqb,hqc,hqd⟩:=id hq;have t10:=tm10 (y.getD i default).c;have t5:=tm5 (y.getD i default).c;have t16:=tm16 (y.getD i default).a;have t2:=tm2 (y.getD i default).d;obtain⟨sw,hsw⟩:∃ s:Str,s=Zb waysL (y.getD i default).b:=⟨_,rfl⟩;have hlw:sw.length≤4:=hsw ▸ QO aD;obtain⟨sn,hsn⟩:∃ s:Str,s=Lib.itoa (((y.getD i default).c % 10:Nat):Int):=⟨_,rfl⟩;have hln:sn.length≤21:=hsn ▸ Lib.itoa_length_le _ aA aA;obtain⟨sp,hsp⟩:∃ s:Str,s=Lib.itoa (1+(((y.getD i default).c % 5:Nat):Int)):=⟨_,rfl⟩;have hlp:sp.length≤21:=hsp ▸ Lib.itoa_length_le _ aA aA;obtain⟨sr,hsr⟩:∃ s:Str,s=Zb roomsL (y.getD i default).c:=⟨_,rfl⟩;have hlr:sr.length≤5:=hsr ▸ QO aD;obtain⟨ss,hss⟩:∃ s:Str,s=Zb roomsL (y.getD i default).d:=⟨_,rfl⟩;have hls:ss.length≤5:=hss ▸ QO aD;obtain⟨sv,hsv⟩:∃ s:Str,s=Zb [[118,97,117,108,116],[116,97,98,108,101]] (y.getD i default).d:=⟨_,rfl⟩;have hlv:sv.length≤5:=hsv ▸ QO aD;obtain⟨se,hse⟩:∃ s:Str,s = [[115,101,97,108,32],[98,117,114,110,32]].getD ((y.getD i default).d % 2) []:=⟨_,rfl⟩;have hle:se.length≤5:=hse ▸ QO aD;obtain⟨sd,hsd⟩:∃ s:Str,s = [[100,101,97,108,32],[98,97,99,107,32]].getD ((y.getD i default).d % 2) []:=⟨_,rfl⟩;have hld:sd.length≤5:=hsd ▸ QO aD;refine OB [1,5,13,14,15] ?_;refine cS ?_;refine Oh ?_;refine Qo qc_len (Rd.ext hS.keeps hv) (j:=i) rfl aC ?_;intro p18 hp18;refine Qp qc_len aD hp18 (Rd.ext hS.keeps hv) aC ?_;refine Kx hS ?_;intro p7 h' hp7 hS;refine OE ?_;refine KG hS rfl (i:=0) rfl hp7 aG aN aN aD ?_;intro h' hS;simp only[dA,dE,dO] at hS;refine Ot [1,5,6,7,13,14,15] ?_;refine bt ?_;refine Oh ?_;refine KOps.geq ?_;refine Ot [1,5,7,13,14,15,21] ?_;refine Om ?_ ?_;intro c21;refine Kc ?_;refine OZ ?_;refine blQ.exit rfl ?_;refine OZ ?_;refine O8 ?_;refine O3 ?_;refine Od ?_;refine Oq [5] ?_;refine Ox ?_;refine Oh ?_;refine OE ?_;refine Ot [4] ?_;refine KA.ret ?_;refine fnQ.ret1 ?_;have hi24:i=24:=by omega
  subst hi24;exact St.drop (A:=[_]) hS
  ·intro c21;refine OB [1,5,7,13,14,15] ?_;refine Ov ?_;refine OX [0,3] mixed rfl aE ?_;refine Kn aw (We) ?_;rintro v22 h22 hS22;replace hS:St _ _ (_::_):=St.trans hS hS22;refine Qe hp7 (j:=1) rfl aD ?_;intro p23 hp23;refine Oe hp23 (hS.rd 1 rfl) rfl ?_;refine Kn aI (one_c (hS.rd 0 rfl) aD aD hq.2.1) ?_;rintro _ _ ⟨rfl,rfl⟩;rw[←hsw];refine OE ?_;refine Ot [1,5,7,8,13,14,15] ?_;refine Ov ?_;refine OX [4,10] mixed rfl aE ?_;refine Qe hp7 (j:=2) rfl aD ?_;intro p26 hp26;refine Oe hp26 (hS.rd 1 rfl) rfl ?_;refine Zt aA aA ?_;refine KOps.rem aB aB aB ?_;rw[t10];refine Kn aI (itoa_c (hV.ext hS.keeps).pw aA aA) ?_;rintro _ _ ⟨rfl,rfl⟩;rw[←hsn];refine Qe hp7 (j:=2) rfl aD ?_;intro p31 hp31;refine Oe hp31 (hS.rd 1 rfl) rfl ?_;refine Zt aA aA ?_;refine KOps.rem aB aB aB ?_;rw[t5];refine Ko aB aB ?_;refine Kn aI (itoa_c (hV.ext hS.keeps).pw aA aA) ?_;rintro _ _ ⟨rfl,rfl⟩;rw[←hsp];refine OE ?_;refine OE ?_;refine Ot [1,5,7,8,9,10,13,14,15] ?_;refine Ox ?_;refine Qe hp7 (j:=0) rfl aD ?_;intro p37 hp37;refine Oe hp37 (hS.rd 1 rfl) rfl ?_;refine Zt aA aA ?_;refine KOps.rem aB aB aB ?_;refine Of ?_;rw[t16];refine Od ?_;refine Oq [1,5,7,8,9,10,13,14,15,40] ?_;refine Oz ?_;refine KA.meet (X:=Unit) (fun _=>[(1,.bool undo),(5,v5),(7,p7),(8,.str (wd sw)),(9,.str (wd sn)),(10,.str (wd sp)),(13,v),(14,.int .i64 (y.length:Int)),(15,.int .i64 (i:Int)),(40,.int .i64 (((y.getD i default).a % 16:Nat):Int)),(54,.bool (decide ((y.getD i default).a % 16<3)))]) (fun _ h'=>St h h' [⟨p7,0,qc (y.getD i default),true⟩,⟨v5,1,wcs (Xx ++ (y.take i).map (K8 undo)),true⟩]) ?_ ?_
   ·
     refine cJ ?_;refine Ot [1,5,7,8,9,10,13,14,15,40,54] ?_;refine Om ?_ ?_
     · intro c54
       try have c54:=of_decide_eq_true c54
       refine Oy ?_;exact Qh () aF (St.drop (A:=[_]) hS)
     · intro c54
       try have c54:=of_decide_eq_false c54
       refine cJ ?_;refine Ot [1,5,7,8,9,10,13,14,15,40,54] ?_;refine Om ?_ ?_
       · intro c54
         try have c54:=of_decide_eq_true c54
         refine Oy ?_;exact Qh () aF (St.drop (A:=[_]) hS)
       · intro c54
         try have c54:=of_decide_eq_false c54
         refine ch ?_;exact Qh () aF (St.drop (A:=[_]) hS)
   ·
     rintro _ h9 hS;refine Kl ?_ ?_
     · intro c54
       try have c54:=of_decide_eq_true c54
       refine b6 ?_;intro v64 h' hS;refine KC hS (fun _=>rfl) (i:=1) rfl aC ?_;intro r65 h' hr65 hS;refine OE ?_;refine bV ?_
       try simp only[dA,dE,dO] at hS
       have e:K8 undo (y.getD i default) = [108,101,97,115,116,32] ++ sw ++ [32] ++ sn:=by
         rw[hsw,hsn];unfold K8;dsimp only;rw[if_pos c54]
         all_goals rfl
       rw[←e,dI,ZV hlt] at hS;exact lpN (i+1,r65) ⟨by dsimp only; omega,by dsimp only; omega,St.drop (A:=[_]) hS⟩ aK
     · intro c54
       try have c54:=of_decide_eq_false c54
       refine KA.meet (X:=Unit) (fun _=>[(1,.bool undo),(5,v5),(7,p7),(8,.str (wd sw)),(9,.str (wd sn)),(10,.str (wd sp)),(13,v),(14,.int .i64 (y.length:Int)),(15,.int .i64 (i:Int)),(40,.int .i64 (((y.getD i default).a % 16:Nat):Int)),(66,.bool (decide ((y.getD i default).a % 16<6)))]) (fun _ h'=>St h h' [⟨p7,0,qc (y.getD i default),true⟩,⟨v5,1,wcs (Xx ++ (y.take i).map (K8 undo)),true⟩]) ?_ ?_
       ·
         refine cJ ?_;refine Ot [1,5,7,8,9,10,13,14,15,40,66] ?_;refine Om ?_ ?_
         · intro c66
           try have c66:=of_decide_eq_true c66
           refine Oy ?_;exact Qh () aF hS
         · intro c66
           try have c66:=of_decide_eq_false c66
           refine cJ ?_;refine Ot [1,5,7,8,9,10,13,14,15,40,66] ?_;refine Om ?_ ?_
           · intro c66
             try have c66:=of_decide_eq_true c66
             refine Oy ?_;exact Qh () aF hS
           · intro c66
             try have c66:=of_decide_eq_false c66
             refine ch ?_;exact Qh () aF hS
       ·
         rintro _ h9 hS;refine Kl ?_ ?_
         · intro c66
           try have c66:=of_decide_eq_true c66
           refine b6 ?_;intro v76 h' hS;refine KC hS (fun _=>rfl) (i:=1) rfl aC ?_;intro r77 h' hr77 hS;refine OE ?_;refine bV ?_
           try simp only[dA,dE,dO] at hS
           have e:K8 undo (y.getD i default) = [109,111,115,116,32] ++ sw ++ [32] ++ sn:=by
             rw[hsw,hsn];unfold K8;dsimp only;rw[if_neg c54,if_pos c66]
             all_goals rfl
           rw[←e,dI,ZV hlt] at hS;exact lpN (i+1,r77) ⟨by dsimp only; omega,by dsimp only; omega,St.drop (A:=[_]) hS⟩ aK
         · intro c66
           try have c66:=of_decide_eq_false c66
           refine KA.meet (X:=Unit) (fun _=>[(1,.bool undo),(5,v5),(7,p7),(8,.str (wd sw)),(9,.str (wd sn)),(10,.str (wd sp)),(13,v),(14,.int .i64 (y.length:Int)),(15,.int .i64 (i:Int)),(40,.int .i64 (((y.getD i default).a % 16:Nat):Int)),(78,.bool (decide ((y.getD i default).a % 16<8)))]) (fun _ h'=>St h h' [⟨p7,0,qc (y.getD i default),true⟩,⟨v5,1,wcs (Xx ++ (y.take i).map (K8 undo)),true⟩]) ?_ ?_
           ·
             refine cJ ?_;refine Ot [1,5,7,8,9,10,13,14,15,40,78] ?_;refine Om ?_ ?_
             · intro c78
               try have c78:=of_decide_eq_true c78
               refine Oy ?_;exact Qh () aF hS
             · intro c78
               try have c78:=of_decide_eq_false c78
               refine ch ?_;exact Qh () aF hS
           ·
             rintro _ h9 hS;refine Kl ?_ ?_
             · intro c78
               try have c78:=of_decide_eq_true c78
               refine b6 ?_;intro v87 h' hS;refine KC hS (fun _=>rfl) (i:=1) rfl aC ?_;intro r88 h' hr88 hS;refine OE ?_;refine bV ?_
               try simp only[dA,dE,dO] at hS
               have e:K8 undo (y.getD i default) = [112,97,99,107,32] ++ sp ++ [32] ++ sw:=by
                 rw[hsp,hsw];unfold K8;dsimp only;rw[if_neg c54,if_neg c66,if_pos c78]
                 all_goals rfl
               rw[←e,dI,ZV hlt] at hS;exact lpN (i+1,r88) ⟨by dsimp only; omega,by dsimp only; omega,St.drop (A:=[_]) hS⟩ aK
             · intro c78
               try have c78:=of_decide_eq_false c78
               refine cJ ?_;refine Ot [1,5,7,8,9,10,13,14,15,40,89] ?_;refine Om ?_ ?_
               · intro c89;refine OX [2,12] mixed rfl aE ?_;refine Oh ?_;refine bd ?_;intro v92 h' hS;refine Kn aI (Zj) ?_;rintro r93 _ ⟨rfl,rfl⟩;replace hS:St _ _ (⟨r93,1,wcs [[115,101,97,108,32],[98,117,114,110,32]],true⟩::_):=hS;refine Qe hp7 (j:=3) rfl aD ?_;intro p94 hp94;refine Oe hp94 (hS.rd 1 rfl) rfl ?_;refine Zt aA aA ?_;refine KOps.rem aB aB aB ?_;rw[t2];refine Ow (hS.rd 0 rfl) (j:=_) rfl aC ?_;intro p98 hp98;refine OY hp98 (hS.rd 0 rfl) aC ?_;rw[←hse];refine Oh ?_;refine KT aC ?_;refine bd ?_;intro v102 h' hS;refine KC hS (fun _=>rfl) (i:=2) rfl aC ?_;intro r103 h' hr103 hS;refine OE ?_;refine bV ?_
                 try simp only[dA,dE,dO] at hS
                 have e:K8 undo (y.getD i default)=se ++ sp:=by
                   rw[hse,hsp];unfold K8;dsimp only;rw[if_neg c54,if_neg c66,if_neg c78,if_pos aA]
                   all_goals rfl
                 rw[←e,dI,ZV hlt] at hS;exact lpN (i+1,r103) ⟨by dsimp only; omega,by dsimp only; omega,St.drop (A:=[_,_]) hS⟩ aK
               · intro c89;refine cJ ?_;refine Ot [1,5,7,8,9,10,13,14,15,40,104] ?_;refine Om ?_ ?_
                 · intro c104;refine OX [2,12] mixed rfl aE ?_;refine Oh ?_;refine bd ?_;intro v107 h' hS;refine Kn aI (Zj) ?_;rintro r108 _ ⟨rfl,rfl⟩;replace hS:St _ _ (⟨r108,1,wcs [[100,101,97,108,32],[98,97,99,107,32]],true⟩::_):=hS;refine Qe hp7 (j:=3) rfl aD ?_;intro p109 hp109;refine Oe hp109 (hS.rd 1 rfl) rfl ?_;refine Zt aA aA ?_;refine KOps.rem aB aB aB ?_;rw[t2];refine Ow (hS.rd 0 rfl) (j:=_) rfl aC ?_;intro p113 hp113;refine OY hp113 (hS.rd 0 rfl) aC ?_;rw[←hsd];refine Oh ?_;refine KT aC ?_;refine bd ?_;intro v117 h' hS;refine KC hS (fun _=>rfl) (i:=2) rfl aC ?_;intro r118 h' hr118 hS;refine OE ?_;refine bV ?_
                   try simp only[dA,dE,dO] at hS
                   have e:K8 undo (y.getD i default)=sd ++ sp:=by
                     rw[hsd,hsp];unfold K8;dsimp only;rw[if_neg c54,if_neg c66,if_neg c78,if_neg (fun x=>c89 aA),if_pos aA]
                     all_goals rfl
                   rw[←e,dI,ZV hlt] at hS;exact lpN (i+1,r118) ⟨by dsimp only; omega,by dsimp only; omega,St.drop (A:=[_,_]) hS⟩ aK
                 · intro c104;refine KA.meet (X:=Unit) (fun _=>[(1,.bool undo),(5,v5),(7,p7),(8,.str (wd sw)),(9,.str (wd sn)),(13,v),(14,.int .i64 (y.length:Int)),(15,.int .i64 (i:Int)),(40,.int .i64 (((y.getD i default).a % 16:Nat):Int)),(119,.bool (decide ((y.getD i default).a % 16<12)))]) (fun _ h'=>St h h' [⟨p7,0,qc (y.getD i default),true⟩,⟨v5,1,wcs (Xx ++ (y.take i).map (K8 undo)),true⟩]) ?_ ?_
                   ·
                     refine cJ ?_;refine Ot [1,5,7,8,9,13,14,15,40,119] ?_;refine Om ?_ ?_
                     · intro c119
                       try have c119:=of_decide_eq_true c119
                       refine Oy ?_;exact Qh () aF hS
                     · intro c119
                       try have c119:=of_decide_eq_false c119
                       refine ch ?_;exact Qh () aF hS
                   ·
                     rintro _ h9 hS;refine Kl ?_ ?_
                     · intro c119
                       try have c119:=of_decide_eq_true c119
                       refine b6 ?_;intro v128 h' hS;refine KC hS (fun _=>rfl) (i:=1) rfl aC ?_;intro r129 h' hr129 hS;refine OE ?_;refine bV ?_
                       try simp only[dA,dE,dO] at hS
                       have e:K8 undo (y.getD i default) = [99,108,97,105,109,32] ++ sw ++ [32] ++ sn:=by
                         rw[hsw,hsn];unfold K8;dsimp only;rw[if_neg c54,if_neg c66,if_neg c78,if_neg (fun x=>c89 aA),if_neg (fun x=>c104 aA),if_pos c119]
                         all_goals rfl
                       rw[←e,dI,ZV hlt] at hS;exact lpN (i+1,r129) ⟨by dsimp only; omega,by dsimp only; omega,St.drop (A:=[_]) hS⟩ aK
                     · intro c119
                       try have c119:=of_decide_eq_false c119
                       refine cJ ?_;refine Ot [1,5,7,8,13,14,15,40,130] ?_;refine Om ?_ ?_
                       · intro c130;refine OH rfl ?_;refine Oh ?_;refine Oh ?_;refine KT aC ?_;refine bd ?_;intro v135 h' hS;refine KC hS (fun _=>rfl) (i:=1) rfl aC ?_;intro r136 h' hr136 hS;refine OE ?_;refine bV ?_
                         try simp only[dA,dE,dO] at hS
                         have e:K8 undo (y.getD i default) = [102,114,101,101,32] ++ sw:=by
                           rw[hsw];unfold K8;dsimp only;rw[if_neg c54,if_neg c66,if_neg c78,if_neg (fun x=>c89 aA),if_neg (fun x=>c104 aA),if_neg c119,if_pos aA]
                           all_goals rfl
                         rw[←e,dI,ZV hlt] at hS;exact lpN (i+1,r136) ⟨by dsimp only; omega,by dsimp only; omega,St.drop (A:=[_]) hS⟩ aK
                       · intro c130;refine KA.meet (X:=Unit) (fun _=>[(1,.bool undo),(5,v5),(7,p7),(8,.str (wd sw)),(13,v),(14,.int .i64 (y.length:Int)),(15,.int .i64 (i:Int)),(137,.bool (decide ((y.getD i default).a % 16<15)))]) (fun _ h'=>St h h' [⟨p7,0,qc (y.getD i default),true⟩,⟨v5,1,wcs (Xx ++ (y.take i).map (K8 undo)),true⟩]) ?_ ?_
                         ·
                           refine cJ ?_;refine Ot [1,5,7,8,13,14,15,40,137] ?_;refine Om ?_ ?_
                           · intro c137
                             try have c137:=of_decide_eq_true c137
                             refine Oy ?_;exact Qh () aF hS
                           · intro c137
                             try have c137:=of_decide_eq_false c137
                             refine ch ?_;exact Qh () aF hS
                         ·
                           rintro _ h9 hS;refine Kl ?_ ?_
                           · intro c137
                             try have c137:=of_decide_eq_true c137
                             refine OX [4,7,10,13,16] mixed rfl aE ?_;refine Oh ?_;refine Oh ?_;refine KT aC ?_;refine KT aC ?_;refine Kn aw (Uh) ?_;rintro v144 h144 hS144;replace hS:St _ _ (_::_):=St.trans hS hS144;refine Qe hp7 (j:=2) rfl aD ?_;intro p145 hp145;refine Oe hp145 (hS.rd 1 rfl) rfl ?_;refine Kn aI (one_c (hS.rd 0 rfl) aD aD hq.2.2.1) ?_;rintro _ _ ⟨rfl,rfl⟩;rw[←hsr];refine KT aC ?_;refine KT aC ?_;refine Kn aw (Uh) ?_;rintro v150 h150 hS150;replace hS:St _ _ (_::_):=St.trans hS hS150;refine Qe hp7 (j:=3) rfl aD ?_;intro p151 hp151;refine Oe hp151 (hS.rd 2 rfl) rfl ?_;refine Kn aI (one_c (hS.rd 0 rfl) aD aD hq.2.2.2) ?_;rintro _ _ ⟨rfl,rfl⟩;rw[←hss];refine KT aC ?_;refine bd ?_;intro v155 h' hS;refine KC hS (fun _=>rfl) (i:=3) rfl aC ?_;intro r156 h' hr156 hS;refine OE ?_;refine bV ?_
                             try simp only[dA,dE,dO] at hS
                             have e:K8 undo (y.getD i default) = [119,97,121,32] ++ sw ++ [32] ++ sr ++ [32] ++ ss:=by
                               rw[hsw,hsr,hss];unfold K8;dsimp only;rw[if_neg c54,if_neg c66,if_neg c78,if_neg (fun x=>c89 aA),if_neg (fun x=>c104 aA),if_neg c119,if_neg (fun x=>c130 aA),if_pos c137]
                               all_goals rfl
                             rw[←e,dI,ZV hlt] at hS;exact lpN (i+1,r156) ⟨by dsimp only; omega,by dsimp only; omega,St.drop (A:=[_,_,_]) hS⟩ aK
                           · intro c137
                             try have c137:=of_decide_eq_false c137
                             refine Ox ?_;refine Oh ?_;refine Ot [1,5,7,13,14,15,41] ?_;refine Kl ?_ ?_
                             · intro c41;refine OH rfl ?_;refine Oh ?_;refine bd ?_;intro v43 h' hS;refine KC hS (fun _=>rfl) (i:=1) rfl aC ?_;intro r44 h' hr44 hS;refine OE ?_;refine bV ?_
                               try simp only[dA,dE,dO] at hS
                               have e:K8 undo (y.getD i default) = [117,110,100,111]:=by
                                 unfold K8;dsimp only;rw[if_neg c54,if_neg c66,if_neg c78,if_neg (fun x=>c89 aA),if_neg (fun x=>c104 aA),if_neg c119,if_neg (fun x=>c130 aA),if_neg c137,if_pos c41]
                                 all_goals rfl
                               rw[←e,dI,ZV hlt] at hS;exact lpN (i+1,r44) ⟨by dsimp only; omega,by dsimp only; omega,St.drop (A:=[_]) hS⟩ aK
                             · intro c41;refine OX [2,5,8] mixed rfl aE ?_;refine Oh ?_;refine bd ?_;intro v46 h' hS;refine Kn aI (Zj) ?_;rintro r47 _ ⟨rfl,rfl⟩;replace hS:St _ _ (⟨r47,1,wcs [[118,97,117,108,116],[116,97,98,108,101]],true⟩::_):=hS;refine Qe hp7 (j:=3) rfl aD ?_;intro p48 hp48;refine Oe hp48 (hS.rd 1 rfl) rfl ?_;refine Kn aI (one_c (hS.rd 0 rfl) aD aD hq.2.2.2) ?_;rintro _ _ ⟨rfl,rfl⟩;rw[←hsv];refine KT aC ?_;refine bd ?_;intro v52 h' hS;refine KC hS (fun _=>rfl) (i:=2) rfl aC ?_;intro r53 h' hr53 hS;refine OE ?_;refine bV ?_
                               try simp only[dA,dE,dO] at hS
                               have e:K8 undo (y.getD i default) = [114,111,111,109,32] ++ sv:=by
                                 rw[hsv];unfold K8;dsimp only;rw[if_neg c54,if_neg c66,if_neg c78,if_neg (fun x=>c89 aA),if_neg (fun x=>c104 aA),if_neg c119,if_neg (fun x=>c130 aA),if_neg c137,if_neg (by simp[c41])]
                                 all_goals rfl
                               rw[←e,dI,ZV hlt] at hS;exact lpN (i+1,r53) ⟨by dsimp only; omega,by dsimp only; omega,St.drop (A:=[_,_]) hS⟩ aK
 intro c16;refine bQ ?_;refine Oq [5] ?_;refine Ox ?_;refine Oh ?_;refine OE ?_;refine Ot [4] ?_;refine KA.ret ?_;refine fnQ.ret1 ?_;have e:y.take i=y.take 24:=by rw[dG aA,dG aA]
 unfold ZP;rw[←e];exact hS
end Go.Am
namespace Go.Am
open Go.ChangeShapes Go.WideShapes
def qOf (l:List Int):Q4:=⟨(l.getD 0 0).toNat,(l.getD 1 0).toNat,(l.getD 2 0).toNat,(l.getD 3 0).toNat⟩
theorem UD {x:Int} (h : 0≤x∧x≤255):∃ n:Nat,x=n∧n<256:=⟨x.toNat,by omega,by omega⟩
theorem qc_of {l:List Int} (h:l.length=4) (hw:∀ x∈l,(Lit.int .u8 x).wf=true):l.map (AV.int .u8)=qc (qOf l)∧(qOf l).Ok:=by
 match l,h with
 | [a,b,c,d],_=>
  obtain⟨a,rfl,ha⟩:=UD (UX (hw a aV));obtain⟨b,rfl,hb⟩:=UD (UX (hw b aV));obtain⟨c,rfl,hc⟩:=UD (UX (hw c aV));obtain⟨d,rfl,hd⟩:=UD (UX (hw d aV));exact⟨rfl,ha,hb,hc,hd⟩
theorem rows_year {h:AHeap}:∀ {rows:List (List AV)} {xs:List (List Int)},rows.length=xs.length→(∀ (i:Nat) (r:List AV) (x:List Int),rows[i]? = some r→xs[i]? = some x→r.length=4∧EArr .u8 4 h r x)→rows.flatten=flr qc (xs.map qOf)∧∀ q∈xs.map qOf,q.Ok:=by
 intro rows
 induction rows with
 | nil=>intro xs hl _; rw[List.length_eq_zero_iff.1 hl.symm]; exact⟨rfl,fun q hq=>by cases hq⟩
 | cons r rows ih=>
  intro xs hl hx
  cases xs with
  | nil=>cases hl
  | cons x xs=>
   obtain⟨_,h1,h2,h3⟩:=hx 0 r x rfl rfl;have ih2:=ih aj (fun i r y hr hy=>hx (i+1) r y (by simpa using hr) bA);obtain⟨h4,h5⟩:=qc_of h2 h3;refine⟨?_,?_⟩;rw[List.flatten_cons,ih2.1,h1,h4];rfl;intro q hq;rw[List.map_cons,List.mem_cons] at hq;rcases hq with rfl|hq
   exact h5;exact ih2.2 q hq
theorem year_of {h:AHeap} {av:AV} {x:List (List Int)} (hE:ESl 4 (EArr .u8 4) h [av] x):∃ ys:List Q4,Rd h av 4 (flr qc ys)∧∀ q∈ys,q.Ok:=by
 obtain⟨v,rows,h2,h3,h4,h5⟩:=hE;cases h2;have h6:=rows_year h4 h5;exact⟨x.map qOf,by rw[←h6.1]; exact h3,h6.2⟩
theorem ic_year {H:Type} {enc:TypeId × Value→H}:IC enc Go.Proofs.Tryz.prog 53 (ESl 4 (EArr .u8 4)):=
  IC.slice (s:=4) Go.Proofs.Tryz.underlying53 aE aD (IC.array Go.Proofs.Tryz.underlying87 aE aE Go.Proofs.Tryz.underlying5)
end Go.Am
namespace Go.Am
def Vc:Str:=[117,110,100,111]
noncomputable def bkStep (ls:List Str) (x:Str):List Str:=if x=Vc then ls.dropLast else doL ls x
noncomputable def Xs (xs : List Str) : Nat → List Str
  | 0=>[]
  | i+1=>bkStep (Xs xs i) (xs.getD i [])
noncomputable def YK (xs:List Str):List Str:=Xs xs xs.length
theorem U3 {ls:List Str} {x:Str} (h:x=Vc):bkStep ls x=ls.dropLast:=if_pos h
theorem bk_do {ls:List Str} {x:Str} (h:¬ x=Vc):bkStep ls x=doL ls x:=if_neg h
theorem Done.one {l:List Str} (hD:Done l):∀ i,i<l.length→O2 (l.take i) (l.getD i [])=0:=by
 induction hD with
 | nil=>intro i hi; cases hi
 | @snoc lines line h he ih=>
  intro i hi;by_cases hl:i<lines.length;rw[List.take_append_of_le_length (Nat.le_of_lt hl),XD _ hl]; exact ih i hl;have:i=lines.length:=by rw[List.length_append,List.length_singleton] at hi; omega
  subst this;rw[List.take_left',dU,List.getElem?_concat_length];exact he;rfl
theorem book_c {h:AHeap} {v:AV} {ls:List Str} (hv:WRow h v ls) (hl:ls.length≤1000000) (hx:∀ x∈ls,x.length≤1000000) (hV:Vs h):ACalls Go.Proofs.Tryz.prog 37 [v] h (fun b h'=>Bk h h' b (YK ls) []):=by
 refine OL 22 [.tmp 2] Go.Proofs.Tryz.func37 rfl aD rfl rfl (dY rfl) ?_;show KA _ 22 _ _ [(0,v)] _;refine Oa [0] ?_;refine Ox ?_;refine Oi rfl (new_c) ?_;rintro b h5 hB;have hvk:WRow h5 v ls:=by obtain⟨_,_,_,hS⟩:=hB; exact Rd.ext hS.keeps hv
 refine Oa [0,3] ?_;refine Oc ?_;refine O1 hvk ?_;refine Oa [3,7,8,9] ?_;refine Oz ?_;refine Kd (X:=Nat) (fun i=>[(3,b),(7,v),(8,.int .i64 (ls.length:Int)),(9,.int .i64 (i:Int))]) (fun i h'=>i≤ls.length∧Bk h h' b (Xs ls i) []) (fun i=>ls.length - i) 0 ?_ ?_;exact⟨dF _,hB⟩;rintro i h2 ⟨hi,hB⟩;have hvk:WRow h2 v ls:=by obtain⟨_,_,_,hS⟩:=hB; exact Rd.ext hS.keeps hv
 refine cI ?_;refine Om ?_ ?_
 ·intro c10;have hlt:i<ls.length:=by omega
  obtain⟨vl,A,hb,hS⟩:=hB;have hds:∀ x∈Xs ls i,x.length≤1000000:=fun x hx=>Nat.le_trans (hb.done.small x hx) aA
  refine OB [3,7,8,9] ?_;refine cS ?_;refine Ow hvk (j:=i) rfl aC ?_;intro p11 hp11;refine OY hp11 hvk aC ?_;refine Oa [3,5,7,8,9] ?_;refine Oa [3,5,7,8,9,14] ?_;refine Om ?_ ?_;intro c14;refine Oc ?_;refine Oi rfl (undo_c hb hS hV hds) ?_;rintro _ h8 ⟨rfl,hB8⟩;refine cO ?_;refine Oq [3,7,8,9] ?_;refine bU ?_;exact lpN (i+1) ⟨by omega,by rw[Xs,U3 c14]; exact hB8⟩ aA;intro c14;refine Oc ?_;refine Oi rfl (Xq hb hS (hV.ext hS.keeps) (hx _ (getD_mem hlt))) ?_;rintro _ h8 ⟨rfl,hB8⟩;refine cO ?_;refine Oq [3,7,8,9] ?_;refine bU ?_;exact lpN (i+1) ⟨by omega,by rw[Xs,bk_do c14]; exact hB8⟩ aA
 intro c10;refine bQ ?_;refine Oq [3] ?_;refine bT ?_;have hie:i=ls.length:=by omega
 subst hie;exact hB
end Go.Am
namespace Go.Am
def badL (l:Str):Prop:=[]∈OG 32 l∨(l.any fun c=>decide (c.toNat<32∨126<c.toNat))=true
instance (l:Str):Decidable (badL l):=inferInstanceAs (Decidable (_∨_))
end Go.Am
namespace Go.Am
theorem rE_long {l:Str} (h : 40<l.length):Ku l=19:=by unfold Ku; exact if_pos h
theorem rE_bad {l:Str} (h1:¬ 40<l.length) (h:badL l):Ku l=9:=by unfold Ku; dsimp only; rw[if_neg h1]; exact if_pos h
theorem rE_kind {l:Str} (h1:¬ 40<l.length) (h2:¬ badL l) (h:OM ((OG 32 l).getD 0 []) = []):Ku l=8:=by have h2':¬ ([]∈OG 32 l∨(l.any fun c=>decide (c.toNat<32∨126<c.toNat))=true):=h2; unfold Ku; dsimp only; rw[if_neg h1,if_neg h2',if_pos h]
theorem rE_shape {l:Str} (h1:¬ 40<l.length) (h2:¬ badL l) (h3:OM ((OG 32 l).getD 0 [])≠[]) (h:(OG 32 l).length≠(OM ((OG 32 l).getD 0 [])).length+1):Ku l=5:=by have h2':¬ ([]∈OG 32 l∨(l.any fun c=>decide (c.toNat<32∨126<c.toNat))=true):=h2; unfold Ku; dsimp only; rw[if_neg h1,if_neg h2',if_neg h3,if_pos h]
theorem rE_rest {l:Str} (h1:¬ 40<l.length) (h2:¬ badL l) (h3:OM ((OG 32 l).getD 0 [])≠[]) (h:(OG 32 l).length=(OM ((OG 32 l).getD 0 [])).length+1):Ku l=if KO (OM ((OG 32 l).getD 0 [])) ((OG 32 l).drop 1)≠0 then KO (OM ((OG 32 l).getD 0 [])) ((OG 32 l).drop 1) else if YO (OM ((OG 32 l).getD 0 [])) ((OG 32 l).drop 1) then 1 else 0:=by have h2':¬ ([]∈OG 32 l∨(l.any fun c=>decide (c.toNat<32∨126<c.toNat))=true):=h2; unfold Ku; dsimp only; rw[if_neg h1,if_neg h2',if_neg h3,if_neg (fun x=>x h)]
end Go.Am
namespace Go.Am
theorem X7 {l:List Str} (h:l.length=2):∃ a b,l = [a,b]:=by
 match l,h with
 | [a,b],_=>exact⟨a,b,rfl⟩
theorem four_words {l:List Str} (h:l.length=4):∃ a b c d,l = [a,b,c,d]:=by
 match l,h with
 | [a,b,c,d],_=>exact⟨a,b,c,d,rfl⟩
theorem readE_zero {line:Str} (h:Ku line=0):OM ((OG 32 line).getD 0 [])≠[]∧(OG 32 line).length=(OM ((OG 32 line).getD 0 [])).length+1∧KO (OM ((OG 32 line).getD 0 [])) ((OG 32 line).drop 1)=0:=by
 by_cases h1 : 40<line.length;rw[rE_long h1] at h; cases h;by_cases h2:badL line;rw[rE_bad h1 h2] at h; cases h;by_cases h3:OM ((OG 32 line).getD 0 []) = [];rw[rE_kind h1 h2 h3] at h; cases h;by_cases h4:(OG 32 line).length=(OM ((OG 32 line).getD 0 [])).length+1;rw[rE_rest h1 h2 h3 h4] at h;refine⟨h3,h4,?_⟩;apply Classical.byContradiction;intro hn;rw[if_pos hn] at h;exact hn h;rw[rE_shape h1 h2 h3 h4] at h; cases h
theorem KV {c:UInt8} {f:Str} {w:Str} {l:List Str} (h:KO (c::f) (w::l)=0):Kg c w=0∧KO f l=0:=by
 rw[KO] at h;split at h;rename_i hb; exact⟨hb,h⟩;rename_i hb; exact absurd h hb
theorem form_kind (k:Str):OM k≠[]→k=OV∨k=O6∨k=O4∨k=OJ∨k=OO∨k=OI∨k=OP∨k=OT∨k=OS∨k=OQ∨k=OR:=by
 intro h;unfold OM at h;split at h;rename_i q; rcases q with q|q <;> simp[q]
 split at h;rename_i q; simp[q];split at h;rename_i q; rcases q with q|q|q <;> simp[q]
 split at h;rename_i q; simp[q];split at h;rename_i q; rcases q with q|q|q|q <;> simp[q]
 exact absurd rfl h
end Go.Am
namespace Go.Am
theorem getD_set' {α:Type} {l:List α} {i j:Nat} {a d : α} (hi:i<l.length):(l.set i a).getD j d=if j=i then a else l.getD j d:=by
 rw[dU,dU];by_cases h:j=i;subst h;rw[List.getElem?_set_self hi,if_pos rfl]; rfl;rw[List.getElem?_set_ne (fun e=>h e.symm),if_neg h]
theorem Ru {O:Off} (nd:(O.ways.map (·.1)).Nodup) {i:Nat} {w:Str} {l:Lane} (h:O.ways[i]? = some (w,l)) (f:Lane→Lane):(O.mod w f).ways=O.ways.set i (w,f l):=X5 f nd h
end Go.Am
namespace Go.Am
theorem Jj {κ ν:Type} [DecidableEq κ] {l:List (κ × ν)} (hn:(l.map (·.1)).Nodup) {k n : κ}:Oo (Zr l k) n=if n=k then none else Oo l n:=by
 induction l with
 | nil=>simp[Zr,Oo]
 | cons p l ih=>
  rw[List.map_cons,List.nodup_cons] at hn;simp only[Zr,Oo];by_cases hk:p.1=k;subst hk;by_cases hnk:n=p.1;subst hnk;simp only[if_pos]
  first|exact Va hn.1|(rw[if_pos rfl]; exact Va hn.1)
  simp only[if_neg hnk]
  first|rfl|(rw[if_pos rfl])
  have hk':¬ k=p.1:=fun e=>hk e.symm
  by_cases hnp:n=p.1;subst hnp;simp[hk,hk',Oo];simp[hk,hk',Oo,hnp,ih hn.2]
end Go.Am
