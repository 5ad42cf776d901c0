/-
  Layer 14: the law's own examples: works().
  Conditions: none.
-/
import Derived.Test.YtgnogfjajnnaoaaGreatDoorOi
import Derived.Test.YtgnogfjajnnaoaaGreatDoorSPa
import Derived.Test.YtgnogfjajnnaoaaGreatDoorRows
import Derived.MakeChecks
import Derived.HandedShaped
import Derived.Shelf.Vars
open Go.Lib renaming decDigits → fU, itoa_length_le → fQ
open List renaming getD_eq_getElem?_getD → fA, getElem?_eq_getElem → fI, isSuffixOf_iff_suffix → fO, isPrefixOf_iff_prefix → fY, nil_append → fC, length_dropLast → fD, take_append_of_le_length → fF, getElem?_eq_some_iff → fG, all_eq_true → fH, length_drop → fJ, take_append_drop → fK, getElem?_set_ne → fL, getElem?_take → fM, getElem?_drop → fN, mem_singleton → fP, length_append → fR, getElem?_map → fS, length_take → fV, take_length → fW, cons_append → fX, length_map → fZ
open Nat renaming le_of_ble_eq_true → fE
open Option.some renaming inj → fB, injEq → fT
set_option maxRecDepth 99999
set_option maxHeartbeats 4000000
namespace Go.Am
theorem V3 {l:List Str} {x:Str} {e:Int} (h:Kf l x=e) (he:e≠0):doL l x=l:=if_neg (by rw[h]; exact he)
theorem Yt {l:List Str} {x:Str} (h:Kf l x=0):doL l x=l ++ [x]:=if_pos h
section
variable {P:Program} {n:Nat} {ops:Array Oper} {ex:List Nat} {Q:KF→AHeap→Prop} {k:Nat} {os:List Oper} {K:KF} {h:AHeap} {d:Nat} {ty:TypeId} {pos:String} {after:Array Edge}
theorem KJ {t t':TypeId} {x y:Operand} {kd:IntKind} {a b:Int} [hx:EvK h.globs n K x (.int kd a)] [hy:EvK h.globs n K y (.int kd b)] (he:a=b) (hk:KOps P n ops ex Q (k+1) os ((d,.bool false)::K) h):KOps P n ops ex Q k (⟨some d,.binOp .neq t x y t',ty,pos,after,none⟩::os) K h:=by
 refine Zl ?_;rw[decide_eq_true he]; exact hk
theorem KOps.eqlV {t t':TypeId} {x y:Operand} {kd:IntKind} {a b:Int} [hx:EvK h.globs n K x (.int kd a)] [hy:EvK h.globs n K y (.int kd b)] (he:a=b) (hk:KOps P n ops ex Q (k+1) os ((d,.bool true)::K) h):KOps P n ops ex Q k (⟨some d,.binOp .eql t x y t',ty,pos,after,none⟩::os) K h:=by
 refine ZL ?_;rw[decide_eq_true he]; exact hk
theorem KOps.notT {t:TypeId} {x:Operand} [hx:EvK h.globs n K x (.bool true)] (hk:KOps P n ops ex Q (k+1) os ((d,.bool false)::K) h):KOps P n ops ex Q k (⟨some d,.unOp .not t x,ty,pos,after,none⟩::os) K h:=by
 refine Zm (b:=true) ?_;exact hk
end
theorem YB {h:AHeap} (hV:Vs h):ACalls Go.Proofs.Tryz.prog 15 [] h (fun q h'=>q = .bool true∧Keeps h h'):=by
  refine OR 240 [.tmp 0] Go.Proofs.Tryz.func15 rfl aD rfl rfl (fE rfl) ?_;have hS:=St.refl h;show KA _ 240 _ _ [] _;refine Ke [] ?_;refine On ?_;refine Oj rfl (bLines_c) ?_;rintro v19 h19 hS;refine Oj rfl (toldX_c (hS.rd 0 rfl) aD aS (hV.ext hS.keeps)) ?_;rintro _ h5 ⟨b,rfl,hB⟩;have hT1:Q6 bLines bLines.length=bLines:=told_B.1;have hT2:Zr bLines bLines.length=true:=told_B.2;rw[hT1] at hB;rw[hT2];obtain⟨vl,A,hb,hS5⟩:=hB;have hSB:St h h5 (Xm b vl A bLines ++ [⟨v19,1,wcs bLines,true⟩]):=by
    have hx:=St.trans hS hS5;rwa [List.append_nil] at hx
  have hV5:=hV.ext hSB.keeps;have r:=St.rbk hSB hb;clear hS;have hS:=St.refl h5;refine Ke [1,2] ?_;refine OB ?_;refine Oj rfl (boundsB_c (w:=sIn) (r.ext hS.keeps)) ?_;rintro _ _ ⟨rfl,rfl⟩;rw[e1,show tup3 (5,99,0)=AV.tup [.int .i64 5,.int .i64 99,.int .i64 0] from rfl];refine Ke [1,2,3,4,5] ?_;refine OB ?_;refine Oj rfl (spanB_c (w:=YX) (r.ext hS.keeps)) ?_;rintro _ h7 ⟨rfl,hK⟩;have hS0:=St.on hS hK;clear hS;have hS:=hS0;clear hS0;rw[e2,show tup3 (5,6,0)=AV.tup [.int .i64 5,.int .i64 6,.int .i64 0] from rfl];refine Ke [1,2,3,4,5,6,7,8] ?_;refine OB ?_;refine Oj rfl (whyB_c (w:=YX) (r.ext hS.keeps) (hV5.ext hS.keeps)) ?_;rintro _ h8 ⟨v37,rfl,hSN⟩;rw[e3.1] at hSN;rw[e3.2];replace hS:St _ _ (_::_):=St.trans hS hSN;refine Ke [1,2,3,4,5,6,7,8,9,10] ?_;refine OB ?_;refine Oj rfl (whyB_c (w:=Uu) (r.ext hS.keeps) (hV5.ext hS.keeps)) ?_;rintro _ h9 ⟨v42,rfl,hSN⟩;rw[e4.1] at hSN;rw[e4.2];replace hS:St _ _ (_::_):=St.trans hS hSN;refine Ke [1,2,3,4,5,6,7,8,9,10,11,12] ?_;refine OB ?_;refine KOps.notT ?_;refine OB ?_;refine cB ?_;refine cB ?_;refine cB ?_;refine cB ?_;refine cB ?_;refine cB ?_;refine cB ?_;refine cB ?_;refine cJ ?_;intro v81 h' hS;refine Og (dj:=79) rfl rfl ?_;refine Oj rfl (V5) ?_;rintro _ _ ⟨rfl,rfl⟩;refine Og (dj:=79) rfl rfl ?_;refine Oj rfl (Vg (a:=[sTax,Ja]) (b:=[sTax,Ja]) (hS.rd 2 rfl) (hS.rd 0 rfl) aD) ?_;rintro _ _ ⟨rfl,rfl⟩;rw[show decide _=true from by decide];refine Og (dj:=79) rfl rfl ?_;refine KOps.notT ?_;refine OY ?_;refine OB ?_;refine Ka (hS.rd 1 rfl) ?_;refine OB ?_;refine Oj rfl (sureB_c (r.ext hS.keeps)) ?_;rintro v90 h10 hSN;rw[e5] at hSN;replace hS:St _ _ (_::_):=St.trans hS hSN;refine Og (dj:=86) rfl rfl ?_;refine eG ?_;refine Og (dj:=86) rfl rfl ?_;refine KP aD aD ?_;refine Og (dj:=86) rfl rfl ?_;refine cB ?_;refine Oj rfl (roomsB_c (r.ext hS.keeps)) ?_;rintro v97 h11 hSN;rw[e6] at hSN;replace hS:St _ _ (_::_):=St.trans hS hSN;refine Og (dj:=95) rfl rfl ?_;refine cJ ?_;intro v98 h' hS;refine Og (dj:=95) rfl rfl ?_;refine Oj rfl (V5) ?_;rintro _ _ ⟨rfl,rfl⟩;refine Og (dj:=95) rfl rfl ?_;refine Oj rfl (Vg (a:=[sTax,sPress,Ja]) (b:=[sTax,sPress,Ja]) (hS.rd 1 rfl) (hS.rd 0 rfl) aD) ?_;rintro _ _ ⟨rfl,rfl⟩;rw[show decide _=true from by decide];refine Og (dj:=95) rfl rfl ?_;refine KOps.notT ?_;refine OY ?_;refine Ol [1,102] ?_;refine OW ?_;refine Ot [1] ?_;refine OB ?_;have hSB2:=St.drop (St.trans hSB hS);clear hSB hS;have hSB:=hSB2;clear hSB2;refine Oj rfl (XZ (line:=[99,108,97,105,109,32,105,110,32,55]) hb hSB (hV.ext hSB.keeps) aD) ?_;rintro _ _ ⟨rfl,hB⟩;rw[show Kf bLines [99,108,97,105,109,32,105,110,32,55]=_ from a1];rw[V3 a1 aD] at hB;clear hb hSB;obtain⟨vl,A,hb,hSB⟩:=hB;refine KJ aU ?_;refine OB ?_;refine Oj rfl (XZ (line:=[99,108,97,105,109,32,105,110,32,53]) hb hSB (hV.ext hSB.keeps) aD) ?_;rintro _ _ ⟨rfl,hB⟩;rw[show Kf bLines [99,108,97,105,109,32,105,110,32,53]=_ from a2];rw[V3 a2 aD] at hB;clear hb hSB;obtain⟨vl,A,hb,hSB⟩:=hB;refine Og (dj:=106) rfl rfl ?_;refine cB ?_;refine Oj rfl (XZ (line:=[109,111,115,116,32,105,110,32,52]) hb hSB (hV.ext hSB.keeps) aD) ?_;rintro _ _ ⟨rfl,hB⟩;rw[show Kf bLines [109,111,115,116,32,105,110,32,52]=_ from a3];rw[V3 a3 aD] at hB;clear hb hSB;obtain⟨vl,A,hb,hSB⟩:=hB;refine Og (dj:=111) rfl rfl ?_;refine cB ?_;refine Oj rfl (XZ (line:=[108,101,97,115,116,32,111,117,116,32,55]) hb hSB (hV.ext hSB.keeps) aD) ?_;rintro _ _ ⟨rfl,hB⟩;rw[show Kf bLines [108,101,97,115,116,32,111,117,116,32,55]=_ from a4];rw[V3 a4 aD] at hB;clear hb hSB;obtain⟨vl,A,hb,hSB⟩:=hB;refine Og (dj:=116) rfl rfl ?_;refine cB ?_;refine Oj rfl (XZ (line:=[108,101,97,115,116,32,104,111,109,101,32,54]) hb hSB (hV.ext hSB.keeps) aD) ?_;rintro _ _ ⟨rfl,hB⟩;rw[show Kf bLines [108,101,97,115,116,32,104,111,109,101,32,54]=_ from a5];rw[Yt (x:=[108,101,97,115,116,32,104,111,109,101,32,54]) a5,show bLines ++ [[108,101,97,115,116,32,104,111,109,101,32,54]]=L1 from rfl] at hB;clear hb hSB;obtain⟨vl,A,hb,hSB⟩:=hB;refine Og (dj:=121) rfl rfl ?_;refine cB ?_;refine Oj rfl (XZ (line:=[99,108,97,105,109,32,105,110,32,54]) hb hSB (hV.ext hSB.keeps) aD) ?_;rintro _ _ ⟨rfl,hB⟩;rw[show Kf L1 [99,108,97,105,109,32,105,110,32,54]=_ from a6];rw[Yt (x:=[99,108,97,105,109,32,105,110,32,54]) a6,show L1 ++ [[99,108,97,105,109,32,105,110,32,54]]=L2 from rfl] at hB;clear hb hSB;obtain⟨vl,A,hb,hSB⟩:=hB;refine Og (dj:=126) rfl rfl ?_;refine cB ?_;refine Oj rfl (XZ (line:=[108,101,97,115,116,32,105,110,32,49]) hb hSB (hV.ext hSB.keeps) aD) ?_;rintro _ _ ⟨rfl,hB⟩;rw[show Kf L2 [108,101,97,115,116,32,105,110,32,49]=_ from a7];rw[V3 a7 aD] at hB;clear hb hSB;obtain⟨vl,A,hb,hSB⟩:=hB;refine Og (dj:=131) rfl rfl ?_;refine cB ?_;refine Oj rfl (sureB_c (St.rbk hSB hb)) ?_;rintro _ _ hS;rw[e7] at hS;refine Og (dj:=136) rfl rfl ?_;refine cJ ?_;intro v139 h' hS;refine Og (dj:=136) rfl rfl ?_;refine Oj rfl (V5) ?_;rintro _ _ ⟨rfl,rfl⟩;refine Og (dj:=136) rfl rfl ?_;refine Oj rfl (Vg (a:=[sIn,YX,Uu]) (b:=[sIn,YX,Uu]) (hS.rd 1 rfl) (hS.rd 0 rfl) aD) ?_;rintro _ _ ⟨rfl,rfl⟩;rw[show decide _=true from by decide];refine Og (dj:=136) rfl rfl ?_;refine KOps.notT ?_;refine OY ?_;refine Ol [1,143] ?_;refine OW ?_;refine Ot [1] ?_;refine OB ?_;have hSB2:=St.drop (St.trans hSB hS);clear hSB hS;have hSB:=hSB2;clear hSB2;refine Oj rfl (XZ (line:=[112,97,99,107,32,49,50,32,111,117,116]) hb hSB (hV.ext hSB.keeps) aD) ?_;rintro _ _ ⟨rfl,hB⟩;rw[show Kf L2 [112,97,99,107,32,49,50,32,111,117,116]=_ from a8];rw[Yt (x:=[112,97,99,107,32,49,50,32,111,117,116]) a8,show L2 ++ [[112,97,99,107,32,49,50,32,111,117,116]]=L3 from rfl] at hB;clear hb hSB;obtain⟨vl,A,hb,hSB⟩:=hB;refine KJ aU ?_;refine OB ?_;refine Oj rfl (XZ (line:=[112,97,99,107,32,49,50,32,105,110]) hb hSB (hV.ext hSB.keeps) aD) ?_;rintro _ _ ⟨rfl,hB⟩;rw[show Kf L3 [112,97,99,107,32,49,50,32,105,110]=_ from a9];rw[V3 a9 aD] at hB;clear hb hSB;obtain⟨vl,A,hb,hSB⟩:=hB;refine Og (dj:=147) rfl rfl ?_;refine cB ?_;refine Oj rfl (XZ (line:=[115,101,97,108,32,49,50]) hb hSB (hV.ext hSB.keeps) aD) ?_;rintro _ _ ⟨rfl,hB⟩;rw[show Kf L3 [115,101,97,108,32,49,50]=_ from a10];rw[Yt (x:=[115,101,97,108,32,49,50]) a10,show L3 ++ [[115,101,97,108,32,49,50]]=L4 from rfl] at hB;clear hb hSB;obtain⟨vl,A,hb,hSB⟩:=hB;refine Og (dj:=152) rfl rfl ?_;refine cB ?_;refine Oj rfl (would_c (line:=[98,117,114,110,32,49,50]) hb hSB (hV.ext hSB.keeps) aD) ?_;rintro _ _ ⟨rfl,hSB2⟩;rw[show Kf L4 [98,117,114,110,32,49,50]=20 from a11];clear hSB;have hSB:=hSB2;clear hSB2;refine Og (dj:=157) rfl rfl ?_;refine cB ?_;refine Oj rfl (XZ (line:=[100,101,97,108,32,49,50]) hb hSB (hV.ext hSB.keeps) aD) ?_;rintro _ _ ⟨rfl,hB⟩;rw[show Kf L4 [100,101,97,108,32,49,50]=_ from a12];rw[Yt (x:=[100,101,97,108,32,49,50]) a12,show L4 ++ [[100,101,97,108,32,49,50]]=L5 from rfl] at hB;clear hb hSB;obtain⟨vl,A,hb,hSB⟩:=hB;refine Og (dj:=162) rfl rfl ?_;refine cB ?_;refine Oj rfl (XZ (line:=[98,97,99,107,32,49,50]) hb hSB (hV.ext hSB.keeps) aD) ?_;rintro _ _ ⟨rfl,hB⟩;rw[show Kf L5 [98,97,99,107,32,49,50]=_ from a13];rw[Yt (x:=[98,97,99,107,32,49,50]) a13,show L5 ++ [[98,97,99,107,32,49,50]]=L6 from rfl] at hB;clear hb hSB;obtain⟨vl,A,hb,hSB⟩:=hB;refine Og (dj:=167) rfl rfl ?_;refine cB ?_;refine Oj rfl (XZ (line:=[98,117,114,110,32,49,50]) hb hSB (hV.ext hSB.keeps) aD) ?_;rintro _ _ ⟨rfl,hB⟩;rw[show Kf L6 [98,117,114,110,32,49,50]=_ from a14];rw[Yt (x:=[98,117,114,110,32,49,50]) a14,show L6 ++ [[98,117,114,110,32,49,50]]=L7 from rfl] at hB;clear hb hSB;obtain⟨vl,A,hb,hSB⟩:=hB;refine Og (dj:=172) rfl rfl ?_;refine KJ aU ?_;refine OY ?_;refine Ol [1,176] ?_;refine OW ?_;refine Ot [1] ?_;refine OB ?_;refine Oj rfl (packsB_c (w:=YX) (St.rbk hSB hb)) ?_;rintro _ _ ⟨v177,rfl,hS⟩;rw[e8.1] at hS;rw[e8.2];refine Ke [1,5,13] ?_;refine OB ?_;refine Oj rfl (TX (p:=12) ((St.rbk hSB hb).ext hS.keeps)) ?_;rintro _ _ ⟨rfl,rfl⟩;rw[e9];refine Ke [1,5,8,13] ?_;refine OB ?_;refine KJ aU ?_;refine OB ?_;refine cB ?_;refine eG ?_;refine Og (dj:=193) rfl rfl ?_;refine cB ?_;refine Oj rfl (undo_c hb (St.drop (St.trans hSB hS)) hV (by intro x hx; have hx2:=fH.1 (show(L7.all fun x=>decide (x.length≤1000000))=true by decide) x hx; exact of_decide_eq_true hx2)) ?_;rintro _ _ ⟨rfl,hB⟩;rw[if_neg (show¬ L7 = [] by decide)];rw[show L7.dropLast=L6 from rfl] at hB;clear hb hSB;obtain⟨vl,A,hb,hSB⟩:=hB;refine Og (dj:=198) rfl rfl ?_;refine cB ?_;refine Oj rfl (undo_c hb hSB hV (by intro x hx; have hx2:=fH.1 (show(L6.all fun x=>decide (x.length≤1000000))=true by decide) x hx; exact of_decide_eq_true hx2)) ?_;rintro _ _ ⟨rfl,hB⟩;rw[if_neg (show¬ L6 = [] by decide)];rw[show L6.dropLast=L5 from rfl] at hB;clear hb hSB;obtain⟨vl,A,hb,hSB⟩:=hB;refine Og (dj:=203) rfl rfl ?_;refine KJ aU ?_;refine OY ?_;refine Ol [1,207] ?_;refine OW ?_;refine Ot [1] ?_;refine OB ?_;refine Oj rfl (TX (p:=12) (St.rbk hSB hb)) ?_;rintro _ _ ⟨rfl,rfl⟩;rw[e10];refine Ke [1,10,14] ?_;refine OB ?_;refine Oj rfl (paidB_c (St.rbk hSB hb)) ?_;rintro _ _ ⟨v213,rfl,hSP⟩;rw[e11.1] at hSP;rw[e11.2];clear hS;have hS:=hSP;refine Ke [10,14,15,16] ?_;refine On ?_;refine Oj rfl (new_c) ?_;rintro b2 h18 ⟨vl2,A2,hb2,hSN⟩;have r2:=St.rbk hSN hb2;have hw15:WRow h18 v213 [sIn]:=Rd.ext hSN.keeps (hS.rd 0 rfl);have hV18:=((hV.ext hSB.keeps).ext hS.keeps).ext hSN.keeps;have hK18:Keeps h h18:=(hSB.keeps.trans hS.keeps).trans hSN.keeps;clear hS;have hS:=St.refl h18;refine Ke [10,14,15,16,17] ?_;refine OB ?_;refine KOps.eqlV aU ?_;refine OB ?_;refine KOps.eqlV aU ?_;refine Kq ?_;refine OB ?_;refine cJ ?_;intro v227 h' hS;refine Og (dj:=225) rfl rfl ?_;refine Oj rfl (V5) ?_;rintro _ _ ⟨rfl,rfl⟩;refine Og (dj:=225) rfl rfl ?_;refine Oj rfl (Vg (a:=[sIn]) (b:=[sIn]) (Rd.ext hS.keeps hw15) (hS.rd 0 rfl) aD) ?_;rintro _ _ ⟨rfl,rfl⟩;rw[show decide _=true from by decide];refine Kq ?_;refine OB ?_;refine KOps.eqlV aU ?_;refine Kq ?_;refine OB ?_;refine Oj rfl (WS (r2.ext hS.keeps) (hV18.ext hS.keeps)) ?_;rintro _ _ ⟨rfl,rfl⟩;rw[e12];refine Og (dj:=235) rfl rfl ?_;refine KOps.wEql ?_;refine Kq ?_;refine Ke [0] ?_;refine Oi ?_;exact⟨rfl,hK18.trans hS.keeps⟩
end Go.Am
namespace Go.Am
theorem VRels.split {φ:Emb} {a b:List AV} {cs:List Value} {s:Nat} (h1:VRels φ a (cs.take s)) (h2:VRels φ b (cs.drop s)) (hs:s≤cs.length):VRels φ (a ++ b) cs∧(a ++ b).take s=a∧(a ++ b).drop s=b:=by
 have ha:a.length=s:=by rw[h1.1,fV]; omega
 have h3:=VRels.append h1 h2;rw[fK] at h3;exact⟨h3,by rw[←ha,List.take_left],by rw[←ha,List.drop_left]⟩
end Go.Am
namespace Go
variable {H:Type} {enc:TypeId × Value→H}
theorem returnsInHanded_of_change_andShaped {a : Assume} {C : Checked} {os : Os} {f : FuncId} {fn : Func} {s : ChangeSpec} {conds : List PathCond} {apart fresh handsOn again : Bool} {X : World → Array Value → Prop}
    (hX:∀ (w w':World) (args:Array Value),w.heap=w'.heap→X w args→X w' args)
    (own:ownKnob C.prog.godebug=none) (started:os.Started) (noInit:C.prog.inits.idxOf? f=none) (hfn:C.prog.funcs[f]? = some fn)
    (witness : ∃ (w : World) (tape : Tape) (i : Input), w.os = os ∧ (w.forCall tape i).Shaped C.prog ∧ i.vars = [] ∧ Input.okWide C.prog (w.forCall tape i) .any w.heap.size f i ∧
      ((s.pre enc C.prog fn conds apart (w.forCall tape i).memory i.args∧X (w.forCall tape i).memory i.args)∧sizedMet enc C.prog fn (OpenSpec.ofChange s) apart (w.forCall tape i).memory i.args)∧a.holds C.prog (lone (Frame.enter C.prog f i.args .normal) [] (w.forCall tape i)))
    (contract : ∀ (W : World) (base : Nat) (args : Array Value) (ds gs : List (DataW H)) (before : List MemPlace),
      (∀ (j:Nat) t v,fn.params[j]? = some t→args[j]? = some v→Value.okWide C.prog W .any base t v)→
      DataW.Whole enc C.prog fn.params.toList s.vars apart W args.toList ds gs before→
      conds.all (PathCond.test C.prog ⟨fn.params.toList,ds,s.plain.varTypes C.prog,gs⟩)=true→
      (DataW.weightsEach C.prog (fn.params.toList ++ s.plain.varTypes C.prog) (ds ++ gs)).all (·≤reachBytes)=true→X W args→W.ShapedOpen C.prog→
      a.holds C.prog (lone (Frame.enter C.prog f args .normal) [] W)→
      Calls C.prog f args W fun e W'=>∃ v,e = .returned v∧s.post enc C.prog fn apart fresh handsOn again W args v W') :
    ReturnsInHanded a C os f .any (fun w args=>(s.pre enc C.prog fn conds apart w args∧X w args)∧sizedMet enc C.prog fn (OpenSpec.ofChange s) apart w args) (s.post enc C.prog fn apart fresh handsOn again):=by
  refine returnsInHanded_of_calls own started noInit witness ?_;intro w tape i _ hsh _ hok hpre hholds;obtain⟨_,_,_,fn',hfn',_,_,_,_,hval⟩:=hok;have e:fn'=fn:=fB (hfn'.symm.trans hfn);subst e;obtain⟨⟨⟨ds,gs,before,hw,hc⟩,hx⟩,hz⟩:=hpre;have hw':=DataW.Whole.of_heap (w':=w.forCall tape i) (by rfl) hw;refine(contract (w.forCall tape i) w.heap.size i.args ds gs before hval hw' hc (hz.weights hw) (hX _ _ _ (by rfl) hx) hsh hholds).mono fun e W' ⟨v,he,hp⟩=>?_
  subst he;exact ChangeSpec.post_blind hp
end Go
namespace Go.Am
open Go.ChangeShapes Go.WideShapes
def VF (W:World) (g:Nat) (cs:List AV):Prop:=(∃ c e f,W.heap[g]? = some (.cells c e f)∧c.size=cs.length)∧∀ j x,cs[j]? = some x→∃ v,W.cell? ⟨g,j,none⟩=some v∧∀ φ,VRel φ x v
theorem VF.push {W:World} {φ:Emb} {h:AHeap} (im:Imp W φ h) {g:Nat} {cs:List AV} (v:VF W g cs) (p0:Nat):Imp W (fun b=>if b=h.next then some (g,0,cs.length) else φ b) (h.push (.cells none p0 cs))∧φ.le (fun b=>if b=h.next then some (g,0,cs.length) else φ b):=by
  refine im.pushP p0 cs _ ?_;intro k i z hq
  cases hq
  obtain⟨⟨c,e,f,h1,h2⟩,h3⟩:=v;refine⟨(Array.getElem?_eq_some_iff.1 h1).1,fun j x hx=>?_,fun _=>⟨rfl,c,e,f,h1,h2⟩⟩;obtain⟨v,h4,h5⟩:=h3 j x hx;exact⟨v,by rw[Nat.zero_add]; exact h4,h5 _⟩
theorem Imp.none {W:World} {φ:Emb} {h:AHeap} (im:Imp W φ h):Imp W (fun b=>if b=h.next then .none else φ b) (h.push (.cells .none 0 [])):=(im.push [] .none (by intro k i z hq; cases hq)).1
theorem Imp.vars {W:World} {a b c:List AV} (ha:VF W 0 a) (hb:VF W 3 b) (hc:VF W 4 c):∃ φ h,Imp W φ h∧(h.globs.contains 0=true∧Rd h (.ptr 0 0) 0 a)∧VarAt h 3 b∧VarAt h 4 c:=by
 have im:=(VF.push (VF.push ((VF.push (Imp.empty W) ha 0).1.none).none hb 1).1 hc 1).1;refine⟨_,⟨_,_,[0,3,4]⟩,⟨⟨?_,im.rel.lt,im.rel.blk,im.rel.arr,im.rel.one,im.rel.sep,im.rel.map,im.rel.ext⟩,im.ro,im.out⟩,⟨rfl,.inr (.inl ⟨0,0,.none,0,a,.inr ⟨rfl,rfl⟩,rfl,rfl,by rw[List.drop_zero,fW]⟩)⟩,⟨rfl,rfl⟩,rfl,rfl⟩;intro g hg;have hg:g=0∨g=3∨g=4:=by simpa using hg
 rcases hg with rfl|rfl|rfl
 ·exact⟨a.length,rfl⟩
 ·exact⟨b.length,rfl⟩
 ·exact⟨c.length,rfl⟩
def laidL:List (String × DataW Unit):=[("math/bits.deBruijn32tab",Go.Proofs.YtgnogfjajnnaoaaGreatDoor.Rows.laid_math_bits_deBruijn32tab),("math/bits.deBruijn64tab",Go.Proofs.YtgnogfjajnnaoaaGreatDoor.Rows.laid_math_bits_deBruijn64tab),("internal/strconv.uint64pow10",Go.Proofs.YtgnogfjajnnaoaaGreatDoor.Rows.laid_internal_strconv_uint64pow10),("unicode/utf8.acceptRanges",Go.Proofs.YtgnogfjajnnaoaaGreatDoor.Rows.laid_unicode_utf8_acceptRanges),("spadille/stamp.sizes",Go.Proofs.YtgnogfjajnnaoaaGreatDoor.Rows.laid_spadille_stamp_sizes),("unicode/utf8.first",Go.Proofs.YtgnogfjajnnaoaaGreatDoor.Rows.laid_unicode_utf8_first)]
def litI : DataW Unit → Option Int
  | .lit (.int _ n)=>some n
  | _=>none
def aggL : DataW Unit → List (DataW Unit)
  | .agg l=>l
  | _=>[]
def sizeL:List Int:=(List.range 64).map fun s=>((KO s 6).length:Int)
def powL:List Int:=Lib.pow10Tab
theorem sizes_lits:(aggL Go.Proofs.YtgnogfjajnnaoaaGreatDoor.Rows.laid_spadille_stamp_sizes).map litI=sizeL.map some:=by decide +kernel
theorem pow_lits:(aggL Go.Proofs.YtgnogfjajnnaoaaGreatDoor.Rows.laid_internal_strconv_uint64pow10).map litI=powL.map some:=by decide +kernel
theorem UI {W : World} {l : List Int} {lay : DataW Unit} {k : IntKind} {g t et n : Nat} {nm : String} {cs : Array Value} {f : Nat} {p : List MemPlace}
    (hU:Go.Proofs.Tryz.prog.underlying t=some (.array n et)) (hE:Go.Proofs.Tryz.prog.underlying et=some (.int k)) (c1:Go.Proofs.Tryz.prog.cellsOf et=1) (c2:Go.Proofs.Tryz.prog.cellsOf t=l.length) (hn:n=l.length) (hlits:(aggL lay).map litI=l.map some)
    (hg0:Go.Proofs.Tryz.prog.globalNamed nm=some g) (hv0:W.var? Go.Proofs.Tryz.prog nm=some cs)
    (hd0:DataW.trod (fun _=>()) Go.Proofs.Tryz.prog W 0 (fun _=>true) false f t cs.toList=some (lay,p)) :
    VF W g (l.map fun v=>AV.int k v):=by
  obtain⟨xs,m,rfl,hx1,hl,hxl,hx⟩:=DataW.trod_array hU hd0;rw[c2] at hl;have hd:=(Prod.mk.inj hx1).1;have hxs:xs.map (fun x=>litI x.1)=l.map some:=by
    rw[←hlits,hd];show _=(xs.map (·.1)).map litI;rw[List.map_map]; rfl
  have key:∀ i (hi:i<l.length),cs.toList[i]? = some (.int k l[i]):=by
    intro i hi;have h2:=hx i aB;rw[c1,Nat.mul_one,fI aB] at h2;obtain⟨c,h3,h4,_⟩:=DataW.trod_int hE h2;have h5:((cs.toList.drop i).take 1)[0]? = some (.int k c):=by rw[h3]; rfl
    have h6:cs.toList[i]? = some (.int k c):=by simpa [fM,fN] using h5
    have h7:=congrArg (fun l=>l[i]?) hxs;simp only[fS,fI (show i<xs.length by omega),fI hi,Option.map_some,fT] at h7;rw[h4] at h7;have h8:c=l[i]:=by simpa [litI] using h7
    rw[h6,h8]
  refine⟨?_,fun i x hx=>?_⟩
  · have hv:=hv0;simp only[World.var?,hg0,Option.bind_some] at hv;split at hv
    · rename_i c e f' he
      cases hv
      exact⟨_,_,_,he,by rw[fZ,←hl,Array.length_toList]⟩
    · cases hv
  · have hi:i<l.length:=by
      have:=(fG.1 hx).1;rwa [fZ] at this
    rw[fS,fI hi] at hx
    cases hx
    refine⟨.int k l[i],?_,fun φ=>.int _ _⟩;rw[World.var?_cell hg0 hv0 i,←Array.getElem?_toList];exact key i hi
theorem vf_int {W : World} {g : Nat} {t : TypeId} {k : IntKind} (h : W.ShapedOpen Go.Proofs.Tryz.prog) (hg : g < Go.Proofs.Tryz.prog.globals.size)
    (h0:((Go.begin Go.Proofs.Tryz.prog (fun _ _=>0) default).world.heap[g]?).bind Obj.row? = some (#[.int k 0],t))
    (hb:Go.Proofs.Tryz.prog.buildable t=true) (hc:Go.Proofs.Tryz.prog.cellTypes Go.Proofs.Tryz.prog.depth t=some [t]) (hu:Go.Proofs.Tryz.prog.underlying t=some (.int k)) :
    ∃ m,VF W g [.int k m]:=by
  obtain⟨m,hm⟩:=Go.Proofs.cell_of_shapedOpen_int h hg h0 rfl hb hc hu;obtain⟨cs,hh,hs,_⟩:=h.1 g _ t hg h0;refine⟨m,⟨cs,_,_,hh,hs⟩,fun j x hx=>?_⟩;have hj:j=0:=by
    have:=(fG.1 hx).1;simpa using this
  subst hj
  cases hx
  exact⟨_,hm,fun φ=>.int _ _⟩
theorem vs_laid {W:World} (h:laidMetH Go.Proofs.Tryz.prog laidL W) (hs:W.ShapedOpen Go.Proofs.Tryz.prog):∃ φ hp,Imp W φ hp∧Vs hp:=by
 rw[MakeChecks.laidMetH_plain _ _ _ aF] at h;obtain⟨ps,⟨g0,t0,cs0,f0,p0,q0,hg0,ht0,hv0,hd0,⟨g1,t1,cs1,f1,p1,q1,hg1,ht1,hv1,hd1,⟨g2,t2,cs2,f2,p2,q2,hg2,ht2,hv2,hd2,⟨g3,t3,cs3,f3,p3,q3,hg3,ht3,hv3,hd3,⟨g4,t4,cs4,f4,p4,q4,hg4,ht4,hv4,hd4,⟨g5,t5,cs5,f5,p5,q5,hg5,ht5,hv5,hd5,_,_⟩,_⟩,_⟩,_⟩,_⟩,_⟩,_,_⟩:=h;obtain rfl:=fB ((show Go.Proofs.Tryz.prog.globalNamed "internal/strconv.uint64pow10" = some 4 by kernel_rfl).symm.trans hg2);obtain rfl:=fB ((show(Go.Proofs.Tryz.prog.globals[4]?).map (·.type)=some 269 by kernel_rfl).symm.trans ht2);obtain rfl:=fB ((show Go.Proofs.Tryz.prog.globalNamed "spadille/stamp.sizes" = some 0 by kernel_rfl).symm.trans hg4);obtain rfl:=fB ((show(Go.Proofs.Tryz.prog.globals[0]?).map (·.type)=some 230 by kernel_rfl).symm.trans ht4);have a0:=UI Go.Proofs.Tryz.underlying230 Go.Proofs.Tryz.underlying229 aF (show _=sizeL.length by kernel_rfl) rfl sizes_lits hg4 hv4 hd4;have a4:=UI Go.Proofs.Tryz.underlying269 Go.Proofs.Tryz.underlying238 aF (show _=powL.length by kernel_rfl) rfl pow_lits hg2 hv2 hd2;obtain⟨m,a3⟩:=vf_int (g:=3) (t:=3) (k:=.i64) hs (of_decide_eq_true aF) aF aF aF Go.Proofs.Tryz.underlying3;have e0:Ue=sizeL.map fun v=>AV.int .i8 v:=by rw[Ue,sizeL,List.map_map]; rfl
 rw[←e0] at a0;obtain⟨φ,hp,im,h0,h3,h4⟩:=Imp.vars a0 a3 a4;exact⟨φ,hp,im,h0,⟨m,h3⟩,h4⟩
end Go.Am
namespace Go.Am
def kB:Str:=[115,112,97,100,105,108,108,101]
def kEnd:Str:=[101,110,100,32]
def XP (i:Nat):Str:=Lib.itoa (i:Int) ++ [46,32]
def U9 (i:Nat) (l:Str):Str:=l.drop (XP i).length
def QA (ls : List Str) : Nat → List Str
  | 0=>ls
  | i+1=>(QA ls i).set (i+1) (U9 (i+1) (ls.getD (i+1) []))
def Yh (ls : List Str) : Nat → Bool
  | 0=>true
  | i+1=>Yh ls i && (XP (i+1)).isPrefixOf (ls.getD (i+1) [])
def O4 (f:Str):List Str:=OH 10 f.dropLast
def QP (ls:List Str):Str:=ls.getD (ls.length - 1) []
def endE (f:Str) (e:Str):Int:=
 if kEnd.isPrefixOf e=false∨KT (e.drop 4) 4=false∨9972<K6 (e.drop 4) then 9
 else if K6 (e.drop 4)≠Go.Proofs.Tryz.sumTo (f.take (f.length - e.length - 1)) then 17 else 0
def Q4 (f:Str):Int:=
 if 18000<f.length then 19 else if [10].isSuffixOf f=false then 18
 else if (O4 f).length<2∨(O4 f).getD 0 []≠kB then 9
 else if Yh (O4 f) ((O4 f).length - 2)=false then 9
 else endE f (QP (O4 f))
def K5 (f:Str):List Str:=((QA (O4 f) ((O4 f).length - 2)).drop 1).take ((O4 f).length - 2)
noncomputable def Q3 (bk : List Str) : List Str → Int × List Str
  | []=>(0,bk)
  | x::r=>if Kf bk x=0 then Q3 (bk ++ [x]) r else (Kf bk x,bk)
theorem JY:∀ (l m bk:List Str),(Q3 bk l).1=0→Q3 bk (l ++ m)=Q3 (bk ++ l) m:=by
 intro l
 induction l with
 | nil=>intro m bk _; simp
 | cons x r ih=>
  intro m bk h;rw[fX];unfold Q3 at h;by_cases hx:Kf bk x=0
  ·rw[if_pos hx] at h;rw[Q3,if_pos hx,ih m _ h]; simp
  ·rw[if_neg hx] at h; exact absurd h hx
theorem Done.all {lines:List Str} (hD:Done lines):Q3 [] lines=(0,lines):=by
 induction hD with
 | nil=>rfl
 | @snoc lines line hD he ih=>
  rw[JY _ _ _ (by rw[ih]),fC,Q3,if_pos he]; rfl
theorem doAll_done:∀ (l bk:List Str),Done bk→(Q3 bk l).1=0→Done (bk ++ l):=by
 intro l
 induction l with
 | nil=>intro bk hD _; simpa using hD
 | cons x r ih=>
  intro bk hD h;unfold Q3 at h;by_cases hx:Kf bk x=0
  ·rw[if_pos hx] at h;have:=ih _ (Done.snoc hD hx) h;simpa using this
  ·rw[if_neg hx] at h; exact absurd h hx
def Y4 (l:List Str):Str:=l.flatMap (· ++ [10])
theorem WD (c:UInt8):∀ (a b:Str),c ∉ a→OH c (a ++ c::b)=a::OH c b:=by
 intro a
 induction a with
 | nil=>intro b _; simp[OH]
 | cons x a ih=>
  intro b h;simp only[List.mem_cons,not_or] at h;simp only[fX,OH,if_neg (fun e=>h.1 (Eq.symm e)),ih b h.2]
theorem Sl (e:Str) (he:(10:UInt8) ∉ e):∀ l:List Str,(∀ a∈l,(10:UInt8) ∉ a)→OH 10 (Y4 l ++ e)=l ++ [e]:=by
 intro l
 induction l with
 | nil=>intro _; rw[Y4,List.flatMap_nil,fC,Ug _ _ he]; rfl
 | cons a l ih=>
  intro h;have h1:Y4 (a::l) ++ e=a ++ 10::(Y4 l ++ e):=by simp[Y4]
  rw[h1,WD _ _ _ (h a List.mem_cons_self),ih (fun b hb=>h b (List.mem_cons_of_mem _ hb))]; rfl
def dgs (w:Str):Prop:=∀ c∈w,48≤c.toNat∧c.toNat≤57
theorem dig_n {d:Nat} (h:d<10):(UInt8.ofNat (48+d)).toNat=48+d:=by rw[UInt8.toNat_ofNat',Nat.mod_eq_of_lt aB]
theorem dec_val:∀ (k u:Nat),u<k→K6 (fU u)=u∧dgs (fU u)∧(1≤u→(fU u).head?≠some 48)∧fU u≠[]:=by
 intro k
 induction k with
 | zero=>intro u h; omega
 | succ k ih=>
  intro u h;by_cases h10:u<10
  ·rw[Lib.decDigits_one h10];have:=dig_n h10;refine⟨?_,?_,?_,by simp⟩
   ·simp only[K6,List.foldl]; rw[this]; omega
   ·intro c hc;rw[fP] at hc;subst hc; omega
   ·intro h1 he;simp only[List.head?_cons,fT] at he;rw[he] at this;have:(48:Nat)=48+u:=this;omega
  ·obtain⟨h1,h2,h3,h4⟩:=ih (u / 10) aB;have hd:=dig_n (show u % 10<10 by omega);rw[fU,dif_neg h10];refine⟨?_,?_,?_,by simp⟩
   ·rw[RF,h1,hd]; omega
   ·intro c hc;rcases List.mem_append.1 hc with hc|hc
    ·exact h2 c hc
    ·rw[fP] at hc;subst hc; omega
   ·intro _;rw[List.head?_append]
    cases hx:fU (u / 10) with
    | nil=>exact absurd hx h4
    | cons a l=>
     have:=h3 aB;rw[hx] at this;simpa using this
theorem isNum_iff {w:Str} {k:Nat}:KT w k=true↔w≠[]∧w.length≤k∧(w.length=1∨w.head?≠some 48)∧dgs w:=by
 unfold KT dgs;simp only[Bool.and_eq_true,Bool.or_eq_true,decide_eq_true_eq,Bool.not_eq_true',decide_eq_false_iff_not,fH,and_assoc]
theorem YN (ls:List Str):∀ i:Nat,(QA ls i).length=ls.length:=by
 intro i
 induction i with
 | zero=>rfl
 | succ i ih=>rw[QA,List.length_set,ih]
theorem Jm (ls:List Str):∀ i j:Nat,i<j→(QA ls i).getD j []=ls.getD j []:=by
 intro i
 induction i with
 | zero=>intro j _; rfl
 | succ i ih=>
  intro j h;rw[QA,fA,fL aB,←fA,ih j aB]
theorem cutTo_le (ls:List Str):∀ i j:Nat,0<j→j≤i→j<ls.length→(QA ls i).getD j []=U9 j (ls.getD j []):=by
 intro i
 induction i with
 | zero=>intro j h1 h2; omega
 | succ i ih=>
  intro j h1 h2 h3;rw[QA,fA];by_cases he:i+1=j
  ·subst he;rw[List.getElem?_set_self (by rw[YN]; exact h3),Option.getD_some]
  ·rw[fL he,←fA,ih j h1 aB h3]
theorem good_at {ls:List Str}:∀ {k:Nat},Yh ls k=true→∀ j,j<k→(XP (j+1)).isPrefixOf (ls.getD (j+1) [])=true:=by
 intro k
 induction k with
 | zero=>intro _ j h; omega
 | succ k ih=>
  intro h j hj;rw[Yh,Bool.and_eq_true] at h;by_cases he:j=k
  ·subst he; exact h.2
  ·exact ih h.1 j aB
theorem Rt (f:Str):(K5 f).length=(O4 f).length - 2:=by
 rw[K5,fV,fJ,YN]; omega
theorem Rs (f:Str) {j:Nat} (h:j<(O4 f).length - 2):(K5 f).getD j []=U9 (j+1) ((O4 f).getD (j+1) []):=by
 rw[K5,fA,fM,if_pos h,fN,←fA,Nat.add_comm 1 j,cutTo_le _ _ _ aB aB aB]
end Go.Am
namespace Go.Am
theorem pre_take (a p:Str):decide (a.take p.length=p)=p.isPrefixOf a:=by
 rw[Bool.eq_iff_iff,decide_eq_true_iff,fY,List.prefix_iff_eq_take];exact⟨Eq.symm,Eq.symm⟩
theorem pre_long {a p:Str} (h:a.length<p.length):p.isPrefixOf a=false:=by
 rw[←Bool.not_eq_true,fY];intro hp;have:=hp.length_le;omega
theorem suf_drop {a p:Str} (h:p.length≤a.length):decide (a.drop (a.length - p.length)=p)=p.isSuffixOf a:=by
 rw[Bool.eq_iff_iff,decide_eq_true_iff,fO,List.suffix_iff_eq_drop];exact⟨Eq.symm,Eq.symm⟩
theorem suf_long {a p:Str} (h:a.length<p.length):p.isSuffixOf a=false:=by
 rw[←Bool.not_eq_true,fO];intro hp;have:=hp.length_le;omega
theorem Tw {h:AHeap} {a p:Str} (ha:a.length≤1000000) (hp:p.length≤1000000):ACalls Go.Proofs.Tryz.prog 169 [.str (wd a),.str (wd p)] h (fun q h'=>q = .bool (p.isPrefixOf a)∧h=h'):=by
 refine OR 18 [.tmp 4] Go.Proofs.Tryz.func169 rfl aD rfl rfl (fE rfl) ?_;show KA _ 18 _ _ [(0,.str (wd a)),(1,.str (wd p))] _;refine cD ?_;refine Ox (dj:=10) rfl rfl true false rfl ?_ ?_
 ·intro g10;have g10:=of_decide_eq_true g10;refine Oc ?_;refine KOps.wHi (j:=_) rfl aA ?_;refine bu ?_;exact⟨congrArg AV.bool (pre_take a p),rfl⟩
 ·intro g10;have g10:=of_decide_eq_false g10;refine bu ?_;exact⟨congrArg AV.bool (pre_long aB).symm,rfl⟩
theorem Tf {h:AHeap} {a p:Str} (ha:a.length≤1000000) (hp:p.length≤1000000):ACalls Go.Proofs.Tryz.prog 131 [.str (wd a),.str (wd p)] h (fun q h'=>q = .tup [.str (wd (if p.isPrefixOf a then a.drop p.length else a)),.bool (p.isPrefixOf a)]∧h=h'):=by
  refine OR 15 [.tmp 4,.tmp 5] Go.Proofs.Tryz.func131 rfl aD rfl rfl (fE rfl) ?_;show KA _ 15 _ _ [(0,.str (wd a)),(1,.str (wd p))] _;refine cD ?_;refine Oj rfl (Tw ha hp) ?_;rintro _ _ ⟨rfl,rfl⟩;refine Oa [0,1,9] ?_;refine Kr ?_ ?_
  · intro c9;have c9:p.isPrefixOf a=false:=by simpa using c9
    refine cP ?_;exact⟨by rw[c9]; rfl,rfl⟩
  · intro c9;have c9:p.isPrefixOf a=true:=by simpa using c9
    have hle:p.length≤a.length:=(fY.1 c9).length_le;refine Ot [0,1] ?_;refine Oc ?_;refine KOps.wLo (j:=_) rfl aA ?_;refine cP ?_;exact⟨by rw[c9]; rfl,rfl⟩
theorem UA {h:AHeap} {a p:Str} (ha:a.length≤1000000) (hp:p.length≤1000000):ACalls Go.Proofs.Tryz.prog 94 [.str (wd a),.str (wd p)] h (fun q h'=>q = .tup [.str (wd (if p.isPrefixOf a then a.drop p.length else a)),.bool (p.isPrefixOf a)]∧h=h'):=by
  refine OR 11 [.tmp 4,.tmp 5] Go.Proofs.Tryz.func94 rfl aD rfl rfl (fE rfl) ?_;show KA _ 11 _ _ [(0,.str (wd a)),(1,.str (wd p))] _;refine cD ?_;refine Oj rfl (Tf ha hp) ?_;rintro _ _ ⟨rfl,rfl⟩;refine cP ?_;exact⟨rfl,rfl⟩
theorem JZ {h:AHeap} {a p:Str} (ha:a.length≤1000000) (hp:p.length≤1000000):ACalls Go.Proofs.Tryz.prog 129 [.str (wd a),.str (wd p)] h (fun q h'=>q = .bool (p.isSuffixOf a)∧h=h'):=by
 refine OR 21 [.tmp 4] Go.Proofs.Tryz.func129 rfl aD rfl rfl (fE rfl) ?_;show KA _ 21 _ _ [(0,.str (wd a)),(1,.str (wd p))] _;refine cD ?_;refine Ox (dj:=10) rfl rfl true false rfl ?_ ?_
 ·intro g10;have g10:=of_decide_eq_true g10;refine Oc ?_;refine KOps.wLo (j:=a.length - p.length) aB aB ?_;refine bu ?_;exact⟨congrArg AV.bool (suf_drop aB),rfl⟩
 ·intro g10;have g10:=of_decide_eq_false g10;refine bu ?_;exact⟨congrArg AV.bool (suf_long aB).symm,rfl⟩
theorem Sb {h:AHeap} {a p:Str} (ha:a.length≤1000000) (hp:p.length≤1000000):ACalls Go.Proofs.Tryz.prog 92 [.str (wd a),.str (wd p)] h (fun q h'=>q = .bool (p.isSuffixOf a)∧h=h'):=by
 refine OR 8 [.tmp 4] Go.Proofs.Tryz.func92 rfl aD rfl rfl (fE rfl) ?_;show KA _ 8 _ _ [(0,.str (wd a)),(1,.str (wd p))] _;refine cD ?_;refine Oj rfl (JZ ha hp) ?_;rintro _ _ ⟨rfl,rfl⟩;refine bu ?_;exact⟨rfl,rfl⟩
theorem RZ {h:AHeap} {a p:Str} (ha:a.length≤1000000) (hp:p.length≤1000000):ACalls Go.Proofs.Tryz.prog 130 [.str (wd a),.str (wd p)] h (fun q h'=>q = .str (wd (if p.isSuffixOf a then a.take (a.length - p.length) else a))∧h=h'):=by
  refine OR 16 [.tmp 4] Go.Proofs.Tryz.func130 rfl aD rfl rfl (fE rfl) ?_;show KA _ 16 _ _ [(0,.str (wd a)),(1,.str (wd p))] _;refine cD ?_;refine Oj rfl (JZ ha hp) ?_;rintro _ _ ⟨rfl,rfl⟩;refine Ol [0,1,7] ?_;refine Kr ?_ ?_
  · intro c7;have hle:p.length≤a.length:=(fO.1 c7).length_le;refine Oc ?_;refine KOps.wHi (j:=a.length - p.length) aB aB ?_;refine bu ?_;exact⟨by rw[c7]; rfl,rfl⟩
  · intro c7;refine Ot [0] ?_;refine bu ?_;exact⟨by rw[c7]; rfl,rfl⟩
theorem T1 {h:AHeap} {a p:Str} (ha:a.length≤1000000) (hp:p.length≤1000000):ACalls Go.Proofs.Tryz.prog 93 [.str (wd a),.str (wd p)] h (fun q h'=>q = .str (wd (if p.isSuffixOf a then a.take (a.length - p.length) else a))∧h=h'):=by
  refine OR 8 [.tmp 4] Go.Proofs.Tryz.func93 rfl aD rfl rfl (fE rfl) ?_;show KA _ 8 _ _ [(0,.str (wd a)),(1,.str (wd p))] _;refine cD ?_;refine Oj rfl (RZ ha hp) ?_;rintro _ _ ⟨rfl,rfl⟩;refine bu ?_;exact⟨rfl,rfl⟩
theorem summed_c {h:AHeap} {l:Str} (hl:l.length≤1000000):ACalls Go.Proofs.Tryz.prog 74 [.str (wd l)] h (fun q h'=>q = .int .i64 (Go.Proofs.Tryz.sumTo l)∧h=h'):=by
  refine⟨_,_,Ev.of_below ⟨_,Go.Proofs.Tryz.func74,by decide,rfl⟩ ?_,rfl,rfl⟩;intro φ w cs _ ha;obtain⟨a,rfl⟩:∃ a,cs = [a]:=by
    match cs,ha.1 with
    | [a],_=>exact⟨a,rfl⟩
  have h1:=ha.2 0 _ _ rfl rfl
  cases h1
  refine(Go.Proofs.Tryz.summed_walk l hl w).mono ?_;rintro e w' ⟨rfl,bel⟩;exact⟨_,rfl,.int _ _,bel⟩
noncomputable def K7 (f:Str):Int:=if Q4 f=0 then (Q3 [] (K5 f)).1 else Q4 f
theorem Z8 {h h':AHeap} {f:Str} {e:Int} (k:Keeps h h') (E:Q4 f=e) (he:e≠0):(K7 f≠0∧AV.tup [.nilp,.int .i64 e] = .tup [.nilp,.int .i64 (K7 f)]∧Keeps h h')∨(K7 f=0∧∃ b,AV.tup [.nilp,.int .i64 e] = .tup [b,.int .i64 0]∧Bk h h' b (K5 f) []):=by
 have:K7 f=e:=by rw[K7,E,if_neg he]
 rw[this];exact .inl ⟨he,rfl,k⟩
theorem Uo {f:Str} (h1:¬ 18000<f.length) (h2 : [10].isSuffixOf f=true) (h3:(O4 f).length<2∨(O4 f).getD 0 []≠kB):Q4 f=9:=by
 rw[Q4,if_neg h1,if_neg (by simp only[h2]; decide),if_pos h3]
theorem WQ {f:Str} (h1:¬ 18000<f.length) (h2 : [10].isSuffixOf f=true) {i:Nat} (h3:i+2<(O4 f).length) (h4:(XP (i+1)).isPrefixOf ((O4 f).getD (i+1) [])=false):Q4 f=9:=by
 rw[Q4,if_neg h1,if_neg (by simp only[h2]; decide)];split
 ·rfl
 ·rw[if_pos];rw[←Bool.not_eq_true];intro hg;have:=good_at hg i aB;rw[h4] at this
  cases this
theorem fE_end {f:Str} (h1:¬ 18000<f.length) (h2 : [10].isSuffixOf f=true) (h3 : 2≤(O4 f).length) (h5:(O4 f).getD 0 []=kB) (h4:Yh (O4 f) ((O4 f).length - 2)=true):Q4 f=endE f (QP (O4 f)):=by
 rw[Q4,if_neg h1,if_neg (by simp only[h2]; decide),if_neg,if_neg (by simp only[h4]; decide)];rintro(h|h)
 ·omega
 ·exact h h5
theorem trimNl_c {h:AHeap} {f:Str} (hf:f.length≤1000000) (hsf : [10].isSuffixOf f=true):ACalls Go.Proofs.Tryz.prog 93 [.str (wd f),.str (wd [10])] h (fun q h'=>q = .str (wd f.dropLast)∧h=h'):=by
 have:=T1 (h:=h) (a:=f) (p:=[10]) hf aD;rw[if_pos hsf] at this;rw[List.dropLast_eq_take];exact this
theorem Jo {f e:Str} (h1:kEnd.isPrefixOf e=true) (h2:KT (e.drop 4) 4=true) (h3:¬ 9972<K6 (e.drop 4)):endE f e=if K6 (e.drop 4)≠Go.Proofs.Tryz.sumTo (f.take (f.length - e.length - 1)) then 17 else 0:=by
  rw[endE,if_neg];rintro(h|h|h)
  · rw[h1] at h; cases h
  · rw[h2] at h; cases h
  · exact h3 h
theorem Ru (f:Str):(O4 f).length≤f.length+1:=by
 have:=JG 10 f.dropLast;rw[fD] at this;unfold O4; omega
theorem X4 {f w:Str} (hw:w∈O4 f):w.length≤f.length - 1:=by
 have:=Vx 10 f.dropLast w hw;rwa [fD] at this
theorem We {l:List Str} {i:Nat} (h0:(Q3 [] (l.take i)).1=0) (hi:i<l.length) (ha:Kf (l.take i) (l.getD i [])=0):(Q3 [] (l.take (i+1))).1=0∧doL (l.take i) (l.getD i [])=l.take (i+1):=by
 have e:l.take i ++ [l.getD i []]=l.take (i+1):=ZI hi;refine⟨?_,by rw[doL,if_pos ha,e]⟩;rw[←e,JY _ _ _ h0,fC,Q3,if_pos ha,Q3]
theorem Wf {l:List Str} {i:Nat} (h0:(Q3 [] (l.take i)).1=0) (hi:i<l.length) (ha:Kf (l.take i) (l.getD i [])≠0):(Q3 [] l).1=Kf (l.take i) (l.getD i []):=by
 have e:l=l.take i ++ (l.getD i []::l.drop (i+1)):=by
  have h2:l.getD i []::l.drop (i+1)=l.drop i:=by
   rw[fA,fI hi,Option.getD_some,List.getElem_cons_drop]
  rw[h2,fK]
 have h3:Q3 [] l=Q3 [] (l.take i ++ (l.getD i []::l.drop (i+1))):=congrArg _ e;rw[h3,JY _ _ _ h0,fC,Q3,if_neg ha]
theorem readF_c {h:AHeap} {f:Str} (hf:f.length≤1000000) (hV:Vs h):ACalls Go.Proofs.Tryz.prog 48 [.str (wd f)] h (fun q h'=>(K7 f≠0∧q = .tup [.nilp,.int .i64 (K7 f)]∧Keeps h h')∨(K7 f=0∧∃ b,q = .tup [b,.int .i64 0]∧Bk h h' b (K5 f) [])):=by
  refine OR 117 [.tmp 2,.tmp 3] Go.Proofs.Tryz.func48 rfl aD rfl rfl (fE rfl) ?_;have hS:=St.refl h;show KA _ 117 _ _ [(0,.str (wd f))] _;refine On ?_;refine Oo ?_;refine Oo ?_;refine Ol [0] ?_;refine dJ ?_;refine Oh ?_;refine KX ?_;refine QR ?_;refine Oo ?_;refine Ol [0,17] ?_;refine Ok ?_ ?_
  · intro c17;have c17 : 18000<f.length:=by omega
    refine dq ?_;exact Z8 hS.keeps (by rw[Q4,if_pos c17]) aD
  · intro c17;have c17:¬ 18000<f.length:=by omega
    refine dc ?_;refine Oj rfl (Sb (p:=[10]) hf aD) ?_;rintro _ _ ⟨rfl,rfl⟩;refine Zm ?_;refine Oo ?_;refine Ol [0,21] ?_;refine Kr ?_ ?_
    · intro c21;have c21 : [10].isSuffixOf f=false:=by simpa using c21
      refine dq ?_;exact Z8 hS.keeps (by rw[Q4,if_neg c17,if_pos c21]) aD
    · intro c21;have hsf : [10].isSuffixOf f=true:=by simpa using c21
      have hnL:=Ru f;refine bx ?_;refine Ow [0] ?_;refine dc ?_;refine Oj rfl (trimNl_c hf hsf) ?_;rintro _ _ ⟨rfl,rfl⟩;refine Oj rfl (split_c (c:=10) hV.mx (by rw[fD]; omega)) ?_;rintro v27 h27 ⟨hs27,hS27⟩;replace hS:St _ _ [⟨v27,1,wcs (O4 f),true⟩]:=St.trans hS hS27;refine Oo ?_;refine Ol [0,4] ?_;refine dc ?_;refine eG ?_;refine QZ aC aC ?_;refine Oo ?_;refine Ol [0,4,5] ?_;refine b3 ?_;refine Oh ?_;refine Qo ?_;refine Oh ?_;refine Ox (dj:=33) rfl rfl false true rfl ?_ ?_
      · intro g33;have g33:=of_decide_eq_false g33;refine Oh ?_;refine Og (dj:=33) rfl rfl ?_;refine Oq (hS.rd 0 rfl) (j:=0) rfl aA ?_;intro p35 hp35;refine Og (dj:=33) rfl rfl ?_;refine OS hp35 (hS.rd 0 rfl) aA ?_;refine Og (dj:=33) rfl rfl ?_;refine KOps.wNeq ?_;refine OY ?_;refine Ol [0,4,5,38] ?_;refine O1 ?_ ?_
        · intro c38;refine dI ?_;exact Z8 hS.keeps (Uo c17 hsf (.inr c38)) aD
        · intro c38;have hk0:(O4 f).getD 0 []=kB:=c38;refine Ot [0,4,5] ?_;refine b3 ?_;refine Oo ?_;refine cM ?_;refine Oz ?_;refine O7 (X:=Nat) (fun i=>[(0,.str (wd f)),(4,v27),(5,.int .i64 ((O4 f).length - 1:Int)),(6,.int .i64 ((i:Int)+1))]) (fun i h'=>i+2≤(O4 f).length∧Yh (O4 f) i=true∧St h h' [⟨v27,1,wcs (QA (O4 f) i),true⟩]) (fun i=>(O4 f).length - i) 0 ?_ ?_
          · exact⟨by omega,rfl,hS⟩
          rintro i h10 ⟨hi,hg,hS⟩;refine b3 ?_;refine cY ?_;refine Qo ?_;refine Ol [0,4,5,6,41] ?_;refine Ok ?_ ?_
          · intro c41;have hge:=Jm (O4 f) i (i+1) aB;have hlen2:=YN (O4 f) i;have hlj:((QA (O4 f) i).getD (i+1) []).length≤1000000:=by
              rw[hge];have:=X4 (f:=f) (w:=(O4 f).getD (i+1) []) (getD_mem aB);omega
            have hnl:(XP (i+1)).length≤1000000:=by
              have:=fQ ((i+1:Nat):Int) aB aB;rw[XP,fR];show _+2≤_;omega
            have hnP:Lib.itoa ((i:Int)+1) ++ [46,32]=XP (i+1):=rfl;have hil:=fQ ((i:Int)+1) aB aB;refine Ot [0,4,5,6] ?_;refine b6 ?_;refine Ou ?_;refine OZ [5,7] mixed rfl aF ?_;refine cY ?_;refine eD ?_;intro p47 hp47;refine OS hp47 (hS.rd 0 rfl) aA ?_;refine Oh ?_;refine Kg aX (Wn (hV.ext hS.keeps).pw aB aB) ?_;rintro _ _ ⟨rfl,rfl⟩;refine ZC aA ?_;rw[hnP];refine Kg aX (UA (p:=XP (i+1)) hlj hnl) ?_;rintro _ _ ⟨rfl,rfl⟩;refine cZ ?_;refine Ol [0,4,5,6,7,8] ?_;refine b3 ?_;refine Oh ?_;refine Zm ?_;refine Ol [0,4,5,6,7,56] ?_;refine Kr ?_ ?_
            · intro c56;have c56:(XP (i+1)).isPrefixOf ((QA (O4 f) i).getD (i+1) [])=false:=by simpa using c56
              rw[hge] at c56;refine bw ?_;refine Kk ?_;refine cK ?_;refine K4 ?_;exact Z8 hS.keeps (WQ c17 hsf aB c56) aD
            · intro c56;have c56:(XP (i+1)).isPrefixOf ((QA (O4 f) i).getD (i+1) [])=true:=by simpa using c56
              refine Ot [0,4,5,6,7] ?_;refine Kl rfl ?_;refine cY ?_;refine Oh ?_;refine eD ?_;intro p60 hp60;refine KOps.storeW hS rfl (i:=0) rfl hp60 aA ?_;intro h' hS;refine cE ?_;refine Ow [0,4,5,6] ?_;refine Kl rfl ?_;refine Oh ?_;refine ce ?_;refine lpN (i+1) ⟨by omega,?_,?_⟩ aB
              · rw[Yh,hg,←hge,c56]; rfl
              · have e:(QA (O4 f) i).set (i+1) (if (XP (i+1)).isPrefixOf ((QA (O4 f) i).getD (i+1) [])=true then ((QA (O4 f) i).getD (i+1) []).drop (XP (i+1)).length else (QA (O4 f) i).getD (i+1) [])=QA (O4 f) (i+1):=by
                  rw[if_pos c56,hge]; rfl
                rw[←e];exact hS
          · intro c41;have hie:i=(O4 f).length - 2:=by omega
            have hE:Q4 f=endE f (QP (O4 f)):=fE_end c17 hsf aB hk0 (hie ▸ hg);subst hie;have hlen2:=YN (O4 f) ((O4 f).length - 2);have hlast:(QA (O4 f) ((O4 f).length - 2)).getD ((O4 f).length - 1) []=QP (O4 f):=Jm _ _ _ aB;have hem:(QP (O4 f)).length≤f.length - 1:=X4 (getD_mem aB);have hf0 : 0<f.length:=by
              rw[fO] at hsf;exact hsf.length_le
            have hll:(QP (O4 f)).length≤1000000:=by omega
            have hel:(if kEnd.isPrefixOf (QP (O4 f)) then (QP (O4 f)).drop kEnd.length else QP (O4 f)).length≤1000000:=by
              split
              · rw[fJ]; omega
              · exact hll
            refine bj ?_;refine Ow [0,4,5] ?_;refine On ?_;refine cY ?_;refine Oq (hS.rd 0 rfl) (j:=(O4 f).length - 1) aC aA ?_;intro p64 hp64;refine OS hp64 (hS.rd 0 rfl) aA ?_;rw[hlast];refine Oj rfl (UA (p:=kEnd) hll aD) ?_;rintro _ _ ⟨rfl,rfl⟩;refine cZ ?_;refine Ol [0,4,5,9,10] ?_;refine dc ?_;refine Oj rfl (TJ (m:=4) aD hel) ?_;rintro _ hx ⟨rfl,hK⟩;replace hS:St _ _ _:=St.trans hS (St.ofK hK);simp only[fC] at hS;refine cZ ?_;refine Ol [0,4,5,10,11,12] ?_;refine dJ ?_;refine Oh ?_;refine Zm ?_;refine Oh ?_;refine Ox (dj:=77) rfl rfl false true rfl ?_ ?_
            · intro g77;refine Oh ?_;refine Og (dj:=77) rfl rfl ?_;refine Zm ?_;refine OY ?_;refine Oh ?_;refine Ox (dj:=81) rfl rfl false true rfl ?_ ?_
              · intro g81;refine Oh ?_;refine Og (dj:=81) rfl rfl ?_;refine QR ?_;refine OY ?_;refine Oo ?_;refine Ol [0,4,5,11,74] ?_;refine Ok ?_ ?_
                · intro c74;have hpe:kEnd.isPrefixOf (QP (O4 f))=true:=by simpa using g77
                  rw[if_pos hpe] at g81 c74;have hnu:KT ((QP (O4 f)).drop kEnd.length) 4=true:=by simpa using g81
                  rw[if_pos hnu] at c74;refine dq ?_;exact Z8 hS.keeps (hE.trans (if_pos (.inr (.inr c74)))) aD
                · intro c74;have hpe:kEnd.isPrefixOf (QP (O4 f))=true:=by simpa using g77
                  rw[if_pos hpe] at g81 c74;have hnu:KT ((QP (O4 f)).drop kEnd.length) 4=true:=by simpa using g81
                  rw[if_pos hnu] at c74;refine On ?_;refine cY ?_;refine Oh ?_;refine KX ?_;refine cY ?_;refine Oq (hS.rd 0 rfl) (j:=(O4 f).length - 1) aC aA ?_;intro p92 hp92;refine OS hp92 (hS.rd 0 rfl) aA ?_;rw[hlast];refine KX ?_;refine QZ aC aC ?_;refine QZ aC aC ?_;refine KOps.wHi (j:=f.length - (QP (O4 f)).length - 1) aB aB ?_;refine Oj rfl (summed_c bD) ?_;rintro _ _ ⟨rfl,rfl⟩;refine Zl ?_;refine Oo ?_;refine Ol [4,5,85] ?_;refine O1 ?_ ?_
                  · intro c85;rw[if_pos hpe,if_pos hnu] at c85;refine dq ?_;exact Z8 hS.keeps (hE.trans ((Jo hpe hnu c74).trans (if_pos c85))) aD
                  · intro c85;rw[if_pos hpe,if_pos hnu] at c85;have hE0:Q4 f=0:=hE.trans ((Jo hpe hnu c74).trans (if_neg (fun h=>h c85)));refine bx ?_;refine Ow [4,5] ?_;refine On ?_;refine Oj rfl (new_c) ?_;rintro b h22 hB;obtain⟨vl0,A0,hb0,hSB⟩:=hB;refine Oo ?_;refine Ol [4,5,13] ?_;refine b3 ?_;refine cY ?_;refine KOps.sliceBoth ((hS.rd 0 rfl).ext hSB.keeps) (m:=(O4 f).length) (by rw[W9,hlen2]) aB aB aB ?_;intro v103 hv103;have hp103:WRow hx v103 (K5 f):=by
                      have hq:=Rd.part (hS.rd 0 rfl) hv103 aB;have e:wcs (K5 f)=List.take (((((O4 f).length:Int) - 1).toNat - (1:Int).toNat)*1) (List.drop ((1:Int).toNat*1) (wcs (QA (O4 f) ((O4 f).length - 2)))):=by
                        unfold K5 wcs;rw[List.map_take,List.map_drop];congr 1;omega
                      unfold WRow;rw[e]; exact hq
                    have hp103b:=hp103.ext hSB.keeps;have hbl:=Rt f;refine Ka hp103b ?_;refine Oh ?_;refine Ol [13,103,104,105] ?_;refine Oz ?_;refine O7 (X:=Nat × AV) (fun x=>[(13,x.2),(103,v103),(104,.int .i64 ((K5 f).length:Int)),(105,.int .i64 (x.1:Int))]) (fun x h'=>x.1≤(K5 f).length∧(Q3 [] ((K5 f).take x.1)).1=0∧Bk hx h' x.2 ((K5 f).take x.1) []) (fun x=>(K5 f).length - x.1) (0,b) ?_ ?_
                    · exact⟨Nat.zero_le _,rfl,vl0,A0,hb0,hSB⟩
                    rintro⟨i,b2⟩ h24 ⟨hi,hd,hB⟩;dsimp only at hi hd hB⊢;obtain⟨vl,A,hb,hS5⟩:=hB;have hvk:=hp103.ext hS5.keeps;refine On ?_;refine Qo ?_;refine cM ?_;refine Ou ?_;refine Ok ?_ ?_
                    · intro c106;have hlt:i<(K5 f).length:=by omega
                      have hxl:((K5 f).getD i []).length≤1000000:=by
                        rw[Rs f aB,U9,fJ];have:=X4 (f:=f) (w:=(O4 f).getD (i+1) []) (getD_mem aB);omega
                      refine Ot [13,103,104,105] ?_;refine dJ ?_;refine Oq hvk (j:=i) rfl aA ?_;intro p107 hp107;refine OS hp107 hvk aA ?_;refine Oo ?_;refine Ol [13,15,103,104,105] ?_;refine On ?_;refine cY ?_;refine Oj rfl (XZ hb hS5 ((hV.ext hS.keeps).ext hS5.keeps) hxl) ?_;rintro _ h26 ⟨rfl,hB⟩;refine Oo ?_;refine Ol [13,16,103,104,105] ?_;refine dc ?_;refine Zl ?_;refine Ol [13,16,103,104,105,113] ?_;refine O1 ?_ ?_
                      · intro c113;refine d9 ?_;refine cK ?_;refine K4 ?_;have hr:K7 f=Kf ((K5 f).take i) ((K5 f).getD i []):=by rw[K7,if_pos hE0]; exact Wf hd hlt c113
                        obtain⟨_,_,_,hS6⟩:=hB;exact .inl ⟨by rw[hr]; exact c113,by rw[hr],hS.keeps.trans hS6.keeps⟩
                      · intro c113;refine bx ?_;refine Ow [13,103,104,105] ?_;refine Kl rfl ?_;refine KP aC aC ?_;refine Oh ?_;refine Of ?_;obtain⟨e1,e2⟩:=We hd hlt c113;rw[e2] at hB;exact lpN (i+1,b2) ⟨by dsimp only; omega,e1,hB⟩ aK
                    · intro c106;refine bj ?_;refine Ow [13] ?_;refine d9 ?_;refine K4 ?_;have hie:i=(K5 f).length:=by omega
                      subst hie;rw[fW] at hb hS5 hd;exact .inr ⟨by rw[K7,if_pos hE0]; exact hd,b2,rfl,vl,A,hb,St.drop (St.perm List.perm_append_comm (St.trans hS hS5))⟩
              · intro g81;refine OX (dj:=81) rfl rfl rfl ?_;refine Kq ?_;refine Oo ?_;refine Ol [0,4,5,11,74] ?_;refine Km ?_;refine dq ?_;exact Z8 hS.keeps (hE.trans (if_pos (.inr (.inl (by rw[if_pos (show kEnd.isPrefixOf (QP (O4 f))=true by simpa using g77)] at g81; exact(by simpa using g81:KT ((QP (O4 f)).drop kEnd.length) 4=false)))))) aD
            · intro g77;refine OX (dj:=77) rfl rfl rfl ?_;refine Kq ?_;refine Oh ?_;refine OX (dj:=81) rfl rfl rfl ?_;refine OX (dj:=81) rfl rfl rfl ?_;refine Kq ?_;refine Oo ?_;refine Ol [0,4,5,11,74] ?_;refine Km ?_;refine dq ?_;exact Z8 hS.keeps (hE.trans (if_pos (.inl (by simpa using g77)))) aD
      · intro g33;have g33:=of_decide_eq_true g33;refine OX (dj:=33) rfl rfl rfl ?_;refine OX (dj:=33) rfl rfl rfl ?_;refine OX (dj:=33) rfl rfl rfl ?_;refine Kq ?_;refine Ol [0,4,5,38] ?_;refine Km ?_;refine dI ?_;exact Z8 hS.keeps (Uo c17 hsf (.inl aB)) aD
end Go.Am
namespace Go.Am
theorem k1:Q4 [115,112,97,100,105,108,108,101,10,101,110,100,32,56,56,52,10]=17:=by decide +kernel
theorem k2:Q4 [115,112,97,100,105,108,108,101,10,101,110,100,32,48,56,56,51,10]=9:=by decide +kernel
theorem k3:Q4 [115,112,97,100,105,108,108,101,10,101,110,100,32,56,56,51,10]=0:=by decide +kernel
theorem k4:K5 [115,112,97,100,105,108,108,101,10,101,110,100,32,56,56,51,10] = []:=by decide +kernel
theorem k5:K7 [115,112,97,100,105,108,108,101,10,101,110,100,32,56,56,51,10]=0:=by rw[K7,if_pos k3,k4]; rfl
theorem k6:(after bLines).whyL sIn 7 = [sTax]∧(after bLines).whyE sIn 7=0:=Ra (a:=5) (b:=6) aS
theorem q0:Kf bLines [114,111,111,109,32,84,97,120]=10:=QN aS
theorem q1:Kf bLines [114,111,111,109]=5:=QN aS
theorem q2:Kf bLines [102,108,121,32,120]=8:=QN aS
theorem q3:Kf bLines [112,97,99,107,32,48,32,105,110]=1:=QN aS
theorem q4:Kf bLines [108,101,97,115,116,32,105,110,32,49,48,48]=1:=QN aS
theorem q5:Kf bLines [112,97,99,107,32,48,55,32,105,110]=9:=QN aS
end Go.Am
namespace Go.Am
theorem Done.take {l:List Str} (hD:Done l) (i:Nat):Done (l.take i):=by
 induction hD with
 | nil=>rw[List.take_nil]; exact .nil
 | @snoc lines line h he ih=>
  by_cases hi:i≤lines.length
  ·rw[fF hi]; exact ih
  ·rw[List.take_of_length_le bH]; exact .snoc h he
theorem Done.one {l:List Str} (hD:Done l):∀ i,i<l.length→Kf (l.take i) (l.getD i [])=0:=by
 induction hD with
 | nil=>intro i hi; cases hi
 | @snoc lines line h he ih=>
  intro i hi;by_cases hl:i<lines.length
  ·rw[fF (Nat.le_of_lt hl),XA _ hl]; exact ih i hl
  ·have:i=lines.length:=by rw[fR,List.length_singleton] at hi; omega
   subst this;rw[List.take_left',fA,List.getElem?_concat_length]
   ·exact he
   ·rfl
section
variable {P:Program} {n:Nat} {ops:Array Oper} {ex:List Nat} {Q:KF→AHeap→Prop} {k:Nat} {os:List Oper} {K:KF} {h:AHeap} {d:Nat} {ty:TypeId} {pos:String} {after:Array Edge}
end
end Go.Am
