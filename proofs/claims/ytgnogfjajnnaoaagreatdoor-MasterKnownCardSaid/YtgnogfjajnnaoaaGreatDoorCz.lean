/-
  Layer 14: the law's own examples: works().
  Conditions: none.
-/
import Derived.Test.YtgnogfjajnnaoaaGreatDoorOi
import Derived.Test.YtgnogfjajnnaoaaGreatDoorAne
import Derived.Test.YtgnogfjajnnaoaaGreatDoorRows
import Derived.MakeChecks
import Derived.HandedShaped
import Derived.Shelf.Vars
set_option maxRecDepth 99999
set_option maxHeartbeats 4000000
namespace Go.Am
theorem Zc {l:List Str} {x:Str} {e:Int} (h:OG l x=e) (he:e≠0):doL l x=l:=if_neg (by rw[h]; exact he)
theorem Xf {l:List Str} {x:Str} (h:OG l x=0):doL l x=l ++ [x]:=if_pos h
section
variable {P:Program} {n:Nat} {ops:Array Oper} {ex:List Nat} {Q:KF→AHeap→Prop} {k:Nat} {os:List Oper} {K:KF} {h:AHeap} {d:Nat} {ty:TypeId} {pos:String} {after:Array Edge}
theorem Kr {t t':TypeId} {x y:Operand} {kd:IntKind} {a b:Int} [hx:EvK h.globs n K x (.int kd a)] [hy:EvK h.globs n K y (.int kd b)] (he:a=b) (hk:KOps P n ops ex Q (k+1) os ((d,.bool false)::K) h):KOps P n ops ex Q k (⟨some d,.binOp .neq t x y t',ty,pos,after,none⟩::os) K h:=by
 refine KOps.neq ?_;rw[decide_eq_true he]; exact hk
theorem KW {t t':TypeId} {x y:Operand} {kd:IntKind} {a b:Int} [hx:EvK h.globs n K x (.int kd a)] [hy:EvK h.globs n K y (.int kd b)] (he:a=b) (hk:KOps P n ops ex Q (k+1) os ((d,.bool true)::K) h):KOps P n ops ex Q k (⟨some d,.binOp .eql t x y t',ty,pos,after,none⟩::os) K h:=by
 refine KOps.eql ?_;rw[decide_eq_true he]; exact hk
theorem KOps.notT {t:TypeId} {x:Operand} [hx:EvK h.globs n K x (.bool true)] (hk:KOps P n ops ex Q (k+1) os ((d,.bool false)::K) h):KOps P n ops ex Q k (⟨some d,.unOp .not t x,ty,pos,after,none⟩::os) K h:=by
 refine KOps.not (b:=true) ?_;exact hk
end
theorem works_c {h:AHeap} (hV:Vs h):ACalls Go.Proofs.Tryz.prog 15 [] h (fun q h'=>q = .bool true∧Keeps h h'):=by
  refine OC 240 [.tmp 0] Go.Proofs.Tryz.func15 rfl (by decide) rfl rfl (Nat.le_of_ble_eq_true rfl) ?_;have hS:=St.refl h;show KA _ 240 _ _ [] _;refine OV [] ?_;refine OB ?_;refine Oi rfl (Ut) ?_;rintro v19 h19 hS;refine Oi rfl (toldX_c (hS.rd 0 rfl) (by decide) (by decide +kernel) (hV.ext hS.keeps)) ?_;rintro _ h5 ⟨b,rfl,hB⟩;have hT1:Qp bLines bLines.length=bLines:=told_B.1;have hT2:QJ bLines bLines.length=true:=told_B.2;rw[hT1] at hB;rw[hT2];obtain⟨vl,A,hb,hS5⟩:=hB;have hSB:St h h5 (Q7 b vl A bLines ++ [⟨v19,1,wcs bLines,true⟩]):=by
    have hx:=St.trans hS hS5;rwa [List.append_nil] at hx
  have hV5:=hV.ext hSB.keeps;have r:=St.rbk hSB hb;clear hS;have hS:=St.refl h5;refine OV [1,2] ?_;refine Ou ?_;refine Oi rfl (JV (w:=sIn) (r.ext hS.keeps)) ?_;rintro _ _ ⟨rfl,rfl⟩;rw[e1,show tup3 (5,99,0)=AV.tup [.int .i64 5,.int .i64 99,.int .i64 0] from rfl];refine OV [1,2,3,4,5] ?_;refine Ou ?_;refine Oi rfl (spanB_c (w:=Xw) (r.ext hS.keeps)) ?_;rintro _ h7 ⟨rfl,hK⟩;have hS0:=St.on hS hK;clear hS;have hS:=hS0;clear hS0;rw[e2,show tup3 (5,6,0)=AV.tup [.int .i64 5,.int .i64 6,.int .i64 0] from rfl];refine OV [1,2,3,4,5,6,7,8] ?_;refine Ou ?_;refine Oi rfl (whyB_c (w:=Xw) (r.ext hS.keeps) (hV5.ext hS.keeps)) ?_;rintro _ h8 ⟨v37,rfl,hSN⟩;rw[e3.1] at hSN;rw[e3.2];replace hS:St _ _ (_::_):=St.trans hS hSN;refine OV [1,2,3,4,5,6,7,8,9,10] ?_;refine Ou ?_;refine Oi rfl (whyB_c (w:=X4) (r.ext hS.keeps) (hV5.ext hS.keeps)) ?_;rintro _ h9 ⟨v42,rfl,hSN⟩;rw[e4.1] at hSN;rw[e4.2];replace hS:St _ _ (_::_):=St.trans hS hSN;refine OV [1,2,3,4,5,6,7,8,9,10,11,12] ?_;refine Ou ?_;refine KOps.notT ?_;refine Ou ?_;refine Kr (by first|rfl|decide) ?_;refine OQ ?_;refine Ou ?_;refine Kr (by first|rfl|decide) ?_;refine OQ ?_;refine Ou ?_;refine Kr (by first|rfl|decide) ?_;refine OQ ?_;refine Ou ?_;refine Kr (by first|rfl|decide) ?_;refine OQ ?_;refine Ou ?_;refine Kr (by first|rfl|decide) ?_;refine OQ ?_;refine Ou ?_;refine Kr (by first|rfl|decide) ?_;refine OQ ?_;refine Ou ?_;refine Kr (by first|rfl|decide) ?_;refine OQ ?_;refine Ou ?_;refine Kr (by first|rfl|decide) ?_;refine OQ ?_;refine Ou ?_;refine OS hS rfl (by decide) rfl ?_;intro v81 h' hS;refine Of (dj:=79) rfl rfl ?_;refine Oi rfl (XK) ?_;rintro _ _ ⟨rfl,rfl⟩;refine Of (dj:=79) rfl rfl ?_;refine Oi rfl (Yt (a:=[Ym,Ys]) (b:=[Ym,Ys]) (hS.rd 2 rfl) (hS.rd 0 rfl) (by decide)) ?_;rintro _ _ ⟨rfl,rfl⟩;rw[show decide _=true from by decide];refine Of (dj:=79) rfl rfl ?_;refine KOps.notT ?_;refine OQ ?_;refine Ou ?_;refine O5 (hS.rd 1 rfl) ?_;refine Ou ?_;refine Oi rfl (sureB_c (r.ext hS.keeps)) ?_;rintro v90 h10 hSN;rw[e5] at hSN;replace hS:St _ _ (_::_):=St.trans hS hSN;refine Of (dj:=86) rfl rfl ?_;refine O5 (hS.rd 0 rfl) ?_;refine Of (dj:=86) rfl rfl ?_;refine Qn (by decide) (by decide) ?_;refine Of (dj:=86) rfl rfl ?_;refine Kr (by first|rfl|decide) ?_;refine OQ ?_;refine Ou ?_;refine Oi rfl (roomsB_c (r.ext hS.keeps)) ?_;rintro v97 h11 hSN;rw[e6] at hSN;replace hS:St _ _ (_::_):=St.trans hS hSN;refine Of (dj:=95) rfl rfl ?_;refine OS hS rfl (by decide) rfl ?_;intro v98 h' hS;refine Of (dj:=95) rfl rfl ?_;refine Oi rfl (XK) ?_;rintro _ _ ⟨rfl,rfl⟩;refine Of (dj:=95) rfl rfl ?_;refine Oi rfl (Yt (a:=[Ym,sPress,Ys]) (b:=[Ym,sPress,Ys]) (hS.rd 1 rfl) (hS.rd 0 rfl) (by decide)) ?_;rintro _ _ ⟨rfl,rfl⟩;rw[show decide _=true from by decide];refine Of (dj:=95) rfl rfl ?_;refine KOps.notT ?_;refine OQ ?_;refine Oo [1,102] ?_;refine OH ?_;refine Ox [1] ?_;refine Ou ?_;have hSB2:=St.drop (St.trans hSB hS);clear hSB hS;have hSB:=hSB2;clear hSB2;refine Oi rfl (QW (line:=[99,108,97,105,109,32,105,110,32,55]) hb hSB (hV.ext hSB.keeps) (by decide)) ?_;rintro _ _ ⟨rfl,hB⟩;rw[show OG bLines [99,108,97,105,109,32,105,110,32,55]=_ from a1];rw[Zc a1 (by decide)] at hB;clear hb hSB;obtain⟨vl,A,hb,hSB⟩:=hB;refine Kr (by first|rfl|decide) ?_;refine Ou ?_;refine Oi rfl (QW (line:=[99,108,97,105,109,32,105,110,32,53]) hb hSB (hV.ext hSB.keeps) (by decide)) ?_;rintro _ _ ⟨rfl,hB⟩;rw[show OG bLines [99,108,97,105,109,32,105,110,32,53]=_ from a2];rw[Zc a2 (by decide)] at hB;clear hb hSB;obtain⟨vl,A,hb,hSB⟩:=hB;refine Of (dj:=106) rfl rfl ?_;refine Kr (by first|rfl|decide) ?_;refine OQ ?_;refine Ou ?_;refine Oi rfl (QW (line:=[109,111,115,116,32,105,110,32,52]) hb hSB (hV.ext hSB.keeps) (by decide)) ?_;rintro _ _ ⟨rfl,hB⟩;rw[show OG bLines [109,111,115,116,32,105,110,32,52]=_ from a3];rw[Zc a3 (by decide)] at hB;clear hb hSB;obtain⟨vl,A,hb,hSB⟩:=hB;refine Of (dj:=111) rfl rfl ?_;refine Kr (by first|rfl|decide) ?_;refine OQ ?_;refine Ou ?_;refine Oi rfl (QW (line:=[108,101,97,115,116,32,111,117,116,32,55]) hb hSB (hV.ext hSB.keeps) (by decide)) ?_;rintro _ _ ⟨rfl,hB⟩;rw[show OG bLines [108,101,97,115,116,32,111,117,116,32,55]=_ from a4];rw[Zc a4 (by decide)] at hB;clear hb hSB;obtain⟨vl,A,hb,hSB⟩:=hB;refine Of (dj:=116) rfl rfl ?_;refine Kr (by first|rfl|decide) ?_;refine OQ ?_;refine Ou ?_;refine Oi rfl (QW (line:=[108,101,97,115,116,32,104,111,109,101,32,54]) hb hSB (hV.ext hSB.keeps) (by decide)) ?_;rintro _ _ ⟨rfl,hB⟩;rw[show OG bLines [108,101,97,115,116,32,104,111,109,101,32,54]=_ from a5];rw[Xf (x:=[108,101,97,115,116,32,104,111,109,101,32,54]) a5,show bLines ++ [[108,101,97,115,116,32,104,111,109,101,32,54]]=L1 from rfl] at hB;clear hb hSB;obtain⟨vl,A,hb,hSB⟩:=hB;refine Of (dj:=121) rfl rfl ?_;refine Kr (by first|rfl|decide) ?_;refine OQ ?_;refine Ou ?_;refine Oi rfl (QW (line:=[99,108,97,105,109,32,105,110,32,54]) hb hSB (hV.ext hSB.keeps) (by decide)) ?_;rintro _ _ ⟨rfl,hB⟩;rw[show OG L1 [99,108,97,105,109,32,105,110,32,54]=_ from a6];rw[Xf (x:=[99,108,97,105,109,32,105,110,32,54]) a6,show L1 ++ [[99,108,97,105,109,32,105,110,32,54]]=L2 from rfl] at hB;clear hb hSB;obtain⟨vl,A,hb,hSB⟩:=hB;refine Of (dj:=126) rfl rfl ?_;refine Kr (by first|rfl|decide) ?_;refine OQ ?_;refine Ou ?_;refine Oi rfl (QW (line:=[108,101,97,115,116,32,105,110,32,49]) hb hSB (hV.ext hSB.keeps) (by decide)) ?_;rintro _ _ ⟨rfl,hB⟩;rw[show OG L2 [108,101,97,115,116,32,105,110,32,49]=_ from a7];rw[Zc a7 (by decide)] at hB;clear hb hSB;obtain⟨vl,A,hb,hSB⟩:=hB;refine Of (dj:=131) rfl rfl ?_;refine Kr (by first|rfl|decide) ?_;refine OQ ?_;refine Ou ?_;refine Oi rfl (sureB_c (St.rbk hSB hb)) ?_;rintro _ _ hS;rw[e7] at hS;refine Of (dj:=136) rfl rfl ?_;refine OS hS rfl (by decide) rfl ?_;intro v139 h' hS;refine Of (dj:=136) rfl rfl ?_;refine Oi rfl (XK) ?_;rintro _ _ ⟨rfl,rfl⟩;refine Of (dj:=136) rfl rfl ?_;refine Oi rfl (Yt (a:=[sIn,Xw,X4]) (b:=[sIn,Xw,X4]) (hS.rd 1 rfl) (hS.rd 0 rfl) (by decide)) ?_;rintro _ _ ⟨rfl,rfl⟩;rw[show decide _=true from by decide];refine Of (dj:=136) rfl rfl ?_;refine KOps.notT ?_;refine OQ ?_;refine Oo [1,143] ?_;refine OH ?_;refine Ox [1] ?_;refine Ou ?_;have hSB2:=St.drop (St.trans hSB hS);clear hSB hS;have hSB:=hSB2;clear hSB2;refine Oi rfl (QW (line:=[112,97,99,107,32,49,50,32,111,117,116]) hb hSB (hV.ext hSB.keeps) (by decide)) ?_;rintro _ _ ⟨rfl,hB⟩;rw[show OG L2 [112,97,99,107,32,49,50,32,111,117,116]=_ from a8];rw[Xf (x:=[112,97,99,107,32,49,50,32,111,117,116]) a8,show L2 ++ [[112,97,99,107,32,49,50,32,111,117,116]]=L3 from rfl] at hB;clear hb hSB;obtain⟨vl,A,hb,hSB⟩:=hB;refine Kr (by first|rfl|decide) ?_;refine Ou ?_;refine Oi rfl (QW (line:=[112,97,99,107,32,49,50,32,105,110]) hb hSB (hV.ext hSB.keeps) (by decide)) ?_;rintro _ _ ⟨rfl,hB⟩;rw[show OG L3 [112,97,99,107,32,49,50,32,105,110]=_ from a9];rw[Zc a9 (by decide)] at hB;clear hb hSB;obtain⟨vl,A,hb,hSB⟩:=hB;refine Of (dj:=147) rfl rfl ?_;refine Kr (by first|rfl|decide) ?_;refine OQ ?_;refine Ou ?_;refine Oi rfl (QW (line:=[115,101,97,108,32,49,50]) hb hSB (hV.ext hSB.keeps) (by decide)) ?_;rintro _ _ ⟨rfl,hB⟩;rw[show OG L3 [115,101,97,108,32,49,50]=_ from a10];rw[Xf (x:=[115,101,97,108,32,49,50]) a10,show L3 ++ [[115,101,97,108,32,49,50]]=L4 from rfl] at hB;clear hb hSB;obtain⟨vl,A,hb,hSB⟩:=hB;refine Of (dj:=152) rfl rfl ?_;refine Kr (by first|rfl|decide) ?_;refine OQ ?_;refine Ou ?_;refine Oi rfl (would_c (line:=[98,117,114,110,32,49,50]) hb hSB (hV.ext hSB.keeps) (by decide)) ?_;rintro _ _ ⟨rfl,hSB2⟩;rw[show OG L4 [98,117,114,110,32,49,50]=20 from a11];clear hSB;have hSB:=hSB2;clear hSB2;refine Of (dj:=157) rfl rfl ?_;refine Kr (by first|rfl|decide) ?_;refine OQ ?_;refine Ou ?_;refine Oi rfl (QW (line:=[100,101,97,108,32,49,50]) hb hSB (hV.ext hSB.keeps) (by decide)) ?_;rintro _ _ ⟨rfl,hB⟩;rw[show OG L4 [100,101,97,108,32,49,50]=_ from a12];rw[Xf (x:=[100,101,97,108,32,49,50]) a12,show L4 ++ [[100,101,97,108,32,49,50]]=L5 from rfl] at hB;clear hb hSB;obtain⟨vl,A,hb,hSB⟩:=hB;refine Of (dj:=162) rfl rfl ?_;refine Kr (by first|rfl|decide) ?_;refine OQ ?_;refine Ou ?_;refine Oi rfl (QW (line:=[98,97,99,107,32,49,50]) hb hSB (hV.ext hSB.keeps) (by decide)) ?_;rintro _ _ ⟨rfl,hB⟩;rw[show OG L5 [98,97,99,107,32,49,50]=_ from a13];rw[Xf (x:=[98,97,99,107,32,49,50]) a13,show L5 ++ [[98,97,99,107,32,49,50]]=L6 from rfl] at hB;clear hb hSB;obtain⟨vl,A,hb,hSB⟩:=hB;refine Of (dj:=167) rfl rfl ?_;refine Kr (by first|rfl|decide) ?_;refine OQ ?_;refine Ou ?_;refine Oi rfl (QW (line:=[98,117,114,110,32,49,50]) hb hSB (hV.ext hSB.keeps) (by decide)) ?_;rintro _ _ ⟨rfl,hB⟩;rw[show OG L6 [98,117,114,110,32,49,50]=_ from a14];rw[Xf (x:=[98,117,114,110,32,49,50]) a14,show L6 ++ [[98,117,114,110,32,49,50]]=L7 from rfl] at hB;clear hb hSB;obtain⟨vl,A,hb,hSB⟩:=hB;refine Of (dj:=172) rfl rfl ?_;refine Kr (by first|rfl|decide) ?_;refine OQ ?_;refine Oo [1,176] ?_;refine OH ?_;refine Ox [1] ?_;refine Ou ?_;refine Oi rfl (packsB_c (w:=Xw) (St.rbk hSB hb)) ?_;rintro _ _ ⟨v177,rfl,hS⟩;rw[e8.1] at hS;rw[e8.2];refine OV [1,5,13] ?_;refine Ou ?_;refine Oi rfl (U5 (p:=12) ((St.rbk hSB hb).ext hS.keeps)) ?_;rintro _ _ ⟨rfl,rfl⟩;rw[e9];refine OV [1,5,8,13] ?_;refine Ou ?_;refine Kr (by first|rfl|decide) ?_;refine Ou ?_;refine Kr (by first|rfl|decide) ?_;refine OQ ?_;refine Ou ?_;refine O5 (hS.rd 0 rfl) ?_;refine Of (dj:=193) rfl rfl ?_;refine Kr (by first|rfl|decide) ?_;refine OQ ?_;refine Ou ?_;refine Oi rfl (undo_c hb (St.drop (St.trans hSB hS)) hV (by intro x hx; have hx2:=List.all_eq_true.1 (show(L7.all fun x=>decide (x.length≤1000000))=true by decide) x hx; exact of_decide_eq_true hx2)) ?_;rintro _ _ ⟨rfl,hB⟩;rw[if_neg (show¬ L7 = [] by decide)];rw[show L7.dropLast=L6 from rfl] at hB;clear hb hSB;obtain⟨vl,A,hb,hSB⟩:=hB;refine Of (dj:=198) rfl rfl ?_;refine Kr (by first|rfl|decide) ?_;refine OQ ?_;refine Ou ?_;refine Oi rfl (undo_c hb hSB hV (by intro x hx; have hx2:=List.all_eq_true.1 (show(L6.all fun x=>decide (x.length≤1000000))=true by decide) x hx; exact of_decide_eq_true hx2)) ?_;rintro _ _ ⟨rfl,hB⟩;rw[if_neg (show¬ L6 = [] by decide)];rw[show L6.dropLast=L5 from rfl] at hB;clear hb hSB;obtain⟨vl,A,hb,hSB⟩:=hB;refine Of (dj:=203) rfl rfl ?_;refine Kr (by first|rfl|decide) ?_;refine OQ ?_;refine Oo [1,207] ?_;refine OH ?_;refine Ox [1] ?_;refine Ou ?_;refine Oi rfl (U5 (p:=12) (St.rbk hSB hb)) ?_;rintro _ _ ⟨rfl,rfl⟩;rw[e10];refine OV [1,10,14] ?_;refine Ou ?_;refine Oi rfl (paidB_c (St.rbk hSB hb)) ?_;rintro _ _ ⟨v213,rfl,hSP⟩;rw[e11.1] at hSP;rw[e11.2];clear hS;have hS:=hSP;refine OV [10,14,15,16] ?_;refine OB ?_;refine Oi rfl (new_c) ?_;rintro b2 h18 ⟨vl2,A2,hb2,hSN⟩;have r2:=St.rbk hSN hb2;have hw15:WRow h18 v213 [sIn]:=Rd.ext hSN.keeps (hS.rd 0 rfl);have hV18:=((hV.ext hSB.keeps).ext hS.keeps).ext hSN.keeps;have hK18:Keeps h h18:=(hSB.keeps.trans hS.keeps).trans hSN.keeps;clear hS;have hS:=St.refl h18;refine OV [10,14,15,16,17] ?_;refine Ou ?_;refine KW (by first|rfl|decide) ?_;refine Ou ?_;refine KW (by first|rfl|decide) ?_;refine O6 ?_;refine Ou ?_;refine OS hS rfl (by decide) rfl ?_;intro v227 h' hS;refine Of (dj:=225) rfl rfl ?_;refine Oi rfl (XK) ?_;rintro _ _ ⟨rfl,rfl⟩;refine Of (dj:=225) rfl rfl ?_;refine Oi rfl (Yt (a:=[sIn]) (b:=[sIn]) (Rd.ext hS.keeps hw15) (hS.rd 0 rfl) (by decide)) ?_;rintro _ _ ⟨rfl,rfl⟩;rw[show decide _=true from by decide];refine O6 ?_;refine Ou ?_;refine KW (by first|rfl|decide) ?_;refine O6 ?_;refine Ou ?_;refine Oi rfl (fileB_c (r2.ext hS.keeps) (hV18.ext hS.keeps)) ?_;rintro _ _ ⟨rfl,rfl⟩;rw[e12];refine Of (dj:=235) rfl rfl ?_;refine KOps.wEql ?_;refine O6 ?_;refine OV [0] ?_;refine Oh ?_;exact⟨rfl,hK18.trans hS.keeps⟩
end Go.Am
namespace Go.Am
theorem VRels.split {φ:Emb} {a b:List AV} {cs:List Value} {s:Nat} (h1:VRels φ a (cs.take s)) (h2:VRels φ b (cs.drop s)) (hs:s≤cs.length):VRels φ (a ++ b) cs∧(a ++ b).take s=a∧(a ++ b).drop s=b:=by
 have ha:a.length=s:=by rw[h1.1,List.length_take]; omega
 have h3:=VRels.append h1 h2;rw[List.take_append_drop] at h3;exact⟨h3,by rw[←ha,List.take_left],by rw[←ha,List.drop_left]⟩
end Go.Am
namespace Go
variable {H:Type} {enc:TypeId × Value→H}
theorem returnsInHanded_of_change_andShaped {a : Assume} {C : Checked} {os : Os} {f : FuncId} {fn : Func} {s : ChangeSpec} {conds : List PathCond} {apart fresh handsOn again : Bool} {X : World → Array Value → Prop}
    (hX:∀ (w w':World) (args:Array Value),w.heap=w'.heap→X w args→X w' args)
    (own:ownKnob C.prog.godebug=none) (started:os.Started) (noInit:C.prog.inits.idxOf? f=none) (hfn:C.prog.funcs[f]? = some fn)
    (witness : ∃ (w : World) (tape : Tape) (i : Input), w.os = os ∧ (w.forCall tape i).Shaped C.prog ∧ i.vars = [] ∧ Input.okWide C.prog (w.forCall tape i) .any w.heap.size f i ∧
      ((s.pre enc C.prog fn conds apart (w.forCall tape i).memory i.args∧X (w.forCall tape i).memory i.args)∧sizedMet enc C.prog fn (OpenSpec.ofChange s) apart (w.forCall tape i).memory i.args)∧a.holds C.prog (lone (Frame.enter C.prog f i.args .normal) [] (w.forCall tape i)))
    (contract : ∀ (W : World) (base : Nat) (args : Array Value) (ds gs : List (DataW H)) (before : List MemPlace),
      (∀ (j:Nat) t v,fn.params[j]? = some t→args[j]? = some v→Value.okWide C.prog W .any base t v)→
      DataW.Whole enc C.prog fn.params.toList s.vars apart W args.toList ds gs before→
      conds.all (PathCond.test C.prog ⟨fn.params.toList,ds,s.plain.varTypes C.prog,gs⟩)=true→
      (DataW.weightsEach C.prog (fn.params.toList ++ s.plain.varTypes C.prog) (ds ++ gs)).all (·≤reachBytes)=true→X W args→W.ShapedOpen C.prog→
      a.holds C.prog (lone (Frame.enter C.prog f args .normal) [] W)→
      Calls C.prog f args W fun e W'=>∃ v,e = .returned v∧s.post enc C.prog fn apart fresh handsOn again W args v W') :
    ReturnsInHanded a C os f .any (fun w args=>(s.pre enc C.prog fn conds apart w args∧X w args)∧sizedMet enc C.prog fn (OpenSpec.ofChange s) apart w args) (s.post enc C.prog fn apart fresh handsOn again):=by
  refine returnsInHanded_of_calls own started noInit witness ?_;intro w tape i _ hsh _ hok hpre hholds;obtain⟨_,_,_,fn',hfn',_,_,_,_,hval⟩:=hok;have e:fn'=fn:=Option.some.inj (hfn'.symm.trans hfn);subst e;obtain⟨⟨⟨ds,gs,before,hw,hc⟩,hx⟩,hz⟩:=hpre;have hw':=DataW.Whole.of_heap (w':=w.forCall tape i) (by rfl) hw;refine(contract (w.forCall tape i) w.heap.size i.args ds gs before hval hw' hc (hz.weights hw) (hX _ _ _ (by rfl) hx) hsh hholds).mono fun e W' ⟨v,he,hp⟩=>?_
  subst he;exact ChangeSpec.post_blind hp
end Go
namespace Go.Am
open Go.ChangeShapes Go.WideShapes
def VF (W:World) (g:Nat) (cs:List AV):Prop:=(∃ c e f,W.heap[g]? = some (.cells c e f)∧c.size=cs.length)∧∀ j x,cs[j]? = some x→∃ v,W.cell? ⟨g,j,none⟩=some v∧∀ φ,VRel φ x v
theorem VF.push {W:World} {φ:Emb} {h:AHeap} (im:Imp W φ h) {g:Nat} {cs:List AV} (v:VF W g cs) (p0:Nat):Imp W (fun b=>if b=h.next then some (g,0,cs.length) else φ b) (h.push (.cells none p0 cs))∧φ.le (fun b=>if b=h.next then some (g,0,cs.length) else φ b):=by
  refine im.pushP p0 cs _ ?_;intro k i z hq
  cases hq
  obtain⟨⟨c,e,f,h1,h2⟩,h3⟩:=v;refine⟨(Array.getElem?_eq_some_iff.1 h1).1,fun j x hx=>?_,fun _=>⟨rfl,c,e,f,h1,h2⟩⟩;obtain⟨v,h4,h5⟩:=h3 j x hx;exact⟨v,by rw[Nat.zero_add]; exact h4,h5 _⟩
theorem Imp.none {W:World} {φ:Emb} {h:AHeap} (im:Imp W φ h):Imp W (fun b=>if b=h.next then .none else φ b) (h.push (.cells .none 0 [])):=(im.push [] .none (by intro k i z hq; cases hq)).1
theorem Imp.vars {W:World} {a b c:List AV} (ha:VF W 0 a) (hb:VF W 3 b) (hc:VF W 4 c):∃ φ h,Imp W φ h∧(h.globs.contains 0=true∧Rd h (.ptr 0 0) 0 a)∧VarAt h 3 b∧VarAt h 4 c:=by
 have im:=(VF.push (VF.push ((VF.push (Imp.empty W) ha 0).1.none).none hb 1).1 hc 1).1;refine⟨_,⟨_,_,[0,3,4]⟩,⟨⟨?_,im.rel.lt,im.rel.blk,im.rel.arr,im.rel.one,im.rel.sep,im.rel.map,im.rel.ext⟩,im.ro,im.out⟩,⟨rfl,.inr (.inl ⟨0,0,.none,0,a,.inr ⟨rfl,rfl⟩,rfl,rfl,by rw[List.drop_zero,List.take_length]⟩)⟩,⟨rfl,rfl⟩,rfl,rfl⟩;intro g hg;have hg:g=0∨g=3∨g=4:=by simpa using hg
 rcases hg with rfl|rfl|rfl
 ·exact⟨a.length,rfl⟩
 ·exact⟨b.length,rfl⟩
 ·exact⟨c.length,rfl⟩
def laidL:List (String × DataW Unit):=[("math/bits.deBruijn32tab",Go.Proofs.YtgnogfjajnnaoaaGreatDoor.Rows.laid_math_bits_deBruijn32tab),("math/bits.deBruijn64tab",Go.Proofs.YtgnogfjajnnaoaaGreatDoor.Rows.laid_math_bits_deBruijn64tab),("internal/strconv.uint64pow10",Go.Proofs.YtgnogfjajnnaoaaGreatDoor.Rows.laid_internal_strconv_uint64pow10),("unicode/utf8.acceptRanges",Go.Proofs.YtgnogfjajnnaoaaGreatDoor.Rows.laid_unicode_utf8_acceptRanges),("spadille/stamp.sizes",Go.Proofs.YtgnogfjajnnaoaaGreatDoor.Rows.laid_spadille_stamp_sizes),("unicode/utf8.first",Go.Proofs.YtgnogfjajnnaoaaGreatDoor.Rows.laid_unicode_utf8_first)]
def litI : DataW Unit → Option Int
  | .lit (.int _ n)=>some n
  | _=>none
def aggL : DataW Unit → List (DataW Unit)
  | .agg l=>l
  | _=>[]
def sizeL:List Int:=(List.range 64).map fun s=>((Ks s 6).length:Int)
def powL:List Int:=Lib.pow10Tab
theorem sizes_lits:(aggL Go.Proofs.YtgnogfjajnnaoaaGreatDoor.Rows.laid_spadille_stamp_sizes).map litI=sizeL.map some:=by decide +kernel
theorem pow_lits:(aggL Go.Proofs.YtgnogfjajnnaoaaGreatDoor.Rows.laid_internal_strconv_uint64pow10).map litI=powL.map some:=by decide +kernel
theorem VO {W : World} {l : List Int} {lay : DataW Unit} {k : IntKind} {g t et n : Nat} {nm : String} {cs : Array Value} {f : Nat} {p : List MemPlace}
    (hU:Go.Proofs.Tryz.prog.underlying t=some (.array n et)) (hE:Go.Proofs.Tryz.prog.underlying et=some (.int k)) (c1:Go.Proofs.Tryz.prog.cellsOf et=1) (c2:Go.Proofs.Tryz.prog.cellsOf t=l.length) (hn:n=l.length) (hlits:(aggL lay).map litI=l.map some)
    (hg0:Go.Proofs.Tryz.prog.globalNamed nm=some g) (hv0:W.var? Go.Proofs.Tryz.prog nm=some cs)
    (hd0:DataW.trod (fun _=>()) Go.Proofs.Tryz.prog W 0 (fun _=>true) false f t cs.toList=some (lay,p)) :
    VF W g (l.map fun v=>AV.int k v):=by
  obtain⟨xs,m,rfl,hx1,hl,hxl,hx⟩:=DataW.trod_array hU hd0;rw[c2] at hl;have hd:=(Prod.mk.inj hx1).1;have hxs:xs.map (fun x=>litI x.1)=l.map some:=by
    rw[←hlits,hd];show _=(xs.map (·.1)).map litI;rw[List.map_map]; rfl
  have key:∀ i (hi:i<l.length),cs.toList[i]? = some (.int k l[i]):=by
    intro i hi;have h2:=hx i (by omega);rw[c1,Nat.mul_one,List.getElem?_eq_getElem (by omega)] at h2;obtain⟨c,h3,h4,_⟩:=DataW.trod_int hE h2;have h5:((cs.toList.drop i).take 1)[0]? = some (.int k c):=by rw[h3]; rfl
    have h6:cs.toList[i]? = some (.int k c):=by simpa [List.getElem?_take,List.getElem?_drop] using h5
    have h7:=congrArg (fun l=>l[i]?) hxs;simp only[List.getElem?_map,List.getElem?_eq_getElem (show i<xs.length by omega),List.getElem?_eq_getElem hi,Option.map_some,Option.some.injEq] at h7;rw[h4] at h7;have h8:c=l[i]:=by simpa [litI] using h7
    rw[h6,h8]
  refine⟨?_,fun i x hx=>?_⟩
  · have hv:=hv0;simp only[World.var?,hg0,Option.bind_some] at hv;split at hv
    · rename_i c e f' he
      cases hv
      exact⟨_,_,_,he,by rw[List.length_map,←hl,Array.length_toList]⟩
    · cases hv
  · have hi:i<l.length:=by
      have:=(List.getElem?_eq_some_iff.1 hx).1;rwa [List.length_map] at this
    rw[List.getElem?_map,List.getElem?_eq_getElem hi] at hx
    cases hx
    refine⟨.int k l[i],?_,fun φ=>.int _ _⟩;rw[World.var?_cell hg0 hv0 i,←Array.getElem?_toList];exact key i hi
theorem vf_int {W : World} {g : Nat} {t : TypeId} {k : IntKind} (h : W.ShapedOpen Go.Proofs.Tryz.prog) (hg : g < Go.Proofs.Tryz.prog.globals.size)
    (h0:((Go.begin Go.Proofs.Tryz.prog (fun _ _=>0) default).world.heap[g]?).bind Obj.row? = some (#[.int k 0],t))
    (hb:Go.Proofs.Tryz.prog.buildable t=true) (hc:Go.Proofs.Tryz.prog.cellTypes Go.Proofs.Tryz.prog.depth t=some [t]) (hu:Go.Proofs.Tryz.prog.underlying t=some (.int k)) :
    ∃ m,VF W g [.int k m]:=by
  obtain⟨m,hm⟩:=Go.Proofs.cell_of_shapedOpen_int h hg h0 rfl hb hc hu;obtain⟨cs,hh,hs,_⟩:=h.1 g _ t hg h0;refine⟨m,⟨cs,_,_,hh,hs⟩,fun j x hx=>?_⟩;have hj:j=0:=by
    have:=(List.getElem?_eq_some_iff.1 hx).1;simpa using this
  subst hj
  cases hx
  exact⟨_,hm,fun φ=>.int _ _⟩
theorem vs_laid {W:World} (h:laidMetH Go.Proofs.Tryz.prog laidL W) (hs:W.ShapedOpen Go.Proofs.Tryz.prog):∃ φ hp,Imp W φ hp∧Vs hp:=by
 rw[MakeChecks.laidMetH_plain _ _ _ (by kernel_rfl)] at h;obtain⟨ps,⟨g0,t0,cs0,f0,p0,q0,hg0,ht0,hv0,hd0,⟨g1,t1,cs1,f1,p1,q1,hg1,ht1,hv1,hd1,⟨g2,t2,cs2,f2,p2,q2,hg2,ht2,hv2,hd2,⟨g3,t3,cs3,f3,p3,q3,hg3,ht3,hv3,hd3,⟨g4,t4,cs4,f4,p4,q4,hg4,ht4,hv4,hd4,⟨g5,t5,cs5,f5,p5,q5,hg5,ht5,hv5,hd5,_,_⟩,_⟩,_⟩,_⟩,_⟩,_⟩,_,_⟩:=h;obtain rfl:=Option.some.inj ((show Go.Proofs.Tryz.prog.globalNamed "internal/strconv.uint64pow10" = some 4 by kernel_rfl).symm.trans hg2);obtain rfl:=Option.some.inj ((show(Go.Proofs.Tryz.prog.globals[4]?).map (·.type)=some 269 by kernel_rfl).symm.trans ht2);obtain rfl:=Option.some.inj ((show Go.Proofs.Tryz.prog.globalNamed "spadille/stamp.sizes" = some 0 by kernel_rfl).symm.trans hg4);obtain rfl:=Option.some.inj ((show(Go.Proofs.Tryz.prog.globals[0]?).map (·.type)=some 230 by kernel_rfl).symm.trans ht4);have a0:=VO Go.Proofs.Tryz.underlying230 Go.Proofs.Tryz.underlying229 (by kernel_rfl) (show _=sizeL.length by kernel_rfl) rfl sizes_lits hg4 hv4 hd4;have a4:=VO Go.Proofs.Tryz.underlying269 Go.Proofs.Tryz.underlying238 (by kernel_rfl) (show _=powL.length by kernel_rfl) rfl pow_lits hg2 hv2 hd2;obtain⟨m,a3⟩:=vf_int (g:=3) (t:=3) (k:=.i64) hs (of_decide_eq_true (by kernel_rfl)) (by kernel_rfl) (by kernel_rfl) (by kernel_rfl) Go.Proofs.Tryz.underlying3;have e0:Vl=sizeL.map fun v=>AV.int .i8 v:=by rw[Vl,sizeL,List.map_map]; rfl
 rw[←e0] at a0;obtain⟨φ,hp,im,h0,h3,h4⟩:=Imp.vars a0 a3 a4;exact⟨φ,hp,im,h0,⟨m,h3⟩,h4⟩
end Go.Am
namespace Go.Am
def kB:Str:=[115,112,97,100,105,108,108,101]
def kEnd:Str:=[101,110,100,32]
def Xv (i:Nat):Str:=Lib.itoa (i:Int) ++ [46,32]
def cutAt (i:Nat) (l:Str):Str:=l.drop (Xv i).length
def QO (ls : List Str) : Nat → List Str
  | 0=>ls
  | i+1=>(QO ls i).set (i+1) (cutAt (i+1) (ls.getD (i+1) []))
def XP (ls : List Str) : Nat → Bool
  | 0=>true
  | i+1=>XP ls i && (Xv (i+1)).isPrefixOf (ls.getD (i+1) [])
def OY (f:Str):List Str:=O1 10 f.dropLast
def Q8 (ls:List Str):Str:=ls.getD (ls.length - 1) []
def endE (f:Str) (e:Str):Int:=
 if kEnd.isPrefixOf e=false∨KV (e.drop 4) 4=false∨9972<QL (e.drop 4) then 9
 else if QL (e.drop 4)≠Go.Proofs.Tryz.sumTo (f.take (f.length - e.length - 1)) then 17 else 0
def Q2 (f:Str):Int:=
 if 18000<f.length then 19 else if [10].isSuffixOf f=false then 18
 else if (OY f).length<2∨(OY f).getD 0 []≠kB then 9
 else if XP (OY f) ((OY f).length - 2)=false then 9
 else endE f (Q8 (OY f))
def QC (f:Str):List Str:=((QO (OY f) ((OY f).length - 2)).drop 1).take ((OY f).length - 2)
noncomputable def QP (bk : List Str) : List Str → Int × List Str
  | []=>(0,bk)
  | x::r=>if OG bk x=0 then QP (bk ++ [x]) r else (OG bk x,bk)
theorem Y9:∀ (l m bk:List Str),(QP bk l).1=0→QP bk (l ++ m)=QP (bk ++ l) m:=by
 intro l
 induction l with
 | nil=>intro m bk _; simp
 | cons x r ih=>
  intro m bk h;rw[List.cons_append];unfold QP at h;by_cases hx:OG bk x=0
  ·rw[if_pos hx] at h;rw[QP,if_pos hx,ih m _ h]; simp
  ·rw[if_neg hx] at h; exact absurd h hx
theorem Done.all {lines:List Str} (hD:Done lines):QP [] lines=(0,lines):=by
 induction hD with
 | nil=>rfl
 | @snoc lines line hD he ih=>
  rw[Y9 _ _ _ (by rw[ih]),List.nil_append,QP,if_pos he]; rfl
def dgs (w:Str):Prop:=∀ c∈w,48≤c.toNat∧c.toNat≤57
theorem dig_n {d:Nat} (h:d<10):(UInt8.ofNat (48+d)).toNat=48+d:=by rw[UInt8.toNat_ofNat',Nat.mod_eq_of_lt (by omega)]
theorem dec_val:∀ (k u:Nat),u<k→QL (Lib.decDigits u)=u∧dgs (Lib.decDigits u)∧(1≤u→(Lib.decDigits u).head?≠some 48)∧Lib.decDigits u≠[]:=by
 intro k
 induction k with
 | zero=>intro u h; omega
 | succ k ih=>
  intro u h;by_cases h10:u<10
  ·rw[Lib.decDigits_one h10];have:=dig_n h10;refine⟨?_,?_,?_,by simp⟩
   ·simp only[QL,List.foldl]; rw[this]; omega
   ·intro c hc;rw[List.mem_singleton] at hc;subst hc; omega
   ·intro h1 he;simp only[List.head?_cons,Option.some.injEq] at he;rw[he] at this;have:(48:Nat)=48+u:=this;omega
  ·obtain⟨h1,h2,h3,h4⟩:=ih (u / 10) (by omega);have hd:=dig_n (show u % 10<10 by omega);rw[Lib.decDigits,dif_neg h10];refine⟨?_,?_,?_,by simp⟩
   ·rw[J5,h1,hd]; omega
   ·intro c hc;rcases List.mem_append.1 hc with hc|hc
    ·exact h2 c hc
    ·rw[List.mem_singleton] at hc;subst hc; omega
   ·intro _;rw[List.head?_append]
    cases hx:Lib.decDigits (u / 10) with
    | nil=>exact absurd hx h4
    | cons a l=>
     have:=h3 (by omega);rw[hx] at this;simpa using this
theorem X1 (ls:List Str):∀ i:Nat,(QO ls i).length=ls.length:=by
 intro i
 induction i with
 | zero=>rfl
 | succ i ih=>rw[QO,List.length_set,ih]
theorem UE (ls:List Str):∀ i j:Nat,i<j→(QO ls i).getD j []=ls.getD j []:=by
 intro i
 induction i with
 | zero=>intro j _; rfl
 | succ i ih=>
  intro j h;rw[QO,List.getD_eq_getElem?_getD,List.getElem?_set_ne (by omega),←List.getD_eq_getElem?_getD,ih j (by omega)]
theorem cutTo_le (ls:List Str):∀ i j:Nat,0<j→j≤i→j<ls.length→(QO ls i).getD j []=cutAt j (ls.getD j []):=by
 intro i
 induction i with
 | zero=>intro j h1 h2; omega
 | succ i ih=>
  intro j h1 h2 h3;rw[QO,List.getD_eq_getElem?_getD];by_cases he:i+1=j
  ·subst he;rw[List.getElem?_set_self (by rw[X1]; exact h3),Option.getD_some]
  ·rw[List.getElem?_set_ne he,←List.getD_eq_getElem?_getD,ih j h1 (by omega) h3]
theorem good_at {ls:List Str}:∀ {k:Nat},XP ls k=true→∀ j,j<k→(Xv (j+1)).isPrefixOf (ls.getD (j+1) [])=true:=by
 intro k
 induction k with
 | zero=>intro _ j h; omega
 | succ k ih=>
  intro h j hj;rw[XP,Bool.and_eq_true] at h;by_cases he:j=k
  ·subst he; exact h.2
  ·exact ih h.1 j (by omega)
theorem fileB_len (f:Str):(QC f).length=(OY f).length - 2:=by
 rw[QC,List.length_take,List.length_drop,X1]; omega
theorem fileB_get (f:Str) {j:Nat} (h:j<(OY f).length - 2):(QC f).getD j []=cutAt (j+1) ((OY f).getD (j+1) []):=by
 rw[QC,List.getD_eq_getElem?_getD,List.getElem?_take,if_pos h,List.getElem?_drop,←List.getD_eq_getElem?_getD,Nat.add_comm 1 j,cutTo_le _ _ _ (by omega) (by omega) (by omega)]
end Go.Am
namespace Go.Am
theorem pre_take (a p:Str):decide (a.take p.length=p)=p.isPrefixOf a:=by
 rw[Bool.eq_iff_iff,decide_eq_true_iff,List.isPrefixOf_iff_prefix,List.prefix_iff_eq_take];exact⟨Eq.symm,Eq.symm⟩
theorem pre_long {a p:Str} (h:a.length<p.length):p.isPrefixOf a=false:=by
 rw[←Bool.not_eq_true,List.isPrefixOf_iff_prefix];intro hp;have:=hp.length_le;omega
theorem suf_drop {a p:Str} (h:p.length≤a.length):decide (a.drop (a.length - p.length)=p)=p.isSuffixOf a:=by
 rw[Bool.eq_iff_iff,decide_eq_true_iff,List.isSuffixOf_iff_suffix,List.suffix_iff_eq_drop];exact⟨Eq.symm,Eq.symm⟩
theorem suf_long {a p:Str} (h:a.length<p.length):p.isSuffixOf a=false:=by
 rw[←Bool.not_eq_true,List.isSuffixOf_iff_suffix];intro hp;have:=hp.length_le;omega
theorem UQ {h:AHeap} {a p:Str} (ha:a.length≤1000000) (hp:p.length≤1000000):ACalls Go.Proofs.Tryz.prog 169 [.str (wd a),.str (wd p)] h (fun q h'=>q = .bool (p.isPrefixOf a)∧h=h'):=by
 refine OC 18 [.tmp 4] Go.Proofs.Tryz.func169 rfl (by decide) rfl rfl (Nat.le_of_ble_eq_true rfl) ?_;show KA _ 18 _ _ [(0,.str (wd a)),(1,.str (wd p))] _;refine Oa [0,1] ?_;refine Oc ?_;refine Oy (dj:=10) rfl rfl true false rfl ?_ ?_
 ·intro g10;have g10:=of_decide_eq_true g10;refine Oc ?_;refine KOps.wHi (j:=_) rfl (by first|omega|(simp; done)|(simp; omega)) ?_;refine Oa [4] ?_;refine Oh ?_;exact⟨congrArg AV.bool (pre_take a p),rfl⟩
 ·intro g10;have g10:=of_decide_eq_false g10;refine Oa [4] ?_;refine Oh ?_;exact⟨congrArg AV.bool (pre_long (by omega)).symm,rfl⟩
theorem UD {h:AHeap} {a p:Str} (ha:a.length≤1000000) (hp:p.length≤1000000):ACalls Go.Proofs.Tryz.prog 131 [.str (wd a),.str (wd p)] h (fun q h'=>q = .tup [.str (wd (if p.isPrefixOf a then a.drop p.length else a)),.bool (p.isPrefixOf a)]∧h=h'):=by
  refine OC 15 [.tmp 4,.tmp 5] Go.Proofs.Tryz.func131 rfl (by decide) rfl rfl (Nat.le_of_ble_eq_true rfl) ?_;show KA _ 15 _ _ [(0,.str (wd a)),(1,.str (wd p))] _;refine Oa [0,1] ?_;refine Oc ?_;refine Oi rfl (UQ ha hp) ?_;rintro _ _ ⟨rfl,rfl⟩;refine Oa [0,1,9] ?_;refine Kf ?_ ?_
  · intro c9;have c9:p.isPrefixOf a=false:=by simpa using c9
    refine Oa [4,5] ?_;refine Oh ?_;exact⟨by rw[c9]; rfl,rfl⟩
  · intro c9;have c9:p.isPrefixOf a=true:=by simpa using c9
    have hle:p.length≤a.length:=(List.isPrefixOf_iff_prefix.1 c9).length_le;refine Ox [0,1] ?_;refine Oc ?_;refine KOps.wLo (j:=_) rfl (by first|omega|(simp; done)|(simp; omega)) ?_;refine Oa [4,5] ?_;refine Oh ?_;exact⟨by rw[c9]; rfl,rfl⟩
theorem VG {h:AHeap} {a p:Str} (ha:a.length≤1000000) (hp:p.length≤1000000):ACalls Go.Proofs.Tryz.prog 94 [.str (wd a),.str (wd p)] h (fun q h'=>q = .tup [.str (wd (if p.isPrefixOf a then a.drop p.length else a)),.bool (p.isPrefixOf a)]∧h=h'):=by
  refine OC 11 [.tmp 4,.tmp 5] Go.Proofs.Tryz.func94 rfl (by decide) rfl rfl (Nat.le_of_ble_eq_true rfl) ?_;show KA _ 11 _ _ [(0,.str (wd a)),(1,.str (wd p))] _;refine Oa [0,1] ?_;refine Oc ?_;refine Oi rfl (UD ha hp) ?_;rintro _ _ ⟨rfl,rfl⟩;refine Oa [4,5] ?_;refine Oh ?_;exact⟨rfl,rfl⟩
theorem Vb {h:AHeap} {a p:Str} (ha:a.length≤1000000) (hp:p.length≤1000000):ACalls Go.Proofs.Tryz.prog 129 [.str (wd a),.str (wd p)] h (fun q h'=>q = .bool (p.isSuffixOf a)∧h=h'):=by
 refine OC 21 [.tmp 4] Go.Proofs.Tryz.func129 rfl (by decide) rfl rfl (Nat.le_of_ble_eq_true rfl) ?_;show KA _ 21 _ _ [(0,.str (wd a)),(1,.str (wd p))] _;refine Oa [0,1] ?_;refine Oc ?_;refine Oy (dj:=10) rfl rfl true false rfl ?_ ?_
 ·intro g10;have g10:=of_decide_eq_true g10;refine Oc ?_;refine KOps.wLo (j:=a.length - p.length) (by omega) (by omega) ?_;refine Oa [4] ?_;refine Oh ?_;exact⟨congrArg AV.bool (suf_drop (by omega)),rfl⟩
 ·intro g10;have g10:=of_decide_eq_false g10;refine Oa [4] ?_;refine Oh ?_;exact⟨congrArg AV.bool (suf_long (by omega)).symm,rfl⟩
theorem Wj {h:AHeap} {a p:Str} (ha:a.length≤1000000) (hp:p.length≤1000000):ACalls Go.Proofs.Tryz.prog 92 [.str (wd a),.str (wd p)] h (fun q h'=>q = .bool (p.isSuffixOf a)∧h=h'):=by
 refine OC 8 [.tmp 4] Go.Proofs.Tryz.func92 rfl (by decide) rfl rfl (Nat.le_of_ble_eq_true rfl) ?_;show KA _ 8 _ _ [(0,.str (wd a)),(1,.str (wd p))] _;refine Oa [0,1] ?_;refine Oc ?_;refine Oi rfl (Vb ha hp) ?_;rintro _ _ ⟨rfl,rfl⟩;refine Oa [4] ?_;refine Oh ?_;exact⟨rfl,rfl⟩
theorem Um {h:AHeap} {a p:Str} (ha:a.length≤1000000) (hp:p.length≤1000000):ACalls Go.Proofs.Tryz.prog 130 [.str (wd a),.str (wd p)] h (fun q h'=>q = .str (wd (if p.isSuffixOf a then a.take (a.length - p.length) else a))∧h=h'):=by
  refine OC 16 [.tmp 4] Go.Proofs.Tryz.func130 rfl (by decide) rfl rfl (Nat.le_of_ble_eq_true rfl) ?_;show KA _ 16 _ _ [(0,.str (wd a)),(1,.str (wd p))] _;refine Oa [0,1] ?_;refine Oc ?_;refine Oi rfl (Vb ha hp) ?_;rintro _ _ ⟨rfl,rfl⟩;refine Oo [0,1,7] ?_;refine Kf ?_ ?_
  · intro c7;have hle:p.length≤a.length:=(List.isSuffixOf_iff_suffix.1 c7).length_le;refine Oc ?_;refine KOps.wHi (j:=a.length - p.length) (by omega) (by omega) ?_;refine Oa [4] ?_;refine Oh ?_;exact⟨by rw[c7]; rfl,rfl⟩
  · intro c7;refine Ox [0] ?_;refine Oa [4] ?_;refine Oh ?_;exact⟨by rw[c7]; rfl,rfl⟩
theorem U9 {h:AHeap} {a p:Str} (ha:a.length≤1000000) (hp:p.length≤1000000):ACalls Go.Proofs.Tryz.prog 93 [.str (wd a),.str (wd p)] h (fun q h'=>q = .str (wd (if p.isSuffixOf a then a.take (a.length - p.length) else a))∧h=h'):=by
  refine OC 8 [.tmp 4] Go.Proofs.Tryz.func93 rfl (by decide) rfl rfl (Nat.le_of_ble_eq_true rfl) ?_;show KA _ 8 _ _ [(0,.str (wd a)),(1,.str (wd p))] _;refine Oa [0,1] ?_;refine Oc ?_;refine Oi rfl (Um ha hp) ?_;rintro _ _ ⟨rfl,rfl⟩;refine Oa [4] ?_;refine Oh ?_;exact⟨rfl,rfl⟩
theorem summed_c {h:AHeap} {l:Str} (hl:l.length≤1000000):ACalls Go.Proofs.Tryz.prog 74 [.str (wd l)] h (fun q h'=>q = .int .i64 (Go.Proofs.Tryz.sumTo l)∧h=h'):=by
  refine⟨_,_,Ev.of_below ⟨_,Go.Proofs.Tryz.func74,by decide,rfl⟩ ?_,rfl,rfl⟩;intro φ w cs _ ha;obtain⟨a,rfl⟩:∃ a,cs = [a]:=by
    match cs,ha.1 with
    | [a],_=>exact⟨a,rfl⟩
  have h1:=ha.2 0 _ _ rfl rfl
  cases h1
  refine(Go.Proofs.Tryz.summed_walk l hl w).mono ?_;rintro e w' ⟨rfl,bel⟩;exact⟨_,rfl,.int _ _,bel⟩
noncomputable def Zl (f:Str):Int:=if Q2 f=0 then (QP [] (QC f)).1 else Q2 f
theorem Zm {h h':AHeap} {f:Str} {e:Int} (k:Keeps h h') (E:Q2 f=e) (he:e≠0):(Zl f≠0∧AV.tup [.nilp,.int .i64 e] = .tup [.nilp,.int .i64 (Zl f)]∧Keeps h h')∨(Zl f=0∧∃ b,AV.tup [.nilp,.int .i64 e] = .tup [b,.int .i64 0]∧Bk h h' b (QC f) []):=by
 have:Zl f=e:=by rw[Zl,E,if_neg he]
 rw[this];exact .inl ⟨he,rfl,k⟩
theorem fE_text {f:Str} (h1:¬ 18000<f.length) (h2 : [10].isSuffixOf f=true) (h3:(OY f).length<2∨(OY f).getD 0 []≠kB):Q2 f=9:=by
 rw[Q2,if_neg h1,if_neg (by simp only[h2]; decide),if_pos h3]
theorem fE_good {f:Str} (h1:¬ 18000<f.length) (h2 : [10].isSuffixOf f=true) {i:Nat} (h3:i+2<(OY f).length) (h4:(Xv (i+1)).isPrefixOf ((OY f).getD (i+1) [])=false):Q2 f=9:=by
 rw[Q2,if_neg h1,if_neg (by simp only[h2]; decide)];split
 ·rfl
 ·rw[if_pos];rw[←Bool.not_eq_true];intro hg;have:=good_at hg i (by omega);rw[h4] at this
  cases this
theorem fE_end {f:Str} (h1:¬ 18000<f.length) (h2 : [10].isSuffixOf f=true) (h3 : 2≤(OY f).length) (h5:(OY f).getD 0 []=kB) (h4:XP (OY f) ((OY f).length - 2)=true):Q2 f=endE f (Q8 (OY f)):=by
 rw[Q2,if_neg h1,if_neg (by simp only[h2]; decide),if_neg,if_neg (by simp only[h4]; decide)];rintro(h|h)
 ·omega
 ·exact h h5
theorem trimNl_c {h:AHeap} {f:Str} (hf:f.length≤1000000) (hsf : [10].isSuffixOf f=true):ACalls Go.Proofs.Tryz.prog 93 [.str (wd f),.str (wd [10])] h (fun q h'=>q = .str (wd f.dropLast)∧h=h'):=by
 have:=U9 (h:=h) (a:=f) (p:=[10]) hf (by decide);rw[if_pos hsf] at this;rw[List.dropLast_eq_take];exact this
theorem UL {f e:Str} (h1:kEnd.isPrefixOf e=true) (h2:KV (e.drop 4) 4=true) (h3:¬ 9972<QL (e.drop 4)):endE f e=if QL (e.drop 4)≠Go.Proofs.Tryz.sumTo (f.take (f.length - e.length - 1)) then 17 else 0:=by
  rw[endE,if_neg];rintro(h|h|h)
  · rw[h1] at h; cases h
  · rw[h2] at h; cases h
  · exact h3 h
theorem fileL_len (f:Str):(OY f).length≤f.length+1:=by
 have:=Jt 10 f.dropLast;rw[List.length_dropLast] at this;unfold OY; omega
theorem Va {f w:Str} (hw:w∈OY f):w.length≤f.length - 1:=by
 have:=Vn 10 f.dropLast w hw;rwa [List.length_dropLast] at this
theorem doAll_next {l:List Str} {i:Nat} (h0:(QP [] (l.take i)).1=0) (hi:i<l.length) (ha:OG (l.take i) (l.getD i [])=0):(QP [] (l.take (i+1))).1=0∧doL (l.take i) (l.getD i [])=l.take (i+1):=by
 have e:l.take i ++ [l.getD i []]=l.take (i+1):=X9 hi;refine⟨?_,by rw[doL,if_pos ha,e]⟩;rw[←e,Y9 _ _ _ h0,List.nil_append,QP,if_pos ha,QP]
theorem doAll_stop {l:List Str} {i:Nat} (h0:(QP [] (l.take i)).1=0) (hi:i<l.length) (ha:OG (l.take i) (l.getD i [])≠0):(QP [] l).1=OG (l.take i) (l.getD i []):=by
 have e:l=l.take i ++ (l.getD i []::l.drop (i+1)):=by
  have h2:l.getD i []::l.drop (i+1)=l.drop i:=by
   rw[List.getD_eq_getElem?_getD,List.getElem?_eq_getElem hi,Option.getD_some,List.getElem_cons_drop]
  rw[h2,List.take_append_drop]
 have h3:QP [] l=QP [] (l.take i ++ (l.getD i []::l.drop (i+1))):=congrArg _ e;rw[h3,Y9 _ _ _ h0,List.nil_append,QP,if_neg ha]
theorem JK {h:AHeap} {f:Str} (hf:f.length≤1000000) (hV:Vs h):ACalls Go.Proofs.Tryz.prog 48 [.str (wd f)] h (fun q h'=>(Zl f≠0∧q = .tup [.nilp,.int .i64 (Zl f)]∧Keeps h h')∨(Zl f=0∧∃ b,q = .tup [b,.int .i64 0]∧Bk h h' b (QC f) [])):=by
  refine OC 117 [.tmp 2,.tmp 3] Go.Proofs.Tryz.func48 rfl (by decide) rfl rfl (Nat.le_of_ble_eq_true rfl) ?_;have hS:=St.refl h;show KA _ 117 _ _ [(0,.str (wd f))] _;refine Oa [0] ?_;refine Ot ?_;refine Oz ?_;refine Oa [0,17] ?_;refine Ol ?_ ?_
  · intro c17;have c17 : 18000<f.length:=by omega
    refine Oa [2,3] ?_;refine Oh ?_;exact Zm hS.keeps (by rw[Q2,if_pos c17]) (by decide)
  · intro c17;have c17:¬ 18000<f.length:=by omega
    refine Oc ?_;refine Oi rfl (Wj (p:=[10]) hf (by decide)) ?_;rintro _ _ ⟨rfl,rfl⟩;refine Oa [0,21] ?_;refine Kf ?_ ?_
    · intro c21;have c21 : [10].isSuffixOf f=false:=by simpa using c21
      refine Oa [2,3] ?_;refine Oh ?_;exact Zm hS.keeps (by rw[Q2,if_neg c17,if_pos c21]) (by decide)
    · intro c21;have hsf : [10].isSuffixOf f=true:=by simpa using c21
      have hnL:=fileL_len f;refine Ov ?_;refine Ok ?_;refine Od ?_;refine On [0] ?_;refine Oc ?_;refine Oi rfl (trimNl_c hf hsf) ?_;rintro _ _ ⟨rfl,rfl⟩;refine Oi rfl (split_c (c:=10) hV.mx (by rw[List.length_dropLast]; omega)) ?_;rintro v27 h27 ⟨hs27,hS27⟩;replace hS:St _ _ [⟨v27,1,wcs (OY f),true⟩]:=St.trans hS hS27;refine Oa [0,4] ?_;refine Oc ?_;refine O5 (hS.rd 0 rfl) ?_;refine Oa [0,4,5] ?_;refine Oc ?_;refine Oy (dj:=33) rfl rfl false true rfl ?_ ?_
      · intro g33;have g33:=of_decide_eq_false g33;refine Oc ?_;refine Oq (hS.rd 0 rfl) (j:=0) rfl (by first|omega|(simp; done)|(simp; omega)) ?_;intro p35 hp35;refine Of (dj:=33) rfl rfl ?_;refine O2 hp35 (hS.rd 0 rfl) (by first|omega|(simp; done)|(simp; omega)) ?_;refine Oa [0,4,5,38] ?_;refine OZ ?_ ?_
        · intro c38;refine Oa [2,3] ?_;refine Oh ?_;exact Zm hS.keeps (fE_text c17 hsf (.inr c38)) (by decide)
        · intro c38;have hk0:(OY f).getD 0 []=kB:=c38;refine Ox [0,4,5] ?_;refine Oc ?_;refine Og ?_;refine Od ?_;refine Oz ?_;refine Kj (X:=Nat) (fun i=>[(0,.str (wd f)),(4,v27),(5,.int .i64 ((OY f).length - 1:Int)),(6,.int .i64 ((i:Int)+1))]) (fun i h'=>i+2≤(OY f).length∧XP (OY f) i=true∧St h h' [⟨v27,1,wcs (QO (OY f) i),true⟩]) (fun i=>(OY f).length - i) 0 ?_ ?_
          · exact⟨by omega,rfl,hS⟩
          rintro i h10 ⟨hi,hg,hS⟩;refine Oa [0,4,5,6,41] ?_;refine Ol ?_ ?_
          · intro c41;have hge:=UE (OY f) i (i+1) (by omega);have hlen2:=X1 (OY f) i;have hlj:((QO (OY f) i).getD (i+1) []).length≤1000000:=by
              rw[hge];have:=Va (f:=f) (w:=(OY f).getD (i+1) []) (getD_mem (by omega));omega
            have hnl:(Xv (i+1)).length≤1000000:=by
              have:=Lib.itoa_length_le ((i+1:Nat):Int) (by omega) (by omega);rw[Xv,List.length_append];show _+2≤_;omega
            have hnP:Lib.itoa ((i:Int)+1) ++ [46,32]=Xv (i+1):=rfl;have hil:=Lib.itoa_length_le ((i:Int)+1) (by omega) (by omega);refine Ox [0,4,5,6] ?_;refine Ot ?_;refine Oz ?_;refine Ot ?_;refine OU [5,7] mixed rfl (by kernel_rfl) ?_;refine Oc ?_;refine Oq (hS.rd 0 rfl) (j:=_) rfl (by first|omega|(simp; done)|(simp; omega)) ?_;intro p47 hp47;refine O2 hp47 (hS.rd 0 rfl) (by first|omega|(simp; done)|(simp; omega)) ?_;refine Oj ?_;refine KR (by intro _ _ hr; exact hr.2 ▸ Keeps.refl _) (itoa_c (hV.ext hS.keeps).pw (by omega) (by omega)) ?_;rintro _ _ ⟨rfl,rfl⟩;refine KOps.wAdd (by first|omega|(simp; done)|(simp; omega)) ?_;rw[hnP];refine KR (by intro _ _ hr; exact hr.2 ▸ Keeps.refl _) (VG (p:=Xv (i+1)) hlj hnl) ?_;rintro _ _ ⟨rfl,rfl⟩;refine Oa [0,4,5,6,7,8] ?_;refine Oa [0,4,5,6,7,56] ?_;refine Kf ?_ ?_
            · intro c56;have c56:(Xv (i+1)).isPrefixOf ((QO (OY f) i).getD (i+1) [])=false:=by simpa using c56
              rw[hge] at c56;refine Oa [2,3] ?_;refine Oh ?_;exact Zm hS.keeps (fE_good c17 hsf (by omega) c56) (by decide)
            · intro c56;have c56:(Xv (i+1)).isPrefixOf ((QO (OY f) i).getD (i+1) [])=true:=by simpa using c56
              refine Ox [0,4,5,6,7] ?_;refine Oc ?_;refine Oq (hS.rd 0 rfl) (j:=_) rfl (by first|omega|(simp; done)|(simp; omega)) ?_;intro p60 hp60;refine KOps.storeW hS rfl (i:=0) rfl hp60 (by first|omega|(simp; done)|(simp; omega)) ?_;intro h' hS;refine Og ?_;refine Ok ?_;refine Od ?_;refine On [0,4,5,6] ?_;refine Oc ?_;refine Og ?_;refine lpN (i+1) ⟨by omega,?_,?_⟩ (by omega)
              · rw[XP,hg,←hge,c56]; rfl
              · have e:(QO (OY f) i).set (i+1) (if (Xv (i+1)).isPrefixOf ((QO (OY f) i).getD (i+1) [])=true then ((QO (OY f) i).getD (i+1) []).drop (Xv (i+1)).length else (QO (OY f) i).getD (i+1) [])=QO (OY f) (i+1):=by
                  rw[if_pos c56,hge]; rfl
                rw[←e];exact hS
          · intro c41;have hie:i=(OY f).length - 2:=by omega
            have hE:Q2 f=endE f (Q8 (OY f)):=fE_end c17 hsf (by omega) hk0 (hie ▸ hg);subst hie;have hlen2:=X1 (OY f) ((OY f).length - 2);have hlast:(QO (OY f) ((OY f).length - 2)).getD ((OY f).length - 1) []=Q8 (OY f):=UE _ _ _ (by omega);have hem:(Q8 (OY f)).length≤f.length - 1:=Va (getD_mem (by omega));have hf0 : 0<f.length:=by
              rw[List.isSuffixOf_iff_suffix] at hsf;exact hsf.length_le
            have hll:(Q8 (OY f)).length≤1000000:=by omega
            have hel:(if kEnd.isPrefixOf (Q8 (OY f)) then (Q8 (OY f)).drop kEnd.length else Q8 (OY f)).length≤1000000:=by
              split
              · rw[List.length_drop]; omega
              · exact hll
            refine Ki ?_;refine O4 ?_;refine Kh ?_;refine Ka ?_;refine Od ?_;refine On [0,4,5] ?_;refine Oc ?_;refine Oq (hS.rd 0 rfl) (j:=(OY f).length - 1) (by first|omega|(simp; omega)) (by first|omega|(simp; done)|(simp; omega)) ?_;intro p64 hp64;refine O2 hp64 (hS.rd 0 rfl) (by first|omega|(simp; done)|(simp; omega)) ?_;rw[hlast];refine Oi rfl (VG (p:=kEnd) hll (by decide)) ?_;rintro _ _ ⟨rfl,rfl⟩;refine Oa [0,4,5,9,10] ?_;refine Oc ?_;refine Oi rfl (U0 (m:=4) (by decide) hel) ?_;rintro _ hx ⟨rfl,hK⟩;replace hS:St _ _ _:=St.trans hS (St.ofK hK);simp only[List.nil_append] at hS;refine Oa [0,4,5,10,11,12] ?_;refine Ot ?_;refine Oz ?_;refine Oc ?_;refine Oy (dj:=77) rfl rfl false true rfl ?_ ?_
            · intro g77;refine Oc ?_;refine Oy (dj:=81) rfl rfl false true rfl ?_ ?_
              · intro g81;refine Oa [0,4,5,11,74] ?_;refine Ol ?_ ?_
                · intro c74;have hpe:kEnd.isPrefixOf (Q8 (OY f))=true:=by simpa using g77
                  rw[if_pos hpe] at g81 c74;have hnu:KV ((Q8 (OY f)).drop kEnd.length) 4=true:=by simpa using g81
                  rw[if_pos hnu] at c74;refine Oa [2,3] ?_;refine Oh ?_;exact Zm hS.keeps (hE.trans (if_pos (.inr (.inr c74)))) (by decide)
                · intro c74;have hpe:kEnd.isPrefixOf (Q8 (OY f))=true:=by simpa using g77
                  rw[if_pos hpe] at g81 c74;have hnu:KV ((Q8 (OY f)).drop kEnd.length) 4=true:=by simpa using g81
                  rw[if_pos hnu] at c74;refine Oc ?_;refine Oq (hS.rd 0 rfl) (j:=(OY f).length - 1) (by first|omega|(simp; omega)) (by first|omega|(simp; done)|(simp; omega)) ?_;intro p92 hp92;refine O2 hp92 (hS.rd 0 rfl) (by first|omega|(simp; done)|(simp; omega)) ?_;rw[hlast];refine Oc ?_;refine KOps.wHi (j:=f.length - (Q8 (OY f)).length - 1) (by omega) (by omega) ?_;refine Oi rfl (summed_c (by simp; omega)) ?_;rintro _ _ ⟨rfl,rfl⟩;refine Oa [4,5,85] ?_;refine OZ ?_ ?_
                  · intro c85;rw[if_pos hpe,if_pos hnu] at c85;refine Oa [2,3] ?_;refine Oh ?_;exact Zm hS.keeps (hE.trans ((UL hpe hnu c74).trans (if_pos c85))) (by decide)
                  · intro c85;rw[if_pos hpe,if_pos hnu] at c85;have hE0:Q2 f=0:=hE.trans ((UL hpe hnu c74).trans (if_neg (fun h=>h c85)));refine Ov ?_;refine Ok ?_;refine Od ?_;refine On [4,5] ?_;refine OB ?_;refine Oi rfl (new_c) ?_;rintro b h22 hB;obtain⟨vl0,A0,hb0,hSB⟩:=hB;refine Oa [4,5,13] ?_;refine Oc ?_;refine KOps.sliceBoth ((hS.rd 0 rfl).ext hSB.keeps) (m:=(OY f).length) (by rw[JL,hlen2]) (by omega) (by omega) (by omega) ?_;intro v103 hv103;have hp103:WRow hx v103 (QC f):=by
                      have hq:=Rd.part (hS.rd 0 rfl) hv103 (by omega);have e:wcs (QC f)=List.take (((((OY f).length:Int) - 1).toNat - (1:Int).toNat)*1) (List.drop ((1:Int).toNat*1) (wcs (QO (OY f) ((OY f).length - 2)))):=by
                        unfold QC wcs;rw[List.map_take,List.map_drop];congr 1;omega
                      unfold WRow;rw[e]; exact hq
                    have hp103b:=hp103.ext hSB.keeps;have hbl:=fileB_len f;refine O5 hp103b ?_;refine Oa [13,103,104,105] ?_;refine Oz ?_;refine Kj (X:=Nat × AV) (fun x=>[(13,x.2),(103,v103),(104,.int .i64 ((QC f).length:Int)),(105,.int .i64 (x.1:Int))]) (fun x h'=>x.1≤(QC f).length∧(QP [] ((QC f).take x.1)).1=0∧Bk hx h' x.2 ((QC f).take x.1) []) (fun x=>(QC f).length - x.1) (0,b) ?_ ?_
                    · exact⟨Nat.zero_le _,rfl,vl0,A0,hb0,hSB⟩
                    rintro⟨i,b2⟩ h24 ⟨hi,hd,hB⟩;dsimp only at hi hd hB⊢;obtain⟨vl,A,hb,hS5⟩:=hB;have hvk:=hp103.ext hS5.keeps;refine Oc ?_;refine Og ?_;refine Od ?_;refine Ot ?_;refine Ol ?_ ?_
                    · intro c106;have hlt:i<(QC f).length:=by omega
                      have hxl:((QC f).getD i []).length≤1000000:=by
                        rw[fileB_get f (by omega),cutAt,List.length_drop];have:=Va (f:=f) (w:=(OY f).getD (i+1) []) (getD_mem (by omega));omega
                      refine Ox [13,103,104,105] ?_;refine Ot ?_;refine Oz ?_;refine OB ?_;refine Oq hvk (j:=i) rfl (by first|omega|(simp; done)|(simp; omega)) ?_;intro p107 hp107;refine O2 hp107 hvk (by first|omega|(simp; done)|(simp; omega)) ?_;refine Oa [13,15,103,104,105] ?_;refine Oc ?_;refine Oi rfl (QW hb hS5 ((hV.ext hS.keeps).ext hS5.keeps) hxl) ?_;rintro _ h26 ⟨rfl,hB⟩;refine Oa [13,16,103,104,105] ?_;refine Oa [13,16,103,104,105,113] ?_;refine OZ ?_ ?_
                      · intro c113;refine Oa [2,3] ?_;refine Oh ?_;have hr:Zl f=OG ((QC f).take i) ((QC f).getD i []):=by rw[Zl,if_pos hE0]; exact doAll_stop hd hlt c113
                        obtain⟨_,_,_,hS6⟩:=hB;exact .inl ⟨by rw[hr]; exact c113,by rw[hr],hS.keeps.trans hS6.keeps⟩
                      · intro c113;refine Ov ?_;refine Ok ?_;refine Od ?_;refine On [13,103,104,105] ?_;refine Oc ?_;refine Og ?_;obtain⟨e1,e2⟩:=doAll_next hd hlt c113;rw[e2] at hB;exact lpN (i+1,b2) ⟨by dsimp only; omega,e1,hB⟩ (by dsimp only; omega)
                    · intro c106;refine Ki ?_;refine O4 ?_;refine Kh ?_;refine Ka ?_;refine Od ?_;refine On [13] ?_;refine Oa [2,3] ?_;refine Oh ?_;have hie:i=(QC f).length:=by omega
                      subst hie;rw[List.take_length] at hb hS5 hd;exact .inr ⟨by rw[Zl,if_pos hE0]; exact hd,b2,rfl,vl,A,hb,St.drop (St.perm List.perm_append_comm (St.trans hS hS5))⟩
              · intro g81;refine Oa [0,4,5,11,74] ?_;refine Kw ?_;refine Oa [2,3] ?_;refine Oh ?_;exact Zm hS.keeps (hE.trans (if_pos (.inr (.inl (by rw[if_pos (show kEnd.isPrefixOf (Q8 (OY f))=true by simpa using g77)] at g81; exact(by simpa using g81:KV ((Q8 (OY f)).drop kEnd.length) 4=false)))))) (by decide)
            · intro g77;refine Oa [0,4,5,11,74] ?_;refine Kw ?_;refine Oa [2,3] ?_;refine Oh ?_;exact Zm hS.keeps (hE.trans (if_pos (.inl (by simpa using g77)))) (by decide)
      · intro g33;have g33:=of_decide_eq_true g33;refine Oa [0,4,5,38] ?_;refine Kw ?_;refine Oa [2,3] ?_;refine Oh ?_;exact Zm hS.keeps (fE_text c17 hsf (.inl (by omega))) (by decide)
end Go.Am
namespace Go.Am
theorem k1:Q2 [115,112,97,100,105,108,108,101,10,101,110,100,32,56,56,52,10]=17:=by decide +kernel
theorem k2:Q2 [115,112,97,100,105,108,108,101,10,101,110,100,32,48,56,56,51,10]=9:=by decide +kernel
theorem k3:Q2 [115,112,97,100,105,108,108,101,10,101,110,100,32,56,56,51,10]=0:=by decide +kernel
theorem k4:QC [115,112,97,100,105,108,108,101,10,101,110,100,32,56,56,51,10] = []:=by decide +kernel
theorem J7 {f:Str} {e:Int} (h:Q2 f=e) (he:e≠0):Zl f=e:=by rw[Zl,h,if_neg he]
theorem k5:Zl [115,112,97,100,105,108,108,101,10,101,110,100,32,56,56,51,10]=0:=by rw[Zl,if_pos k3,k4]; rfl
theorem k6:(after bLines).whyL sIn 7 = [Ym]∧(after bLines).whyE sIn 7=0:=JM (a:=5) (b:=6) (by decide +kernel)
theorem k7:(after bLines).bnd X4=(0,6,0):=by decide +kernel
theorem q0:OG bLines [114,111,111,109,32,84,97,120]=10:=K6 (by decide +kernel)
theorem q1:OG bLines [114,111,111,109]=5:=K6 (by decide +kernel)
theorem q2:OG bLines [102,108,121,32,120]=8:=K6 (by decide +kernel)
theorem q3:OG bLines [112,97,99,107,32,48,32,105,110]=1:=K6 (by decide +kernel)
theorem q4:OG bLines [108,101,97,115,116,32,105,110,32,49,48,48]=1:=K6 (by decide +kernel)
theorem q5:OG bLines [112,97,99,107,32,48,55,32,105,110]=9:=K6 (by decide +kernel)
theorem q6:OG bLines [119,97,121,32,120,32,116,97,120,32,116,97,120]=13:=K6 (by decide +kernel)
set_option synthInstance.maxSize 2000 in
set_option synthInstance.maxHeartbeats 200000 in
theorem masterKnown_c {h:AHeap} (hV:Vs h):ACalls Go.Proofs.Tryz.prog 8 [] h (fun q h'=>q = .bool true∧Keeps h h'):=by
  refine OC 119 [.tmp 0] Go.Proofs.Tryz.func8 rfl (by decide) rfl rfl (Nat.le_of_ble_eq_true rfl) ?_;have hS:=St.refl h;show KA _ 119 _ _ [] _;refine OB ?_;refine OW ?_;refine Oo [] ?_;refine OB ?_;refine Oi rfl (Ut) ?_;rintro v19 h19 hS;refine Oi rfl (toldX_c (hS.rd 0 rfl) (by decide) (by decide +kernel) (hV.ext hS.keeps)) ?_;rintro _ h5 ⟨b,rfl,hB⟩;have hT1:Qp bLines bLines.length=bLines:=told_B.1;have hT2:QJ bLines bLines.length=true:=told_B.2;rw[hT1] at hB;rw[hT2];obtain⟨vl,A,hb,hS5⟩:=hB;have hSB:St h h5 (Q7 b vl A bLines ++ [⟨v19,1,wcs bLines,true⟩]):=by
    have hx:=St.trans hS hS5;rwa [List.append_nil] at hx
  have hV5:=hV.ext hSB.keeps;have r:=St.rbk hSB hb;clear hS;have hS:=St.refl h5;refine Oj ?_;refine O3 ?_;refine O3 ?_;refine OW ?_;refine OW ?_;refine Oo [1,2] ?_;refine OB ?_;refine Oj ?_;refine Oi rfl (whyB_c (w:=sIn) (r.ext hS.keeps) (hV5.ext hS.keeps)) ?_;rintro _ h8 ⟨v37,rfl,hSN⟩;rw[k6.1] at hSN;rw[k6.2];replace hS:St _ _ (_::_):=St.trans hS hSN;refine Oj ?_;refine O3 ?_;refine O3 ?_;refine OW ?_;refine OW ?_;refine Oo [1,2,3,4] ?_;refine OB ?_;refine Oj ?_;refine Oi rfl (JV (w:=X4) (r.ext hS.keeps)) ?_;rintro _ _ ⟨rfl,rfl⟩;rw[k7,show tup3 (0,6,0)=AV.tup [.int .i64 0,.int .i64 6,.int .i64 0] from rfl];refine Oj ?_;refine O3 ?_;refine O3 ?_;refine O3 ?_;refine OW ?_;refine OW ?_;refine OW ?_;refine Oo [1,2,3,4,5,6,7] ?_;refine OB ?_;refine Oi rfl (JK (f:=[115,112,97,100,105,108,108,101,10,101,110,100,32,56,56,52,10]) (by decide) (hV5.ext hS.keeps)) ?_;rintro q11 h11 hR;rw[J7 k1 (by decide)] at hR;obtain⟨_,rfl,hK⟩:=hR.resolve_right (fun h=>absurd h.1 (by decide));have hS0:=St.on hS hK;clear hS;have hS:=hS0;clear hS0;refine Oj ?_;refine O3 ?_;refine O3 ?_;refine OW ?_;refine OW ?_;refine Oo [1,2,3,4,5,6,7,9] ?_;refine OB ?_;refine Oi rfl (JK (f:=[115,112,97,100,105,108,108,101,10,101,110,100,32,48,56,56,51,10]) (by decide) (hV5.ext hS.keeps)) ?_;rintro q12 h12 hR;rw[J7 k2 (by decide)] at hR;obtain⟨_,rfl,hK⟩:=hR.resolve_right (fun h=>absurd h.1 (by decide));have hS0:=St.on hS hK;clear hS;have hS:=hS0;clear hS0;refine Oj ?_;refine O3 ?_;refine O3 ?_;refine OW ?_;refine OW ?_;refine Oo [1,2,3,4,5,6,7,9,11] ?_;refine OB ?_;refine Oi rfl (JK (f:=[115,112,97,100,105,108,108,101,10,101,110,100,32,56,56,51,10]) (by decide) (hV5.ext hS.keeps)) ?_;rintro q13 h13 hR;obtain⟨_,b12,rfl,hB12⟩:=hR.resolve_left (fun h=>h.1 k5);obtain⟨vl12,A12,hb12,hS12⟩:=hB12;have hw3:WRow h13 v37 [Ym]:=(hS.rd 0 rfl).ext hS12.keeps;have hSB0:St h h13 (Q7 b vl A bLines ++ [⟨v19,1,wcs bLines,true⟩]):=St.drop (St.drop (St.trans (St.trans hSB hS) hS12));clear hSB hS;have hSB:=hSB0;have hS:=St.refl h13;clear hSB0;refine Oj ?_;refine O3 ?_;refine O3 ?_;refine OW ?_;refine OW ?_;refine Oo [1,2,3,4,5,6,7,9,11,12,13] ?_;refine OB ?_;refine Oj ?_;refine Oj ?_;refine Of (dj:=43) rfl rfl ?_;refine Oj ?_;refine Of (dj:=43) rfl rfl ?_;refine KW (by first|rfl|decide) ?_;refine O6 ?_;refine Oj ?_;refine Of (dj:=47) rfl rfl ?_;refine Oj ?_;refine Of (dj:=47) rfl rfl ?_;refine KW (by first|rfl|decide) ?_;refine O6 ?_;refine Oj ?_;refine Of (dj:=51) rfl rfl ?_;refine Oj ?_;refine Of (dj:=51) rfl rfl ?_;refine KW (by first|rfl|decide) ?_;refine O6 ?_;refine Oj ?_;refine Of (dj:=55) rfl rfl ?_;refine Oj ?_;refine Of (dj:=55) rfl rfl ?_;refine KW (by first|rfl|decide) ?_;refine O6 ?_;refine Oj ?_;refine Of (dj:=59) rfl rfl ?_;refine Oj ?_;refine Of (dj:=59) rfl rfl ?_;refine KW (by first|rfl|decide) ?_;refine O6 ?_;refine Oj ?_;refine Of (dj:=63) rfl rfl ?_;refine Oj ?_;refine Of (dj:=63) rfl rfl ?_;refine KOps.ptrNeN rfl hb12.ad ?_;refine O6 ?_;refine Oj ?_;refine Of (dj:=67) rfl rfl ?_;refine Oj ?_;refine Of (dj:=67) rfl rfl ?_;refine OS hS rfl (by decide) rfl ?_;intro v69 h' hS;refine Of (dj:=67) rfl rfl ?_;refine Oi rfl (XK) ?_;rintro _ _ ⟨rfl,rfl⟩;refine Of (dj:=67) rfl rfl ?_;refine Oi rfl (Yt (a:=[Ym]) (b:=[Ym]) (hw3.ext hS.keeps) (hS.rd 0 rfl) (by decide)) ?_;rintro _ _ ⟨rfl,rfl⟩;rw[show decide _=true from by decide];refine O6 ?_;refine Oj ?_;refine Of (dj:=73) rfl rfl ?_;refine Oj ?_;refine Of (dj:=73) rfl rfl ?_;refine KW (by first|rfl|decide) ?_;refine O6 ?_;refine Oj ?_;refine Of (dj:=77) rfl rfl ?_;refine Oj ?_;refine Of (dj:=77) rfl rfl ?_;refine KW (by first|rfl|decide) ?_;refine O6 ?_;refine Oj ?_;have hSB2:=St.drop (St.trans hSB hS);clear hSB hS;have hSB:=hSB2;clear hSB2;refine Of (dj:=81) rfl rfl ?_;refine Oj ?_;refine Of (dj:=81) rfl rfl ?_;refine Oi rfl (QW (line:=[114,111,111,109,32,84,97,120]) hb hSB (hV.ext hSB.keeps) (by decide)) ?_;rintro _ _ ⟨rfl,hB⟩;rw[show OG bLines [114,111,111,109,32,84,97,120]=_ from q0];rw[Zc (show OG bLines [114,111,111,109,32,84,97,120]=_ from q0) (by decide)] at hB;clear hb hSB;obtain⟨vl,A,hb,hSB⟩:=hB;refine Of (dj:=81) rfl rfl ?_;refine KW (by first|rfl|decide) ?_;refine O6 ?_;refine Oj ?_;refine Of (dj:=86) rfl rfl ?_;refine Oj ?_;refine Of (dj:=86) rfl rfl ?_;refine Oi rfl (QW (line:=[114,111,111,109]) hb hSB (hV.ext hSB.keeps) (by decide)) ?_;rintro _ _ ⟨rfl,hB⟩;rw[show OG bLines [114,111,111,109]=_ from q1];rw[Zc (show OG bLines [114,111,111,109]=_ from q1) (by decide)] at hB;clear hb hSB;obtain⟨vl,A,hb,hSB⟩:=hB;refine Of (dj:=86) rfl rfl ?_;refine KW (by first|rfl|decide) ?_;refine O6 ?_;refine Oj ?_;refine Of (dj:=91) rfl rfl ?_;refine Oj ?_;refine Of (dj:=91) rfl rfl ?_;refine Oi rfl (QW (line:=[102,108,121,32,120]) hb hSB (hV.ext hSB.keeps) (by decide)) ?_;rintro _ _ ⟨rfl,hB⟩;rw[show OG bLines [102,108,121,32,120]=_ from q2];rw[Zc (show OG bLines [102,108,121,32,120]=_ from q2) (by decide)] at hB;clear hb hSB;obtain⟨vl,A,hb,hSB⟩:=hB;refine Of (dj:=91) rfl rfl ?_;refine KW (by first|rfl|decide) ?_;refine O6 ?_;refine Oj ?_;refine Of (dj:=96) rfl rfl ?_;refine Oj ?_;refine Of (dj:=96) rfl rfl ?_;refine Oi rfl (QW (line:=[112,97,99,107,32,48,32,105,110]) hb hSB (hV.ext hSB.keeps) (by decide)) ?_;rintro _ _ ⟨rfl,hB⟩;rw[show OG bLines [112,97,99,107,32,48,32,105,110]=_ from q3];rw[Zc (show OG bLines [112,97,99,107,32,48,32,105,110]=_ from q3) (by decide)] at hB;clear hb hSB;obtain⟨vl,A,hb,hSB⟩:=hB;refine Of (dj:=96) rfl rfl ?_;refine KW (by first|rfl|decide) ?_;refine O6 ?_;refine Oj ?_;refine Of (dj:=101) rfl rfl ?_;refine Oj ?_;refine Of (dj:=101) rfl rfl ?_;refine Oi rfl (QW (line:=[108,101,97,115,116,32,105,110,32,49,48,48]) hb hSB (hV.ext hSB.keeps) (by decide)) ?_;rintro _ _ ⟨rfl,hB⟩;rw[show OG bLines [108,101,97,115,116,32,105,110,32,49,48,48]=_ from q4];rw[Zc (show OG bLines [108,101,97,115,116,32,105,110,32,49,48,48]=_ from q4) (by decide)] at hB;clear hb hSB;obtain⟨vl,A,hb,hSB⟩:=hB;refine Of (dj:=101) rfl rfl ?_;refine KW (by first|rfl|decide) ?_;refine O6 ?_;refine Oj ?_;refine Of (dj:=106) rfl rfl ?_;refine Oj ?_;refine Of (dj:=106) rfl rfl ?_;refine Oi rfl (QW (line:=[112,97,99,107,32,48,55,32,105,110]) hb hSB (hV.ext hSB.keeps) (by decide)) ?_;rintro _ _ ⟨rfl,hB⟩;rw[show OG bLines [112,97,99,107,32,48,55,32,105,110]=_ from q5];rw[Zc (show OG bLines [112,97,99,107,32,48,55,32,105,110]=_ from q5) (by decide)] at hB;clear hb hSB;obtain⟨vl,A,hb,hSB⟩:=hB;refine Of (dj:=106) rfl rfl ?_;refine KW (by first|rfl|decide) ?_;refine O6 ?_;refine Oj ?_;refine Of (dj:=111) rfl rfl ?_;refine Oj ?_;refine Of (dj:=111) rfl rfl ?_;refine Oi rfl (QW (line:=[119,97,121,32,120,32,116,97,120,32,116,97,120]) hb hSB (hV.ext hSB.keeps) (by decide)) ?_;rintro _ _ ⟨rfl,hB⟩;rw[show OG bLines [119,97,121,32,120,32,116,97,120,32,116,97,120]=_ from q6];rw[Zc (show OG bLines [119,97,121,32,120,32,116,97,120,32,116,97,120]=_ from q6) (by decide)] at hB;clear hb hSB;obtain⟨vl,A,hb,hSB⟩:=hB;refine Of (dj:=111) rfl rfl ?_;refine KW (by first|rfl|decide) ?_;refine O6 ?_;refine Oj ?_;refine Of (dj:=116) rfl rfl ?_;refine Oi rfl (works_c (hV.ext hSB.keeps)) ?_;rintro _ hx ⟨rfl,hK⟩;refine O6 ?_;refine OW ?_;refine Oo [0] ?_;refine KA.ret ?_;refine fnQ.ret1 ?_;exact⟨rfl,hSB.keeps.trans hK⟩
end Go.Am
