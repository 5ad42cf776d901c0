/-
  Tops: turned from layer 14: Cp.
  Conditions: none.
-/
import Derived.Test.YtdfhmdhjeiipfaaGreatDoorQOe
import Derived.WalkKit
import Derived.BigCall
import Derived.Lib.ConvBytes
import Derived.Laws.Concat
import Derived.Lib.ItoaLen
import Derived.Test.YtdfhmdhjeiipfaaGreatDoorXCua
open Array renaming getElem?_eq_none → fI
open ByteArray renaming mk → fD
open Go.Lib renaming itoa → dP, pow10Tab → dZ, IsBuilderF → fA, cell_of_heap → fO, TabIs → fB, BuilderAtF → fG, strCells → fN, byteCells → fV
open Go.Op renaming stringOp → dX
open Go.Oper renaming upon_value → fC
open Go.Result renaming andThen → fF
open List renaming getD_eq_getElem?_getD → dU, length_cons → dM, getElem?_eq_getElem → dN, length_nil → dQ, length_append → dR, length_map → dS, take_of_length_le → dV, getElem?_map → fE, perm_append_comm → fU, length_filter_le → fY, set_cons_zero → fH, set_cons_succ → fJ, getElem?_eq_none_iff → fK, all_eq_true → fL, length_take → fM, filter_cons_of_pos → fP, filter_cons_of_neg → fQ, map_append → fS, range → fT, filter_append → fZ, getElem?_take → gE, getElem?_drop → gI, take_add_one → gO, range_succ → gU, mem_range → gY
open Nat renaming le_of_ble_eq_true → dO, zero_le → dT, le_refl → dW, not_lt_zero → fR, zero_add → fW, le_trans → fX, lt_or_ge → gA
open Option.some renaming inj → dY
set_option maxRecDepth 99999
set_option maxHeartbeats 4000000
namespace Go.Am
theorem opened_cQ {h:AHeap}:ACalls Go.Proofs.Tryz.prog 83 [] h (fun q h'=>∃ A,q=A.po∧AOk A off0∧St h h' (Ks A off0)):=by
 refine OI 6 [.tmp 0] Go.Proofs.Tryz.func83 rfl aE rfl rfl (dO rfl) ?_;have hS:=St.refl h;show KA _ 6 _ _ [] _;refine Oa [] ?_;refine Oq ?_;refine KOps.makeMapD hS rfl ?_;intro v1 h' hv1 hS;refine KOps.makeMapD hS rfl ?_;intro v2 h' hv2 hS;refine KOps.makeMapD hS rfl ?_;intro v3 h' hv3 hS;have ho1:v1.one=true:=by obtain⟨_,rfl⟩:=hv1; rfl
 have ho2:v2.one=true:=by obtain⟨_,rfl⟩:=hv2; rfl
 have ho3:v3.one=true:=by obtain⟨_,rfl⟩:=hv3; rfl
 refine OQ (zs:=[.nils,.nils,.nilm,.nilm,.nilm,.nils]) (cs:=[_,_,_,_,_,_]) aC aH aC (.cons (off:=2) (s:=1) aC (AV.cells_one aG) rfl aE (.cons (off:=3) (s:=1) aC (AV.cells_one aG) rfl aE (.cons (off:=4) (s:=1) aC (AV.cells_one aG) rfl aE .nil))) aH ?_;refine OJ hS (by show(true && (true && (v1.one && (v2.one && (v3.one && (true && true))))))=true; rw[ho1,ho2,ho3]; rfl) ?_;intro p5 h' hp5 hS;refine Oa [0] ?_;refine Oh ?_;have hS1:=St.addNil 1 true (St.addNil 1 true (St.addNil 1 true hS));have hS2:=St.pick (objs':=Ks ⟨p5,.nils,.nils,v1,v2,v3,.nils,[],[]⟩ off0) [0,4,5,3,2,1,6] aE rfl hS1;exact⟨_,rfl,⟨hp5,hv1,hv2,hv3,rfl,fun i hi=>absurd hi (fR i),rfl,fun i hi=>absurd hi (fR i)⟩,hS2⟩
theorem new_c {h:AHeap}:ACalls Go.Proofs.Tryz.prog 48 [] h (fun b h'=>Bk h h' b [] []):=by
 refine OI 4 [.tmp 0] Go.Proofs.Tryz.func48 rfl aE rfl rfl (dO rfl) ?_;have hS:=St.refl h;show KA _ 4 _ _ [] _;refine Oa [] ?_;refine Oq ?_;refine Ol rfl (opened_cQ) ?_;rintro _ h5 ⟨A,rfl,ok,hS5⟩;clear hS;have hS:=hS5;have hpo:A.po.one=true:=by obtain⟨_,_,e⟩:=Uj ok.po; rw[e]; rfl
 refine OQ (zs:=[.nilp,.nils]) (cs:=[_,_]) aC aH aC (.cons (off:=0) (s:=1) aC (AV.cells_one aG) rfl aE .nil) aH ?_;refine OJ hS (by show(A.po.one && true)=true; rw[hpo]; rfl) ?_;intro p3 h' hp3 hS;refine Oa [0] ?_;refine Oh ?_;have hS1:=St.addNil 1 true hS;refine⟨.nils,A,⟨hp3,ok,.nil⟩,St.perm ?_ hS1⟩;show((_::Ks A off0) ++ [_]).Perm _;rw[XH,List.append_nil];exact List.Perm.cons _ (fU (l₁:=Ks A off0) (l₂:=[_]))
theorem askedB_c {h0 h:AHeap} {b vl:AV} {A:OA} {lines:List Str} {G:List Obj} {line:Str} (hb:BOk2 b A lines) (st:St h0 h (XH b vl A lines ++ G)) (hV:Vs h) (hl:line.length≤1000000):ACalls Go.Proofs.Tryz.prog 57 [b,.str (wdQ line)] h (fun q h'=>∃ v,q = .tup [v,.int .i64 (KQ lines line)]∧(KQ lines line=0→v=KJ (Qa line))∧St h0 h' (XH b vl A lines ++ G)):=by
 refine OI 38 [.tmp 4,.tmp 5] Go.Proofs.Tryz.func57 rfl aE rfl rfl (dO rfl) ?_;have hS:=st;have hwf:=hb.done.wf.1;have hll:=hb.done.wf.2.1;show KA _ 38 _ _ [(0,b),(1,.str (wdQ line))] _;refine bw ?_;refine Ol rfl (none_c (St.rbk hS hb).bk hb.ok.po) ?_;rintro _ _ ⟨rfl,rfl⟩;refine On [0,1,9] ?_;refine OP ?_;refine OC [0,1] ?_;refine Oc ?_;refine Ol rfl (read_c hV.mx hl) ?_;rintro _ h8 ⟨⟨v,hv1,rfl,hv⟩,hK⟩;have hS0:=St.on hS hK;clear hS;have hS:=hS0;clear hS0;refine Oa [0,6,7] ?_;refine KA.meet (X:=AV) (fun y=>[(0,b),(6,y),(7,.int .i64 (if KH line=0 then (after lines).wrong (Qa line) else KH line))]) (fun y h'=>(KH line=0→y=KJ (Qa line))∧St h0 h' (XH b vl A lines ++ G)) ?_ ?_
 ·
   refine Oa [0,6,7,16] ?_;refine Om ?_ ?_;intro c16;obtain⟨ty,xx,f,hv2,hm1,hc1⟩:=wrongs (G:=_::_::G) (St.perm (WO _ _ _ _) hS) hb.ok hwf (Qa line);rw[hv c16,hv2];refine OR [] mixed rfl aC ?_;refine Oc ?_;refine Ou hb.ad ?_;refine Ob hb.ad ?_;intro p20 hp20;refine Oe hp20 (St.rbk hS hb).rd rfl ?_;refine KOps.makeFmeth ?_;refine KOps.nilMeth (by rw[hm1]; rfl) ?_;refine Of ?_;refine KOps.callI rfl hm1 hc1 ?_;rintro _ h9 ⟨rfl,hS9⟩;clear hS;have hS:St h0 h9 (XH b vl A lines ++ G):=St.perm (WO _ _ _ _).symm hS9;refine Ov ?_;refine Og ?_;exact mtQ.normal _ (by repeat (first|exact Sub.nil _|refine Sub.cons Look.eq ?_|refine Sub.cons (Eq.trans Look.eq (congrArg (AV.int _) aK)) ?_|refine Sub.cons (Eq.trans Look.eq (by rw[if_pos c16])) ?_)) ⟨by first|exact fun _=>rfl|exact fun _=>hv2.symm,hS⟩;intro c16;refine OB ?_;exact mtQ.normal _ (by repeat (first|exact Sub.nil _|refine Sub.cons Look.eq ?_|refine Sub.cons (Eq.trans Look.eq (congrArg (AV.int _) aK)) ?_|refine Sub.cons (Eq.trans Look.eq (by rw[if_neg c16])) ?_)) ⟨hv,hS⟩
 ·
   rintro y h7 ⟨hv7,hS⟩;refine Oc ?_;refine Ow (dj:=28) rfl rfl true false rfl ?_ ?_;intro g28;have g28:=of_decide_eq_true g28;refine Oc ?_;refine Ou hb.ad ?_;refine Oi (dj:=28) rfl rfl ?_;refine Ob hb.ad ?_;intro p31 hp31;refine Oi (dj:=28) rfl rfl ?_;refine Oe hp31 (St.rbk hS hb).rd rfl ?_;refine Oi (dj:=28) rfl rfl ?_;refine Kk (St.rbk hS hb).log ?_;refine Oa [6,7,35] ?_;refine Om ?_ ?_;intro c35;refine Oa [6,7] ?_;refine cI ?_;have ha:KQ lines line=16:=if_pos ⟨g28,by omega⟩;exact⟨y,by rw[ha],fun h=>by rw[ha] at h; exact absurd h aE,hS⟩;intro c35;refine OC [6,7] ?_;refine cI ?_;have ha:KQ lines line=(if KH line=0 then (after lines).wrong (Qa line) else KH line):=if_neg (fun hx=>c35 aA);exact⟨y,by rw[ha],fun h=>hv7 (Y3 h).1,hS⟩;intro g28;have g28:=of_decide_eq_false g28;refine Oa [6,7,35] ?_;refine OP ?_;refine OC [6,7] ?_;refine cI ?_;have ha:KQ lines line=(if KH line=0 then (after lines).wrong (Qa line) else KH line):=if_neg (fun hx=>g28 hx.1);exact⟨y,by rw[ha],fun h=>hv7 (Y3 h).1,hS⟩
theorem do_c {h0 h:AHeap} {b vl:AV} {A:OA} {lines:List Str} {G:List Obj} {line:Str} (hb:BOk2 b A lines) (st:St h0 h (XH b vl A lines ++ G)) (hV:Vs h) (hl:line.length≤1000000):ACalls Go.Proofs.Tryz.prog 29 [b,.str (wdQ line)] h (fun q h'=>q = .int .i64 (KQ lines line)∧Bk h0 h' b (doL lines line) G):=by
 refine OI 35 [.tmp 4] Go.Proofs.Tryz.func29 rfl aE rfl rfl (dO rfl) ?_;have hS:=st;have hwf:=hb.done.wf.1;have hll:=hb.done.wf.2.1;show KA _ 35 _ _ [(0,b),(1,.str (wdQ line))] _;refine bw ?_;refine Ol rfl (askedB_c hb hS hV hl) ?_;rintro _ h8 ⟨v,rfl,hv,hS8⟩;clear hS;have hS:=hS8;refine Oa [0,1,5,6] ?_;refine Oa [0,1,5,6,14] ?_;refine Kc ?_ ?_;intro c14;refine bV ?_;have hd:doL lines line=lines:=if_neg c14;rw[hd];exact⟨rfl,vl,A,hb,hS⟩
 ·intro c14;obtain⟨hre,hwr,h100⟩:=Y3 c14;obtain⟨ty,xx,f,hv2,hm1,hc1⟩:=tells (G:=_::_::G) (St.perm (WO _ _ _ _) hS) hb.ok hwf (Qa line) hwr;rw[hv c14,hv2];replace hS:St h0 _ (⟨b,0,[A.po,vl],true⟩::⟨vl,1,wcsQ lines,true⟩::(Ks A (after lines) ++ G)):=hS;refine OC [0,1,5] ?_;refine bX ?_;refine Oc ?_;refine Ou hb.ad ?_;refine Ob hb.ad ?_;intro p19 hp19;refine Oe hp19 (hS.rd 0 rfl) rfl ?_;refine KOps.makeFmeth ?_;refine KOps.nilMeth (by rw[hm1]; rfl) ?_;refine Of ?_;refine KOps.callI rfl hm1 hc1 ?_;rintro _ h9 ⟨A2,hpo,ok2,hS9⟩;clear hS;have hS:St h0 h9 (⟨b,0,[A.po,vl],true⟩::⟨vl,1,wcsQ lines,true⟩::(Ks A2 ((after lines).tell (Qa line)) ++ G)):=St.perm (WO _ _ _ _).symm hS9;refine On [0,1] ?_;refine Oc ?_;refine Ou hb.ad ?_;refine Ob hb.ad ?_;intro p28 hp28;refine Oe hp28 (hS.rd 0 rfl) rfl ?_;refine Of ?_;refine bo ?_;intro v31 h' hS;refine QL hS (fun _=>rfl) (i:=1) rfl aF ?_;intro r32 h' hr32 hS;refine Ou hb.ad ?_;refine Ob hb.ad ?_;intro p34 hp34;refine KY hS rfl (i:=0) rfl hp34 aG aV ?_;intro h' hS;simp only[fH,fJ,fW] at hS;refine On [] ?_;refine bc ?_;refine Oh ?_;have hd:doL lines line=lines ++ [line]:=if_pos c14;rw[hd];refine⟨by rw[c14],r32,A2,⟨hb.ad,by rw[Xo]; exact ok2,.snoc hb.done c14⟩,?_⟩;unfold XH;rw[Xo,hpo];exact hS
end Go.Am
namespace Go.Am
noncomputable def Off.spn (O:Off) (w:Str):Int × Int × Int:=match OG O.ways w with
  | none=>(0,0,2)
  | some l=>(O.spLo l.pl,O.spHi l.pl,0)
def tup3 (x:Int × Int × Int):AV:=.tup [.int .i64 x.1,.int .i64 x.2.1,.int .i64 x.2.2]
theorem spn_none {O:Off} {w:Str} (h:OG O.ways w=none):O.spn w=(0,0,2):=by unfold Off.spn; rw[h]
theorem U8 {O:Off} {w:Str} {l:Lane} (h:OG O.ways w=some l):O.spn w=(O.spLo l.pl,O.spHi l.pl,0):=by unfold Off.spn; rw[h]
theorem spanB_c {h:AHeap} {b vl:AV} {A:OA} {lines:List Str} (r:RBk h b vl A lines) {w:Str}:ACalls Go.Proofs.Tryz.prog 30 [b,.str (wdQ w)] h (fun q h'=>q=tup3 ((after lines).spn w)∧Keeps h h'):=by
 refine OI 28 [.tmp 4,.tmp 5,.tmp 6] Go.Proofs.Tryz.func30 rfl aE rfl rfl (dO rfl) ?_;have hwf:=r.wf;have hll:=r.done.wf.2.1;have hr6:=hwf.rooms;have hw12:=hwf.ways;show KA _ 28 _ _ [(0,b),(1,.str (wdQ w))] _;refine bw ?_;refine Ol rfl (way_c r.bk r.off) ?_;rintro _ _ ⟨rfl,rfl⟩;refine Oa [0,6,7] ?_;refine Oa [0,6,7,15] ?_;refine Kc ?_ ?_
 ·intro c15;have hnn:(OG (after lines).ways w).isNone=true:=by
   cases hx:(OG (after lines).ways w).isNone
   ·first|rfl|(exfalso; rw[hx] at c15; simp at c15; done)
   ·first|rfl|(exfalso; rw[hx] at c15; simp at c15; done)
  have hm:=Y0 hnn;refine Oa [4,5,6] ?_;refine Oh ?_;rw[spn_none hm,hnn]; exact⟨rfl,Keeps.refl _⟩
 ·intro c15;have hnn:(OG (after lines).ways w).isNone=false:=by
   cases hx:(OG (after lines).ways w).isNone
   ·first|rfl|(exfalso; rw[hx] at c15; simp at c15; done)
   ·first|rfl|(exfalso; rw[hx] at c15; simp at c15; done)
  obtain⟨l,hm⟩:=YZ hnn;rw[Qm hm];refine OC [0,7] ?_;refine Oc ?_;refine cw ?_;intro p20 hp20;refine Oe hp20 r.rd rfl ?_;refine Of ?_;refine Ol rfl (Ur r.off hwf (r.off.way hm)) ?_;rintro _ h9 ⟨rfl,hK⟩;refine Oa [4,5] ?_;refine Oa [4,5,6] ?_;refine Oh ?_;rw[U8 hm]; exact⟨rfl,hK⟩
end Go.Am
namespace Go.Am
noncomputable def Off.sureB (O:Off) (p:Str × Lane):Bool:=decide (O.spLo p.2.pl=O.spHi p.2.pl)
noncomputable def Off.sureL (O:Off):List Str:=(O.ways.filter O.sureB).map (·.1)
def Off.toldN (O:Off) (w:Str):Int:=match OG O.ways w with
  | none=>0
  | some l=>l.told.getD 0
theorem bestTo_lt {p:Nat→Bool}:∀ {k b:Nat},QC p k=some b→b<k:=by
 intro k
 induction k with
 | zero=>intro b h; cases h
 | succ k ih=>
  intro b h;rw[QC] at h;split at h
  cases h; omega
  have:=ih h; omega
theorem roomsTo_lt:∀ r:Nat,r≤6→∀ b:Nat,b<2 ^ r→(Kz b 6).all (fun x=>decide (0≤x∧x<r))=true:=by decide +kernel
theorem Vv {rm:Int} {ws:List W} {i:Int} {g:Bool} (h0 : 0≤rm) (h6:rm≤6):∀ x∈Kp rm ws i g,0≤x∧x<rm:=by
 intro x hx;unfold Kp at hx;split at hx;split at hx;cases hx;unfold fewL at hx;split at hx;cases hx;rename_i b hb;have:=fL.1 (roomsTo_lt rm.toNat aA b (bestTo_lt hb)) x hx;simp only[decide_eq_true_eq] at this;omega;cases hx
theorem V3 {rm:Int} {ws:List W} {i:Int} {g:Bool}:(Kp rm ws i g).length≤6:=by
 unfold Kp;split;split;exact dT _;unfold fewL;split;exact dT _;rename_i b hb;have:∀ n,(Kz b n).length≤n:=by
  intro n;unfold Kz;rw[dS];exact fX (fY _ _) (by rw[List.length_range]; exact dW _)
 exact this 6;exact dT _
def Off.rn (O:Off) (l:List Int):List Str:=l.map fun x=>O.rooms.getD x.toNat []
noncomputable def Off.whyE (O:Off) (w:Str) (n:Int):Int:=match OG O.ways w with
  | none=>2
  | some l=>if O.spLo l.pl≤n∧n≤O.spHi l.pl then 13 else 0
noncomputable def Off.whyL (O:Off) (w:Str) (n:Int):List Str:=match OG O.ways w with
  | none=>[]
  | some l=>if O.spLo l.pl≤n∧n≤O.spHi l.pl then [] else O.rn (Kp O.rm O.ws l.pl (decide (O.spHi l.pl<n)))
end Go.Am
namespace Go.Am
theorem WY {α:Type} {l:List α} {i:Nat} {d : α} (h:i<l.length):l.take i ++ [l.getD i d]=l.take (i+1):=by
 rw[gO,dU,dN h]; rfl
theorem rn_next {O:Off} {l:List Int} {i:Nat} (h:i<l.length):O.rn (l.take i) ++ [O.rooms.getD (l.getD i 0).toNat []]=O.rn (l.take (i+1)):=by
 unfold Off.rn;rw[←WY (d:=(0:Int)) h,fS];rfl
noncomputable def Off.sureTo (O:Off) (i:Nat):List Str:=((O.ways.take i).filter O.sureB).map (·.1)
theorem UN {O:Off} {i:Nat} (h:i<O.ways.length):O.sureTo (i+1)=if O.spLo (O.ways.getD i default).2.pl=O.spHi (O.ways.getD i default).2.pl then O.sureTo i ++ [(O.ways.getD i default).1] else O.sureTo i:=by
 unfold Off.sureTo;rw[←WY (d:=default) h,fZ,fS];by_cases hc:O.spLo (O.ways.getD i default).2.pl=O.spHi (O.ways.getD i default).2.pl;rw[if_pos hc];have:O.sureB (O.ways.getD i default)=true:=decide_eq_true hc;rw[fP this];rfl;rw[if_neg hc];have:¬ O.sureB (O.ways.getD i default)=true:=fun h=>hc (of_decide_eq_true h)
 rw[fQ this];simp
theorem sureTo_len {O:Off} (i:Nat):(O.sureTo i).length≤O.ways.length:=by
 unfold Off.sureTo;rw[dS];exact fX (fY _ _) (by rw[fM]; omega)
theorem sureB_c {h:AHeap} {b vl:AV} {A:OA} {lines:List Str} (r:RBk h b vl A lines):ACalls Go.Proofs.Tryz.prog 35 [b] h (fun q h'=>St h h' [⟨q,1,wcsQ (after lines).sureL,true⟩]):=by
 refine OI 48 [.tmp 2] Go.Proofs.Tryz.func35 rfl aE rfl rfl (dO rfl) ?_;have hwf:=r.wf;have hll:=r.done.wf.2.1;have hr6:=hwf.rooms;have hw12:=hwf.ways;have hS:=St.refl h;have hnl:((after lines).ways.map (·.1)).length=(after lines).ways.length:=dS _;show KA _ 48 _ _ [(0,b)] _;refine Oa [0] ?_;refine Oc ?_;refine Ol rfl (none_c r.bk r.off.ok.po) ?_;rintro _ _ ⟨rfl,rfl⟩;refine On [0,9] ?_;refine OP ?_;refine OC [0] ?_;refine bc ?_;refine Oc ?_;refine cw ?_;intro p12 hp12;refine Oe hp12 r.rd rfl ?_;refine Ou r.off.ok.po ?_;refine Ob r.off.ok.po ?_;intro p15 hp15;refine Oe hp15 r.off.off rfl ?_;refine Kk r.off.names ?_;refine Oa [0,3,16,17,18] ?_;refine Oz ?_;refine Kb (X:=Nat × AV) (fun x=>[(0,b),(3,x.2),(16,A.vn),(17,.int .i64 ((after lines).ways.length:Int)),(18,.int .i64 (x.1:Int))]) (fun x h'=>x.1≤(after lines).ways.length∧St h h' [⟨x.2,1,wcsQ ((after lines).sureTo x.1),true⟩]) (fun x=>(after lines).ways.length - x.1) (0,.nils) ?_ ?_;exact⟨dT _,St.addNil 1 true hS⟩;rintro⟨i,vo⟩ h3 ⟨hi,hS⟩;dsimp only at hi hS⊢;refine cM ?_;refine Om ?_ ?_
 ·intro c19;have hlt:i<(after lines).ways.length:=by omega
  have hsl:=sureTo_len (O:=after lines) i;refine OC [0,3,16,17,18] ?_;refine ch ?_;refine OD (r.ext hS.keeps).off.names (j:=i) rfl aF ?_;intro p20 hp20;refine Kv hp20 (r.ext hS.keeps).off.names aF ?_;refine Oa [0,3,5,16,17,18] ?_;refine cT ?_;refine cw ?_;intro p25 hp25;refine Oe hp25 (r.ext hS.keeps).rd rfl ?_;refine Of ?_;refine cw ?_;intro p29 hp29;refine Oe hp29 (r.ext hS.keeps).rd rfl ?_;refine Ou r.off.ok.po ?_;refine Ob r.off.ok.po ?_;intro p32 hp32;refine Oe hp32 (r.ext hS.keeps).off.off rfl ?_;refine Of ?_;refine KOps.lookDS (a:=((after lines).ways.getD i default).1) (Eq.trans EvK.eq (congrArg (fun x=>AV.str (wdQ x)) (U4 (after lines) hlt))) (r.ext hS.keeps).off.ways (way_at r.off.ok hwf.nd hlt) ?_;refine Ol rfl (Ur (r.ext hS.keeps).off hwf ((r.ext hS.keeps).off.lane i hlt)) ?_;rintro _ h9 ⟨rfl,hK⟩;have hS0:=St.on hS hK;clear hS;have hS:=hS0;clear hS0;refine Oa [0,3,5,6,7,16,17,18] ?_;refine Oa [0,3,5,16,17,18,41] ?_;refine Om ?_ ?_
  ·intro c41;refine Oc ?_;refine bo ?_;intro v44 h' hS;refine QL hS (fun _=>rfl) (i:=0) rfl aF ?_;intro r45 h' hr45 hS;refine Ov ?_;refine cU ?_;refine Ox [0,3,16,17,18] ?_;refine bT ?_;have e3:=UN hlt;rw[if_pos c41] at e3;rw[U4 _ hlt,←e3] at hS;exact lpN (i+1,r45) ⟨by dsimp only; omega,hS⟩ aI
  intro c41;refine b3 ?_;refine Ox [0,3,16,17,18] ?_;refine bT ?_;have e3:=UN hlt;rw[if_neg c41] at e3;rw[←e3] at hS;exact lpN (i+1,vo) ⟨by dsimp only; omega,hS⟩ aI
 intro c19;refine bP ?_;refine Ox [3] ?_;refine bW ?_;have hie:i=(after lines).ways.length:=by omega
 subst hie;unfold Off.sureTo at hS;rw[dV (dW _)] at hS;exact hS
theorem whyB_c {h:AHeap} {b vl:AV} {A:OA} {lines:List Str} (r:RBk h b vl A lines) (hV:Vs h) {w:Str} {n:Int}:ACalls Go.Proofs.Tryz.prog 34 [b,.str (wdQ w),.int .i64 n] h (fun q h'=>∃ v,q = .tup [v,.int .i64 ((after lines).whyE w n)]∧St h h' [⟨v,1,wcsQ ((after lines).whyL w n),true⟩]):=by
 refine OI 80 [.tmp 6,.tmp 7] Go.Proofs.Tryz.func34 rfl aE rfl rfl (dO rfl) ?_;have hwf:=r.wf;have hll:=r.done.wf.2.1;have hr6:=hwf.rooms;have hw12:=hwf.ways;have hS:=St.refl h;show KA _ 80 _ _ [(0,b),(1,.str (wdQ w)),(2,.int .i64 n)] _;refine Oa [0,1,2] ?_;refine Oc ?_;refine Ol rfl (way_c r.bk r.off) ?_;rintro _ _ ⟨rfl,rfl⟩;refine Oa [0,2,8,9] ?_;refine Oa [0,2,8,9,24] ?_;refine Kc ?_ ?_
 ·intro c24;have hnn:(OG (after lines).ways w).isNone=true:=by
   cases hx:(OG (after lines).ways w).isNone
   ·first|rfl|(exfalso; rw[hx] at c24; simp at c24; done)
   ·first|rfl|(exfalso; rw[hx] at c24; simp at c24; done)
  have hm:=Y0 hnn;refine cR ?_;have e1:(after lines).whyE w n=2:=by unfold Off.whyE; rw[hm]
  have e2:(after lines).whyL w n = []:=by unfold Off.whyL; rw[hm]
  rw[e1,e2,hnn];exact⟨.nils,rfl,St.addNil 1 true hS⟩
 ·intro c24;have hnn:(OG (after lines).ways w).isNone=false:=by
   cases hx:(OG (after lines).ways w).isNone
   ·first|rfl|(exfalso; rw[hx] at c24; simp at c24; done)
   ·first|rfl|(exfalso; rw[hx] at c24; simp at c24; done)
  obtain⟨l,hm⟩:=YZ hnn;rw[Qm hm];refine OC [0,2,8] ?_;refine Oc ?_;refine cw ?_;intro p29 hp29;refine Oe hp29 (r.ext hS.keeps).rd rfl ?_;refine Of ?_;refine Ol rfl (Ur r.off hwf (r.off.way hm)) ?_;rintro _ h9 ⟨rfl,hK⟩;have hS0:=St.on hS hK;clear hS;have hS:=hS0;clear hS0;refine Oa [0,2,8,10,11] ?_;refine Oc ?_;refine Ow (dj:=38) rfl rfl true false rfl ?_ ?_
  ·intro g38;have g38:=of_decide_eq_true g38;refine Oa [0,2,8,11,42] ?_;refine Om ?_ ?_;intro c42;refine cR ?_;have e1:(after lines).whyE w n=13:=by unfold Off.whyE; rw[hm]; exact if_pos ⟨g38,c42⟩
   have e2:(after lines).whyL w n = []:=by unfold Off.whyL; rw[hm]; exact if_pos ⟨g38,c42⟩
   rw[e1,e2];exact⟨.nils,rfl,St.addNil 1 true hS⟩
   ·intro c42;refine OC [0,2,8,11] ?_;refine Ot ?_;refine OR [4] mixed rfl aC ?_;refine Of ?_;refine cw ?_;intro p46 hp46;refine Oe hp46 (r.ext hS.keeps).rd rfl ?_;refine Ku aq (Ud (r.ext hS.keeps).off hwf.wb) ?_;rintro _ h8 ⟨vb,rfl,hS8⟩;replace hS:St _ _ (_::_):=St.trans hS hS8;have hvb:vb.one=true:=St.one hS (k:=0) rfl;refine Of ?_;refine Ou (r.off.way hm).ok.ad ?_;refine Ob (r.off.way hm).ok.ad ?_;intro p51 hp51;refine Oe hp51 ((r.ext hS.keeps).off.way hm).rd rfl ?_;refine Oc ?_;refine Ol rfl (Rn (hS.rd 0 rfl) (hV.ext hS.keeps).sz (decide ((after lines).spHi l.pl<n))) ?_;rintro _ h10 ⟨vo,rfl,hS10⟩;replace hS:St _ _ (_::_):=St.trans hS hS10;refine Oa [0,12] ?_;refine bc ?_;refine Oc ?_;refine Kk (hS.rd 0 rfl) ?_;refine Oa [0,14,59,60,61] ?_;refine Oz ?_;refine Kb (X:=Nat × AV) (fun x=>[(0,b),(14,x.2),(59,vo),(60,.int .i64 ((Kp (after lines).rm (after lines).ws l.pl (decide ((after lines).spHi l.pl<n))).length:Int)),(61,.int .i64 (x.1:Int))]) (fun x h'=>x.1≤(Kp (after lines).rm (after lines).ws l.pl (decide ((after lines).spHi l.pl<n))).length∧St h h' [⟨x.2,1,wcsQ ((after lines).rn ((Kp (after lines).rm (after lines).ws l.pl (decide ((after lines).spHi l.pl<n))).take x.1)),true⟩,⟨vo,1,ints (Kp (after lines).rm (after lines).ws l.pl (decide ((after lines).spHi l.pl<n))),true⟩,⟨vb,4,flr wc (after lines).ws,true⟩]) (fun x=>(Kp (after lines).rm (after lines).ws l.pl (decide ((after lines).spHi l.pl<n))).length - x.1) (0,.nils) ?_ ?_;refine⟨dT _,?_⟩;have hx:=St.addNil 1 true hS;exact St.perm (fU (l₁:=[_,_]) (l₂:=[_])) hx;rintro⟨i,vv⟩ h3 ⟨hi,hS⟩;dsimp only at hi hS⊢;refine cM ?_;refine Om ?_ ?_
    ·intro c62;have hlt:i<(Kp (after lines).rm (after lines).ws l.pl (decide ((after lines).spHi l.pl<n))).length:=by omega
     have hin : 0≤(Kp (after lines).rm (after lines).ws l.pl (decide ((after lines).spHi l.pl<n))).getD i 0∧(Kp (after lines).rm (after lines).ws l.pl (decide ((after lines).spHi l.pl<n))).getD i 0<((after lines).rooms.length:Int):=Vv (rm:=(after lines).rm) bF bF _ (getD_memQ (d:=0) hlt);have hbl:=@V3 (after lines).rm (after lines).ws l.pl (decide ((after lines).spHi l.pl<n));have hrl:((after lines).rn ((Kp (after lines).rm (after lines).ws l.pl (decide ((after lines).spHi l.pl<n))).take i)).length≤6:=by unfold Off.rn; rw[dS,fM]; omega
     refine OC [0,14,59,60,61] ?_;refine ch ?_;refine OD (hS.rd 1 rfl) (j:=i) rfl aF ?_;intro p63 hp63;refine Ke hp63 (hS.rd 1 rfl) aF ?_;refine Oa [0,14,16,59,60,61] ?_;refine Oc ?_;refine cw ?_;intro p68 hp68;refine Oe hp68 (r.ext hS.keeps).rd rfl ?_;refine Ou r.off.ok.po ?_;refine Ob r.off.ok.po ?_;intro p71 hp71;refine cf ?_;intro p74 hp74;refine Kv hp74 (r.ext hS.keeps).off.rooms aF ?_;refine bo ?_;intro v76 h' hS;refine QL hS (fun _=>rfl) (i:=0) rfl aF ?_;intro r77 h' hr77 hS;refine Ov ?_;refine cU ?_;refine Ox [0,14,59,60,61] ?_;refine bT ?_;rw[rn_next hlt] at hS;exact lpN (i+1,r77) ⟨by dsimp only; omega,hS⟩ aI
    intro c62;refine bP ?_;refine Ox [14] ?_;refine cR ?_;have hno:¬ ((after lines).spLo l.pl≤n∧n≤(after lines).spHi l.pl):=by omega
    have e1:(after lines).whyE w n=0:=by unfold Off.whyE; rw[hm]; exact if_neg hno
    have e2:(after lines).whyL w n=(after lines).rn (Kp (after lines).rm (after lines).ws l.pl (decide ((after lines).spHi l.pl<n))):=by unfold Off.whyL; rw[hm]; exact if_neg hno
    have hie:i=(Kp (after lines).rm (after lines).ws l.pl (decide ((after lines).spHi l.pl<n))).length:=by omega
    rw[hie,dV (dW _)] at hS;rw[e1,e2];exact⟨_,rfl,St.pick [0] aE rfl hS⟩
  ·intro g38;have g38:=of_decide_eq_false g38;refine Oa [0,2,8,11,42] ?_;refine OP ?_;refine OC [0,2,8,11] ?_;refine Ot ?_;refine OR [4] mixed rfl aC ?_;refine Of ?_;refine cw ?_;intro p46 hp46;refine Oe hp46 (r.ext hS.keeps).rd rfl ?_;refine Ku aq (Ud (r.ext hS.keeps).off hwf.wb) ?_;rintro _ h8 ⟨vb,rfl,hS8⟩;replace hS:St _ _ (_::_):=St.trans hS hS8;have hvb:vb.one=true:=St.one hS (k:=0) rfl;refine Of ?_;refine Ou (r.off.way hm).ok.ad ?_;refine Ob (r.off.way hm).ok.ad ?_;intro p51 hp51;refine Oe hp51 ((r.ext hS.keeps).off.way hm).rd rfl ?_;refine Oc ?_;refine Ol rfl (Rn (hS.rd 0 rfl) (hV.ext hS.keeps).sz (decide ((after lines).spHi l.pl<n))) ?_;rintro _ h10 ⟨vo,rfl,hS10⟩;replace hS:St _ _ (_::_):=St.trans hS hS10;refine Oa [0,12] ?_;refine bc ?_;refine Oc ?_;refine Kk (hS.rd 0 rfl) ?_;refine Oa [0,14,59,60,61] ?_;refine Oz ?_;refine Kb (X:=Nat × AV) (fun x=>[(0,b),(14,x.2),(59,vo),(60,.int .i64 ((Kp (after lines).rm (after lines).ws l.pl (decide ((after lines).spHi l.pl<n))).length:Int)),(61,.int .i64 (x.1:Int))]) (fun x h'=>x.1≤(Kp (after lines).rm (after lines).ws l.pl (decide ((after lines).spHi l.pl<n))).length∧St h h' [⟨x.2,1,wcsQ ((after lines).rn ((Kp (after lines).rm (after lines).ws l.pl (decide ((after lines).spHi l.pl<n))).take x.1)),true⟩,⟨vo,1,ints (Kp (after lines).rm (after lines).ws l.pl (decide ((after lines).spHi l.pl<n))),true⟩,⟨vb,4,flr wc (after lines).ws,true⟩]) (fun x=>(Kp (after lines).rm (after lines).ws l.pl (decide ((after lines).spHi l.pl<n))).length - x.1) (0,.nils) ?_ ?_;refine⟨dT _,?_⟩;have hx:=St.addNil 1 true hS;exact St.perm (fU (l₁:=[_,_]) (l₂:=[_])) hx;rintro⟨i,vv⟩ h3 ⟨hi,hS⟩;dsimp only at hi hS⊢;refine cM ?_;refine Om ?_ ?_
   ·intro c62;have hlt:i<(Kp (after lines).rm (after lines).ws l.pl (decide ((after lines).spHi l.pl<n))).length:=by omega
    have hin : 0≤(Kp (after lines).rm (after lines).ws l.pl (decide ((after lines).spHi l.pl<n))).getD i 0∧(Kp (after lines).rm (after lines).ws l.pl (decide ((after lines).spHi l.pl<n))).getD i 0<((after lines).rooms.length:Int):=Vv (rm:=(after lines).rm) bF bF _ (getD_memQ (d:=0) hlt);have hbl:=@V3 (after lines).rm (after lines).ws l.pl (decide ((after lines).spHi l.pl<n));have hrl:((after lines).rn ((Kp (after lines).rm (after lines).ws l.pl (decide ((after lines).spHi l.pl<n))).take i)).length≤6:=by unfold Off.rn; rw[dS,fM]; omega
    refine OC [0,14,59,60,61] ?_;refine ch ?_;refine OD (hS.rd 1 rfl) (j:=i) rfl aF ?_;intro p63 hp63;refine Ke hp63 (hS.rd 1 rfl) aF ?_;refine Oa [0,14,16,59,60,61] ?_;refine Oc ?_;refine cw ?_;intro p68 hp68;refine Oe hp68 (r.ext hS.keeps).rd rfl ?_;refine Ou r.off.ok.po ?_;refine Ob r.off.ok.po ?_;intro p71 hp71;refine cf ?_;intro p74 hp74;refine Kv hp74 (r.ext hS.keeps).off.rooms aF ?_;refine bo ?_;intro v76 h' hS;refine QL hS (fun _=>rfl) (i:=0) rfl aF ?_;intro r77 h' hr77 hS;refine Ov ?_;refine cU ?_;refine Ox [0,14,59,60,61] ?_;refine bT ?_;rw[rn_next hlt] at hS;exact lpN (i+1,r77) ⟨by dsimp only; omega,hS⟩ aI
   intro c62;refine bP ?_;refine Ox [14] ?_;refine cR ?_;have hno:¬ ((after lines).spLo l.pl≤n∧n≤(after lines).spHi l.pl):=by omega
   have e1:(after lines).whyE w n=0:=by unfold Off.whyE; rw[hm]; exact if_neg hno
   have e2:(after lines).whyL w n=(after lines).rn (Kp (after lines).rm (after lines).ws l.pl (decide ((after lines).spHi l.pl<n))):=by unfold Off.whyL; rw[hm]; exact if_neg hno
   have hie:i=(Kp (after lines).rm (after lines).ws l.pl (decide ((after lines).spHi l.pl<n))).length:=by omega
   rw[hie,dV (dW _)] at hS;rw[e1,e2];exact⟨_,rfl,St.pick [0] aE rfl hS⟩
end Go.Am
namespace Go.Proofs
open Go.RowKit
open Go.Am (wdQ)
theorem Tryz.check_used (b : Nat) (w : World) (h0 : w.cell? ⟨b, 0, none⟩ = some (.pointer (some ⟨b, 0, none⟩))) :
    Calls Tryz.prog 118 #[.pointer (some ⟨b,0,none⟩)] w fun e w'=>e = .returned (.tuple #[])∧w'=w:=by
 obtain⟨j,hj,_⟩:=Option.map_eq_some_iff.1 Tryz.Builder_Extra_169.sizeBuilder
 go_enter Tryz.func118,Tryz.ntmps118
 go_wp2
 rw[Lib.run_neq_ptr_same w _ Tryz.underlying154 hj]
 go_wp2
 go_end0
 exact⟨rfl,rfl⟩
theorem Tryz.check_fresh (b : Nat) (w : World) (h0 : w.cell? ⟨b, 0, none⟩ = some (.pointer none)) (hsh : w.shape? b = some (156, 2)) (hfz : w.frozen? ⟨b, 0, none⟩ = false) :
    Calls Tryz.prog 118 #[.pointer (some ⟨b,0,none⟩)] w fun e w'=>e = .returned (.tuple #[])∧w'=w.setCell ⟨b,0,none⟩ (.pointer (some ⟨b,0,none⟩)):=by
 obtain⟨j,hj,hjs⟩:=Option.map_eq_some_iff.1 Tryz.Builder_Extra_169.sizeBuilder
 go_enter Tryz.func118,Tryz.ntmps118
 go_wp2
 rw[Lib.run_to_unsafe w ⟨b,0,none⟩ Tryz.underlying154 Tryz.underlying242 hj (by rw[hjs]; decide) hsh (Nat.zero_lt_succ 1)];simp only[fF];rw[fC]
 go_wp2
 rw[run_callFunc_extern Tryz.func160 (by kernel_rfl) (by kernel_rfl) (by kernel_rfl) (e:=Extern.AbiNoEscape.same) (by kernel_rfl)];rw[Lib.run_noEscape];simp only[fF];rw[fC]
 go_wp2
 rw[Lib.run_from_unsafe w ⟨b,0,none⟩ Tryz.underlying242 Tryz.underlying154 hj hsh Tryz.Builder_Extra_169.liesBuilder];simp only[fF];rw[fC]
 go_wp2
 go_end0
 exact⟨rfl,rfl⟩
theorem Tryz.check_k (B b : Nat) (bs : List Value) (w : World) (h : fA 156 5 B b bs w) :
    Calls Tryz.prog 118 #[.pointer (some ⟨b,0,none⟩)] w fun e w'=>e = .returned (.tuple #[])∧(fG 156 5 B b (.pointer (some ⟨b,0,none⟩)) bs w'∧Below B w w'∧Lib.OthersKept 5 (some b) w w'):=by
 rcases h with h|h
 refine(Tryz.check_fresh b w h.cell0 h.shape h.frozen0).mono ?_;rintro e w' ⟨rfl,rfl⟩;exact⟨rfl,h.used _,(Below.refl B w).setCell (p:=⟨b,0,none⟩) h.1 _,(Lib.OthersKept.refl _ _ w).setCell ⟨b,0,none⟩ rfl _⟩;refine(Tryz.check_used b w h.cell0).mono ?_;rintro e w' ⟨rfl,rfl⟩;exact⟨rfl,h,Below.refl B _,Lib.OthersKept.refl _ _ _⟩
theorem Tryz.write_k (B b : Nat) (bs : List Value) (s : ByteArray) (w : World) (h : fA 156 5 B b bs w) (hlen : bs.length + s.size ≤ 140737488355328) (hBw : B ≤ w.heap.size) :
    Calls Tryz.prog 84 #[.pointer (some ⟨b,0,none⟩),.string s] w fun e w'=>e = .returned (.tuple #[.int .i64 s.size,.nilIface])∧(fG 156 5 B b (.pointer (some ⟨b,0,none⟩)) (bs ++ fN s) w'∧Below B w w'∧Lib.OthersKept 5 (some b) w w'):=by
 obtain⟨i0,hi,hz0,hz1,hz2⟩:=info_parts Tryz.Builder_Extra_169.infoByte
 go_enter Tryz.func84,Tryz.ntmps84
 go_wp2_with (go_at_call 118; refine(Tryz.check_k B b bs _ h).mono ?_)
 rintro e w1 ⟨rfl,h1,hb1,hk1⟩;obtain⟨hB,v,hbk,hown,hne⟩:=h1;have c0:w1.cell? ⟨b,0,none⟩=some (.pointer (some ⟨b,0,none⟩)):=by rw[fO hbk]; rfl
 have c1:w1.cell? ⟨b,1,none⟩=some v:=by rw[fO hbk]; rfl
 go_wp2_with (at_builtin; refine Lib.wpList_append_own_stringF _ rfl _ _ 37 9 rfl B 5 i0 Tryz.underlying37 Tryz.underlying9 hi hz0 hz1 hz2 _ _ _ rfl hown s rfl ?c3 ?c4 ?c5 ?_)
 case c3=>unfold maxLen; omega
 case c4=>omega
 case c5=>have:=hb1.size; omega
 intro v' w2 hown' hgrow _;have hlt:b<w1.heap.size:=by
  rcases gA b w1.heap.size with h'|h'
  exact h';simp[fI h'] at hbk
 have hb2:w2.heap[b]? = some (.cells #[.pointer (some ⟨b,0,none⟩),v] 156 (0,0)):=by
  rw[hgrow.block b hlt (fun e=>hne e.symm)];exact hbk
 have d0:w2.cell? ⟨b,0,none⟩=some (.pointer (some ⟨b,0,none⟩)):=by rw[fO hb2]; rfl
 have d1:w2.cell? ⟨b,1,none⟩=some v:=by rw[fO hb2]; rfl
 have f1:w2.frozen? ⟨b,1,none⟩=false:=Lib.frozen_of_heap hb2 1;obtain⟨ao,n',cap,rfl⟩:∃ ao n' cap,v' = .slice ao n' cap:=by
  rcases hown'.2 with ⟨hv,_⟩|⟨g,cap,cur,fz,hv,_⟩
  exact⟨_,_,_,hv⟩;exact⟨_,_,_,hv⟩
 go_wp2
 go_ret2
 refine⟨rfl,?_,?_,(hk1.grown hgrow (Lib.ownsRowF_kind hown)).setCell ⟨b,1,none⟩ rfl _⟩;exact Lib.BuilderAtF.put (T:=156) (e:=5) hB hb2 (bs':=bs ++ fN s) (by simpa [Lib.strCells_length] using hown') Tryz.Builder_Extra_169.neB5;exact(hb1.grown hgrow (by have:=hb1.size; omega) (fun k hk=>(hown.lt k hk).1)).setCell (p:=⟨b,1,none⟩) hB _
def Tryz.sumTo (l:List UInt8):Int:=l.foldl (fun n c=>(29*n+(c.toNat:Int)) % 9973) 7
theorem Tryz.sumTo_in (l:List UInt8) : 0≤Tryz.sumTo l∧Tryz.sumTo l<9973:=by
 unfold Tryz.sumTo
 suffices h:∀ (l:List UInt8) (n:Int),0≤n∧n<9973→0≤l.foldl (fun n c=>(29*n+(c.toNat:Int)) % 9973) n∧l.foldl (fun n c=>(29*n+(c.toNat:Int)) % 9973) n<9973 from h l 7 (by decide)
 intro l
 induction l with
 | nil=>intro n h; exact h
 | cons a l ih=>intro n h; rw[List.foldl_cons]; exact ih _ ⟨by omega,by omega⟩
theorem Tryz.sumTo_next {l:List UInt8} {k:Nat} (h:k<l.length):Tryz.sumTo (l.take (k+1))=(29*Tryz.sumTo (l.take k)+((l.getD k 0).toNat:Int)) % 9973:=by
 unfold Tryz.sumTo;rw[gO,dN h,List.foldl_append,dU,dN h];rfl
theorem Tryz.w64 (n:Int) (h : -9223372036854775808≤n∧n≤9223372036854775807):wrap64 n=n:=by unfold wrap64; omega
theorem Tryz.below_bytes (w:World) (s:ByteArray):Below w.heap.size w (Lib.bytesWorld w 5 s):=by
 refine⟨?_,?_,?_,?_,?_⟩
 all_goals first|rfl|(rw[Lib.bytesWorld_size]; omega)|(intro k hk; exact Lib.bytesWorld_at_old w 5 s k hk)
theorem Tryz.summed_walk (l : List UInt8) (hl : l.length ≤ 1000000) (w : World) :
    Calls Tryz.prog 86 #[.string (wdQ l)] w fun e w'=>e = .returned (.int .i64 (Tryz.sumTo l))∧Below w.heap.size w w':=by
 have hsz:(wdQ l).size=l.length:=Go.Am.wd_size l
 go_enter Tryz.func86,Tryz.ntmps86
 go_wp2
 rw[Lib.run_convert_string_bytes w 9 37 5 (wdQ l) Tryz.underlying9 Tryz.underlying37 Tryz.underlying5];simp only[fF];rw[fC]
 go_wp2
 go_loopw [3,9] (fun n i wr=>∃ k:Nat,k≤l.length∧n = .int .i64 (Tryz.sumTo (l.take k))∧i = .int .i64 k∧wr=Lib.bytesWorld w 5 (wdQ l)) (fun _ i _=>l.length - (intOf i).toNat)
 case atStart=>exact⟨0,by omega,rfl,rfl,rfl⟩
 case round=>
  obtain⟨k,hk,rfl,rfl,rfl⟩:=hrel;obtain⟨h1,h2⟩:=Tryz.sumTo_in (l.take k);by_cases hp:k<l.length
  ·have hc:=Lib.bytesWorld_cell w 5 (wdQ l) k (by omega);have hb:(((wdQ l).data.toList.getD k 0).toNat)=(l.getD k 0).toNat:=by simp[wdQ]
   rw[hb] at hc;have h3:(l.getD k 0).toNat<256:=(l.getD k 0).toNat_lt
   go_wp2
   go_roundw
   case rel=>
    refine⟨k+1,by omega,?_,by go_num,trivial⟩;rw[Tryz.sumTo_next hp];have e0:l[k]=l.getD k 0:=by rw[dU,dN hp]; rfl
    rw[e0];have e1:wrap64 (((l.getD k 0).toNat:Nat):Int)=((l.getD k 0).toNat:Int):=Tryz.w64 _ (by omega);rw[e1,Tryz.w64 _ (by omega),Int.tmod_eq_emod_of_nonneg (by omega)]
   case measure=>
    simp[intOf];omega
  ·have he:k=l.length:=by omega
   subst he;rw[dV (by omega)]
   go_wp2
   go_ret
   exact⟨rfl,Tryz.below_bytes w _⟩
end Go.Proofs
namespace Go.Am
def kHead:Str:=[115,112,97,100,105,108,108,101,10]
def lineT (i:Nat) (l:Str):Str:=dP ((i:Int)+1) ++ [46,32] ++ l ++ [10]
def bodyT (lines : List Str) : Nat → Str
  | 0=>kHead
  | k+1=>bodyT lines k ++ lineT k (lines.getD k [])
def fileT (lines:List Str):Str:=bodyT lines lines.length ++ [101,110,100,32] ++ dP (Go.Proofs.Tryz.sumTo (bodyT lines lines.length)) ++ [10]
end Go.Am
namespace Go.Proofs
open Go.RowKit
open Go.Am (wdQ Str kHead lineT bodyT fileT)
theorem Tryz.strCells_wd (l:Str):fN (wdQ l)=fV l:=by
 simp[fN,fV,wdQ]
theorem Tryz.below_cell {w w':World} (h:Below w.heap.size w w') {a:Addr} {v:Value} (hc:w.cell? a=some v):w'.cell? a=some v:=by
 have hlt:a.block<w.heap.size:=by
  rcases gA a.block w.heap.size with h'|h'
  exact h';simp[World.cell?,fI h'] at hc
 unfold World.cell? at hc⊢;rw[h.block _ hlt];exact hc
theorem Tryz.bldAt_below {T e:TypeId} {B b:Nat} {p:Value} {bs:List Value} {W W':World} (h:fG T e B b p bs W) (hb:Below W.heap.size W W'):fG T e B b p bs W':=by
 have hlt:=h.lt;obtain⟨hB,v,hv,hown,hne⟩:=h;exact⟨hB,v,(hb.block b hlt).trans hv,hown.kept (row:=none) ⟨hb.os,hb.tape,hb.output,hb.size,fun k hk _=>hb.block k hk⟩ (Classical.em _),hne⟩
theorem Tryz.bld_below {T e:TypeId} {B b:Nat} {bs:List Value} {W W':World} (h:fA T e B b bs W) (hb:Below W.heap.size W W'):fA T e B b bs W':=
  h.elim (fun x=>.inl (Tryz.bldAt_below x hb)) (fun x=>.inr (Tryz.bldAt_below x hb))
theorem Tryz.itoa_b (n : Int) (h0 : -9223372036854775808 ≤ n) (h1 : n ≤ 9223372036854775807) (w : World) (ht : fB Tryz.prog w "internal/strconv.uint64pow10" .u64 dZ) :
    Calls Tryz.prog 25 #[.int .i64 n] w fun e w'=>e = .returned (.string (wdQ (dP n)))∧Below w.heap.size w w':=by
 refine(Tryz.strconv_Itoa n h0 h1 w ht).mono ?_;rintro e w' ⟨rfl,k,os,rfl⟩;refine⟨rfl,rfl,rfl,rfl,by show w.heap.size≤(w.heap ++ os).size; rw[Array.size_append]; omega,fun g hg=>?_⟩;show(w.heap ++ os)[g]? = _;exact Array.getElem?_append_left hg
theorem Tryz.itoa_len:∀ q:Nat,q<101→(dP ((q:Int)+1)).length≤3:=by decide +kernel
theorem Tryz.body_len (lines:List Str) (hl:∀ x∈lines,x.length≤1000):∀ k:Nat,k≤lines.length→lines.length≤100→(bodyT lines k).length≤9+1006*k:=by
 intro k
 induction k with
 | zero=>intro _ _; exact dW _
 | succ k ih=>
  intro hk h100;have h1:=ih (by omega) h100;have h2:=Tryz.itoa_len k (by omega);have h3:(lines.getD k []).length≤1000:=hl _ (Go.Am.getD_memQ (by omega));show(bodyT lines k ++ lineT k (lines.getD k [])).length≤_;unfold lineT;simp only[dR,dM,dQ];omega
theorem Tryz.cat (a b:Str) (h:a.length+b.length≤9223372036854775807) (W:World):(dX .add (wdQ a) (wdQ b)).run Tryz.prog W = .ok (.string (wdQ (a ++ b))) W:=by
 have h2:=run_string_add_sum (P:=Tryz.prog) (w:=W) (wdQ a) (wdQ b) (by rw[Go.Am.wd_size,Go.Am.wd_size]; exact h);rw[h2];have:wdQ a ++ wdQ b=wdQ (a ++ b):=by
  apply ByteArray.ext;simp[wdQ]
 rw[this]
theorem Tryz.below_tab {w w':World} (h:Below w.heap.size w w') (ht:fB Tryz.prog w "internal/strconv.uint64pow10" .u64 dZ):fB Tryz.prog w' "internal/strconv.uint64pow10" .u64 dZ:=by
 unfold fB World.var? at ht⊢;have hg:Tryz.prog.globalNamed "internal/strconv.uint64pow10" = some 1:=by kernel_rfl
 rw[hg,Option.bind_some] at ht⊢;have hlt : 1<w.heap.size:=by
  rcases gA 1 w.heap.size with h'|h'
  exact h';simp[fI h'] at ht
 rw[h.block _ hlt];exact ht
theorem Tryz.none_walk (w:World) (k j:Nat) (pa:Addr) (h0:w.cell? ⟨k,j,none⟩=some (.pointer (some pa))):Calls Tryz.prog 67 #[.pointer (some ⟨k,j,none⟩)] w fun e w'=>e = .returned (.bool false)∧w'=w:=by
 go_enter Tryz.func67,Tryz.ntmps67
 go_wp2
 go_ret
 exact⟨rfl,rfl⟩
theorem Tryz.file_walk (lines : List Str) (hn : lines.length ≤ 100) (hl : ∀ x ∈ lines, x.length ≤ 1000) (w : World) (k j g o c : Nat) (pa : Addr) (ao : Option Addr) (hao : lines ≠ [] → ao = some ⟨g, o, none⟩)
    (h0:w.cell? ⟨k,j,none⟩=some (.pointer (some pa))) (h1:w.cell? ⟨k,j+1,none⟩=some (.slice ao lines.length c))
    (hs:∀ i,i<lines.length→w.cell? ⟨g,o+i,none⟩=some (.string (wdQ (lines.getD i [])))) (ht:fB Tryz.prog w "internal/strconv.uint64pow10" .u64 dZ) :
    Calls Tryz.prog 49 #[.pointer (some ⟨k,j,none⟩)] w fun e w'=>e = .returned (.string (wdQ (fileT lines)))∧Below w.heap.size w w':=by
 go_enter Tryz.func49,Tryz.ntmps49
 go_wp2_with (go_at_call 67; refine(Tryz.none_walk _ k j pa h0).mono ?_)
 rintro e w0 ⟨rfl,he0⟩;subst he0
 go_wp2_with (go_at_call 84; refine(Tryz.write_k w0.heap.size w0.heap.size [] _ _ (Lib.IsBuilderF.of (Lib.fresh_isBuilder 156 5 w0)) (by decide) (by simp)).mono ?_)
 rintro e w1 ⟨rfl,hb1,hB1,_⟩;have hW1:Below w0.heap.size w0 w1:=((Below.refl _ w0).alloc (dW _) _).trans hB1;have h01:=Tryz.below_cell hW1 h0;have h11:=Tryz.below_cell hW1 h1
 go_wp2
 go_loopw [14] (fun i wr=>∃ q:Nat,q≤lines.length∧i = .int .i64 q∧fA 156 5 w0.heap.size w0.heap.size (fV (bodyT lines q)) wr∧Below w0.heap.size w0 wr) (fun i _=>lines.length - (intOf i).toNat)
 case atStart=>
  refine⟨0,by omega,rfl,?_,hW1⟩;exact Or.inr hb1
 case round=>
  obtain⟨q,hq,rfl,hI,hbw⟩:=hrel;have hsz:w0.heap.size≤wr.heap.size:=hbw.size;by_cases hp:q<lines.length
  ·have hne:lines≠[]:=by intro e; rw[e] at hp; exact absurd hp (fR _)
   have hso:=hao hne;subst hso;have hc:=Tryz.below_cell hbw (hs q hp);have htr:=Tryz.below_tab hbw ht;have hlen:=Tryz.body_len lines hl q hq hn;have hil:=Tryz.itoa_len q (by omega);have hll:(lines.getD q []).length≤1000:=hl _ (Go.Am.getD_memQ hp);obtain⟨x,hx⟩:∃ x,lines.getD q []=x:=⟨_,rfl⟩;rw[hx] at hc hll;have k1:∀ W,(dX .add (wdQ (dP ((q:Int)+1))) (fD #[46,32])).run Tryz.prog W = .ok (.string (wdQ (dP ((q:Int)+1) ++ [46,32]))) W:=Tryz.cat _ [46,32] (by simp only[dM,dQ]; omega);have k2:∀ W,(dX .add (wdQ (dP ((q:Int)+1) ++ [46,32])) (wdQ x)).run Tryz.prog W = .ok (.string (wdQ (dP ((q:Int)+1) ++ [46,32] ++ x))) W:=Tryz.cat _ _ (by simp only[dR,dM,dQ]; omega);have k3:∀ W,(dX .add (wdQ (dP ((q:Int)+1) ++ 46::32::x)) (fD #[10])).run Tryz.prog W = .ok (.string (wdQ (lineT q x))) W:=fun W=>(Tryz.cat (dP ((q:Int)+1) ++ 46::32::x) [10] (by simp only[dR,dM,dQ]; omega) W).trans (by simp[lineT])
   go_wp2_with (go_at_call 25; refine(Tryz.itoa_b _ (by omega) (by omega) _ htr).mono ?_)
   rintro e W1 rfl hB2;have hI2:=Tryz.bld_below hI hB2;have hsz2:=hB2.size
   go_wp2_with (go_at_call 84; refine(Tryz.write_k w0.heap.size w0.heap.size _ _ _ hI2 ?hl (by omega)).mono ?_)
   case hl=>
    rw[Lib.byteCells_length,Go.Am.wd_size];unfold lineT;simp only[dR,dM,dQ];omega
   rintro e W2 ⟨rfl,hb3,hB3,_⟩
   go_wp2
   go_roundw
   case rel=>
    refine⟨q+1,by omega,by go_num,?_,?_⟩;have e:bodyT lines (q+1)=bodyT lines q ++ lineT q x:=by rw[←hx]; rfl
    rw[e,Lib.byteCells_append,←Tryz.strCells_wd (lineT q x)];exact Or.inr hb3;exact(hbw.trans (hB2.mono hsz)).trans hB3
   case measure=>
    simp[intOf];omega
  ·have he:q=lines.length:=by omega
   subst he;have hlen:=Tryz.body_len lines hl lines.length (dW _) hn;obtain⟨T,hT⟩:∃ T,bodyT lines lines.length=T:=⟨_,rfl⟩;rw[hT] at hI hlen;obtain⟨hs1,hs2⟩:=Tryz.sumTo_in T;obtain⟨N,hN⟩:∃ N,Tryz.sumTo T=N:=⟨_,rfl⟩;rw[hN] at hs1 hs2;have hil:(dP N).length≤100:=by
    have:=Lib.itoa_length_le N (by omega) (by omega);omega
   have k4:∀ W,(dX .add (fD (List.toArray T)) (fD #[101,110,100,32])).run Tryz.prog W = .ok (.string (wdQ (T ++ [101,110,100,32]))) W:=Tryz.cat T [101,110,100,32] (by simp only[dM,dQ]; omega);have k5:∀ W,(dX .add (wdQ (T ++ [101,110,100,32])) (wdQ (dP N))).run Tryz.prog W = .ok (.string (wdQ (T ++ [101,110,100,32] ++ dP N))) W:=Tryz.cat _ _ (by simp only[dR,dM,dQ]; omega);have k6:∀ W,(dX .add (wdQ (T ++ 101::110::100::32::dP N)) (fD #[10])).run Tryz.prog W = .ok (.string (wdQ (fileT lines))) W:=fun W=>(Tryz.cat (T ++ 101::110::100::32::dP N) [10] (by simp only[dR,dM,dQ]; omega) W).trans (by simp[fileT,hT,hN])
   go_wp2_with (go_at_call 85; refine(Tryz.Builder_String_any_k w0.heap.size w0.heap.size _ _ hI hsz).mono ?_)
   rintro e W1 ⟨rfl,hI2,hB2,_⟩;have hsz2:=hB2.size
   go_wp2_with (go_at_call 85; refine(Tryz.Builder_String_any_k w0.heap.size w0.heap.size _ _ hI2 (by omega)).mono ?_)
   rintro e W3 ⟨rfl,hI3,hB3,_⟩;have hsz3:=hB3.size
   go_wp2_with (go_at_call 86; refine(Tryz.summed_walk T (by omega) _).mono ?_)
   rintro e W4 ⟨rfl,hB4⟩;have hc4:Below w0.heap.size w0 W4:=((hbw.trans hB2).trans hB3).trans (hB4.mono (by omega));have ht4:=Tryz.below_tab hc4 ht;rw[hN]
   go_wp2_with (go_at_call 25; refine(Tryz.itoa_b N (by omega) (by omega) _ ht4).mono ?_)
   rintro e W5 ⟨rfl,hB5⟩;have hsz4:=hc4.size
   go_wp2
   go_ret
   exact⟨rfl,hc4.trans (hB5.mono (by omega))⟩
end Go.Proofs
namespace Go.Am
theorem BRel.cellX {φ:Emb} {w:World} {k i z p:Nat} {F:Option Nat} {cs:List AV} (hb:BRel φ w k i z (.cells F p cs)) {j:Nat} {x:AV} (hx:cs[j]? = some x):∃ v,w.cell? ⟨k,i+j,none⟩=some v∧VRel φ x v:=by
 cases F with
 | none=>exact hb.1 j x hx
 | some F=>
  obtain⟨c,e,h1,h2,h3⟩:=hb;obtain⟨v,h4,h5⟩:=h3 j x hx;exact⟨v,by rw[h1.cell]; exact h4,h5⟩
theorem Rd.ptrRel {φ : Emb} {h : AHeap} {w : World} {v : AV} {xs : List AV} {cv : Value} (r : HRel φ h w) (hr : Rd h v 0 xs) (ha : AddrOf v v 0 0) (hv : VRel φ v cv) :
    ∃ k o,cv = .pointer (some ⟨k,o,none⟩)∧∀ (j:Nat) (x:AV),xs[j]? = some x→∃ u,w.cell? ⟨k,o+j,none⟩=some u∧VRel φ x u:=by
 obtain⟨b,o,rfl⟩:=Uj ha
 cases hv with|ptr _ _ k i z hφ=>
 rcases hr with ⟨h0,_⟩|⟨b',o',F,p,cs,h1,h2,h3,h4⟩|⟨b',F,x,h1,_⟩
 cases h0;have e:b'=b∧o'=o:=by
  rcases h1 with ⟨_,_,h1,_⟩|⟨_,h1⟩
  cases h1
  cases h1; exact⟨rfl,rfl⟩
 obtain⟨rfl,rfl⟩:=e;refine⟨k,i+o',rfl,?_⟩;intro j x hx;have hb:=r.blk b' k i z _ hφ h2 h3;have hx2:cs[o'+j]? = some x:=by
  rw[←h4,gE] at hx;split at hx;rwa [gI] at hx;cases hx
 obtain⟨u,h5,h6⟩:=hb.cellX hx2;exact⟨u,by rw[Nat.add_assoc]; exact h5,h6⟩;exact(Thing.at_ptr h1.symm).elim
theorem Rd.slcRel {φ : Emb} {h : AHeap} {w : World} {v : AV} {xs : List AV} {cv : Value} (r : HRel φ h w) (hr : Rd h v 1 xs) (hv : VRel φ v cv) :
    ∃ ao k o c,cv = .slice ao xs.length c∧(xs≠[]→ao=some ⟨k,o,none⟩)∧∀ (j:Nat) (x:AV),xs[j]? = some x→∃ u,w.cell? ⟨k,o+j,none⟩=some u∧VRel φ x u:=by
 rcases hr with ⟨rfl,rfl⟩|⟨b',o',F,p,cs,h1,h2,h3,h4⟩|⟨b',F,x,_,h0,_⟩
 cases hv;exact⟨none,0,0,0,rfl,fun h=>absurd rfl h,fun j x hx=>by simp at hx⟩
 ·rcases h1 with ⟨n,full,rfl,hn,_⟩|⟨h0,_⟩
  ·cases hv with|slc _ _ _ _ _ a c hnc hc hf hadr=>
   have hnx:n=xs.length:=by omega
   subst hnx;rcases hadr with hadr|⟨k,i,z,hφ,ha1,hfz⟩
   have he:xs = []:=List.length_eq_zero_iff.1 aA;subst he;exact⟨some a,0,0,c,rfl,fun h=>absurd rfl h,fun j x hx=>by simp at hx⟩;refine⟨some a,k,i+o',c,rfl,fun _=>by rw[ha1],?_⟩;intro j x hx;have hb:=r.blk b' k i z _ hφ h2 h3;have hx2:cs[o'+j]? = some x:=by
    rw[←h4,gE] at hx;split at hx;rwa [gI] at hx;cases hx
   obtain⟨u,h5,h6⟩:=hb.cellX hx2;exact⟨u,by rw[Nat.add_assoc]; exact h5,h6⟩
  cases h0
 cases h0
theorem Pow.tab {φ:Emb} {h:AHeap} {w:World} (hP:Pow h) (rr:HRel φ h w):fB Go.Proofs.Tryz.prog w "internal/strconv.uint64pow10" .u64 dZ:=by
 obtain⟨C,e,f,g1,g2,g3⟩:=hP.rel rr;unfold fB World.var?;have hg:Go.Proofs.Tryz.prog.globalNamed "internal/strconv.uint64pow10" = some 1:=by kernel_rfl
 rw[hg,Option.bind_some,g1];show some C=_;congr 1;apply Array.ext';refine List.ext_getElem? fun j=>?_
 rw[fE]
 cases hj:dZ[j]? with
 | none=>
  have hlt:=fK.1 hj;rw[Option.map_none,fK,Array.length_toList,g2,dS];exact hlt
 | some x=>
  obtain⟨v,g4,g5⟩:=g3 j (.int .u64 x) (by rw[fE,hj]; rfl);cases g5;simpa using g4
theorem readE_len {l:Str} (h:KH l=0):l.length≤40:=by
 unfold KH at h;dsimp only at h;split at h;cases h;omega
theorem Done.small {lines:List Str} (hD:Done lines):∀ x∈lines,x.length≤40:=by
 induction hD with
 | nil=>intro x hx; cases hx
 | @snoc lines line hD he ih=>
  intro x hx;rw[List.mem_append,List.mem_singleton] at hx;rcases hx with h|rfl
  exact ih x h;exact readE_len (Y3 he).1
theorem fileB_c {h:AHeap} {b vl:AV} {A:OA} {lines:List Str} (r:RBk h b vl A lines) (hV:Vs h):ACalls Go.Proofs.Tryz.prog 49 [b] h (fun q h'=>q = .str (wdQ (fileT lines))∧h=h'):=by
 refine⟨_,_,Ev.of_belowQ ⟨_,Go.Proofs.Tryz.func49,by decide,rfl⟩ ?_,rfl,rfl⟩;intro φ w cs rr ha;obtain⟨cb,rfl⟩:∃ cb,cs = [cb]:=by
  match cs,ha.1 with
  | [a],_=>exact⟨a,rfl⟩
 have hv:=ha.2 0 _ _ rfl rfl;obtain⟨k,o,rfl,hcells⟩:=Rd.ptrRel rr r.rd r.ad hv;obtain⟨u0,hu0,hr0⟩:=hcells 0 _ rfl;obtain⟨u1,hu1,hr1⟩:=hcells 1 _ rfl;obtain⟨pb,po,hpo⟩:=Uj r.off.ok.po;rw[hpo] at hr0
 cases hr0 with|ptr _ _ kp ip zp hφp=>
 obtain⟨ao,g,o2,c,rfl,hao,hs⟩:=Rd.slcRel rr r.log hr1;have hl:(wcsQ lines).length=lines.length:=by simp[wcsQ]
 rw[hl] at hu1;have hD:=r.done;refine(Go.Proofs.Tryz.file_walk lines hD.wf.2.1 (fun x hx=>by have:=hD.small x hx; omega) w k o g o2 c _ ao (fun hne=>hao (by intro e; apply hne; cases lines with|nil=>rfl|cons a l=>cases e)) hu0 hu1 ?_ (hV.pw.tab rr)).mono ?_;intro i hi;obtain⟨u,h1,h2⟩:=hs i (.str (wdQ (lines.getD i []))) (by
  unfold wcsQ;rw[fE,dU,dN hi]; rfl)
 cases h2;exact h1;rintro e w' ⟨rfl,hB⟩;exact⟨_,rfl,.str _,hB⟩
end Go.Am
namespace Go.Am
abbrev pc (p:Int × Int):List AV:=ints [p.1,p.2]
theorem YD (p:Int × Int):(pc p).length=2:=rfl
noncomputable def Qw (ws:List W) (k:Nat):List (Int × Int):=(fT k).map fun i=>(Qd ws i,K9 ws i)
theorem XF (ws:List W) (k:Nat):(Qw ws k).length=k:=by simp[Qw]
theorem Sf (ws:List W) (k:Nat):Qw ws (k+1)=Qw ws k ++ [(Qd ws k,K9 ws k)]:=by simp[Qw,gU]
theorem VP {ws:List W} {k i:Nat} (h:i<k):(Qw ws k).getD i default=(Qd ws i,K9 ws i):=by
 rw[dU,Qw,fE,List.getElem?_range h]; rfl
noncomputable def QE (ws:List W) (k:Nat):List Int:=((fT k).filter fun i=>decide (Qd ws i<K9 ws i)).map fun i:Nat=>(i:Int)
theorem UH (ws:List W) (k:Nat):QE ws (k+1)=if Qd ws k<K9 ws k then QE ws k ++ [(k:Int)] else QE ws k:=by
 unfold QE;rw[gU,fZ,fS];by_cases h:Qd ws k<K9 ws k;rw[if_pos h,fP ay]; rfl;rw[if_neg h,fQ ay]; simp
theorem WL (ws:List W) (k:Nat):(QE ws k).length≤k:=by
 unfold QE;rw[dS];exact fX (fY _ _) aN
theorem U2 {ws:List W} {i:Nat} (h:∃ n,Flow ws n) (hi:i<ws.length):Qd ws i≤K9 ws i:=by
 obtain⟨n,hn⟩:=h;have h1:=(Uk ⟨n,hn⟩ hi).2 n hn;have h2:=(Uh ⟨n,hn⟩ hi).2 n hn;omega
end Go.Am
namespace Go.Am
theorem Ta {h:AHeap} {rm:Int} {vW:AV} {ws:List W} (hv:Rd h vW 4 (flr wc ws)):ACalls Go.Proofs.Tryz.prog 31 [.agg [.int .i64 rm,vW]] h (fun q h'=>∃ vo,q = .tup [vo,.int .i64 (KU rm ws)]∧St h h' [⟨vo,2,flr pc (if KU rm ws=0 then Qw ws ws.length else []),true⟩]):=by
 refine OI 38 [.tmp 2,.tmp 3] Go.Proofs.Tryz.func31 rfl aE rfl rfl (dO rfl) ?_;have hS:=St.refl h;have hvo:vW.one=true:=hv.one;show KA _ 38 _ _ [(0,.agg [.int .i64 rm,vW])] _;refine bZ ?_;intro p1 h' hp1 hS;refine cK ?_;refine Ol rfl (VR (Rd.ext hS.keeps hv)) ?_;rintro _ h5 ⟨qp,rfl,hK,hqp,hyes⟩;refine Oa [1,4,5] ?_;refine Oa [1,4,5,16] ?_;refine Kc ?_ ?_;intro c16;refine bt ?_;rw[if_neg c16];exact⟨_,rfl,St.trans (St.ofK (hS.keeps.trans hK)) (St.addNil 2 true (St.refl _))⟩;intro c16;have hB:=(Zy c16).1;have hwl:=hB.len;obtain⟨r,rfl⟩:∃ r:Nat,rm=(r:Int):=⟨rm.toNat,by have:=hB.r2; omega⟩;obtain⟨n,vn,hpf,hf,hSF⟩:=hyes c16;replace hS:St _ _ (_::_::_):=St.trans hS hSF;refine OC [1,4] ?_;refine bc ?_;refine bu ?_;refine Ob hp1 ?_;intro p18 hp18;refine Oe hp18 (hS.rd 2 rfl) rfl ?_;refine dG ?_;refine Oa [4,6,20,21] ?_;refine Oz ?_;refine Kb (X:=Nat × AV × List Int) (fun x=>[(4,qp),(6,x.2.1),(20,.int .i64 (ws.length:Int)),(21,.int .i64 (x.1:Int))]) (fun x h'=>x.1≤ws.length∧Flow ws x.2.2∧St h h' [⟨qp,0,[.int .i64 (r:Int),vW,vn],true⟩,⟨vn,1,ints x.2.2,true⟩,⟨p1,0,[.int .i64 (r:Int),vW],true⟩,⟨x.2.1,2,flr pc (Qw ws x.1),true⟩]) (fun x=>ws.length - x.1) (0,.nils,n) ?_ ?_;exact⟨dT _,hf,St.addNil 2 true hS⟩;rintro⟨i,vo,n⟩ h9 ⟨hi,hf,hS⟩;dsimp only at hi hf hS⊢;refine cM ?_;refine Om ?_ ?_;intro c22;refine OC [4,6,20,21] ?_;refine bg ?_;refine Oa [4,6,7,20,21] ?_;refine Oc ?_;refine Ol rfl (span_c (r:=r) (i:=i) hpf hv hB hf aA hS) ?_;rintro _ h6 ⟨rfl,n2,hS6,hf6⟩;clear hS;have hS:=hS6;clear hS6;refine Oa [4,6,8,9,20,21] ?_;refine Oc ?_;refine KOps.buildS2 (z0:=.int .i64 0) (z1:=.int .i64 0) aC aH aC aC aC aG aG ?_;refine Zi (cs:=[.int .i64 (Qd ws i),.int .i64 (K9 ws i)]) hS rfl rfl rfl aE ?_;intro v34 h' hS;refine Z0 hS (fun _=>rfl) (i:=4) rfl (a:=i) (by rw[YX YD,XF]) (hS.rd 0 rfl) (b:=1) rfl rfl aA ?_;intro r35 h' hS;simp only[fH,fJ,fW] at hS;have hr35:r35.one=true:=St.one hS (k:=4) rfl;have hS0:=St.tail hS;clear hS;have hS:=hS0;clear hS0;refine Ov ?_;refine cU ?_;refine Ox [4,6,20,21] ?_;refine bT ?_;rw[show([.int .i64 (Qd ws i),.int .i64 (K9 ws i)]:List AV)=pc (Qd ws i,K9 ws i) from rfl,UX,←Sf] at hS;exact lpN (i+1,r35,n2) ⟨by dsimp only; omega,hf6,hS⟩ aI;intro c22;refine bP ?_;refine Ox [6] ?_;refine bt ?_;rw[if_pos c16,c16,show ws.length=i by omega];exact⟨_,rfl,St.pick [3] aE rfl hS⟩
theorem stOpen_c {h:AHeap} {rm:Int} {vW:AV} {ws:List W} (hv:Rd h vW 4 (flr wc ws)):ACalls Go.Proofs.Tryz.prog 32 [.agg [.int .i64 rm,vW]] h (fun q h'=>∃ vo,q = .tup [vo,.int .i64 (KU rm ws)]∧St h h' [⟨vo,1,ints (if KU rm ws=0 then QE ws ws.length else []),true⟩]):=by
 refine OI 35 [.tmp 2,.tmp 3] Go.Proofs.Tryz.func32 rfl aE rfl rfl (dO rfl) ?_;have hS:=St.refl h;have hvo:vW.one=true:=hv.one;show KA _ 35 _ _ [(0,.agg [.int .i64 rm,vW])] _;refine bZ ?_;intro p1 h' hp1 hS;refine cK ?_;refine Ol rfl (Ta (Rd.ext hS.keeps hv)) ?_;rintro _ h5 ⟨vs,rfl,hSS⟩;refine Oa [4,5] ?_;refine Oa [4,5,15] ?_;refine Kc ?_ ?_;intro c15;refine bt ?_;rw[if_neg c15];rw[if_neg c15] at hSS;exact⟨_,rfl,St.trans (St.ofK (hS.keeps.trans hSS.keeps)) (St.addNil 1 true (St.refl _))⟩
 ·intro c15;replace hS:St _ _ (_::_):=St.trans hS hSS;rw[if_pos c15] at hS;have hfl:=(Zy c15).2;have hwl:=(Zy c15).1.len;have hsl:=XF ws ws.length;refine OC [4] ?_;refine bc ?_;refine Oc ?_;refine Qi YD (hS.rd 0 rfl) ?_;refine Oa [6,17,18,19] ?_;refine Oz ?_;refine Kb (X:=Nat × AV) (fun x=>[(17,vs),(18,.int .i64 ((Qw ws ws.length).length:Int)),(19,.int .i64 (x.1:Int)),(6,x.2)]) (fun x h'=>x.1≤ws.length∧St h h' [⟨vs,2,flr pc (Qw ws ws.length),true⟩,⟨p1,0,[.int .i64 rm,vW],true⟩,⟨x.2,1,ints (QE ws x.1),true⟩]) (fun x=>ws.length - x.1) (0,.nils) ?_ ?_;exact⟨dT _,St.addNil 1 true hS⟩;rintro⟨i,vo⟩ h9 ⟨hi,hS⟩;dsimp only at hi hS⊢;have hol:=WL ws i;refine cM ?_;refine Om ?_ ?_
  ·intro c20;refine OC [6,17,18,19] ?_;refine bg ?_;refine Oc ?_;refine KZ YD (hS.rd 0 rfl) (j:=i) rfl aD ?_;intro p22 hp22;refine K3 YD aE hp22 (hS.rd 0 rfl) aD ?_;refine O1 hS ?_;intro p8 h' hp8 hS;refine Ov ?_;refine O7 hS rfl (i:=0) rfl hp8 aB aH aH aE ?_;intro h' hS;simp only[fH,fJ,fW] at hS;refine On [6,7,8,17,18,19] ?_;refine Oq ?_;refine KX hp8 (j:=0) rfl aE ?_;intro p24 hp24;refine Oe hp24 (hS.rd 0 rfl) rfl ?_;refine KX hp8 (j:=1) rfl aE ?_;intro p26 hp26;refine Oe hp26 (hS.rd 0 rfl) rfl ?_;refine Oa [6,7,17,18,19,28] ?_;refine Kc ?_ ?_;intro c28;have hg:=VP (ws:=ws) (k:=ws.length) (i:=i) aA;have hle:=U2 hfl (show i<ws.length by omega);rw[hg] at c28;have hlt:Qd ws i<K9 ws i:=by dsimp only at c28; omega
   refine Oc ?_;refine bo ?_;intro v31 h' hS;refine KOps.appendI hS (fun _=>rfl) (i:=3) rfl aD ?_;intro r32 h' hr32 hS;refine Ov ?_;refine cU ?_;refine Ox [6,17,18,19] ?_;refine bT ?_;rw[show QE ws i ++ [(i:Int)]=QE ws (i+1) by rw[UH,if_pos hlt]] at hS;exact lpN (i+1,r32) ⟨by dsimp only; omega,St.tail hS⟩ aI;intro c28;have hg:=VP (ws:=ws) (k:=ws.length) (i:=i) aA;have hle:=U2 hfl (show i<ws.length by omega);rw[hg] at c28;have hlt:¬ Qd ws i<K9 ws i:=by dsimp only at c28; omega
   refine b3 ?_;refine Ox [6,17,18,19] ?_;refine bT ?_;rw[show QE ws i=QE ws (i+1) by rw[UH,if_neg hlt]] at hS;exact lpN (i+1,vo) ⟨by dsimp only; omega,St.tail hS⟩ aI
  intro c20;refine bP ?_;refine Ox [6] ?_;refine bt ?_;rw[if_pos c15,c15,show ws.length=i by omega];exact⟨_,rfl,St.pick [2] aE rfl hS⟩
end Go.Am
namespace Go.Am
def XA (ws:List W) (i:Nat) (v:Int):List W:=ws.set i {(ws.getD i default) with l:=v,m:=v}
theorem QQ (ws:List W) (i:Nat) (v:Int):(XA ws i v).length=ws.length:=by simp[XA]
theorem ZQ {ws:List W} {i:Nat} {v:Int} (hi:i<ws.length) (k:Nat):(XA ws i v).getD k default=if k=i then {(ws.getD i default) with l:=v,m:=v} else ws.getD k default:=by
 unfold XA;rw[dU,List.getElem?_set];by_cases h:i=k;subst h; rw[if_pos rfl,if_pos hi,if_pos rfl]; rfl;rw[if_neg h,if_neg (fun h2=>h h2.symm),dU]
theorem Rf {ws:List W} {i:Nat} {v:Int} (hi:i<ws.length) (n:List Int) (x:Int):∀ k,KM (XA ws i v) n x k=KM ws n x k:=by
 intro k
 induction k with
 | zero=>rfl
 | succ k ih=>
  rw[KM,KM,ih,ZQ hi];by_cases h:k=i;subst h; rw[if_pos rfl];rw[if_neg h]
theorem withW_inR {r:Int} {ws:List W} {i:Nat} {v:Int} (hi:i<ws.length) (hr:InR r ws):InR r (XA ws i v):=by
 intro k hk;rw[QQ] at hk;rw[ZQ hi];by_cases h:k=i;subst h; rw[if_pos rfl]; exact hr k hk;rw[if_neg h]; exact hr k hk
theorem RW {ws:List W} {i:Nat} {v:Int} (hi:i<ws.length) (h1:(ws.getD i default).l≤v) (h2:v≤(ws.getD i default).m) {n:List Int}:Flow (XA ws i v) n↔Flow ws n∧n.getD i 0=v:=by
 constructor;intro h;have e:n.getD i 0=v:=by
  have l1:=h.lo i (by rw[QQ]; exact hi);have l2:=h.hi i (by rw[QQ]; exact hi);rw[ZQ hi,if_pos rfl] at l1 l2;have l1:v≤n.getD i 0:=l1;have l2:n.getD i 0≤v:=l2;omega
 refine⟨⟨⟨by rw[h.len,QQ],?_,?_⟩,?_⟩,e⟩;intro k hk;have:=h.lo k (by rw[QQ]; exact hk);rw[ZQ hi] at this;by_cases hki:k=i;subst hki; rw[e]; exact h1;rw[if_neg hki] at this; exact this;intro k hk;have:=h.hi k (by rw[QQ]; exact hk);rw[ZQ hi] at this;by_cases hki:k=i;subst hki; rw[e]; exact h2;rw[if_neg hki] at this; exact this;intro x;have:=h.kp x;rw[kept,QQ,Rf hi] at this;exact this;rintro⟨h,e⟩;refine⟨⟨by rw[h.len,QQ],?_,?_⟩,?_⟩;intro k hk;rw[QQ] at hk;rw[ZQ hi];by_cases hki:k=i;subst hki; rw[if_pos rfl]; exact Int.le_of_eq e.symm;rw[if_neg hki]; exact h.lo k hk;intro k hk;rw[QQ] at hk;rw[ZQ hi];by_cases hki:k=i;subst hki; rw[if_pos rfl]; exact Int.le_of_eq e;rw[if_neg hki]; exact h.hi k hk;intro x;rw[kept,QQ,Rf hi];exact h.kp x
theorem withW_LM {ws:List W} {i:Nat} {v:Int} (hi:i<ws.length) (h:LM ws):LM (XA ws i v):=by
 intro k hk;rw[QQ] at hk;rw[ZQ hi];by_cases hki:k=i;subst hki; rw[if_pos rfl]; exact Int.le_refl _;rw[if_neg hki]; exact h k hk
theorem V7 {r:Nat} {ws:List W} {i:Nat} {v:Int} (hr:InR r ws) (hl:LM ws) (hi:i<ws.length) (h1:(ws.getD i default).l≤v) (h2:v≤(ws.getD i default).m):YH r (XA ws i v)=true↔∃ n,Flow ws n∧n.getD i 0=v:=by
 rw[Ui (withW_inR hi hr) (withW_LM hi hl)];exact⟨fun⟨n,hn⟩=>⟨n,(RW hi h1 h2).1 hn⟩,fun⟨n,hn⟩=>⟨n,(RW hi h1 h2).2 hn⟩⟩
end Go.Am
namespace Go.Am
def loChk (r:Nat) (ws:List W) (i:Nat) (v:Int):Bool:=
  decide ((ws.getD i default).l≤v∧v≤(ws.getD i default).m) && YH r (XA ws i v) && (fT (v - (ws.getD i default).l).toNat).all fun(k:Nat)=>!YH r (XA ws i ((ws.getD i default).l+(k:Int)))
def hiChk (r:Nat) (ws:List W) (i:Nat) (v:Int):Bool:=
  decide ((ws.getD i default).l≤v∧v≤(ws.getD i default).m) && YH r (XA ws i v) && (fT ((ws.getD i default).m - v).toNat).all fun(k:Nat)=>!YH r (XA ws i ((ws.getD i default).m - (k:Int)))
theorem lo_chk {r:Nat} {ws:List W} {i:Nat} {v:Int} (hB:BOk (r:Int) ws) (hi:i<ws.length) (h:loChk r ws i v=true):IsLo ws i v:=by
 unfold loChk at h;simp only[Bool.and_eq_true,decide_eq_true_eq,fL,gY,Bool.not_eq_true'] at h;obtain⟨⟨⟨h1,h2⟩,h3⟩,h4⟩:=h;refine⟨(V7 hB.inR hB.LM hi h1 h2).1 h3,fun n hn=>?_⟩;have hl:=hn.lo i hi;have hm:=hn.hi i hi;refine Int.not_lt.1 ?_;intro hlt;have h5:=h4 (n.getD i 0 - (ws.getD i default).l).toNat aA;have e:(ws.getD i default).l+(((n.getD i 0 - (ws.getD i default).l).toNat:Nat):Int)=n.getD i 0:=by omega
 rw[e] at h5;have h6:=(V7 hB.inR hB.LM (i:=i) (v:=n.getD i 0) hi hl hm).2 ⟨n,hn,rfl⟩;rw[h5] at h6;cases h6
theorem hi_chk {r:Nat} {ws:List W} {i:Nat} {v:Int} (hB:BOk (r:Int) ws) (hi:i<ws.length) (h:hiChk r ws i v=true):IsHi ws i v:=by
 unfold hiChk at h;simp only[Bool.and_eq_true,decide_eq_true_eq,fL,gY,Bool.not_eq_true'] at h;obtain⟨⟨⟨h1,h2⟩,h3⟩,h4⟩:=h;refine⟨(V7 hB.inR hB.LM hi h1 h2).1 h3,fun n hn=>?_⟩;have hl:=hn.lo i hi;have hm:=hn.hi i hi;refine Int.not_lt.1 ?_;intro hlt;have h5:=h4 ((ws.getD i default).m - n.getD i 0).toNat aA;have e:(ws.getD i default).m - ((((ws.getD i default).m - n.getD i 0).toNat:Nat):Int)=n.getD i 0:=by omega
 rw[e] at h5;have h6:=(V7 hB.inR hB.LM (i:=i) (v:=n.getD i 0) hi hl hm).2 ⟨n,hn,rfl⟩;rw[h5] at h6;cases h6
def spChk (O:Off) (i:Nat) (a b:Int):Bool:=decide (Zr O.rm O.ws i=0) && decide (i<O.ws.length) && loChk O.rm.toNat O.ws i a && hiChk O.rm.toNat O.ws i b
theorem sp_chk {O:Off} {i:Nat} {a b:Int} (h:spChk O i a b=true):O.spLo i=a∧O.spHi i=b:=by
 unfold spChk at h;simp only[Bool.and_eq_true,decide_eq_true_eq] at h;obtain⟨⟨⟨h1,h2⟩,h3⟩,h4⟩:=h;obtain⟨h5,h6,h7⟩:=Wh h1;obtain⟨hB,hF⟩:=Zy h5;have hr2:=hB.r2;have e:O.rm=((O.rm.toNat:Nat):Int):=by omega
 rw[e] at hB;unfold Off.spLo Off.spHi;rw[if_pos h1,if_pos h1];exact⟨(Uk hF h2).uniq (lo_chk hB h2 h3),(Uh hF h2).uniq (hi_chk hB h2 h4)⟩
def Off.wrongC (O : Off) : Tell → Option Int
  | .room r=>some (if r∈O.rooms then 6 else if O.rooms.length=6 then 3 else 0)
  | .way w f t=>some (if (OG O.ways w).isSome then 6 else if f ∉ O.rooms∨t ∉ O.rooms then 2 else if f=t then 13 else if O.ways.length=12 then 3 else 0)
  | .bound w n most=>some (match OG O.ways w with
    | none=>2
    | some l=>if l.paid then 20 else O.tries w (chB n most) l)
  | .pack p w=>some (if p∈O.ever then 6 else match OG O.ways w with
    | none=>2
    | some l=>if O.packs.length=20 then 3 else if l.hi≤l.packs.length then 15 else O.tries w (chP p) l)
  | .move p s=>some (match OG O.packs p with
    | none=>2
    | some d=>if (s=2∨s=0)∧d.2≠1 then 20 else if s=3∧d.2≠2∨s=1∧d.2≠3 then 21 else 0)
  | .claim _ _=>none
  | .free w=>some (match OG O.ways w with
    | none=>2
    | some l=>if l.paid then 20 else 0)
theorem wrongC_is {O:Off} {t:Tell} {e:Int} (h:O.wrongC t=some e):O.wrong t=e:=by
 cases t with
 | claim w n=>cases h
 | room r=>exact dY h
 | way w f t=>exact dY h
 | bound w n g=>exact dY h
 | pack p w=>exact dY h
 | move p s=>exact dY h
 | free w=>exact dY h
def askC (lines:List Str) (line:Str):Option Int:=
  if KH line=0 then ((after lines).wrongC (Qa line)).map fun e=>if e=0∧lines.length=100 then 16 else e else some (KH line)
theorem Ua {lines:List Str} {line:Str} {e:Int} (h:askC lines line=some e):KQ lines line=e:=by
 unfold askC at h;unfold KQ;dsimp only;by_cases hr:KH line=0
 ·rw[if_pos hr] at h;simp only[if_pos hr]
  cases hw:(after lines).wrongC (Qa line) with
  | none=>rw[hw] at h; cases h
  | some e2=>
   rw[hw] at h;rw[wrongC_is hw];exact dY h
 rw[if_neg hr] at h;simp only[if_neg hr];rw[if_neg (fun hx=>hr hx.1)];exact dY h
end Go.Am
namespace Go.Am
def claimC (lines:List Str) (line:Str) (lo hi:Int):Option Int:=match Qa line with
  | .claim w n=>match OG (after lines).ways w with
    | some l=>if KH line=0∧l.paid=false∧spChk (after lines) l.pl lo hi=true∧lines.length≠100 then some (if n<lo∨hi<n then 14 else if lo<hi then 21 else 0) else none
    | none=>none
  | _=>none
theorem claimC_is {lines:List Str} {line:Str} {lo hi e:Int} (h:claimC lines line lo hi=some e):KQ lines line=e:=by
 unfold claimC at h;split at h;rename_i w n ht;split at h;rename_i l hm;split at h;rename_i hc;obtain⟨h1,h2,h3,h4⟩:=hc;obtain⟨h5,h6⟩:=sp_chk h3;have hw:=Z7 (n:=n) hm h2;rw[h5,h6] at hw;unfold KQ;dsimp only;simp only[if_pos h1,ht,hw];rw[if_neg (fun hx=>h4 hx.2)];exact dY h;cases h;cases h;cases h
def bk1:Str:=[114,111,111,109,32,97]
def bk2:Str:=[114,111,111,109,32,98]
def bk3:Str:=[119,97,121,32,120,32,97,32,98]
def bk4:Str:=[108,101,97,115,116,32,120,32,49]
def bk5:Str:=[99,108,97,105,109,32,120,32,48]
theorem bk1_e:KQ [] bk1=0:=Ua bK
theorem bk2_e:KQ [bk1] bk2=0:=Ua bK
theorem bk3_e:KQ [bk1,bk2] bk3=0:=Ua bK
theorem bk4_e:KQ [bk1,bk2,bk3] bk4=13:=Ua bK
theorem bk5_e:KQ [bk1,bk2,bk3] bk5=0:=claimC_is (lo:=0) (hi:=0) bK
theorem bk1_d:doL [] bk1 = [bk1]:=by unfold doL; rw[bk1_e]; rfl
theorem bk2_d:doL [bk1] bk2 = [bk1,bk2]:=by unfold doL; rw[bk2_e]; rfl
theorem bk3_d:doL [bk1,bk2] bk3 = [bk1,bk2,bk3]:=by unfold doL; rw[bk3_e]; rfl
theorem bk4_d:doL [bk1,bk2,bk3] bk4 = [bk1,bk2,bk3]:=by unfold doL; rw[bk4_e]; rfl
theorem bk5_d:doL [bk1,bk2,bk3] bk5 = [bk1,bk2,bk3,bk5]:=by unfold doL; rw[bk5_e]; rfl
end Go.Am
