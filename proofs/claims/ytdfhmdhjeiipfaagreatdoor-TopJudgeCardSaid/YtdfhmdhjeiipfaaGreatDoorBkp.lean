/-
  Tops: turned from layer 14: Cp.
  Conditions: none.
-/
import Derived.Test.YtdfhmdhjeiipfaaGreatDoorQOe
import Derived.WalkKit
import Derived.BigCall
import Derived.Lib.ConvBytes
import Derived.Laws.Concat
import Derived.Lib.ItoaLen
import Derived.Test.YtdfhmdhjeiipfaaGreatDoorCvf
open Array renaming getElem?_eq_none → fY
open ByteArray renaming mk → fF
open Go.Lib renaming itoa → dW, pow10Tab → fI, IsBuilderF → fO, cell_of_heap → fB, TabIs → fC, BuilderAtF → fJ, strCells → fN, byteCells → fT, decDigits → fV
open Go.Op renaming stringOp → fE
open Go.Oper renaming upon_value → fD
open Go.Result renaming andThen → fH
open List renaming getD_eq_getElem?_getD → dO, getElem?_eq_getElem → dU, set_cons_zero → dY, set_cons_succ → dP, perm_append_comm → dR, length_cons → dS, length_nil → dX, length_append → dZ, take_of_length_le → fA, getElem?_map → fU, range → fG, getElem?_take → fK, take_add_one → fL, getElem?_eq_none_iff → fM, all_eq_true → fP, range_succ → fR, mem_range → fS, getElem?_drop → fX, mem_singleton → fZ, foldl_cons → gI, mem_append → gO
open Nat renaming le_of_ble_eq_true → dQ, zero_add → dV, not_lt_zero → fQ, lt_or_ge → fW, le_refl → gA, zero_le → gE
open Option.some renaming inj → dT
set_option maxRecDepth 99999
set_option maxHeartbeats 4000000
namespace Go.Am
theorem opened_cQ {h:AHeap}:ACalls Go.Proofs.Tryz.prog 83 [] h (fun q h'=>∃ A,q=A.po∧AOk A off0∧St h h' (Kt A off0)):=by
 refine OK 6 [.tmp 0] Go.Proofs.Tryz.func83 rfl aE rfl rfl (dQ rfl) ?_;have hS:=St.refl h;show KA _ 6 _ _ [] _;refine Oa [] ?_;refine Ot ?_;refine KOps.makeMapD hS rfl ?_;intro v1 h' hv1 hS;refine KOps.makeMapD hS rfl ?_;intro v2 h' hv2 hS;refine KOps.makeMapD hS rfl ?_;intro v3 h' hv3 hS;have ho1:v1.one=true:=by obtain⟨_,rfl⟩:=hv1; rfl
 have ho2:v2.one=true:=by obtain⟨_,rfl⟩:=hv2; rfl
 have ho3:v3.one=true:=by obtain⟨_,rfl⟩:=hv3; rfl
 refine OP (zs:=[.nils,.nils,.nilm,.nilm,.nilm,.nils]) (cs:=[_,_,_,_,_,_]) aB aI aB (.cons (off:=2) (s:=1) aB (AV.cells_one aG) rfl aE (.cons (off:=3) (s:=1) aB (AV.cells_one aG) rfl aE (.cons (off:=4) (s:=1) aB (AV.cells_one aG) rfl aE .nil))) aI ?_;refine OH hS (by show(true && (true && (v1.one && (v2.one && (v3.one && (true && true))))))=true; rw[ho1,ho2,ho3]; rfl) ?_;intro p5 h' hp5 hS;refine Oa [0] ?_;refine Oi ?_;have hS1:=St.addNil 1 true (St.addNil 1 true (St.addNil 1 true hS));have hS2:=St.pick (objs':=Kt ⟨p5,.nils,.nils,v1,v2,v3,.nils,[],[]⟩ off0) [0,4,5,3,2,1,6] aE rfl hS1;exact⟨_,rfl,⟨hp5,hv1,hv2,hv3,rfl,fun i hi=>absurd hi (fQ i),rfl,fun i hi=>absurd hi (fQ i)⟩,hS2⟩
theorem new_c {h:AHeap}:ACalls Go.Proofs.Tryz.prog 48 [] h (fun b h'=>Bk h h' b [] []):=by
 refine OK 4 [.tmp 0] Go.Proofs.Tryz.func48 rfl aE rfl rfl (dQ rfl) ?_;have hS:=St.refl h;show KA _ 4 _ _ [] _;refine Oa [] ?_;refine Ot ?_;refine Oo rfl (opened_cQ) ?_;rintro _ h5 ⟨A,rfl,ok,hS5⟩;clear hS;have hS:=hS5;have hpo:A.po.one=true:=by obtain⟨_,_,e⟩:=Uz ok.po; rw[e]; rfl
 refine OP (zs:=[.nilp,.nils]) (cs:=[_,_]) aB aI aB (.cons (off:=0) (s:=1) aB (AV.cells_one aG) rfl aE .nil) aI ?_;refine OH hS (by show(A.po.one && true)=true; rw[hpo]; rfl) ?_;intro p3 h' hp3 hS;refine Oa [0] ?_;refine Oi ?_;have hS1:=St.addNil 1 true hS;refine⟨.nils,A,⟨hp3,ok,.nil⟩,St.perm ?_ hS1⟩;show((_::Kt A off0) ++ [_]).Perm _;rw[ZD,List.append_nil];exact List.Perm.cons _ (dR (l₁:=Kt A off0) (l₂:=[_]))
theorem TY {h0 h:AHeap} {b vl:AV} {A:OA} {lines:List Str} {G:List Obj} {line:Str} (hb:BOk2 b A lines) (st:St h0 h (ZD b vl A lines ++ G)) (hV:Vs h) (hl:line.length≤1000000):ACalls Go.Proofs.Tryz.prog 57 [b,.str (wdQ line)] h (fun q h'=>∃ v,q = .tup [v,.int .i64 (KB lines line)]∧(KB lines line=0→v=KL (K4 line))∧St h0 h' (ZD b vl A lines ++ G)):=by
 refine OK 38 [.tmp 4,.tmp 5] Go.Proofs.Tryz.func57 rfl aE rfl rfl (dQ rfl) ?_;have hS:=st;have hwf:=hb.done.wf.1;have hll:=hb.done.wf.2.1;show KA _ 38 _ _ [(0,b),(1,.str (wdQ line))] _;refine b6 ?_;refine Oo rfl (none_c (St.rbk hS hb).bk hb.ok.po) ?_;rintro _ _ ⟨rfl,rfl⟩;refine Oj [0,1,9] ?_;refine OM ?_;refine OD [0,1] ?_;refine Oc ?_;refine Oo rfl (read_c hV.mx hl) ?_;rintro _ h8 ⟨⟨v,hv1,rfl,hv⟩,hK⟩;have hS0:=St.on hS hK;clear hS;have hS:=hS0;clear hS0;refine Oa [0,6,7] ?_;refine KA.meet (X:=AV) (fun y=>[(0,b),(6,y),(7,.int .i64 (if Ky line=0 then (after lines).wrong (K4 line) else Ky line))]) (fun y h'=>(Ky line=0→y=KL (K4 line))∧St h0 h' (ZD b vl A lines ++ G)) ?_ ?_
 ·
   refine Oa [0,6,7,16] ?_;refine On ?_ ?_;intro c16;obtain⟨ty,xx,f,hv2,hm1,hc1⟩:=wrongs (G:=_::_::G) (St.perm (Rc _ _ _ _) hS) hb.ok hwf (K4 line);rw[hv c16,hv2];refine OQ [] mixed rfl aB ?_;refine Oc ?_;refine Ox hb.ad ?_;refine Ob hb.ad ?_;intro p20 hp20;refine Of hp20 (St.rbk hS hb).rd rfl ?_;refine KOps.makeFmeth ?_;refine KOps.nilMeth (by rw[hm1]; rfl) ?_;refine Oe ?_;refine KOps.callI rfl hm1 hc1 ?_;rintro _ h9 ⟨rfl,hS9⟩;clear hS;have hS:St h0 h9 (ZD b vl A lines ++ G):=St.perm (Rc _ _ _ _).symm hS9;refine Oq ?_;refine Og ?_;exact mtQ.normal _ (by repeat (first|exact Sub.nil _|refine Sub.cons Look.eq ?_|refine Sub.cons (Eq.trans Look.eq (congrArg (AV.int _) aO)) ?_|refine Sub.cons (Eq.trans Look.eq (by rw[if_pos c16])) ?_)) ⟨by first|exact fun _=>rfl|exact fun _=>hv2.symm,hS⟩;intro c16;refine OC ?_;exact mtQ.normal _ (by repeat (first|exact Sub.nil _|refine Sub.cons Look.eq ?_|refine Sub.cons (Eq.trans Look.eq (congrArg (AV.int _) aO)) ?_|refine Sub.cons (Eq.trans Look.eq (by rw[if_neg c16])) ?_)) ⟨hv,hS⟩
 ·
   rintro y h7 ⟨hv7,hS⟩;refine Oc ?_;refine Ov (dj:=28) rfl rfl true false rfl ?_ ?_;intro g28;have g28:=of_decide_eq_true g28;refine Oc ?_;refine Ox hb.ad ?_;refine Oh (dj:=28) rfl rfl ?_;refine Ob hb.ad ?_;intro p31 hp31;refine Oh (dj:=28) rfl rfl ?_;refine Of hp31 (St.rbk hS hb).rd rfl ?_;refine Oh (dj:=28) rfl rfl ?_;refine Kv (St.rbk hS hb).log ?_;refine Oa [6,7,35] ?_;refine On ?_ ?_;intro c35;refine Oa [6,7] ?_;refine cS ?_;have ha:KB lines line=16:=if_pos ⟨g28,by omega⟩;exact⟨y,by rw[ha],fun h=>by rw[ha] at h; exact absurd h aE,hS⟩;intro c35;refine OD [6,7] ?_;refine cS ?_;have ha:KB lines line=(if Ky line=0 then (after lines).wrong (K4 line) else Ky line):=if_neg (fun hx=>c35 aA);exact⟨y,by rw[ha],fun h=>hv7 (Vd h).1,hS⟩;intro g28;have g28:=of_decide_eq_false g28;refine Oa [6,7,35] ?_;refine OM ?_;refine OD [6,7] ?_;refine cS ?_;have ha:KB lines line=(if Ky line=0 then (after lines).wrong (K4 line) else Ky line):=if_neg (fun hx=>g28 hx.1);exact⟨y,by rw[ha],fun h=>hv7 (Vd h).1,hS⟩
theorem would_c {h0 h:AHeap} {b vl:AV} {A:OA} {lines:List Str} {G:List Obj} {line:Str} (hb:BOk2 b A lines) (st:St h0 h (ZD b vl A lines ++ G)) (hV:Vs h) (hl:line.length≤1000000):ACalls Go.Proofs.Tryz.prog 27 [b,.str (wdQ line)] h (fun q h'=>q = .int .i64 (KB lines line)∧St h0 h' (ZD b vl A lines ++ G)):=by
 refine OK 14 [.tmp 4] Go.Proofs.Tryz.func27 rfl aE rfl rfl (dQ rfl) ?_;have hS:=st;show KA _ 14 _ _ [(0,b),(1,.str (wdQ line))] _;refine b6 ?_;refine Oo rfl (TY hb hS hV hl) ?_;rintro _ h8 ⟨v,rfl,hv,hS8⟩;clear hS;have hS:=hS8;refine Oa [6] ?_;refine ba ?_;exact⟨rfl,hS⟩
theorem JW {h0 h:AHeap} {b vl:AV} {A:OA} {lines:List Str} {G:List Obj} {line:Str} (hb:BOk2 b A lines) (st:St h0 h (ZD b vl A lines ++ G)) (hV:Vs h) (hl:line.length≤1000000):ACalls Go.Proofs.Tryz.prog 29 [b,.str (wdQ line)] h (fun q h'=>q = .int .i64 (KB lines line)∧Bk h0 h' b (doL lines line) G):=by
 refine OK 35 [.tmp 4] Go.Proofs.Tryz.func29 rfl aE rfl rfl (dQ rfl) ?_;have hS:=st;have hwf:=hb.done.wf.1;have hll:=hb.done.wf.2.1;show KA _ 35 _ _ [(0,b),(1,.str (wdQ line))] _;refine b6 ?_;refine Oo rfl (TY hb hS hV hl) ?_;rintro _ h8 ⟨v,rfl,hv,hS8⟩;clear hS;have hS:=hS8;refine Oa [0,1,5,6] ?_;refine Oa [0,1,5,6,14] ?_;refine Kk ?_ ?_;intro c14;refine ba ?_;have hd:doL lines line=lines:=if_neg c14;rw[hd];exact⟨rfl,vl,A,hb,hS⟩
 ·intro c14;obtain⟨hre,hwr,h100⟩:=Vd c14;obtain⟨ty,xx,f,hv2,hm1,hc1⟩:=tells (G:=_::_::G) (St.perm (Rc _ _ _ _) hS) hb.ok hwf (K4 line) hwr;rw[hv c14,hv2];replace hS:St h0 _ (⟨b,0,[A.po,vl],true⟩::⟨vl,1,wcsQ lines,true⟩::(Kt A (after lines) ++ G)):=hS;refine OD [0,1,5] ?_;refine bZ ?_;refine Oc ?_;refine Ox hb.ad ?_;refine Ob hb.ad ?_;intro p19 hp19;refine Of hp19 (hS.rd 0 rfl) rfl ?_;refine KOps.makeFmeth ?_;refine KOps.nilMeth (by rw[hm1]; rfl) ?_;refine Oe ?_;refine KOps.callI rfl hm1 hc1 ?_;rintro _ h9 ⟨A2,hpo,ok2,hS9⟩;clear hS;have hS:St h0 h9 (⟨b,0,[A.po,vl],true⟩::⟨vl,1,wcsQ lines,true⟩::(Kt A2 ((after lines).tell (K4 line)) ++ G)):=St.perm (Rc _ _ _ _).symm hS9;refine Oj [0,1] ?_;refine Oc ?_;refine Ox hb.ad ?_;refine Ob hb.ad ?_;intro p28 hp28;refine Of hp28 (hS.rd 0 rfl) rfl ?_;refine Oe ?_;refine b5 ?_;intro v31 h' hS;refine KOps.appendW1 hS (fun _=>rfl) (i:=1) rfl aC ?_;intro r32 h' hr32 hS;refine Ox hb.ad ?_;refine Ob hb.ad ?_;intro p34 hp34;refine KR hS rfl (i:=0) rfl hp34 aG aU ?_;intro h' hS;simp only[dY,dP,dV] at hS;refine Oj [] ?_;refine bX ?_;refine Od ?_;refine Oi ?_;have hd:doL lines line=lines ++ [line]:=if_pos c14;rw[hd];refine⟨by rw[c14],r32,A2,⟨hb.ad,by rw[ZV]; exact ok2,.snoc hb.done c14⟩,?_⟩;unfold ZD;rw[ZV,hpo];exact hS
end Go.Am
namespace Go.Am
noncomputable def Off.spn (O:Off) (w:Str):Int × Int × Int:=match OE O.ways w with
  | none=>(0,0,2)
  | some l=>(O.spLo l.pl,O.spHi l.pl,0)
theorem spn_some {O:Off} {w:Str} {l:Lane} (h:OE O.ways w=some l):O.spn w=(O.spLo l.pl,O.spHi l.pl,0):=by unfold Off.spn; rw[h]
end Go.Am
namespace Go.Proofs
open Go.RowKit
open Go.Am (wdQ)
theorem Tryz.check_used (b : Nat) (w : World) (h0 : w.cell? ⟨b, 0, none⟩ = some (.pointer (some ⟨b, 0, none⟩))) :
    Calls Tryz.prog 118 #[.pointer (some ⟨b,0,none⟩)] w fun e w'=>e = .returned (.tuple #[])∧w'=w:=by
 obtain⟨j,hj,_⟩:=Option.map_eq_some_iff.1 Tryz.Builder_Extra_169.sizeBuilder
 go_enter Tryz.func118,Tryz.ntmps118
 go_wp2
 rw[Lib.run_neq_ptr_same w _ Tryz.underlying154 hj]
 go_wp2
 go_end0
 exact⟨rfl,rfl⟩
theorem Tryz.check_fresh (b : Nat) (w : World) (h0 : w.cell? ⟨b, 0, none⟩ = some (.pointer none)) (hsh : w.shape? b = some (156, 2)) (hfz : w.frozen? ⟨b, 0, none⟩ = false) :
    Calls Tryz.prog 118 #[.pointer (some ⟨b,0,none⟩)] w fun e w'=>e = .returned (.tuple #[])∧w'=w.setCell ⟨b,0,none⟩ (.pointer (some ⟨b,0,none⟩)):=by
 obtain⟨j,hj,hjs⟩:=Option.map_eq_some_iff.1 Tryz.Builder_Extra_169.sizeBuilder
 go_enter Tryz.func118,Tryz.ntmps118
 go_wp2
 rw[Lib.run_to_unsafe w ⟨b,0,none⟩ Tryz.underlying154 Tryz.underlying242 hj (by rw[hjs]; decide) hsh (Nat.zero_lt_succ 1)];simp only[fH];rw[fD]
 go_wp2
 rw[run_callFunc_extern Tryz.func160 (by kernel_rfl) (by kernel_rfl) (by kernel_rfl) (e:=Extern.AbiNoEscape.same) (by kernel_rfl)];rw[Lib.run_noEscape];simp only[fH];rw[fD]
 go_wp2
 rw[Lib.run_from_unsafe w ⟨b,0,none⟩ Tryz.underlying242 Tryz.underlying154 hj hsh Tryz.Builder_Extra_169.liesBuilder];simp only[fH];rw[fD]
 go_wp2
 go_end0
 exact⟨rfl,rfl⟩
theorem Tryz.check_k (B b : Nat) (bs : List Value) (w : World) (h : fO 156 5 B b bs w) :
    Calls Tryz.prog 118 #[.pointer (some ⟨b,0,none⟩)] w fun e w'=>e = .returned (.tuple #[])∧(fJ 156 5 B b (.pointer (some ⟨b,0,none⟩)) bs w'∧Below B w w'∧Lib.OthersKept 5 (some b) w w'):=by
 rcases h with h|h
 refine(Tryz.check_fresh b w h.cell0 h.shape h.frozen0).mono ?_;rintro e w' ⟨rfl,rfl⟩;exact⟨rfl,h.used _,(Below.refl B w).setCell (p:=⟨b,0,none⟩) h.1 _,(Lib.OthersKept.refl _ _ w).setCell ⟨b,0,none⟩ rfl _⟩;refine(Tryz.check_used b w h.cell0).mono ?_;rintro e w' ⟨rfl,rfl⟩;exact⟨rfl,h,Below.refl B _,Lib.OthersKept.refl _ _ _⟩
theorem Tryz.write_k (B b : Nat) (bs : List Value) (s : ByteArray) (w : World) (h : fO 156 5 B b bs w) (hlen : bs.length + s.size ≤ 140737488355328) (hBw : B ≤ w.heap.size) :
    Calls Tryz.prog 84 #[.pointer (some ⟨b,0,none⟩),.string s] w fun e w'=>e = .returned (.tuple #[.int .i64 s.size,.nilIface])∧(fJ 156 5 B b (.pointer (some ⟨b,0,none⟩)) (bs ++ fN s) w'∧Below B w w'∧Lib.OthersKept 5 (some b) w w'):=by
 obtain⟨i0,hi,hz0,hz1,hz2⟩:=info_parts Tryz.Builder_Extra_169.infoByte
 go_enter Tryz.func84,Tryz.ntmps84
 go_wp2_with (go_at_call 118; refine(Tryz.check_k B b bs _ h).mono ?_)
 rintro e w1 ⟨rfl,h1,hb1,hk1⟩;obtain⟨hB,v,hbk,hown,hne⟩:=h1;have c0:w1.cell? ⟨b,0,none⟩=some (.pointer (some ⟨b,0,none⟩)):=by rw[fB hbk]; rfl
 have c1:w1.cell? ⟨b,1,none⟩=some v:=by rw[fB hbk]; rfl
 go_wp2_with (at_builtin; refine Lib.wpList_append_own_stringF _ rfl _ _ 37 9 rfl B 5 i0 Tryz.underlying37 Tryz.underlying9 hi hz0 hz1 hz2 _ _ _ rfl hown s rfl ?c3 ?c4 ?c5 ?_)
 case c3=>unfold maxLen; omega
 case c4=>omega
 case c5=>have:=hb1.size; omega
 intro v' w2 hown' hgrow _;have hlt:b<w1.heap.size:=by
  rcases fW b w1.heap.size with h'|h'
  exact h';simp[fY h'] at hbk
 have hb2:w2.heap[b]? = some (.cells #[.pointer (some ⟨b,0,none⟩),v] 156 (0,0)):=by
  rw[hgrow.block b hlt (fun e=>hne e.symm)];exact hbk
 have d0:w2.cell? ⟨b,0,none⟩=some (.pointer (some ⟨b,0,none⟩)):=by rw[fB hb2]; rfl
 have d1:w2.cell? ⟨b,1,none⟩=some v:=by rw[fB hb2]; rfl
 have f1:w2.frozen? ⟨b,1,none⟩=false:=Lib.frozen_of_heap hb2 1;obtain⟨ao,n',cap,rfl⟩:∃ ao n' cap,v' = .slice ao n' cap:=by
  rcases hown'.2 with ⟨hv,_⟩|⟨g,cap,cur,fz,hv,_⟩
  exact⟨_,_,_,hv⟩;exact⟨_,_,_,hv⟩
 go_wp2
 go_ret2
 refine⟨rfl,?_,?_,(hk1.grown hgrow (Lib.ownsRowF_kind hown)).setCell ⟨b,1,none⟩ rfl _⟩;exact Lib.BuilderAtF.put (T:=156) (e:=5) hB hb2 (bs':=bs ++ fN s) (by simpa [Lib.strCells_length] using hown') Tryz.Builder_Extra_169.neB5;exact(hb1.grown hgrow (by have:=hb1.size; omega) (fun k hk=>(hown.lt k hk).1)).setCell (p:=⟨b,1,none⟩) hB _
def Tryz.sumTo (l:List UInt8):Int:=l.foldl (fun n c=>(29*n+(c.toNat:Int)) % 9973) 7
theorem Tryz.sumTo_in (l:List UInt8) : 0≤Tryz.sumTo l∧Tryz.sumTo l<9973:=by
 unfold Tryz.sumTo
 suffices h:∀ (l:List UInt8) (n:Int),0≤n∧n<9973→0≤l.foldl (fun n c=>(29*n+(c.toNat:Int)) % 9973) n∧l.foldl (fun n c=>(29*n+(c.toNat:Int)) % 9973) n<9973 from h l 7 (by decide)
 intro l
 induction l with
 | nil=>intro n h; exact h
 | cons a l ih=>intro n h; rw[gI]; exact ih _ ⟨by omega,by omega⟩
theorem Tryz.sumTo_next {l:List UInt8} {k:Nat} (h:k<l.length):Tryz.sumTo (l.take (k+1))=(29*Tryz.sumTo (l.take k)+((l.getD k 0).toNat:Int)) % 9973:=by
 unfold Tryz.sumTo;rw[fL,dU h,List.foldl_append,dO,dU h];rfl
theorem Tryz.w64 (n:Int) (h : -9223372036854775808≤n∧n≤9223372036854775807):wrap64 n=n:=by unfold wrap64; omega
theorem Tryz.below_bytes (w:World) (s:ByteArray):Below w.heap.size w (Lib.bytesWorld w 5 s):=by
 refine⟨?_,?_,?_,?_,?_⟩
 all_goals first|rfl|(rw[Lib.bytesWorld_size]; omega)|(intro k hk; exact Lib.bytesWorld_at_old w 5 s k hk)
theorem Tryz.summed_walk (l : List UInt8) (hl : l.length ≤ 1000000) (w : World) :
    Calls Tryz.prog 86 #[.string (wdQ l)] w fun e w'=>e = .returned (.int .i64 (Tryz.sumTo l))∧Below w.heap.size w w':=by
 have hsz:(wdQ l).size=l.length:=Go.Am.wd_size l
 go_enter Tryz.func86,Tryz.ntmps86
 go_wp2
 rw[Lib.run_convert_string_bytes w 9 37 5 (wdQ l) Tryz.underlying9 Tryz.underlying37 Tryz.underlying5];simp only[fH];rw[fD]
 go_wp2
 go_loopw [3,9] (fun n i wr=>∃ k:Nat,k≤l.length∧n = .int .i64 (Tryz.sumTo (l.take k))∧i = .int .i64 k∧wr=Lib.bytesWorld w 5 (wdQ l)) (fun _ i _=>l.length - (intOf i).toNat)
 case atStart=>exact⟨0,by omega,rfl,rfl,rfl⟩
 case round=>
  obtain⟨k,hk,rfl,rfl,rfl⟩:=hrel;obtain⟨h1,h2⟩:=Tryz.sumTo_in (l.take k);by_cases hp:k<l.length
  ·have hc:=Lib.bytesWorld_cell w 5 (wdQ l) k (by omega);have hb:(((wdQ l).data.toList.getD k 0).toNat)=(l.getD k 0).toNat:=by simp[wdQ]
   rw[hb] at hc;have h3:(l.getD k 0).toNat<256:=(l.getD k 0).toNat_lt
   go_wp2
   go_roundw
   case rel=>
    refine⟨k+1,by omega,?_,by go_num,trivial⟩;rw[Tryz.sumTo_next hp];have e0:l[k]=l.getD k 0:=by rw[dO,dU hp]; rfl
    rw[e0];have e1:wrap64 (((l.getD k 0).toNat:Nat):Int)=((l.getD k 0).toNat:Int):=Tryz.w64 _ (by omega);rw[e1,Tryz.w64 _ (by omega),Int.tmod_eq_emod_of_nonneg (by omega)]
   case measure=>
    simp[intOf];omega
  ·have he:k=l.length:=by omega
   subst he;rw[fA (by omega)]
   go_wp2
   go_ret
   exact⟨rfl,Tryz.below_bytes w _⟩
end Go.Proofs
namespace Go.Am
def kHead:Str:=[115,112,97,100,105,108,108,101,10]
def lineT (i:Nat) (l:Str):Str:=dW ((i:Int)+1) ++ [46,32] ++ l ++ [10]
def bodyT (lines : List Str) : Nat → Str
  | 0=>kHead
  | k+1=>bodyT lines k ++ lineT k (lines.getD k [])
def fileT (lines:List Str):Str:=bodyT lines lines.length ++ [101,110,100,32] ++ dW (Go.Proofs.Tryz.sumTo (bodyT lines lines.length)) ++ [10]
end Go.Am
namespace Go.Proofs
open Go.RowKit
open Go.Am (wdQ Str kHead lineT bodyT fileT)
theorem Tryz.strCells_wd (l:Str):fN (wdQ l)=fT l:=by
 simp[fN,fT,wdQ]
theorem Tryz.below_cell {w w':World} (h:Below w.heap.size w w') {a:Addr} {v:Value} (hc:w.cell? a=some v):w'.cell? a=some v:=by
 have hlt:a.block<w.heap.size:=by
  rcases fW a.block w.heap.size with h'|h'
  exact h';simp[World.cell?,fY h'] at hc
 unfold World.cell? at hc⊢;rw[h.block _ hlt];exact hc
theorem Tryz.bldAt_below {T e:TypeId} {B b:Nat} {p:Value} {bs:List Value} {W W':World} (h:fJ T e B b p bs W) (hb:Below W.heap.size W W'):fJ T e B b p bs W':=by
 have hlt:=h.lt;obtain⟨hB,v,hv,hown,hne⟩:=h;exact⟨hB,v,(hb.block b hlt).trans hv,hown.kept (row:=none) ⟨hb.os,hb.tape,hb.output,hb.size,fun k hk _=>hb.block k hk⟩ (Classical.em _),hne⟩
theorem Tryz.bld_below {T e:TypeId} {B b:Nat} {bs:List Value} {W W':World} (h:fO T e B b bs W) (hb:Below W.heap.size W W'):fO T e B b bs W':=
  h.elim (fun x=>.inl (Tryz.bldAt_below x hb)) (fun x=>.inr (Tryz.bldAt_below x hb))
theorem Tryz.itoa_b (n : Int) (h0 : -9223372036854775808 ≤ n) (h1 : n ≤ 9223372036854775807) (w : World) (ht : fC Tryz.prog w "internal/strconv.uint64pow10" .u64 fI) :
    Calls Tryz.prog 25 #[.int .i64 n] w fun e w'=>e = .returned (.string (wdQ (dW n)))∧Below w.heap.size w w':=by
 refine(Tryz.strconv_Itoa n h0 h1 w ht).mono ?_;rintro e w' ⟨rfl,k,os,rfl⟩;refine⟨rfl,rfl,rfl,rfl,by show w.heap.size≤(w.heap ++ os).size; rw[Array.size_append]; omega,fun g hg=>?_⟩;show(w.heap ++ os)[g]? = _;exact Array.getElem?_append_left hg
theorem Tryz.itoa_len:∀ q:Nat,q<101→(dW ((q:Int)+1)).length≤3:=by decide +kernel
theorem Tryz.body_len (lines:List Str) (hl:∀ x∈lines,x.length≤1000):∀ k:Nat,k≤lines.length→lines.length≤100→(bodyT lines k).length≤9+1006*k:=by
 intro k
 induction k with
 | zero=>intro _ _; exact gA _
 | succ k ih=>
  intro hk h100;have h1:=ih (by omega) h100;have h2:=Tryz.itoa_len k (by omega);have h3:(lines.getD k []).length≤1000:=hl _ (Go.Am.getD_memQ (by omega));show(bodyT lines k ++ lineT k (lines.getD k [])).length≤_;unfold lineT;simp only[dZ,dS,dX];omega
theorem Tryz.cat (a b:Str) (h:a.length+b.length≤9223372036854775807) (W:World):(fE .add (wdQ a) (wdQ b)).run Tryz.prog W = .ok (.string (wdQ (a ++ b))) W:=by
 have h2:=run_string_add_sum (P:=Tryz.prog) (w:=W) (wdQ a) (wdQ b) (by rw[Go.Am.wd_size,Go.Am.wd_size]; exact h);rw[h2];have:wdQ a ++ wdQ b=wdQ (a ++ b):=by
  apply ByteArray.ext;simp[wdQ]
 rw[this]
theorem Tryz.below_tab {w w':World} (h:Below w.heap.size w w') (ht:fC Tryz.prog w "internal/strconv.uint64pow10" .u64 fI):fC Tryz.prog w' "internal/strconv.uint64pow10" .u64 fI:=by
 unfold fC World.var? at ht⊢;have hg:Tryz.prog.globalNamed "internal/strconv.uint64pow10" = some 1:=by kernel_rfl
 rw[hg,Option.bind_some] at ht⊢;have hlt : 1<w.heap.size:=by
  rcases fW 1 w.heap.size with h'|h'
  exact h';simp[fY h'] at ht
 rw[h.block _ hlt];exact ht
theorem Tryz.none_walk (w:World) (k j:Nat) (pa:Addr) (h0:w.cell? ⟨k,j,none⟩=some (.pointer (some pa))):Calls Tryz.prog 67 #[.pointer (some ⟨k,j,none⟩)] w fun e w'=>e = .returned (.bool false)∧w'=w:=by
 go_enter Tryz.func67,Tryz.ntmps67
 go_wp2
 go_ret
 exact⟨rfl,rfl⟩
theorem Tryz.file_walk (lines : List Str) (hn : lines.length ≤ 100) (hl : ∀ x ∈ lines, x.length ≤ 1000) (w : World) (k j g o c : Nat) (pa : Addr) (ao : Option Addr) (hao : lines ≠ [] → ao = some ⟨g, o, none⟩)
    (h0:w.cell? ⟨k,j,none⟩=some (.pointer (some pa))) (h1:w.cell? ⟨k,j+1,none⟩=some (.slice ao lines.length c))
    (hs:∀ i,i<lines.length→w.cell? ⟨g,o+i,none⟩=some (.string (wdQ (lines.getD i [])))) (ht:fC Tryz.prog w "internal/strconv.uint64pow10" .u64 fI) :
    Calls Tryz.prog 49 #[.pointer (some ⟨k,j,none⟩)] w fun e w'=>e = .returned (.string (wdQ (fileT lines)))∧Below w.heap.size w w':=by
 go_enter Tryz.func49,Tryz.ntmps49
 go_wp2_with (go_at_call 67; refine(Tryz.none_walk _ k j pa h0).mono ?_)
 rintro e w0 ⟨rfl,he0⟩;subst he0
 go_wp2_with (go_at_call 84; refine(Tryz.write_k w0.heap.size w0.heap.size [] _ _ (Lib.IsBuilderF.of (Lib.fresh_isBuilder 156 5 w0)) (by decide) (by simp)).mono ?_)
 rintro e w1 ⟨rfl,hb1,hB1,_⟩;have hW1:Below w0.heap.size w0 w1:=((Below.refl _ w0).alloc (gA _) _).trans hB1;have h01:=Tryz.below_cell hW1 h0;have h11:=Tryz.below_cell hW1 h1
 go_wp2
 go_loopw [14] (fun i wr=>∃ q:Nat,q≤lines.length∧i = .int .i64 q∧fO 156 5 w0.heap.size w0.heap.size (fT (bodyT lines q)) wr∧Below w0.heap.size w0 wr) (fun i _=>lines.length - (intOf i).toNat)
 case atStart=>
  refine⟨0,by omega,rfl,?_,hW1⟩;exact Or.inr hb1
 case round=>
  obtain⟨q,hq,rfl,hI,hbw⟩:=hrel;have hsz:w0.heap.size≤wr.heap.size:=hbw.size;by_cases hp:q<lines.length
  ·have hne:lines≠[]:=by intro e; rw[e] at hp; exact absurd hp (fQ _)
   have hso:=hao hne;subst hso;have hc:=Tryz.below_cell hbw (hs q hp);have htr:=Tryz.below_tab hbw ht;have hlen:=Tryz.body_len lines hl q hq hn;have hil:=Tryz.itoa_len q (by omega);have hll:(lines.getD q []).length≤1000:=hl _ (Go.Am.getD_memQ hp);obtain⟨x,hx⟩:∃ x,lines.getD q []=x:=⟨_,rfl⟩;rw[hx] at hc hll;have k1:∀ W,(fE .add (wdQ (dW ((q:Int)+1))) (fF #[46,32])).run Tryz.prog W = .ok (.string (wdQ (dW ((q:Int)+1) ++ [46,32]))) W:=Tryz.cat _ [46,32] (by simp only[dS,dX]; omega);have k2:∀ W,(fE .add (wdQ (dW ((q:Int)+1) ++ [46,32])) (wdQ x)).run Tryz.prog W = .ok (.string (wdQ (dW ((q:Int)+1) ++ [46,32] ++ x))) W:=Tryz.cat _ _ (by simp only[dZ,dS,dX]; omega);have k3:∀ W,(fE .add (wdQ (dW ((q:Int)+1) ++ 46::32::x)) (fF #[10])).run Tryz.prog W = .ok (.string (wdQ (lineT q x))) W:=fun W=>(Tryz.cat (dW ((q:Int)+1) ++ 46::32::x) [10] (by simp only[dZ,dS,dX]; omega) W).trans (by simp[lineT])
   go_wp2_with (go_at_call 25; refine(Tryz.itoa_b _ (by omega) (by omega) _ htr).mono ?_)
   rintro e W1 rfl hB2;have hI2:=Tryz.bld_below hI hB2;have hsz2:=hB2.size
   go_wp2_with (go_at_call 84; refine(Tryz.write_k w0.heap.size w0.heap.size _ _ _ hI2 ?hl (by omega)).mono ?_)
   case hl=>
    rw[Lib.byteCells_length,Go.Am.wd_size];unfold lineT;simp only[dZ,dS,dX];omega
   rintro e W2 ⟨rfl,hb3,hB3,_⟩
   go_wp2
   go_roundw
   case rel=>
    refine⟨q+1,by omega,by go_num,?_,?_⟩;have e:bodyT lines (q+1)=bodyT lines q ++ lineT q x:=by rw[←hx]; rfl
    rw[e,Lib.byteCells_append,←Tryz.strCells_wd (lineT q x)];exact Or.inr hb3;exact(hbw.trans (hB2.mono hsz)).trans hB3
   case measure=>
    simp[intOf];omega
  ·have he:q=lines.length:=by omega
   subst he;have hlen:=Tryz.body_len lines hl lines.length (gA _) hn;obtain⟨T,hT⟩:∃ T,bodyT lines lines.length=T:=⟨_,rfl⟩;rw[hT] at hI hlen;obtain⟨hs1,hs2⟩:=Tryz.sumTo_in T;obtain⟨N,hN⟩:∃ N,Tryz.sumTo T=N:=⟨_,rfl⟩;rw[hN] at hs1 hs2;have hil:(dW N).length≤100:=by
    have:=Lib.itoa_length_le N (by omega) (by omega);omega
   have k4:∀ W,(fE .add (fF (List.toArray T)) (fF #[101,110,100,32])).run Tryz.prog W = .ok (.string (wdQ (T ++ [101,110,100,32]))) W:=Tryz.cat T [101,110,100,32] (by simp only[dS,dX]; omega);have k5:∀ W,(fE .add (wdQ (T ++ [101,110,100,32])) (wdQ (dW N))).run Tryz.prog W = .ok (.string (wdQ (T ++ [101,110,100,32] ++ dW N))) W:=Tryz.cat _ _ (by simp only[dZ,dS,dX]; omega);have k6:∀ W,(fE .add (wdQ (T ++ 101::110::100::32::dW N)) (fF #[10])).run Tryz.prog W = .ok (.string (wdQ (fileT lines))) W:=fun W=>(Tryz.cat (T ++ 101::110::100::32::dW N) [10] (by simp only[dZ,dS,dX]; omega) W).trans (by simp[fileT,hT,hN])
   go_wp2_with (go_at_call 85; refine(Tryz.Builder_String_any_k w0.heap.size w0.heap.size _ _ hI hsz).mono ?_)
   rintro e W1 ⟨rfl,hI2,hB2,_⟩;have hsz2:=hB2.size
   go_wp2_with (go_at_call 85; refine(Tryz.Builder_String_any_k w0.heap.size w0.heap.size _ _ hI2 (by omega)).mono ?_)
   rintro e W3 ⟨rfl,hI3,hB3,_⟩;have hsz3:=hB3.size
   go_wp2_with (go_at_call 86; refine(Tryz.summed_walk T (by omega) _).mono ?_)
   rintro e W4 ⟨rfl,hB4⟩;have hc4:Below w0.heap.size w0 W4:=((hbw.trans hB2).trans hB3).trans (hB4.mono (by omega));have ht4:=Tryz.below_tab hc4 ht;rw[hN]
   go_wp2_with (go_at_call 25; refine(Tryz.itoa_b N (by omega) (by omega) _ ht4).mono ?_)
   rintro e W5 ⟨rfl,hB5⟩;have hsz4:=hc4.size
   go_wp2
   go_ret
   exact⟨rfl,hc4.trans (hB5.mono (by omega))⟩
end Go.Proofs
namespace Go.Am
theorem BRel.cellX {φ:Emb} {w:World} {k i z p:Nat} {F:Option Nat} {cs:List AV} (hb:BRel φ w k i z (.cells F p cs)) {j:Nat} {x:AV} (hx:cs[j]? = some x):∃ v,w.cell? ⟨k,i+j,none⟩=some v∧VRel φ x v:=by
 cases F with
 | none=>exact hb.1 j x hx
 | some F=>
  obtain⟨c,e,h1,h2,h3⟩:=hb;obtain⟨v,h4,h5⟩:=h3 j x hx;exact⟨v,by rw[h1.cell]; exact h4,h5⟩
theorem Rd.ptrRel {φ : Emb} {h : AHeap} {w : World} {v : AV} {xs : List AV} {cv : Value} (r : HRel φ h w) (hr : Rd h v 0 xs) (ha : AddrOf v v 0 0) (hv : VRel φ v cv) :
    ∃ k o,cv = .pointer (some ⟨k,o,none⟩)∧∀ (j:Nat) (x:AV),xs[j]? = some x→∃ u,w.cell? ⟨k,o+j,none⟩=some u∧VRel φ x u:=by
 obtain⟨b,o,rfl⟩:=Uz ha
 cases hv with|ptr _ _ k i z hφ=>
 rcases hr with ⟨h0,_⟩|⟨b',o',F,p,cs,h1,h2,h3,h4⟩|⟨b',F,x,h1,_⟩
 cases h0;have e:b'=b∧o'=o:=by
  rcases h1 with ⟨_,_,h1,_⟩|⟨_,h1⟩
  cases h1
  cases h1; exact⟨rfl,rfl⟩
 obtain⟨rfl,rfl⟩:=e;refine⟨k,i+o',rfl,?_⟩;intro j x hx;have hb:=r.blk b' k i z _ hφ h2 h3;have hx2:cs[o'+j]? = some x:=by
  rw[←h4,fK] at hx;split at hx;rwa [fX] at hx;cases hx
 obtain⟨u,h5,h6⟩:=hb.cellX hx2;exact⟨u,by rw[Nat.add_assoc]; exact h5,h6⟩;exact(Thing.at_ptr h1.symm).elim
theorem Rd.slcRel {φ : Emb} {h : AHeap} {w : World} {v : AV} {xs : List AV} {cv : Value} (r : HRel φ h w) (hr : Rd h v 1 xs) (hv : VRel φ v cv) :
    ∃ ao k o c,cv = .slice ao xs.length c∧(xs≠[]→ao=some ⟨k,o,none⟩)∧∀ (j:Nat) (x:AV),xs[j]? = some x→∃ u,w.cell? ⟨k,o+j,none⟩=some u∧VRel φ x u:=by
 rcases hr with ⟨rfl,rfl⟩|⟨b',o',F,p,cs,h1,h2,h3,h4⟩|⟨b',F,x,_,h0,_⟩
 cases hv;exact⟨none,0,0,0,rfl,fun h=>absurd rfl h,fun j x hx=>by simp at hx⟩
 ·rcases h1 with ⟨n,full,rfl,hn,_⟩|⟨h0,_⟩
  ·cases hv with|slc _ _ _ _ _ a c hnc hc hf hadr=>
   have hnx:n=xs.length:=by omega
   subst hnx;rcases hadr with hadr|⟨k,i,z,hφ,ha1,hfz⟩
   have he:xs = []:=List.length_eq_zero_iff.1 aA;subst he;exact⟨some a,0,0,c,rfl,fun h=>absurd rfl h,fun j x hx=>by simp at hx⟩;refine⟨some a,k,i+o',c,rfl,fun _=>by rw[ha1],?_⟩;intro j x hx;have hb:=r.blk b' k i z _ hφ h2 h3;have hx2:cs[o'+j]? = some x:=by
    rw[←h4,fK] at hx;split at hx;rwa [fX] at hx;cases hx
   obtain⟨u,h5,h6⟩:=hb.cellX hx2;exact⟨u,by rw[Nat.add_assoc]; exact h5,h6⟩
  cases h0
 cases h0
theorem Pow.tab {φ:Emb} {h:AHeap} {w:World} (hP:Pow h) (rr:HRel φ h w):fC Go.Proofs.Tryz.prog w "internal/strconv.uint64pow10" .u64 fI:=by
 obtain⟨C,e,f,g1,g2,g3⟩:=hP.rel rr;unfold fC World.var?;have hg:Go.Proofs.Tryz.prog.globalNamed "internal/strconv.uint64pow10" = some 1:=by kernel_rfl
 rw[hg,Option.bind_some,g1];show some C=_;congr 1;apply Array.ext';refine List.ext_getElem? fun j=>?_
 rw[fU]
 cases hj:fI[j]? with
 | none=>
  have hlt:=fM.1 hj;rw[Option.map_none,fM,Array.length_toList,g2,List.length_map];exact hlt
 | some x=>
  obtain⟨v,g4,g5⟩:=g3 j (.int .u64 x) (by rw[fU,hj]; rfl);cases g5;simpa using g4
theorem readE_len {l:Str} (h:Ky l=0):l.length≤40:=by
 unfold Ky at h;dsimp only at h;split at h;cases h;omega
theorem Done.small {lines:List Str} (hD:Done lines):∀ x∈lines,x.length≤40:=by
 induction hD with
 | nil=>intro x hx; cases hx
 | @snoc lines line hD he ih=>
  intro x hx;rw[gO,fZ] at hx;rcases hx with h|rfl
  exact ih x h;exact readE_len (Vd he).1
theorem fileB_c {h:AHeap} {b vl:AV} {A:OA} {lines:List Str} (r:RBk h b vl A lines) (hV:Vs h):ACalls Go.Proofs.Tryz.prog 49 [b] h (fun q h'=>q = .str (wdQ (fileT lines))∧h=h'):=by
 refine⟨_,_,Ev.of_belowQ ⟨_,Go.Proofs.Tryz.func49,by decide,rfl⟩ ?_,rfl,rfl⟩;intro φ w cs rr ha;obtain⟨cb,rfl⟩:∃ cb,cs = [cb]:=by
  match cs,ha.1 with
  | [a],_=>exact⟨a,rfl⟩
 have hv:=ha.2 0 _ _ rfl rfl;obtain⟨k,o,rfl,hcells⟩:=Rd.ptrRel rr r.rd r.ad hv;obtain⟨u0,hu0,hr0⟩:=hcells 0 _ rfl;obtain⟨u1,hu1,hr1⟩:=hcells 1 _ rfl;obtain⟨pb,po,hpo⟩:=Uz r.off.ok.po;rw[hpo] at hr0
 cases hr0 with|ptr _ _ kp ip zp hφp=>
 obtain⟨ao,g,o2,c,rfl,hao,hs⟩:=Rd.slcRel rr r.log hr1;have hl:(wcsQ lines).length=lines.length:=by simp[wcsQ]
 rw[hl] at hu1;have hD:=r.done;refine(Go.Proofs.Tryz.file_walk lines hD.wf.2.1 (fun x hx=>by have:=hD.small x hx; omega) w k o g o2 c _ ao (fun hne=>hao (by intro e; apply hne; cases lines with|nil=>rfl|cons a l=>cases e)) hu0 hu1 ?_ (hV.pw.tab rr)).mono ?_;intro i hi;obtain⟨u,h1,h2⟩:=hs i (.str (wdQ (lines.getD i []))) (by
  unfold wcsQ;rw[fU,dO,dU hi]; rfl)
 cases h2;exact h1;rintro e w' ⟨rfl,hB⟩;exact⟨_,rfl,.str _,hB⟩
end Go.Am
namespace Go.Am
def XL (ws:List W) (i:Nat) (v:Int):List W:=ws.set i {(ws.getD i default) with l:=v,m:=v}
theorem QQ (ws:List W) (i:Nat) (v:Int):(XL ws i v).length=ws.length:=by simp[XL]
theorem ZS {ws:List W} {i:Nat} {v:Int} (hi:i<ws.length) (k:Nat):(XL ws i v).getD k default=if k=i then {(ws.getD i default) with l:=v,m:=v} else ws.getD k default:=by
 unfold XL;rw[dO,List.getElem?_set];by_cases h:i=k;subst h; rw[if_pos rfl,if_pos hi,if_pos rfl]; rfl;rw[if_neg h,if_neg (fun h2=>h h2.symm),dO]
theorem Rt {ws:List W} {i:Nat} {v:Int} (hi:i<ws.length) (n:List Int) (x:Int):∀ k,KG (XL ws i v) n x k=KG ws n x k:=by
 intro k
 induction k with
 | zero=>rfl
 | succ k ih=>
  rw[KG,KG,ih,ZS hi];by_cases h:k=i;subst h; rw[if_pos rfl];rw[if_neg h]
theorem withW_inR {r:Int} {ws:List W} {i:Nat} {v:Int} (hi:i<ws.length) (hr:InR r ws):InR r (XL ws i v):=by
 intro k hk;rw[QQ] at hk;rw[ZS hi];by_cases h:k=i;subst h; rw[if_pos rfl]; exact hr k hk;rw[if_neg h]; exact hr k hk
theorem Td {ws:List W} {i:Nat} {v:Int} (hi:i<ws.length) (h1:(ws.getD i default).l≤v) (h2:v≤(ws.getD i default).m) {n:List Int}:Flow (XL ws i v) n↔Flow ws n∧n.getD i 0=v:=by
 constructor;intro h;have e:n.getD i 0=v:=by
  have l1:=h.lo i (by rw[QQ]; exact hi);have l2:=h.hi i (by rw[QQ]; exact hi);rw[ZS hi,if_pos rfl] at l1 l2;have l1:v≤n.getD i 0:=l1;have l2:n.getD i 0≤v:=l2;omega
 refine⟨⟨⟨by rw[h.len,QQ],?_,?_⟩,?_⟩,e⟩;intro k hk;have:=h.lo k (by rw[QQ]; exact hk);rw[ZS hi] at this;by_cases hki:k=i;subst hki; rw[e]; exact h1;rw[if_neg hki] at this; exact this;intro k hk;have:=h.hi k (by rw[QQ]; exact hk);rw[ZS hi] at this;by_cases hki:k=i;subst hki; rw[e]; exact h2;rw[if_neg hki] at this; exact this;intro x;have:=h.kp x;rw[kept,QQ,Rt hi] at this;exact this;rintro⟨h,e⟩;refine⟨⟨by rw[h.len,QQ],?_,?_⟩,?_⟩;intro k hk;rw[QQ] at hk;rw[ZS hi];by_cases hki:k=i;subst hki; rw[if_pos rfl]; exact Int.le_of_eq e.symm;rw[if_neg hki]; exact h.lo k hk;intro k hk;rw[QQ] at hk;rw[ZS hi];by_cases hki:k=i;subst hki; rw[if_pos rfl]; exact Int.le_of_eq e;rw[if_neg hki]; exact h.hi k hk;intro x;rw[kept,QQ,Rt hi];exact h.kp x
theorem withW_LM {ws:List W} {i:Nat} {v:Int} (hi:i<ws.length) (h:LM ws):LM (XL ws i v):=by
 intro k hk;rw[QQ] at hk;rw[ZS hi];by_cases hki:k=i;subst hki; rw[if_pos rfl]; exact Int.le_refl _;rw[if_neg hki]; exact h k hk
theorem Jm {r:Nat} {ws:List W} {i:Nat} {v:Int} (hr:InR r ws) (hl:LM ws) (hi:i<ws.length) (h1:(ws.getD i default).l≤v) (h2:v≤(ws.getD i default).m):YS r (XL ws i v)=true↔∃ n,Flow ws n∧n.getD i 0=v:=by
 rw[Uy (withW_inR hi hr) (withW_LM hi hl)];exact⟨fun⟨n,hn⟩=>⟨n,(Td hi h1 h2).1 hn⟩,fun⟨n,hn⟩=>⟨n,(Td hi h1 h2).2 hn⟩⟩
end Go.Am
namespace Go.Am
def loChk (r:Nat) (ws:List W) (i:Nat) (v:Int):Bool:=
  decide ((ws.getD i default).l≤v∧v≤(ws.getD i default).m) && YS r (XL ws i v) && (fG (v - (ws.getD i default).l).toNat).all fun(k:Nat)=>!YS r (XL ws i ((ws.getD i default).l+(k:Int)))
def hiChk (r:Nat) (ws:List W) (i:Nat) (v:Int):Bool:=
  decide ((ws.getD i default).l≤v∧v≤(ws.getD i default).m) && YS r (XL ws i v) && (fG ((ws.getD i default).m - v).toNat).all fun(k:Nat)=>!YS r (XL ws i ((ws.getD i default).m - (k:Int)))
theorem lo_chk {r:Nat} {ws:List W} {i:Nat} {v:Int} (hB:BOk (r:Int) ws) (hi:i<ws.length) (h:loChk r ws i v=true):IsLo ws i v:=by
 unfold loChk at h;simp only[Bool.and_eq_true,decide_eq_true_eq,fP,fS,Bool.not_eq_true'] at h;obtain⟨⟨⟨h1,h2⟩,h3⟩,h4⟩:=h;refine⟨(Jm hB.inR hB.LM hi h1 h2).1 h3,fun n hn=>?_⟩;have hl:=hn.lo i hi;have hm:=hn.hi i hi;refine Int.not_lt.1 ?_;intro hlt;have h5:=h4 (n.getD i 0 - (ws.getD i default).l).toNat aA;have e:(ws.getD i default).l+(((n.getD i 0 - (ws.getD i default).l).toNat:Nat):Int)=n.getD i 0:=by omega
 rw[e] at h5;have h6:=(Jm hB.inR hB.LM (i:=i) (v:=n.getD i 0) hi hl hm).2 ⟨n,hn,rfl⟩;rw[h5] at h6;cases h6
theorem hi_chk {r:Nat} {ws:List W} {i:Nat} {v:Int} (hB:BOk (r:Int) ws) (hi:i<ws.length) (h:hiChk r ws i v=true):IsHi ws i v:=by
 unfold hiChk at h;simp only[Bool.and_eq_true,decide_eq_true_eq,fP,fS,Bool.not_eq_true'] at h;obtain⟨⟨⟨h1,h2⟩,h3⟩,h4⟩:=h;refine⟨(Jm hB.inR hB.LM hi h1 h2).1 h3,fun n hn=>?_⟩;have hl:=hn.lo i hi;have hm:=hn.hi i hi;refine Int.not_lt.1 ?_;intro hlt;have h5:=h4 ((ws.getD i default).m - n.getD i 0).toNat aA;have e:(ws.getD i default).m - ((((ws.getD i default).m - n.getD i 0).toNat:Nat):Int)=n.getD i 0:=by omega
 rw[e] at h5;have h6:=(Jm hB.inR hB.LM (i:=i) (v:=n.getD i 0) hi hl hm).2 ⟨n,hn,rfl⟩;rw[h5] at h6;cases h6
def spChk (O:Off) (i:Nat) (a b:Int):Bool:=decide (Xb O.rm O.ws i=0) && decide (i<O.ws.length) && loChk O.rm.toNat O.ws i a && hiChk O.rm.toNat O.ws i b
theorem sp_chk {O:Off} {i:Nat} {a b:Int} (h:spChk O i a b=true):O.spLo i=a∧O.spHi i=b:=by
 unfold spChk at h;simp only[Bool.and_eq_true,decide_eq_true_eq] at h;obtain⟨⟨⟨h1,h2⟩,h3⟩,h4⟩:=h;obtain⟨h5,h6,h7⟩:=ask_ok h1;obtain⟨hB,hF⟩:=U9 h5;have hr2:=hB.r2;have e:O.rm=((O.rm.toNat:Nat):Int):=by omega
 rw[e] at hB;unfold Off.spLo Off.spHi;rw[if_pos h1,if_pos h1];exact⟨(RG hF h2).uniq (lo_chk hB h2 h3),(RE hF h2).uniq (hi_chk hB h2 h4)⟩
def Off.wrongC (O : Off) : Tell → Option Int
  | .room r=>some (if r∈O.rooms then 6 else if O.rooms.length=6 then 3 else 0)
  | .way w f t=>some (if (OE O.ways w).isSome then 6 else if f ∉ O.rooms∨t ∉ O.rooms then 2 else if f=t then 13 else if O.ways.length=12 then 3 else 0)
  | .bound w n most=>some (match OE O.ways w with
    | none=>2
    | some l=>if l.paid then 20 else O.tries w (chB n most) l)
  | .pack p w=>some (if p∈O.ever then 6 else match OE O.ways w with
    | none=>2
    | some l=>if O.packs.length=20 then 3 else if l.hi≤l.packs.length then 15 else O.tries w (chP p) l)
  | .move p s=>some (match OE O.packs p with
    | none=>2
    | some d=>if (s=2∨s=0)∧d.2≠1 then 20 else if s=3∧d.2≠2∨s=1∧d.2≠3 then 21 else 0)
  | .claim _ _=>none
  | .free w=>some (match OE O.ways w with
    | none=>2
    | some l=>if l.paid then 20 else 0)
theorem wrongC_is {O:Off} {t:Tell} {e:Int} (h:O.wrongC t=some e):O.wrong t=e:=by
 cases t with
 | claim w n=>cases h
 | room r=>exact dT h
 | way w f t=>exact dT h
 | bound w n g=>exact dT h
 | pack p w=>exact dT h
 | move p s=>exact dT h
 | free w=>exact dT h
def askC (lines:List Str) (line:Str):Option Int:=
  if Ky line=0 then ((after lines).wrongC (K4 line)).map fun e=>if e=0∧lines.length=100 then 16 else e else some (Ky line)
theorem Ur {lines:List Str} {line:Str} {e:Int} (h:askC lines line=some e):KB lines line=e:=by
 unfold askC at h;unfold KB;dsimp only;by_cases hr:Ky line=0
 ·rw[if_pos hr] at h;simp only[if_pos hr]
  cases hw:(after lines).wrongC (K4 line) with
  | none=>rw[hw] at h; cases h
  | some e2=>
   rw[hw] at h;rw[wrongC_is hw];exact dT h
 rw[if_neg hr] at h;simp only[if_neg hr];rw[if_neg (fun hx=>hr hx.1)];exact dT h
end Go.Am
namespace Go.Am
def claimC (lines:List Str) (line:Str) (lo hi:Int):Option Int:=match K4 line with
  | .claim w n=>match OE (after lines).ways w with
    | some l=>if Ky line=0∧l.paid=false∧spChk (after lines) l.pl lo hi=true∧lines.length≠100 then some (if n<lo∨hi<n then 14 else if lo<hi then 21 else 0) else none
    | none=>none
  | _=>none
theorem claimC_is {lines:List Str} {line:Str} {lo hi e:Int} (h:claimC lines line lo hi=some e):KB lines line=e:=by
 unfold claimC at h;split at h;rename_i w n ht;split at h;rename_i l hm;split at h;rename_i hc;obtain⟨h1,h2,h3,h4⟩:=hc;obtain⟨h5,h6⟩:=sp_chk h3;have hw:=Xa (n:=n) hm h2;rw[h5,h6] at hw;unfold KB;dsimp only;simp only[if_pos h1,ht,hw];rw[if_neg (fun hx=>h4 hx.2)];exact dT h;cases h;cases h;cases h
def bk1:Str:=[114,111,111,109,32,97]
def bk2:Str:=[114,111,111,109,32,98]
def bk3:Str:=[119,97,121,32,120,32,97,32,98]
def bk4:Str:=[108,101,97,115,116,32,120,32,49]
def bk5:Str:=[99,108,97,105,109,32,120,32,48]
theorem bk1_e:KB [] bk1=0:=Ur bM
theorem bk2_e:KB [bk1] bk2=0:=Ur bM
theorem bk3_e:KB [bk1,bk2] bk3=0:=Ur bM
theorem bk4_e:KB [bk1,bk2,bk3] bk4=13:=Ur bM
theorem bk5_e:KB [bk1,bk2,bk3] bk5=0:=claimC_is (lo:=0) (hi:=0) bM
theorem bk1_d:doL [] bk1 = [bk1]:=by unfold doL; rw[bk1_e]; rfl
theorem bk2_d:doL [bk1] bk2 = [bk1,bk2]:=by unfold doL; rw[bk2_e]; rfl
theorem bk3_d:doL [bk1,bk2] bk3 = [bk1,bk2,bk3]:=by unfold doL; rw[bk3_e]; rfl
theorem bk4_d:doL [bk1,bk2,bk3] bk4 = [bk1,bk2,bk3]:=by unfold doL; rw[bk4_e]; rfl
theorem bk5_d:doL [bk1,bk2,bk3] bk5 = [bk1,bk2,bk3,bk5]:=by unfold doL; rw[bk5_e]; rfl
end Go.Am
namespace Go.Am
section
variable {P:Program} {n:Nat} {ops:Array Oper} {ex:List Nat} {Q:KF→AHeap→Prop} {k:Nat} {os:List Oper} {K:KF} {h:AHeap} {d:Nat} {ty:TypeId} {pos:String} {after:Array Edge}
theorem KOps.wNeT {t t':TypeId} {x y:Operand} {a b:Str} [hx:EvK h.globs n K x (.str (wdQ a))] [hy:EvK h.globs n K y (.str (wdQ b))] (hne:a≠b) (hk:KOps P n ops ex Q (k+1) os ((d,.bool true)::K) h):KOps P n ops ex Q k (⟨some d,.binOp .neq t x y t',ty,pos,after,none⟩::os) K h:=
  O9 rfl (by simp only[apure,hx.eq,hy.eq,ZG,astr,wd_eql,decide_eq_false hne]; rfl) hk
end
theorem YB {h:AHeap} (hV:Vs h):ACalls Go.Proofs.Tryz.prog 22 [] h (fun q h'=>q = .bool true∧Keeps h h'):=by
 refine OK 34 [.tmp 0] Go.Proofs.Tryz.func22 rfl aE rfl rfl (dQ rfl) ?_;have hS:=St.refl h;show KA _ 34 _ _ [] _;refine cQ ?_;refine Oo rfl (new_c) ?_;rintro vB h2 ⟨vl2,A2,hb,hS2⟩;clear hS;have hS:=hS2;clear hS2;refine Oq ?_;refine Oj [1] ?_;refine Ot ?_;refine Oe ?_;refine Oo rfl (JW (line:=bk1) hb hS (hV.ext hS.keeps) aE) ?_;rintro _ h4 ⟨rfl,vl4,A4,hb4,hS4⟩;rw[bk1_d] at hb4 hS4;rw[bk1_e];clear hS hb;have hS:=hS4;have hb:=hb4;clear hS4 hb4;refine Ku ?_;refine Oe ?_;refine Ov (dj:=6) rfl rfl true false rfl ?_ ?_;intro g6;have g6:=of_decide_eq_true g6;refine Oe ?_;refine Oh (dj:=6) rfl rfl ?_;refine Oo rfl (JW (line:=bk2) hb hS (hV.ext hS.keeps) aE) ?_;rintro _ h8 ⟨rfl,vl8,A8,hb8,hS8⟩;rw[bk2_d] at hb8 hS8;rw[bk2_e];clear hS hb;have hS:=hS8;have hb:=hb8;clear hS8 hb8;refine Oh (dj:=6) rfl rfl ?_;refine b9 ?_;refine Ov (dj:=11) rfl rfl true false rfl ?_ ?_;intro g11;have g11:=of_decide_eq_true g11;refine Oe ?_;refine Oh (dj:=11) rfl rfl ?_;refine Oo rfl (JW (line:=bk3) hb hS (hV.ext hS.keeps) aE) ?_;rintro _ h13 ⟨rfl,vl13,A13,hb13,hS13⟩;rw[bk3_d] at hb13 hS13;rw[bk3_e];clear hS hb;have hS:=hS13;have hb:=hb13;clear hS13 hb13;refine Oh (dj:=11) rfl rfl ?_;refine b9 ?_;refine Ov (dj:=16) rfl rfl true false rfl ?_ ?_;intro g16;have g16:=of_decide_eq_true g16;refine Oe ?_;refine Oh (dj:=16) rfl rfl ?_;refine Oo rfl (JW (line:=bk4) hb hS (hV.ext hS.keeps) aE) ?_;rintro _ h18 ⟨rfl,vl18,A18,hb18,hS18⟩;rw[bk4_d] at hb18 hS18;rw[bk4_e];clear hS hb;have hS:=hS18;have hb:=hb18;clear hS18 hb18;refine Oh (dj:=16) rfl rfl ?_;refine b9 ?_;refine Ov (dj:=21) rfl rfl true false rfl ?_ ?_;intro g21;have g21:=of_decide_eq_true g21;refine Oe ?_;refine Oh (dj:=21) rfl rfl ?_;refine Oo rfl (JW (line:=bk5) hb hS (hV.ext hS.keeps) aE) ?_;rintro _ h23 ⟨rfl,vl23,A23,hb23,hS23⟩;rw[bk5_d] at hb23 hS23;rw[bk5_e];clear hS hb;have hS:=hS23;have hb:=hb23;clear hS23 hb23;refine Oh (dj:=21) rfl rfl ?_;refine b9 ?_;refine Ov (dj:=26) rfl rfl true false rfl ?_ ?_;intro g26;have g26:=of_decide_eq_true g26;refine Oe ?_;refine Oh (dj:=26) rfl rfl ?_;refine Oo rfl (fileB_c (hS.rbk hb) (hV.ext hS.keeps)) ?_;rintro _ _ ⟨rfl,rfl⟩;refine Oh (dj:=26) rfl rfl ?_;refine KOps.wNeT (by unfold fileT; simp) ?_;refine O1 ?_;refine Oe ?_;refine Ov (dj:=31) rfl rfl true false rfl ?_ ?_;intro g31;refine Oo rfl (Po) ?_;rintro _ hx ⟨rfl,hK⟩;replace hS:St _ _ _:=St.trans hS (St.ofK hK);simp only[List.nil_append] at hS;refine O1 ?_;refine bW ?_
 first|exact⟨rfl,hS.keeps⟩|(exfalso; contradiction)|(exfalso; omega)
 intro g31;refine cm ?_
 first|exact⟨rfl,hS.keeps⟩|(exfalso; contradiction)|(exfalso; omega)
 intro g26;have g26:=of_decide_eq_false g26;refine Om (dj:=26) rfl rfl rfl ?_;refine Om (dj:=26) rfl rfl rfl ?_;refine cI ?_;refine Om (dj:=31) rfl rfl rfl ?_;refine cm ?_
 first|exact⟨rfl,hS.keeps⟩|(exfalso; contradiction)|(exfalso; omega)
 intro g21;have g21:=of_decide_eq_false g21;refine bf ?_;refine Om (dj:=31) rfl rfl rfl ?_;refine cm ?_
 first|exact⟨rfl,hS.keeps⟩|(exfalso; contradiction)|(exfalso; omega)
 intro g16;have g16:=of_decide_eq_false g16;refine b7 ?_
 first|exact⟨rfl,hS.keeps⟩|(exfalso; contradiction)|(exfalso; omega)
 intro g11;have g11:=of_decide_eq_false g11;refine Om (dj:=11) rfl rfl rfl ?_;refine Om (dj:=11) rfl rfl rfl ?_;refine cI ?_;refine Om (dj:=16) rfl rfl rfl ?_;refine b7 ?_
 first|exact⟨rfl,hS.keeps⟩|(exfalso; contradiction)|(exfalso; omega)
 intro g6;have g6:=of_decide_eq_false g6;refine Om (dj:=6) rfl rfl rfl ?_;refine Om (dj:=6) rfl rfl rfl ?_;refine cI ?_;refine Om (dj:=11) rfl rfl rfl ?_;refine Om (dj:=11) rfl rfl rfl ?_;refine Om (dj:=11) rfl rfl rfl ?_;refine cI ?_;refine Om (dj:=16) rfl rfl rfl ?_;refine b7 ?_
 first|exact⟨rfl,hS.keeps⟩|(exfalso; contradiction)|(exfalso; omega)
end Go.Am
namespace Go.Am
open Go.RowKit
def Kg (i:Nat):Str:=[UInt8.ofNat (97+i)]
theorem letter_run:(fG 16).all (fun i=>XP Go.Proofs.Tryz.prog 4000 24 [.int .i64 (i:Int)] [] [] (fun r _=>AV.isP 3 r (.str (wdQ (Kg i)))))=true:=by kernel_rfl
theorem Xr {h:AHeap} {i:Nat} (hi:i<16):ACalls Go.Proofs.Tryz.prog 24 [.int .i64 (i:Int)] h (fun q h'=>q = .str (wdQ (Kg i))∧Keeps h h'):=
  ZA mixed 4000 [.int .i64 (i:Int)] [] [] Xt XD rfl (J1 rfl) (fP.1 letter_run i (fS.2 hi)) (fun m d=>rfl)
end Go.Am
namespace Go.Am
theorem SO {h:AHeap} {v:AV} {l:List Int} {x:Int} (hv:Row h v l) (hlen:l.length≤4294967296):ACalls Go.Proofs.Tryz.prog 28 [v,.int .i64 x] h (fun q h'=>q = .bool (decide (x∈l))∧h=h'):=by
 refine OK 17 [.tmp 4] Go.Proofs.Tryz.func28 rfl aE rfl rfl (dQ rfl) ?_;show KA _ 17 _ _ [(0,v),(1,.int .i64 x)] _;refine b6 ?_;refine Kv hv ?_;refine Oa [1,7,8,9] ?_;refine Oz ?_;refine Kd (X:=Nat) (fun i=>[(1,.int .i64 x),(7,v),(8,.int .i64 (l.length:Int)),(9,.int .i64 ((i:Nat):Int))]) (fun i h'=>i≤l.length∧x ∉ l.take i∧h=h') (fun i=>l.length - i) 0 ?_ ?_;exact⟨gE _,by simp,rfl⟩;rintro i _ ⟨hi,hx,rfl⟩;refine bg ?_;refine On ?_ ?_
 ·intro c10;refine OD [1,7,8,9] ?_;refine cd ?_;refine Oy hv (j:=i) rfl aC ?_;intro p11 hp11;refine OS hp11 hv aC ?_;refine Oa [1,6,7,8,9] ?_;refine Oa [1,7,8,9,15] ?_;refine On ?_ ?_;intro c15;refine ba ?_;refine⟨?_,rfl⟩; congr 1; symm; apply decide_eq_true; rw[←c15,dO,dU (show i<l.length by omega)]; exact List.getElem_mem _;intro c15;refine bd ?_;refine Ow [1,7,8,9] ?_;refine bX ?_;refine lpN (i+1) ⟨by omega,?_,rfl⟩ aA;intro hm;rw[fL,gO] at hm;rcases hm with hm|hm
  exact hx hm;rw[dU (show i<l.length by omega)] at hm;have e:=fZ.1 hm;exact c15 (by rw[dO,dU (show i<l.length by omega),e]; rfl)
 intro c10;refine bx ?_;refine⟨?_,rfl⟩; congr 1; symm; apply decide_eq_false; rwa [fA aA] at hx
end Go.Am
namespace Go.Am
structure Q4 where
  a:Int
  b:Int
  c:Int
  d:Int
  deriving Inhabited
abbrev q4 (x:Q4):List AV:=[.int .u8 x.a,.int .u8 x.b,.int .u8 x.c,.int .u8 x.d]
theorem q4_len (x:Q4):(q4 x).length=4:=rfl
structure Q4.Ok (x:Q4):Prop where
  a0 : 0≤x.a
  a1:x.a≤255
  b0 : 0≤x.b
  b1:x.b≤255
  c0 : 0≤x.c
  c1:x.c≤255
  d0 : 0≤x.d
  d1:x.d≤255
theorem Zk {a m:Int} (h : 0≤a) (hm : 0<m) : 0≤a.tmod m∧a.tmod m<m:=⟨Int.tmod_nonneg _ h,Int.tmod_lt_of_pos _ hm⟩
def pway (rm wide:Int) (x:Q4):W:=⟨x.a.tmod rm,(x.a.tmod rm+1+x.b.tmod (rm - 1)).tmod rm,x.c.tmod 4,x.c.tmod 4+x.d.tmod wide⟩
theorem pway_ok {rm wide:Int} {x:Q4} (h2 : 2≤rm) (hw : 0<wide∧wide≤9) (hx:x.Ok):WOk rm (pway rm wide x):=by
 have t1:=Zk hx.a0 (show 0<rm by omega);have t2:=Zk hx.b0 (show 0<rm - 1 by omega);have t3:=Zk hx.c0 (show(0:Int)<4 by decide);have t4:=Zk hx.d0 hw.1;have t5:=Zk (show 0≤x.a.tmod rm+1+x.b.tmod (rm - 1) by omega) (show 0<rm by omega);refine⟨t1.1,t1.2,t5.1,t5.2,?_,t3.1,?_,?_⟩;show x.a.tmod rm≠(x.a.tmod rm+1+x.b.tmod (rm - 1)).tmod rm;generalize x.a.tmod rm=p at *;generalize x.b.tmod (rm - 1)=q at *;rw[Int.tmod_eq_emod_of_nonneg aA];intro he;have h5:=Int.emod_emod_of_dvd (p+1+q) (Int.dvd_refl rm);by_cases hlt:p+1+q<rm;rw[Int.emod_eq_of_lt aA hlt] at he; omega;have h6:(p+1+q) % rm=p+1+q - rm:=by
  rw[←Int.sub_emod_right,Int.emod_eq_of_lt aA aA]
 omega;show x.c.tmod 4≤x.c.tmod 4+x.d.tmod wide;omega;show x.c.tmod 4+x.d.tmod wide≤99;omega
def ZM (rm wide:Int) (hs:List Q4) (k:Nat):List W:=(hs.take k).map (pway rm wide)
theorem Y1 (rm wide:Int) (hs:List Q4) (k:Nat):(ZM rm wide hs k).length=Min.min k hs.length:=by simp[ZM]
theorem Pk {rm wide:Int} {hs:List Q4} {i:Nat} (hi:i<hs.length):flr wc (ZM rm wide hs i) ++ wc (pway rm wide (hs.getD i default))=flr wc (ZM rm wide hs (i+1)):=by
 rw[Wd];congr 1;unfold ZM;rw[fL,dU hi,List.map_append,dO,dU hi];rfl
theorem paper_ok {rm wide:Int} {hs:List Q4} {k:Nat} (h2 : 2≤rm) (h6:rm≤6) (hw : 0<wide∧wide≤9) (hk:k≤12) (hx:∀ i,i<hs.length→(hs.getD i default).Ok):BOk rm (ZM rm wide hs k):=by
 refine⟨h2,h6,by rw[Y1]; omega,?_⟩;intro i hi;rw[Y1] at hi;have e:(ZM rm wide hs k).getD i default=pway rm wide (hs.getD i default):=by
  unfold ZM;rw[dO,fU,fK,if_pos aA,dO,dU aA];rfl
 rw[e];exact pway_ok h2 hw (hx i aA)
def Zc (a:Int):Int:=2+a.tmod 3
theorem SF {a:Int} (h : 0≤a) : 2≤Zc a∧Zc a≤4:=by
 have:=Zk h (show(0:Int)<3 by decide);unfold Zc;omega
theorem paper_c {h:AHeap} {a wide:Int} {vH:AV} {hs:List Q4} {m:Nat} (hv:Rd h vH 4 (flr q4 hs)) (ha0 : 0≤a) (ha1:a≤255) (hx:∀ i,i<hs.length→(hs.getD i default).Ok) (hm:m≤12) (hw : 0<wide∧wide≤9):ACalls Go.Proofs.Tryz.prog 19 [.int .u8 a,vH,.int .i64 (m:Int),.int .i64 wide] h (fun q h'=>∃ v,q = .agg [.int .i64 (Zc a),v]∧St h h' [⟨v,4,flr wc (ZM (Zc a) wide hs m),true⟩]):=by
 refine KA.fnH 73 [.cell 8 48] Go.Proofs.Tryz.func19 rfl aE rfl rfl (dQ rfl) ?_;have hS:=St.refl h;have hvo:vH.one=true:=hv.one;have hrb:=SF ha0;have ht3:=Zk ha0 (show(0:Int)<3 by decide);show KA _ 73 _ _ [(0,.int .u8 a),(1,vH),(2,.int .i64 (m:Int)),(3,.int .i64 wide)] _;refine Ot ?_;refine O6 hS ?_;intro p8 h' hp8 hS;refine bl ?_;refine OI ?_;refine QW ha0 ha1 ?_;refine Q5 aE aA aA ?_;refine Kx aA aA ?_;rw[show(2:Int)+a.tmod 3=Zc a from rfl];refine OP (zs:=[.int .i64 0,.nils]) (cs:=[_,_]) aB aI aB (.cons (off:=0) (s:=1) aB (AV.cells_one aG) rfl aE .nil) aI ?_;refine O6 hS ?_;intro p9 h' hp9 hS;refine O8 hS rfl (i:=0) rfl hp9 aD aI aI aE ?_;intro h' hS;simp only[dY,dP,dV] at hS;refine Oj [1,2,3,8,9] ?_;refine OI ?_;refine bl ?_;refine Oz ?_;refine Kd (X:=Nat × AV) (fun x=>[(1,vH),(2,.int .i64 (m:Int)),(3,.int .i64 wide),(8,p8),(9,p9),(10,.int .i64 (x.1:Int))]) (fun x h'=>x.1≤hs.length∧x.1≤m∧St h h' [⟨p9,0,[.int .i64 (Zc a),x.2],true⟩,⟨p8,0,[.int .i64 0,.nils],true⟩,⟨x.2,4,flr wc (ZM (Zc a) wide hs x.1),true⟩]) (fun x=>hs.length - x.1) (0,.nils) ?_ ?_;exact⟨gE _,gE _,St.addNil 4 true hS⟩;rintro⟨i,vo⟩ h3 ⟨hi,him,hS⟩;dsimp only at hi him hS⊢;refine OI ?_;refine Qk q4_len (Rd.ext hS.keeps hv) ?_;refine Qq ?_;refine Oe ?_;refine Ov (dj:=23) rfl rfl true false rfl ?_ ?_
 ·intro g23;have g23:=of_decide_eq_true g23;refine OI ?_;refine Qq ?_;refine O1 ?_;refine Oj [1,2,3,8,9,10,24,25,26,27] ?_;refine On ?_ ?_
  ·intro c27;refine OD [1,2,3,8,9,10,24,25,26] ?_;refine bj ?_;refine OI ?_;refine Ql q4_len (Rd.ext hS.keeps hv) (j:=i) rfl aC ?_;intro p32 hp32;refine Qv q4_len aE hp32 (Rd.ext hS.keeps hv) aC ?_;refine O6 hS ?_;intro p11 h' hp11 hS;refine O8 hS rfl (i:=0) rfl hp11 aD aI aI aE ?_;intro h' hS;simp only[dY,dP,dV] at hS;refine Oj [1,2,3,8,9,10,11,24,25,26] ?_;refine Ot ?_;have hxi:=hx i aA;have t1:=Zk hxi.a0 (show 0<Zc a by omega);have t2:=Zk hxi.b0 (show 0<Zc a - 1 by omega);have t3:=Zk hxi.c0 (show(0:Int)<4 by decide);have t4:=Zk hxi.d0 hw.1;have t5:=Zk (show 0≤(hs.getD i default).a.tmod (Zc a)+1+(hs.getD i default).b.tmod (Zc a - 1) by omega) (show 0<Zc a by omega);refine QI hp11 (j:=0) rfl aE ?_;intro p34 hp34;refine Of hp34 (hS.rd 0 rfl) rfl ?_;refine QW hxi.a0 hxi.a1 ?_;refine Ob hp9 ?_;intro p37 hp37;refine Of hp37 (hS.rd 1 rfl) rfl ?_;refine Q5 aA aA aA ?_;refine O0 [1,2,3,8,9,10,11,12,24,25,26] ?_;refine Ot ?_;refine QI hp11 (j:=2) rfl aE ?_;intro p40 hp40;refine Of hp40 (hS.rd 0 rfl) rfl ?_;refine QW hxi.c0 hxi.c1 ?_;refine Q5 aE aA aA ?_;refine O0 [1,2,3,8,9,10,11,12,13,24,25,26] ?_;refine OQ [26] mixed rfl aB ?_;refine Ob hp9 ?_;intro p44 hp44;refine Of hp44 (hS.rd 1 rfl) rfl ?_;refine OI ?_;refine Kx aF aF ?_;refine QI hp11 (j:=1) rfl aE ?_;intro p49 hp49;refine Of hp49 (hS.rd 0 rfl) rfl ?_;refine QW hxi.b0 hxi.b1 ?_;refine Ob hp9 ?_;intro p52 hp52;refine Of hp52 (hS.rd 1 rfl) rfl ?_;refine KOps.sub aF aF ?_;refine Q5 aA aA aA ?_;refine Kx aF aF ?_;refine Ob hp9 ?_;intro p57 hp57;refine Of hp57 (hS.rd 1 rfl) rfl ?_;refine Q5 aA aA aA ?_;refine OI ?_;refine QI hp11 (j:=3) rfl aE ?_;intro p62 hp62;refine Of hp62 (hS.rd 0 rfl) rfl ?_;refine QW hxi.d0 hxi.d1 ?_;refine Oe ?_;refine Q5 aA aA aA ?_;refine Kx aF aF ?_;refine bV ?_;refine Zm (cs:=(wc (pway (Zc a) wide (hs.getD i default)))) hS rfl rfl rfl aE ?_;intro v69 h' hS;refine QV hS (fun _=>rfl) (i:=4) rfl (a:=i) (by rw[Y8 KM,Y1]; omega) (hS.rd 0 rfl) (b:=1) rfl rfl aA ?_;intro r70 h' hS;simp only[dY,dP,dV] at hS;have hr70:r70.one=true:=St.one hS (k:=4) rfl;have hS0:=St.tail hS;clear hS;have hS:=hS0;clear hS0;refine Ob hp9 ?_;intro p71 hp71;refine KR hS rfl (i:=1) rfl hp71 aG aU ?_;intro h' hS;simp only[dY,dP,dV] at hS;refine bu ?_;refine Ow [1,2,3,8,9,10,24,25,26] ?_;refine OI ?_;refine Kx aF aF ?_;refine Oq ?_;refine Og ?_;rw[Pk aA] at hS;exact lpN (i+1,r70) ⟨by dsimp only; omega,by dsimp only; omega,St.tail hS⟩ aJ
  intro c27;refine bS ?_;refine Ow [8,9] ?_;refine Ot ?_;refine OR hS (i:=0) rfl hp9 aI aE ?_;refine O8 hS rfl (i:=1) rfl hp8 a7 aI aI aE ?_;intro h' hS;simp only[dY,dP,dV] at hS;refine Oj [8] ?_;refine Ke ?_;refine fnC.retC hS (i:=1) rfl hp8 aI aK ?_;have him2:i=m:=by omega
  subst him2;exact⟨_,rfl,St.pick [2] aE rfl hS⟩
 intro g23;have g23:=of_decide_eq_false g23;refine OI ?_;refine OB ?_;refine Oj [1,2,3,8,9,10,24,25,26,27] ?_;refine OM ?_;refine bS ?_;refine Ow [8,9] ?_;refine Ot ?_;refine OR hS (i:=0) rfl hp9 aI aE ?_;refine O8 hS rfl (i:=1) rfl hp8 a7 aI aI aE ?_;intro h' hS;simp only[dY,dP,dV] at hS;refine Oj [8] ?_;refine Ke ?_;refine fnC.retC hS (i:=1) rfl hp8 aI aK ?_;have e0:ZM (Zc a) wide hs i=ZM (Zc a) wide hs m:=by
  unfold ZM; rw[fA (show hs.length≤i by omega),fA (show hs.length≤m by omega)]
 rw[e0] at hS;exact⟨_,rfl,St.pick [2] aE rfl hS⟩
end Go.Am
namespace Go.Am
def VG (e r:Int):Int:=if e=0 then r else r+1
def VV (e:Int) (g bound:Bool):Bool:=if e=0 then g else g && bound && decide (e=13)
abbrev cells3 (p2 p3 p4 b:AV) (r:Int) (g:Bool) (G:List Obj):List Obj:=⟨p2,0,[b],true⟩::⟨p3,0,[.int .i64 r],true⟩::⟨p4,0,[.bool g],true⟩::G
theorem Y5 {h0 h:AHeap} {b vl p2 p3 p4:AV} {A:OA} {lines:List Str} {G:List Obj} {line:Str} {bound g:Bool} {r:Int} (hp2:AddrOf p2 p2 0 0) (hp3:AddrOf p3 p3 0 0) (hp4:AddrOf p4 p4 0 0) (hb:BOk2 b A lines) (st:St h0 h (ZD b vl A lines ++ cells3 p2 p3 p4 b r g G)) (hV:Vs h) (hl:line.length≤1000000) (hr : 0≤r∧r≤1000):ACalls Go.Proofs.Tryz.prog 51 [.str (wdQ line),.bool bound,p2,p3,p4] h (fun _ h'=>Bk h0 h' b (doL lines line) (cells3 p2 p3 p4 b (VG (KB lines line) r) (VV (KB lines line) g bound) G)):=by
 refine OK 23 [] Go.Proofs.Tryz.func51 rfl aE rfl rfl (dQ rfl) ?_;have hS:St h0 h (⟨p2,0,[b],true⟩::⟨p3,0,[.int .i64 r],true⟩::⟨p4,0,[.bool g],true⟩::(G ++ ZD b vl A lines)):=st.perm dR;show KA _ 23 _ _ [(0,.str (wdQ line)),(1,.bool bound),(2,p2),(3,p3),(4,p4)] _;refine Ot ?_;refine OJ hS (i:=0) rfl hp2 ?_;refine Oe ?_;refine Oo rfl (JW (line:=line) hb st hV hl) ?_;rintro _ h10 ⟨rfl,vl1,A1,hb1,st1⟩;clear hS;have hS:St h0 h10 (⟨p2,0,[b],true⟩::⟨p3,0,[.int .i64 r],true⟩::⟨p4,0,[.bool g],true⟩::(G ++ ZD b vl1 A1 (doL lines line))):=st1.perm dR;obtain⟨e,he⟩:∃ e,KB lines line=e:=⟨_,rfl⟩;rw[he];refine Oa [1,3,4,7] ?_;refine Oa [1,3,4,7,12] ?_;refine Kk ?_ ?_;intro c12;refine Ot ?_;refine OJ hS (i:=1) rfl hp3 ?_;refine Kx aF aF ?_;refine Kp hS rfl (i:=1) rfl hp3 rfl ?_;intro h' hS;simp only[dY,dP,dV] at hS;refine Oj [1,4,7] ?_;refine Kc rfl ?_;refine OJ hS (i:=2) rfl hp4 ?_;refine Oe ?_;refine Ov (dj:=16) rfl rfl true false rfl ?_ ?_;intro g16;refine Oc ?_;refine Ov (dj:=19) rfl rfl true false rfl ?_ ?_;intro g19;refine Oc ?_;refine Kp hS rfl (i:=2) rfl hp4 rfl ?_;intro h' hS;simp only[dY,dP,dV] at hS;refine dA ?_;refine⟨vl1,A1,hb1,?_⟩;rw[show VG e r=r+1 from if_neg c12,show VV e g bound=(g && bound && decide (e=13)) from if_neg c12];simp only[g16,g19,Bool.true_and];exact hS.perm (dR (l₁:=cells3 p2 p3 p4 b _ _ G));intro g19;refine Oc ?_;refine Kp hS rfl (i:=2) rfl hp4 rfl ?_;intro h' hS;simp only[dY,dP,dV] at hS;refine dA ?_;refine⟨vl1,A1,hb1,?_⟩;rw[show VG e r=r+1 from if_neg c12,show VV e g bound=(g && bound && decide (e=13)) from if_neg c12];simp only[g16,g19,Bool.true_and,Bool.false_and];exact hS.perm (dR (l₁:=cells3 p2 p3 p4 b _ _ G));intro g16;refine Oc ?_;refine Kp hS rfl (i:=2) rfl hp4 rfl ?_;intro h' hS;simp only[dY,dP,dV] at hS;refine dA ?_;refine⟨vl1,A1,hb1,?_⟩;rw[show VG e r=r+1 from if_neg c12,show VV e g bound=(g && bound && decide (e=13)) from if_neg c12];simp only[g16,Bool.false_and];exact hS.perm (dR (l₁:=cells3 p2 p3 p4 b _ _ G));intro c12;refine OC ?_;refine KH ?_;refine⟨vl1,A1,hb1,?_⟩;rw[show VG e r=r from if_pos c12,show VV e g bound=g from if_pos c12];exact hS.perm (dR (l₁:=cells3 p2 p3 p4 b _ _ G))
end Go.Am
namespace Go.Am
open Go.RowKit
theorem itoaS_c {h:AHeap} {i:Nat} (hi:i<100):ACalls Go.Proofs.Tryz.prog 25 [.int .i64 (i:Int)] h (fun q h'=>q = .str (wdQ (fV i))∧h=h'):=by
 refine⟨_,_,Ev.of_belowQ ⟨_,Go.Proofs.Tryz.func25,by decide,rfl⟩ ?_,rfl,rfl⟩;intro φ w cs _ ha;obtain⟨a,rfl⟩:∃ a,cs = [a]:=by
  match cs,ha.1 with
  | [a],_=>exact⟨a,rfl⟩
 have h1:=ha.2 0 _ _ rfl rfl;cases h1;refine(Go.Proofs.Tryz.strconv_Itoa_small i hi w).mono ?_;rintro e w' ⟨rfl,rfl⟩;exact⟨_,rfl,.str _,Below.refl _ _⟩
def sRoom:Str:=[114,111,111,109,32]
def sWay:Str:=[119,97,121,32]
def UI:Str:=[109,111,115,116,32]
def Jc:Str:=[108,101,97,115,116,32]
def JD (i:Nat):Str:=sRoom ++ Kg i
def Um (w:W) (i:Nat):Str:=sWay ++ Kg i ++ [32] ++ Kg w.f.toNat ++ [32] ++ Kg w.t.toNat
def Yc (w:W) (i:Nat):Str:=UI ++ Kg i ++ [32] ++ fV w.m.toNat
def Vp (w:W) (i:Nat):Str:=Jc ++ Kg i ++ [32] ++ fV w.l.toNat
noncomputable def KP (s:List Str × Int × Bool) (p:Str × Bool):List Str × Int × Bool:=(doL s.1 p.1,VG (KB s.1 p.1) s.2.1,VV (KB s.1 p.1) s.2.2 p.2)
def Qw (n:Nat):List (Str × Bool):=(fG n).map fun i=>(JD i,false)
def Yh (ws:List W) (k:Nat):List (Str × Bool):=(fG k).map fun i=>(Um (ws.getD i default) i,false)
def ZH (ws:List W) (k:Nat):List (Str × Bool):=(fG k).flatMap fun i=>[(Yc (ws.getD i default) i,true),(Vp (ws.getD i default) i,true)]
noncomputable def told0:List Str × Int × Bool:=([],0,true)
end Go.Am
namespace Go.Am
theorem tellS_r (s:List Str × Int × Bool) (p:Str × Bool):s.2.1≤(KP s p).2.1∧(KP s p).2.1≤s.2.1+1:=by
 show s.2.1≤VG _ _∧VG _ _≤_;unfold VG;split <;> omega
theorem RT:∀ (l:List (Str × Bool)) (s:List Str × Int × Bool),s.2.1≤(l.foldl KP s).2.1∧(l.foldl KP s).2.1≤s.2.1+l.length:=by
 intro l
 induction l with
 | nil=>intro s; simp
 | cons p l ih=>
  intro s;have h1:=tellS_r s p;have h2:=ih (KP s p);rw[gI,dS];constructor;omega
  push_cast; omega
theorem rooms_r (i:Nat) : 0≤((Qw i).foldl KP told0).2.1∧((Qw i).foldl KP told0).2.1≤i:=by
 have h1:=RT (Qw i) told0;have h2:told0.2.1=0:=rfl;have h3:(Qw i).length=i:=by simp[Qw]
 rw[h2,h3] at h1;omega
theorem U1 (n:Nat):Qw (n+1)=Qw n ++ [(JD n,false)]:=by simp[Qw,fR]
theorem Rq (ws:List W) (k:Nat):Yh ws (k+1)=Yh ws k ++ [(Um (ws.getD k default) k,false)]:=by simp[Yh,fR]
theorem Vf (ws:List W) (k:Nat):ZH ws (k+1)=ZH ws k ++ [(Yc (ws.getD k default) k,true),(Vp (ws.getD k default) k,true)]:=by simp[ZH,fR]
theorem XJ (l:List (Str × Bool)) (p:Str × Bool) (s:List Str × Int × Bool):(l ++ [p]).foldl KP s=KP (l.foldl KP s) p:=by simp
theorem KI (i:Nat):(Kg i).length=1:=rfl
theorem roomL_len (i:Nat):(JD i).length=6:=rfl
theorem wayL_len (w:W) (i:Nat):(Um w i).length=9:=rfl
end Go.Am
