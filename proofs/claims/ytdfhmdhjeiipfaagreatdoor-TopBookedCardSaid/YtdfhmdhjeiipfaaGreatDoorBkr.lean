/-
  Tops: the example of the book.
  Conditions: none.
-/
import Derived.Test.YtdfhmdhjeiipfaaGreatDoorBka
open Bool renaming and_eq_true → fA, false_eq_true → fB, true_and → fH, false_and → fP
open List renaming set_cons_zero → dO, set_cons_succ → dU, getD_eq_getElem?_getD → dY, getElem?_eq_getElem → dM, perm_append_comm → dN, nil_append → dQ, mem_range → dR, range_succ → dT, length_nil → dV, length_append → dW, range → dX, length_cons → dZ, map_congr_left → fE, getElem?_map → fI, take_of_length_le → fO, perm_append_singleton → fC, map_map → fD, map_append → fF, getElem?_range → fJ, mem_map → fK, take_add_one → fL, length_map → fM, mem_filter → fN, map → fQ
open Nat renaming zero_add → dP, le_of_ble_eq_true → dS, zero_le → fU, le_refl → fY, not_lt_zero → fG
set_option maxRecDepth 99999
set_option maxHeartbeats 4000000
namespace Go.Am
section
variable {P:Program} {n:Nat} {ops:Array Oper} {ex:List Nat} {Q:KF→AHeap→Prop} {k:Nat} {os:List Oper} {K:KF} {h:AHeap} {d:Nat} {ty:TypeId} {pos:String} {after:Array Edge}
theorem KOps.wNeT {t t':TypeId} {x y:Operand} {a b:Str} [hx:EvK h.globs n K x (.str (wdQ a))] [hy:EvK h.globs n K y (.str (wdQ b))] (hne:a≠b) (hk:KOps P n ops ex Q (k+1) os ((d,.bool true)::K) h):KOps P n ops ex Q k (⟨some d,.binOp .neq t x y t',ty,pos,after,none⟩::os) K h:=
  O9 rfl (by simp only[apure,hx.eq,hy.eq,Zq,astr,wd_eql,decide_eq_false hne]; rfl) hk
end
theorem Ux {h:AHeap} (hV:Vs h):ACalls Go.Proofs.Tryz.prog 22 [] h (fun q h'=>q = .bool true∧Keeps h h'):=by
 refine OI 34 [.tmp 0] Go.Proofs.Tryz.func22 rfl aE rfl rfl (dS rfl) ?_;have hS:=St.refl h;show KA _ 34 _ _ [] _;refine cO ?_;refine Ol rfl (new_c) ?_;rintro vB h2 ⟨vl2,A2,hb,hS2⟩;clear hS;have hS:=hS2;clear hS2;refine Ov ?_;refine On [1] ?_;refine Oq ?_;refine Of ?_;refine Ol rfl (do_c (line:=bk1) hb hS (hV.ext hS.keeps) aE) ?_;rintro _ h4 ⟨rfl,vl4,A4,hb4,hS4⟩;rw[bk1_d] at hb4 hS4;rw[bk1_e];clear hS hb;have hS:=hS4;have hb:=hb4;clear hS4 hb4;refine KB ?_;refine Of ?_;refine Ow (dj:=6) rfl rfl true false rfl ?_ ?_;intro g6;have g6:=of_decide_eq_true g6;refine Of ?_;refine Oi (dj:=6) rfl rfl ?_;refine Ol rfl (do_c (line:=bk2) hb hS (hV.ext hS.keeps) aE) ?_;rintro _ h8 ⟨rfl,vl8,A8,hb8,hS8⟩;rw[bk2_d] at hb8 hS8;rw[bk2_e];clear hS hb;have hS:=hS8;have hb:=hb8;clear hS8 hb8;refine Oi (dj:=6) rfl rfl ?_;refine b4 ?_;refine Ow (dj:=11) rfl rfl true false rfl ?_ ?_;intro g11;have g11:=of_decide_eq_true g11;refine Of ?_;refine Oi (dj:=11) rfl rfl ?_;refine Ol rfl (do_c (line:=bk3) hb hS (hV.ext hS.keeps) aE) ?_;rintro _ h13 ⟨rfl,vl13,A13,hb13,hS13⟩;rw[bk3_d] at hb13 hS13;rw[bk3_e];clear hS hb;have hS:=hS13;have hb:=hb13;clear hS13 hb13;refine Oi (dj:=11) rfl rfl ?_;refine b4 ?_;refine Ow (dj:=16) rfl rfl true false rfl ?_ ?_;intro g16;have g16:=of_decide_eq_true g16;refine Of ?_;refine Oi (dj:=16) rfl rfl ?_;refine Ol rfl (do_c (line:=bk4) hb hS (hV.ext hS.keeps) aE) ?_;rintro _ h18 ⟨rfl,vl18,A18,hb18,hS18⟩;rw[bk4_d] at hb18 hS18;rw[bk4_e];clear hS hb;have hS:=hS18;have hb:=hb18;clear hS18 hb18;refine Oi (dj:=16) rfl rfl ?_;refine b4 ?_;refine Ow (dj:=21) rfl rfl true false rfl ?_ ?_;intro g21;have g21:=of_decide_eq_true g21;refine Of ?_;refine Oi (dj:=21) rfl rfl ?_;refine Ol rfl (do_c (line:=bk5) hb hS (hV.ext hS.keeps) aE) ?_;rintro _ h23 ⟨rfl,vl23,A23,hb23,hS23⟩;rw[bk5_d] at hb23 hS23;rw[bk5_e];clear hS hb;have hS:=hS23;have hb:=hb23;clear hS23 hb23;refine Oi (dj:=21) rfl rfl ?_;refine b4 ?_;refine Ow (dj:=26) rfl rfl true false rfl ?_ ?_;intro g26;have g26:=of_decide_eq_true g26;refine Of ?_;refine Oi (dj:=26) rfl rfl ?_;refine Ol rfl (fileB_c (hS.rbk hb) (hV.ext hS.keeps)) ?_;rintro _ _ ⟨rfl,rfl⟩;refine Oi (dj:=26) rfl rfl ?_;refine KOps.wNeT (by unfold fileT; simp) ?_;refine O5 ?_;refine Of ?_;refine Ow (dj:=31) rfl rfl true false rfl ?_ ?_;intro g31;refine Ol rfl (SQ) ?_;rintro _ hx ⟨rfl,hK⟩;replace hS:St _ _ _:=St.trans hS (St.ofK hK);simp only[dQ] at hS;refine O5 ?_;refine bU ?_
 first|exact⟨rfl,hS.keeps⟩|(exfalso; contradiction)|(exfalso; omega)
 intro g31;refine cm ?_
 first|exact⟨rfl,hS.keeps⟩|(exfalso; contradiction)|(exfalso; omega)
 intro g26;have g26:=of_decide_eq_false g26;refine Oo (dj:=26) rfl rfl rfl ?_;refine Oo (dj:=26) rfl rfl rfl ?_;refine cH ?_;refine Oo (dj:=31) rfl rfl rfl ?_;refine cm ?_
 first|exact⟨rfl,hS.keeps⟩|(exfalso; contradiction)|(exfalso; omega)
 intro g21;have g21:=of_decide_eq_false g21;refine Oo (dj:=21) rfl rfl rfl ?_;refine bd ?_;refine cm ?_
 first|exact⟨rfl,hS.keeps⟩|(exfalso; contradiction)|(exfalso; omega)
 intro g16;have g16:=of_decide_eq_false g16;refine bx ?_
 first|exact⟨rfl,hS.keeps⟩|(exfalso; contradiction)|(exfalso; omega)
 intro g11;have g11:=of_decide_eq_false g11;refine Oo (dj:=11) rfl rfl rfl ?_;refine Oo (dj:=11) rfl rfl rfl ?_;refine cH ?_;refine Oo (dj:=16) rfl rfl rfl ?_;refine bx ?_
 first|exact⟨rfl,hS.keeps⟩|(exfalso; contradiction)|(exfalso; omega)
 intro g6;have g6:=of_decide_eq_false g6;refine Oo (dj:=6) rfl rfl rfl ?_;refine Oo (dj:=6) rfl rfl rfl ?_;refine cH ?_;refine Oo (dj:=11) rfl rfl rfl ?_;refine Oo (dj:=11) rfl rfl rfl ?_;refine Oo (dj:=11) rfl rfl rfl ?_;refine cH ?_;refine Oo (dj:=16) rfl rfl rfl ?_;refine bx ?_
 first|exact⟨rfl,hS.keeps⟩|(exfalso; contradiction)|(exfalso; omega)
end Go.Am
namespace Go.Am
open Go.RowKit
def Ki (i:Nat):Str:=[UInt8.ofNat (97+i)]
theorem letter_run:(dX 16).all (fun i=>XJ Go.Proofs.Tryz.prog 4000 24 [.int .i64 (i:Int)] [] [] (fun r _=>AV.isP 3 r (.str (wdQ (Ki i)))))=true:=by kernel_rfl
theorem XP {h:AHeap} {i:Nat} (hi:i<16):ACalls Go.Proofs.Tryz.prog 24 [.int .i64 (i:Int)] h (fun q h'=>q = .str (wdQ (Ki i))∧Keeps h h'):=
  Zz mixed 4000 [.int .i64 (i:Int)] [] [] Xj Xt rfl (JM rfl) (List.all_eq_true.1 letter_run i (dR.2 hi)) (fun m d=>rfl)
end Go.Am
namespace Go.Am
theorem within_c {h:AHeap} {v:AV} {l:List Int} {x:Int} (hv:Row h v l) (hlen:l.length≤4294967296):ACalls Go.Proofs.Tryz.prog 28 [v,.int .i64 x] h (fun q h'=>q = .bool (decide (x∈l))∧h=h'):=by
 refine OI 17 [.tmp 4] Go.Proofs.Tryz.func28 rfl aE rfl rfl (dS rfl) ?_;show KA _ 17 _ _ [(0,v),(1,.int .i64 x)] _;refine bw ?_;refine Kk hv ?_;refine Oa [1,7,8,9] ?_;refine Oz ?_;refine Kb (X:=Nat) (fun i=>[(1,.int .i64 x),(7,v),(8,.int .i64 (l.length:Int)),(9,.int .i64 ((i:Nat):Int))]) (fun i h'=>i≤l.length∧x ∉ l.take i∧h=h') (fun i=>l.length - i) 0 ?_ ?_;exact⟨fU _,by simp,rfl⟩;rintro i _ ⟨hi,hx,rfl⟩;refine cM ?_;refine Om ?_ ?_
 ·intro c10;refine OC [1,7,8,9] ?_;refine ch ?_;refine OD hv (j:=i) rfl aF ?_;intro p11 hp11;refine Ke hp11 hv aF ?_;refine Oa [1,6,7,8,9] ?_;refine Oa [1,7,8,9,15] ?_;refine Om ?_ ?_;intro c15;refine bV ?_;refine⟨?_,rfl⟩; congr 1; symm; apply decide_eq_true; rw[←c15,dY,dM (show i<l.length by omega)]; exact List.getElem_mem _;intro c15;refine b3 ?_;refine Ox [1,7,8,9] ?_;refine bT ?_;refine lpN (i+1) ⟨by omega,?_,rfl⟩ aA;intro hm;rw[fL,List.mem_append] at hm;rcases hm with hm|hm
  exact hx hm;rw[dM (show i<l.length by omega)] at hm;have e:=List.mem_singleton.1 hm;exact c15 (by rw[dY,dM (show i<l.length by omega),e]; rfl)
 intro c10;refine cE ?_;refine⟨?_,rfl⟩; congr 1; symm; apply decide_eq_false; rwa [fO aA] at hx
end Go.Am
namespace Go.Am
structure Q4 where
  a:Int
  b:Int
  c:Int
  d:Int
  deriving Inhabited
abbrev q4 (x:Q4):List AV:=[.int .u8 x.a,.int .u8 x.b,.int .u8 x.c,.int .u8 x.d]
theorem q4_len (x:Q4):(q4 x).length=4:=rfl
structure Q4.Ok (x:Q4):Prop where
  a0 : 0≤x.a
  a1:x.a≤255
  b0 : 0≤x.b
  b1:x.b≤255
  c0 : 0≤x.c
  c1:x.c≤255
  d0 : 0≤x.d
  d1:x.d≤255
theorem Zt {a m:Int} (h : 0≤a) (hm : 0<m) : 0≤a.tmod m∧a.tmod m<m:=⟨Int.tmod_nonneg _ h,Int.tmod_lt_of_pos _ hm⟩
def pway (rm wide:Int) (x:Q4):W:=⟨x.a.tmod rm,(x.a.tmod rm+1+x.b.tmod (rm - 1)).tmod rm,x.c.tmod 4,x.c.tmod 4+x.d.tmod wide⟩
theorem pway_ok {rm wide:Int} {x:Q4} (h2 : 2≤rm) (hw : 0<wide∧wide≤9) (hx:x.Ok):WOk rm (pway rm wide x):=by
 have t1:=Zt hx.a0 (show 0<rm by omega);have t2:=Zt hx.b0 (show 0<rm - 1 by omega);have t3:=Zt hx.c0 (show(0:Int)<4 by decide);have t4:=Zt hx.d0 hw.1;have t5:=Zt (show 0≤x.a.tmod rm+1+x.b.tmod (rm - 1) by omega) (show 0<rm by omega);refine⟨t1.1,t1.2,t5.1,t5.2,?_,t3.1,?_,?_⟩;show x.a.tmod rm≠(x.a.tmod rm+1+x.b.tmod (rm - 1)).tmod rm;generalize x.a.tmod rm=p at *;generalize x.b.tmod (rm - 1)=q at *;rw[Int.tmod_eq_emod_of_nonneg aA];intro he;have h5:=Int.emod_emod_of_dvd (p+1+q) (Int.dvd_refl rm);by_cases hlt:p+1+q<rm;rw[Int.emod_eq_of_lt aA hlt] at he; omega;have h6:(p+1+q) % rm=p+1+q - rm:=by
  rw[←Int.sub_emod_right,Int.emod_eq_of_lt aA aA]
 omega;show x.c.tmod 4≤x.c.tmod 4+x.d.tmod wide;omega;show x.c.tmod 4+x.d.tmod wide≤99;omega
def ZL (rm wide:Int) (hs:List Q4) (k:Nat):List W:=(hs.take k).map (pway rm wide)
theorem YQ (rm wide:Int) (hs:List Q4) (k:Nat):(ZL rm wide hs k).length=Min.min k hs.length:=by simp[ZL]
theorem SN {rm wide:Int} {hs:List Q4} {i:Nat} (hi:i<hs.length):flr wc (ZL rm wide hs i) ++ wc (pway rm wide (hs.getD i default))=flr wc (ZL rm wide hs (i+1)):=by
 rw[UX];congr 1;unfold ZL;rw[fL,dM hi,fF,dY,dM hi];rfl
theorem paper_ok {rm wide:Int} {hs:List Q4} {k:Nat} (h2 : 2≤rm) (h6:rm≤6) (hw : 0<wide∧wide≤9) (hk:k≤12) (hx:∀ i,i<hs.length→(hs.getD i default).Ok):BOk rm (ZL rm wide hs k):=by
 refine⟨h2,h6,by rw[YQ]; omega,?_⟩;intro i hi;rw[YQ] at hi;have e:(ZL rm wide hs k).getD i default=pway rm wide (hs.getD i default):=by
  unfold ZL;rw[dY,fI,List.getElem?_take,if_pos aA,dY,dM aA];rfl
 rw[e];exact pway_ok h2 hw (hx i aA)
def Q9 (a:Int):Int:=2+a.tmod 3
theorem Se {a:Int} (h : 0≤a) : 2≤Q9 a∧Q9 a≤4:=by
 have:=Zt h (show(0:Int)<3 by decide);unfold Q9;omega
theorem paper_c {h:AHeap} {a wide:Int} {vH:AV} {hs:List Q4} {m:Nat} (hv:Rd h vH 4 (flr q4 hs)) (ha0 : 0≤a) (ha1:a≤255) (hx:∀ i,i<hs.length→(hs.getD i default).Ok) (hm:m≤12) (hw : 0<wide∧wide≤9):ACalls Go.Proofs.Tryz.prog 19 [.int .u8 a,vH,.int .i64 (m:Int),.int .i64 wide] h (fun q h'=>∃ v,q = .agg [.int .i64 (Q9 a),v]∧St h h' [⟨v,4,flr wc (ZL (Q9 a) wide hs m),true⟩]):=by
 refine KA.fnH 73 [.cell 8 48] Go.Proofs.Tryz.func19 rfl aE rfl rfl (dS rfl) ?_;have hS:=St.refl h;have hvo:vH.one=true:=hv.one;have hrb:=Se ha0;have ht3:=Zt ha0 (show(0:Int)<3 by decide);show KA _ 73 _ _ [(0,.int .u8 a),(1,vH),(2,.int .i64 (m:Int)),(3,.int .i64 wide)] _;refine Oq ?_;refine O1 hS ?_;intro p8 h' hp8 hS;refine b6 ?_;refine OE ?_;refine KOps.convU ha0 ha1 ?_;refine KOps.rem aE aA aA ?_;refine Kt aA aA ?_;rw[show(2:Int)+a.tmod 3=Q9 a from rfl];refine OQ (zs:=[.int .i64 0,.nils]) (cs:=[_,_]) aC aH aC (.cons (off:=0) (s:=1) aC (AV.cells_one aG) rfl aE .nil) aH ?_;refine O1 hS ?_;intro p9 h' hp9 hS;refine O7 hS rfl (i:=0) rfl hp9 aB aH aH aE ?_;intro h' hS;simp only[dO,dU,dP] at hS;refine On [1,2,3,8,9] ?_;refine OE ?_;refine b6 ?_;refine Oz ?_;refine Kb (X:=Nat × AV) (fun x=>[(1,vH),(2,.int .i64 (m:Int)),(3,.int .i64 wide),(8,p8),(9,p9),(10,.int .i64 (x.1:Int))]) (fun x h'=>x.1≤hs.length∧x.1≤m∧St h h' [⟨p9,0,[.int .i64 (Q9 a),x.2],true⟩,⟨p8,0,[.int .i64 0,.nils],true⟩,⟨x.2,4,flr wc (ZL (Q9 a) wide hs x.1),true⟩]) (fun x=>hs.length - x.1) (0,.nils) ?_ ?_;exact⟨fU _,fU _,St.addNil 4 true hS⟩;rintro⟨i,vo⟩ h3 ⟨hi,him,hS⟩;dsimp only at hi him hS⊢;refine OE ?_;refine Qi q4_len (Rd.ext hS.keeps hv) ?_;refine K6 ?_;refine Of ?_;refine Ow (dj:=23) rfl rfl true false rfl ?_ ?_
 ·intro g23;have g23:=of_decide_eq_true g23;refine OE ?_;refine K6 ?_;refine O5 ?_;refine On [1,2,3,8,9,10,24,25,26,27] ?_;refine Om ?_ ?_
  ·intro c27;refine OC [1,2,3,8,9,10,24,25,26] ?_;refine bg ?_;refine OE ?_;refine KZ q4_len (Rd.ext hS.keeps hv) (j:=i) rfl aF ?_;intro p32 hp32;refine K3 q4_len aE hp32 (Rd.ext hS.keeps hv) aF ?_;refine O1 hS ?_;intro p11 h' hp11 hS;refine O7 hS rfl (i:=0) rfl hp11 aB aH aH aE ?_;intro h' hS;simp only[dO,dU,dP] at hS;refine On [1,2,3,8,9,10,11,24,25,26] ?_;refine Oq ?_;have hxi:=hx i aA;have t1:=Zt hxi.a0 (show 0<Q9 a by omega);have t2:=Zt hxi.b0 (show 0<Q9 a - 1 by omega);have t3:=Zt hxi.c0 (show(0:Int)<4 by decide);have t4:=Zt hxi.d0 hw.1;have t5:=Zt (show 0≤(hs.getD i default).a.tmod (Q9 a)+1+(hs.getD i default).b.tmod (Q9 a - 1) by omega) (show 0<Q9 a by omega);refine KX hp11 (j:=0) rfl aE ?_;intro p34 hp34;refine Oe hp34 (hS.rd 0 rfl) rfl ?_;refine KOps.convU hxi.a0 hxi.a1 ?_;refine Ob hp9 ?_;intro p37 hp37;refine Oe hp37 (hS.rd 1 rfl) rfl ?_;refine KOps.rem aA aA aA ?_;refine OL [1,2,3,8,9,10,11,12,24,25,26] ?_;refine Oq ?_;refine KX hp11 (j:=2) rfl aE ?_;intro p40 hp40;refine Oe hp40 (hS.rd 0 rfl) rfl ?_;refine KOps.convU hxi.c0 hxi.c1 ?_;refine KOps.rem aE aA aA ?_;refine OL [1,2,3,8,9,10,11,12,13,24,25,26] ?_;refine OR [26] mixed rfl aC ?_;refine Ob hp9 ?_;intro p44 hp44;refine Oe hp44 (hS.rd 1 rfl) rfl ?_;refine OE ?_;refine Kt aD aD ?_;refine KX hp11 (j:=1) rfl aE ?_;intro p49 hp49;refine Oe hp49 (hS.rd 0 rfl) rfl ?_;refine KOps.convU hxi.b0 hxi.b1 ?_;refine Ob hp9 ?_;intro p52 hp52;refine Oe hp52 (hS.rd 1 rfl) rfl ?_;refine Zx aD aD ?_;refine KOps.rem aA aA aA ?_;refine Kt aD aD ?_;refine Ob hp9 ?_;intro p57 hp57;refine Oe hp57 (hS.rd 1 rfl) rfl ?_;refine KOps.rem aA aA aA ?_;refine OE ?_;refine KX hp11 (j:=3) rfl aE ?_;intro p62 hp62;refine Oe hp62 (hS.rd 0 rfl) rfl ?_;refine KOps.convU hxi.d0 hxi.d1 ?_;refine Of ?_;refine KOps.rem aA aA aA ?_;refine Kt aD aD ?_;refine bS ?_;refine Zi (cs:=(wc (pway (Q9 a) wide (hs.getD i default)))) hS rfl rfl rfl aE ?_;intro v69 h' hS;refine Z0 hS (fun _=>rfl) (i:=4) rfl (a:=i) (by rw[YX KC,YQ]; omega) (hS.rd 0 rfl) (b:=1) rfl rfl aA ?_;intro r70 h' hS;simp only[dO,dU,dP] at hS;have hr70:r70.one=true:=St.one hS (k:=4) rfl;have hS0:=St.tail hS;clear hS;have hS:=hS0;clear hS0;refine Ob hp9 ?_;intro p71 hp71;refine KY hS rfl (i:=1) rfl hp71 aG aV ?_;intro h' hS;simp only[dO,dU,dP] at hS;refine cU ?_;refine Ox [1,2,3,8,9,10,24,25,26] ?_;refine OE ?_;refine Kt aD aD ?_;refine Ov ?_;refine Og ?_;rw[SN aA] at hS;exact lpN (i+1,r70) ⟨by dsimp only; omega,by dsimp only; omega,St.tail hS⟩ aI
  intro c27;refine bP ?_;refine Ox [8,9] ?_;refine Oq ?_;refine OM hS (i:=0) rfl hp9 aH aE ?_;refine O7 hS rfl (i:=1) rfl hp8 a6 aH aH aE ?_;intro h' hS;simp only[dO,dU,dP] at hS;refine On [8] ?_;refine Kn ?_;refine fnC.retC hS (i:=1) rfl hp8 aH aN ?_;have him2:i=m:=by omega
  subst him2;exact⟨_,rfl,St.pick [2] aE rfl hS⟩
 intro g23;have g23:=of_decide_eq_false g23;refine OE ?_;refine Oy ?_;refine On [1,2,3,8,9,10,24,25,26,27] ?_;refine OP ?_;refine bP ?_;refine Ox [8,9] ?_;refine Oq ?_;refine OM hS (i:=0) rfl hp9 aH aE ?_;refine O7 hS rfl (i:=1) rfl hp8 a6 aH aH aE ?_;intro h' hS;simp only[dO,dU,dP] at hS;refine On [8] ?_;refine Kn ?_;refine fnC.retC hS (i:=1) rfl hp8 aH aN ?_;have e0:ZL (Q9 a) wide hs i=ZL (Q9 a) wide hs m:=by
  unfold ZL; rw[fO (show hs.length≤i by omega),fO (show hs.length≤m by omega)]
 rw[e0] at hS;exact⟨_,rfl,St.pick [2] aE rfl hS⟩
end Go.Am
namespace Go.Am
def Vr (e r:Int):Int:=if e=0 then r else r+1
def VE (e:Int) (g bound:Bool):Bool:=if e=0 then g else g && bound && decide (e=13)
abbrev cells3 (p2 p3 p4 b:AV) (r:Int) (g:Bool) (G:List Obj):List Obj:=⟨p2,0,[b],true⟩::⟨p3,0,[.int .i64 r],true⟩::⟨p4,0,[.bool g],true⟩::G
theorem YU {h0 h:AHeap} {b vl p2 p3 p4:AV} {A:OA} {lines:List Str} {G:List Obj} {line:Str} {bound g:Bool} {r:Int} (hp2:AddrOf p2 p2 0 0) (hp3:AddrOf p3 p3 0 0) (hp4:AddrOf p4 p4 0 0) (hb:BOk2 b A lines) (st:St h0 h (XH b vl A lines ++ cells3 p2 p3 p4 b r g G)) (hV:Vs h) (hl:line.length≤1000000) (hr : 0≤r∧r≤1000):ACalls Go.Proofs.Tryz.prog 51 [.str (wdQ line),.bool bound,p2,p3,p4] h (fun _ h'=>Bk h0 h' b (doL lines line) (cells3 p2 p3 p4 b (Vr (KQ lines line) r) (VE (KQ lines line) g bound) G)):=by
 refine OI 23 [] Go.Proofs.Tryz.func51 rfl aE rfl rfl (dS rfl) ?_;have hS:St h0 h (⟨p2,0,[b],true⟩::⟨p3,0,[.int .i64 r],true⟩::⟨p4,0,[.bool g],true⟩::(G ++ XH b vl A lines)):=st.perm dN;show KA _ 23 _ _ [(0,.str (wdQ line)),(1,.bool bound),(2,p2),(3,p3),(4,p4)] _;refine Oq ?_;refine OH hS (i:=0) rfl hp2 ?_;refine Of ?_;refine Ol rfl (do_c (line:=line) hb st hV hl) ?_;rintro _ h10 ⟨rfl,vl1,A1,hb1,st1⟩;clear hS;have hS:St h0 h10 (⟨p2,0,[b],true⟩::⟨p3,0,[.int .i64 r],true⟩::⟨p4,0,[.bool g],true⟩::(G ++ XH b vl1 A1 (doL lines line))):=st1.perm dN;obtain⟨e,he⟩:∃ e,KQ lines line=e:=⟨_,rfl⟩;rw[he];refine Oa [1,3,4,7] ?_;refine Oa [1,3,4,7,12] ?_;refine Kc ?_ ?_;intro c12;refine Oq ?_;refine OH hS (i:=1) rfl hp3 ?_;refine Kt aD aD ?_;refine Kf hS rfl (i:=1) rfl hp3 rfl ?_;intro h' hS;simp only[dO,dU,dP] at hS;refine On [1,4,7] ?_;refine O3 rfl ?_;refine OH hS (i:=2) rfl hp4 ?_;refine Of ?_;refine Ow (dj:=16) rfl rfl true false rfl ?_ ?_;intro g16;refine Oc ?_;refine Ow (dj:=19) rfl rfl true false rfl ?_ ?_;intro g19;refine Oc ?_;refine Kf hS rfl (i:=2) rfl hp4 rfl ?_;intro h' hS;simp only[dO,dU,dP] at hS;refine dB ?_;refine⟨vl1,A1,hb1,?_⟩;rw[show Vr e r=r+1 from if_neg c12,show VE e g bound=(g && bound && decide (e=13)) from if_neg c12];simp only[g16,g19,fH];exact hS.perm (dN (l₁:=cells3 p2 p3 p4 b _ _ G));intro g19;refine Oc ?_;refine Kf hS rfl (i:=2) rfl hp4 rfl ?_;intro h' hS;simp only[dO,dU,dP] at hS;refine dB ?_;refine⟨vl1,A1,hb1,?_⟩;rw[show Vr e r=r+1 from if_neg c12,show VE e g bound=(g && bound && decide (e=13)) from if_neg c12];simp only[g16,g19,fH,fP];exact hS.perm (dN (l₁:=cells3 p2 p3 p4 b _ _ G));intro g16;refine Oc ?_;refine Kf hS rfl (i:=2) rfl hp4 rfl ?_;intro h' hS;simp only[dO,dU,dP] at hS;refine dB ?_;refine⟨vl1,A1,hb1,?_⟩;rw[show Vr e r=r+1 from if_neg c12,show VE e g bound=(g && bound && decide (e=13)) from if_neg c12];simp only[g16,fP];exact hS.perm (dN (l₁:=cells3 p2 p3 p4 b _ _ G));intro c12;refine OB ?_;refine KK ?_;refine⟨vl1,A1,hb1,?_⟩;rw[show Vr e r=r from if_pos c12,show VE e g bound=g from if_pos c12];exact hS.perm (dN (l₁:=cells3 p2 p3 p4 b _ _ G))
end Go.Am
namespace Go.Am
open Go.RowKit
theorem itoaS_c {h:AHeap} {i:Nat} (hi:i<100):ACalls Go.Proofs.Tryz.prog 25 [.int .i64 (i:Int)] h (fun q h'=>q = .str (wdQ (Lib.decDigits i))∧h=h'):=by
 refine⟨_,_,Ev.of_belowQ ⟨_,Go.Proofs.Tryz.func25,by decide,rfl⟩ ?_,rfl,rfl⟩;intro φ w cs _ ha;obtain⟨a,rfl⟩:∃ a,cs = [a]:=by
  match cs,ha.1 with
  | [a],_=>exact⟨a,rfl⟩
 have h1:=ha.2 0 _ _ rfl rfl;cases h1;refine(Go.Proofs.Tryz.strconv_Itoa_small i hi w).mono ?_;rintro e w' ⟨rfl,rfl⟩;exact⟨_,rfl,.str _,Below.refl _ _⟩
def sRoom:Str:=[114,111,111,109,32]
def sWay:Str:=[119,97,121,32]
def sMost:Str:=[109,111,115,116,32]
def WV:Str:=[108,101,97,115,116,32]
def Jq (i:Nat):Str:=sRoom ++ Ki i
def J5 (w:W) (i:Nat):Str:=sWay ++ Ki i ++ [32] ++ Ki w.f.toNat ++ [32] ++ Ki w.t.toNat
def X3 (w:W) (i:Nat):Str:=sMost ++ Ki i ++ [32] ++ Lib.decDigits w.m.toNat
def Ve (w:W) (i:Nat):Str:=WV ++ Ki i ++ [32] ++ Lib.decDigits w.l.toNat
noncomputable def KP (s:List Str × Int × Bool) (p:Str × Bool):List Str × Int × Bool:=(doL s.1 p.1,Vr (KQ s.1 p.1) s.2.1,VE (KQ s.1 p.1) s.2.2 p.2)
def QF (n:Nat):List (Str × Bool):=(dX n).map fun i=>(Jq i,false)
def Yw (ws:List W) (k:Nat):List (Str × Bool):=(dX k).map fun i=>(J5 (ws.getD i default) i,false)
def Z3 (ws:List W) (k:Nat):List (Str × Bool):=(dX k).flatMap fun i=>[(X3 (ws.getD i default) i,true),(Ve (ws.getD i default) i,true)]
noncomputable def told0:List Str × Int × Bool:=([],0,true)
end Go.Am
namespace Go.Am
theorem tellS_r (s:List Str × Int × Bool) (p:Str × Bool):s.2.1≤(KP s p).2.1∧(KP s p).2.1≤s.2.1+1:=by
 show s.2.1≤Vr _ _∧Vr _ _≤_;unfold Vr;split <;> omega
theorem RE:∀ (l:List (Str × Bool)) (s:List Str × Int × Bool),s.2.1≤(l.foldl KP s).2.1∧(l.foldl KP s).2.1≤s.2.1+l.length:=by
 intro l
 induction l with
 | nil=>intro s; simp
 | cons p l ih=>
  intro s;have h1:=tellS_r s p;have h2:=ih (KP s p);rw[List.foldl_cons,dZ];constructor;omega
  push_cast; omega
theorem rooms_r (i:Nat) : 0≤((QF i).foldl KP told0).2.1∧((QF i).foldl KP told0).2.1≤i:=by
 have h1:=RE (QF i) told0;have h2:told0.2.1=0:=rfl;have h3:(QF i).length=i:=by simp[QF]
 rw[h2,h3] at h1;omega
theorem UK (n:Nat):QF (n+1)=QF n ++ [(Jq n,false)]:=by simp[QF,dT]
theorem Rb (ws:List W) (k:Nat):Yw ws (k+1)=Yw ws k ++ [(J5 (ws.getD k default) k,false)]:=by simp[Yw,dT]
theorem Y5 (ws:List W) (k:Nat):Z3 ws (k+1)=Z3 ws k ++ [(X3 (ws.getD k default) k,true),(Ve (ws.getD k default) k,true)]:=by simp[Z3,dT]
theorem Xy (l:List (Str × Bool)) (p:Str × Bool) (s:List Str × Int × Bool):(l ++ [p]).foldl KP s=KP (l.foldl KP s) p:=by simp
theorem Qv (i:Nat):(Ki i).length=1:=rfl
theorem roomL_len (i:Nat):(Jq i).length=6:=rfl
theorem wayL_len (w:W) (i:Nat):(J5 w i).length=9:=rfl
end Go.Am
namespace Go.Am
open Go.RowKit
theorem JT:∀ i,i<16→∀ j,j<16→Ki i=Ki j→i=j:=by decide +kernel
def dd (i:Nat):Str:=if i<10 then [UInt8.ofNat (48+i)] else [UInt8.ofNat (48+i / 10),UInt8.ofNat (48+i % 10)]
theorem dd_is {i:Nat} (h:i<100):Lib.decDigits i=dd i:=by
 unfold dd;by_cases h1:i<10;rw[if_pos h1,Lib.decDigits_one h1];rw[if_neg h1,Lib.decDigits_two h1 h]
def Rt (l a:Str):Bool:=decide (KH l=0) && match Qa l with
  | .room r=>decide (r=a)
  | _=>false
def isWayT (l a b c:Str):Bool:=decide (KH l=0) && match Qa l with
  | .way w f t=>decide (w=a) && decide (f=b) && decide (t=c)
  | _=>false
def Vd (l a:Str) (n:Int) (g:Bool):Bool:=decide (KH l=0) && match Qa l with
  | .bound w m e=>decide (w=a) && decide (m=n) && decide (e=g)
  | _=>false
theorem isRoomT_is {l a:Str} (h:Rt l a=true):KH l=0∧Qa l = .room a:=by
 unfold Rt at h;rw[fA,decide_eq_true_eq] at h;refine⟨h.1,?_⟩;have h2:=h.2
 cases hr:Qa l <;> rw[hr] at h2 <;> first|(cases h2; done)|skip
 dsimp only at h2;rw[decide_eq_true_eq] at h2;rw[h2]
theorem isWayT_is {l a b c:Str} (h:isWayT l a b c=true):KH l=0∧Qa l = .way a b c:=by
 unfold isWayT at h;rw[fA,decide_eq_true_eq] at h;refine⟨h.1,?_⟩;have h2:=h.2
 cases hr:Qa l <;> rw[hr] at h2 <;> first|(cases h2; done)|skip
 dsimp only at h2;simp only[fA,decide_eq_true_eq] at h2;rw[h2.1.1,h2.1.2,h2.2]
theorem SH {l a:Str} {n:Int} {g:Bool} (h:Vd l a n g=true):KH l=0∧Qa l = .bound a n g:=by
 unfold Vd at h;rw[fA,decide_eq_true_eq] at h;refine⟨h.1,?_⟩;have h2:=h.2
 cases hr:Qa l <;> rw[hr] at h2 <;> first|(cases h2; done)|skip
 dsimp only at h2;simp only[fA,decide_eq_true_eq] at h2;rw[h2.1.1,h2.1.2,h2.2]
theorem room_read:∀ i,i<4→Rt (Jq i) (Ki i)=true:=by decide +kernel
theorem way_read:∀ i,i<7→∀ f,f<4→∀ t,t<4→isWayT (sWay ++ Ki i ++ [32] ++ Ki f ++ [32] ++ Ki t) (Ki i) (Ki f) (Ki t)=true:=by decide +kernel
theorem most_read:∀ i,i<7→∀ m,m<100→Vd (sMost ++ Ki i ++ [32] ++ dd m) (Ki i) ((m:Nat):Int) true=true:=by decide +kernel
theorem least_read:∀ i,i<7→∀ m,m<100→Vd (WV ++ Ki i ++ [32] ++ dd m) (Ki i) ((m:Nat):Int) false=true:=by decide +kernel
def Qy (r:Nat):List Str:=(dX r).map Ki
theorem Jr (r:Nat):(Qy r).length=r:=by simp[Qy]
theorem SP (r:Nat):Qy (r+1)=Qy r ++ [Ki r]:=by simp[Qy,dT]
theorem Jh {r i:Nat} (h:i<r):Ki i∈Qy r:=fK.2 ⟨i,dR.2 h,rfl⟩
theorem WE {r i:Nat} (h:r≤i) (hi:i<16):Ki i ∉ Qy r:=by
 intro hm;obtain⟨j,hj,he⟩:=fK.1 hm;have hj:=dR.1 hj;have:=JT j aA i hi he;omega
theorem JO:∀ r,r<9→∀ f,f<r→O6 (Qy r) (Ki f)=f:=by decide +kernel
theorem roomsO_get {r i:Nat} (h:i<r):(Qy r).getD i []=Ki i:=by
 rw[Qy,dY,fI,fJ h]; rfl
def QW (ws:List W) (g:Nat→Option Int × Option Int) (i:Nat):Lane:=⟨i,(ws.getD i default).f.toNat,(ws.getD i default).t.toNat,(g i).1,(g i).2,[],false⟩
def QA (ws:List W) (g:Nat→Option Int × Option Int) (k:Nat):List (Str × Lane):=(dX k).map fun i=>(Ki i,QW ws g i)
def QH (r:Nat) (ws:List W) (g:Nat→Option Int × Option Int) (k:Nat):Off:=⟨Qy r,QA ws g k,[],[],[]⟩
def g0:Nat→Option Int × Option Int:=fun _=>(none,none)
def upd (g:Nat→Option Int × Option Int) (i:Nat) (v:Int) (most:Bool):Nat→Option Int × Option Int:=fun j=>if j=i then (if most then ((g j).1,some v) else (some v,(g j).2)) else g j
theorem J6 (ws:List W) (g:Nat→Option Int × Option Int) (k:Nat):(QA ws g k).length=k:=by simp[QA]
theorem Ra (ws:List W) (g:Nat→Option Int × Option Int) (k:Nat):(QA ws g k).map (·.1)=Qy k:=by
 rw[QA,fD]; rfl
theorem Tf {ws:List W} {g:Nat→Option Int × Option Int} {k i:Nat} (h:i<k):(QA ws g k)[i]? = some (Ki i,QW ws g i):=by
 rw[QA,fI,fJ h]; rfl
theorem mgetG {ws:List W} {g:Nat→Option Int × Option Int} {k i:Nat} (hk:k<9) (h:i<k):OG (QA ws g k) (Ki i)=some (QW ws g i):=by
 rw[Vg,Ra,if_pos (Jh h),JO k hk i h,Tf h]; rfl
theorem modG {ws:List W} {g:Nat→Option Int × Option Int} {k i:Nat} (hk:k<9) (h:i<k) (v:Int) (most:Bool):Zd (QA ws g k) (Ki i) (chB v most)=QA ws (upd g i v most) k:=by
 unfold Zd QA;rw[fD];refine fE fun j hj=>?_
 have hj:=dR.1 hj;simp only[Function.comp_apply];by_cases hji:j=i;subst hji;rw[if_pos rfl];congr 1;unfold QW upd;rw[if_pos rfl]
 cases most <;> rfl
 rw[if_neg (fun he=>hji (JT j aA i aA he))];congr 1;unfold QW upd;rw[if_neg hji]
theorem offG_mod {r:Nat} {ws:List W} {g:Nat→Option Int × Option Int} {k i:Nat} (hk:k<9) (h:i<k) (v:Int) (most:Bool):(QH r ws g k).mod (Ki i) (chB v most)=QH r ws (upd g i v most) k:=by
 unfold Off.mod QH;rw[modG hk h]
def GOk (ws:List W) (g:Nat→Option Int × Option Int):Prop:=∀ i,((g i).1=none∨(g i).1=some (ws.getD i default).l)∧((g i).2=none∨(g i).2=some (ws.getD i default).m)
theorem GOk.g0 (ws:List W):GOk ws g0:=fun _=>⟨.inl rfl,.inl rfl⟩
theorem GOk.upd {ws:List W} {g:Nat→Option Int × Option Int} (hg:GOk ws g) {i:Nat} {v:Int} {most:Bool} (hv:v=if most then (ws.getD i default).m else (ws.getD i default).l):GOk ws (upd g i v most):=by
 intro j;unfold Am.upd;by_cases hji:j=i;subst hji;rw[if_pos rfl];subst hv;cases most;exact⟨.inr rfl,(hg j).2⟩;exact⟨(hg j).1,.inr rfl⟩;rw[if_neg hji]; exact hg j
theorem U0 {r:Int} {ws:List W} {g:Nat→Option Int × Option Int} (hg:GOk ws g) {i:Nat} (hw:WOk r (ws.getD i default)) : 0≤(QW ws g i).lo∧(QW ws g i).lo≤(ws.getD i default).l:=by
 have h0:=hw.l0;unfold Lane.lo QW;rcases(hg i).1 with h|h <;> rw[h] <;> simp only[fB,if_false,dV] <;> omega
theorem UZ {r:Int} {ws:List W} {g:Nat→Option Int × Option Int} (hg:GOk ws g) {i:Nat} (hw:WOk r (ws.getD i default)):(ws.getD i default).m≤(QW ws g i).hi∧(QW ws g i).hi≤99:=by
 have h0:=hw.m1;unfold Lane.hi QW;rcases(hg i).2 with h|h <;> rw[h] <;> simp only[fB,if_false,Option.getD_none,Option.getD_some] <;> omega
theorem RI (r:Nat) (ws:List W) (g:Nat→Option Int × Option Int) (k:Nat):(QH r ws g k).ws.length=k:=by
 show(fQ _ (QA ws g k)).length=k;rw[fM,J6]
theorem RH {r:Nat} {ws:List W} {g:Nat→Option Int × Option Int} {k i:Nat} (h:i<k):(QH r ws g k).ws.getD i default=⟨((ws.getD i default).f.toNat:Int),((ws.getD i default).t.toNat:Int),(QW ws g i).lo,(QW ws g i).hi⟩:=by
 rw[dY];show(fQ _ (QA ws g k))[i]?.getD default=_;rw[fI,Tf h]; rfl
theorem T1 {ws ws':List W} {n:List Int} {x:Int}:∀ k:Nat,(∀ i,i<k→(ws'.getD i default).f=(ws.getD i default).f∧(ws'.getD i default).t=(ws.getD i default).t)→KM ws' n x k=KM ws n x k:=by
 intro k
 induction k with
 | zero=>intro _; rfl
 | succ k ih=>
  intro h;rw[KM,KM,ih (fun i hi=>h i aA),(h k aA).1,(h k aA).2]
theorem Flow.moveQ {ws ws':List W} {n:List Int} (hF:Flow ws n) (hl:ws'.length=ws.length) (hft:∀ i,i<ws.length→(ws'.getD i default).f=(ws.getD i default).f∧(ws'.getD i default).t=(ws.getD i default).t) (hb:∀ i,i<ws.length→(ws'.getD i default).l≤n.getD i 0∧n.getD i 0≤(ws'.getD i default).m):Flow ws' n:=by
 refine⟨⟨hF.len.trans hl.symm,fun i hi=>(hb i aA).1,fun i hi=>(hb i aA).2⟩,fun x=>?_⟩;unfold kept;rw[hl,T1 _ hft]; exact hF.kp x
theorem SV {r:Int} {ws:List W}:∀ k:Nat,(∀ i,i<k→Qb r (ws.getD i default)=0)→QS r ws k=0:=by
 intro k
 induction k with
 | zero=>intro _; rfl
 | succ k ih=>
  intro h;rw[QS,if_pos (ih (fun i hi=>h i aA))]; exact h k aA
theorem BOk.chkQ {r:Int} {ws:List W} (h:BOk r ws):KR r ws=0:=by
 unfold KR;rw[if_neg (by have:=h.r2; have:=h.r6; omega),if_neg (by have:=h.len; omega)];refine SV _ fun i hi=>?_
 have w:=h.way i hi;unfold Qb;rw[if_neg (fun q=>q ⟨w.f0,w.f1,w.t0,w.t1⟩),if_neg w.ne,if_neg (fun q=>q ⟨w.l0,w.lm,w.m1⟩)]
theorem V6 {r:Int} {ws:List W} (hB:BOk r ws):QZ r ws=true↔∃ n,Flow ws n:=by
 have h2:=hB.r2;have e:r=((r.toNat:Nat):Int):=by omega
 unfold QZ;rw[decide_eq_true hB.chkQ,fH];rw[e] at hB;exact Ui hB.inR hB.LM
theorem wsG_ok {r:Int} {ws:List W} {g:Nat→Option Int × Option Int} (hB:BOk r ws) (hg:GOk ws g) (n:Nat):BOk r (QH n ws g ws.length).ws:=by
 refine⟨hB.r2,hB.r6,by rw[RI]; exact hB.len,fun i hi=>?_⟩;rw[RI] at hi;have hw:=hB.way i hi;have h1:=U0 hg hw;have h2:=UZ hg hw;have h3:=hw.f0;have h4:=hw.t0;have h5:=hw.f1;have h6:=hw.t1;have h7:=hw.ne;have h8:=hw.lm;rw[RH hi];exact⟨by dsimp only; omega,by dsimp only; omega,by dsimp only; omega,by dsimp only; omega,by dsimp only; omega,by dsimp only; omega,by dsimp only; omega,by dsimp only; omega⟩
theorem wsG_can {r:Int} {ws:List W} {g:Nat→Option Int × Option Int} (hB:BOk r ws) (hg:GOk ws g) (n:Nat) (h:QZ r ws=true):QZ r (QH n ws g ws.length).ws=true:=by
 obtain⟨x,hx⟩:=(V6 hB).1 h;refine(V6 (wsG_ok hB hg n)).2 ⟨x,hx.moveQ (RI _ _ _ _) (fun i hi=>?_) (fun i hi=>?_)⟩;rw[RH hi];have hw:=hB.way i hi;have h3:=hw.f0;have h4:=hw.t0;exact⟨by dsimp only; omega,by dsimp only; omega⟩;rw[RH hi];have hw:=hB.way i hi;have h1:=U0 hg hw;have h2:=UZ hg hw;have h3:=hx.lo i hi;have h4:=hx.hi i hi;exact⟨by dsimp only; omega,by dsimp only; omega⟩
theorem Rw {α:Type} [Inhabited α] (l:List α):(dX l.length).map (fun i=>l.getD i default)=l:=by
 refine List.ext_getElem aN fun i h1 h2=>?_
 rw[List.getElem_map,List.getElem_range,dY,dM h2]; rfl
theorem wsG_full {r:Int} {ws:List W} {g:Nat→Option Int × Option Int} (hB:BOk r ws) (hg:∀ i,i<ws.length→g i=(some (ws.getD i default).l,some (ws.getD i default).m)) (n:Nat):(QH n ws g ws.length).ws=ws:=by
 refine Eq.trans ?_ (Rw ws);show fQ _ (QA ws g ws.length)=_;rw[QA,fD];refine fE fun i hi=>?_
 have hi:=dR.1 hi;have hw:=hB.way i hi;have h3:=hw.f0;have h4:=hw.t0;have h5:=hw.l0;simp only[Function.comp_apply];generalize hwi:ws.getD i default=w at *;have e:QW ws g i=⟨i,w.f.toNat,w.t.toNat,some w.l,some w.m,[],false⟩:=by
  unfold QW;rw[hg i hi,hwi]
 rw[e];obtain⟨f,t,l,m⟩:=w;dsimp only at h3 h4 h5;simp only[Lane.lo,Lane.hi,fB,if_false,dV,Option.getD_some];congr 1 <;> omega
theorem Wa {s:List Str × Int × Bool} {p:Str × Bool} (h:KQ s.1 p.1=0):KP s p=(s.1 ++ [p.1],s.2.1,s.2.2):=by
 unfold KP doL Vr VE;rw[if_pos h,if_pos h,if_pos h]
theorem tellS_no {s:List Str × Int × Bool} {p:Str × Bool} {e:Int} (h:KQ s.1 p.1=e) (he:e≠0):KP s p=(s.1,s.2.1+1,s.2.2 && p.2 && decide (e=13)):=by
 unfold KP doL Vr VE;rw[h,if_neg he,if_neg he,if_neg he]
theorem V0 {lines:List Str} {line:Str} (h:KH line=0) (hl:lines.length<100):KQ lines line=(after lines).wrong (Qa line):=by
 unfold KQ;dsimp only;rw[if_pos h,if_neg (fun q=>by omega)]
theorem rooms_told:∀ r,r≤4→after ((QF r).foldl KP told0).1=⟨Qy r,[],[],[],[]⟩∧((QF r).foldl KP told0).2.1=0∧((QF r).foldl KP told0).2.2=true∧((QF r).foldl KP told0).1.length=r:=by
 intro r
 induction r with
 | zero=>intro _; exact⟨rfl,rfl,rfl,rfl⟩
 | succ r ih=>
  intro hr;obtain⟨h1,h2,h3,h4⟩:=ih aA;rw[UK,Xy];generalize (QF r).foldl KP told0=s at *;obtain⟨e1,e2⟩:=isRoomT_is (room_read r aA);have e3:KQ s.1 (Jq r)=0:=by
   rw[V0 e1 aA,e2,h1];show(if _ then _ else if _ then _ else _)=_;rw[if_neg (WE (fY r) aA),if_neg (by rw[Jr]; omega)]
  rw[Wa e3];refine⟨?_,h2,h3,by simp[h4]⟩;dsimp only;rw[Xo,h1,e2];show(⟨Qy r ++ [Ki r],[],[],[],[]⟩:Off)=_;rw[SP]
theorem ways_told {rm:Int} {ws:List W} (hB:BOk rm ws) (hr:rm≤4) (hw:ws.length≤7):∀ k,k≤ws.length→∃ s,(Yw ws k).foldl KP ((QF rm.toNat).foldl KP told0)=s∧after s.1=QH rm.toNat ws g0 k∧s.2.1=0∧s.2.2=true∧s.1.length=rm.toNat+k:=by
 intro k
 induction k with
 | zero=>
  intro _;obtain⟨h1,h2,h3,h4⟩:=rooms_told rm.toNat aA;exact⟨_,rfl,h1,h2,h3,h4⟩
 | succ k ih=>
  intro hk;obtain⟨s,hs,h1,h2,h3,h4⟩:=ih aA;rw[Rb,Xy,hs];have hwk:=hB.way k aA;have f0:=hwk.f0;have f1:=hwk.f1;have t0:=hwk.t0;have t1:=hwk.t1;have ne:=hwk.ne;obtain⟨e1,e2⟩:=isWayT_is (way_read k aA (ws.getD k default).f.toNat aA (ws.getD k default).t.toNat aA);have e3:KQ s.1 (J5 (ws.getD k default) k)=0:=by
   unfold J5;rw[V0 e1 aA,e2,h1];show(if _ then _ else if _ then _ else if _ then _ else if _ then _ else _)=_;have n1:OG (QH rm.toNat ws g0 k).ways (Ki k)=none:=R3 (by
    show Ki k ∉ (QA ws g0 k).map (·.1);rw[Ra]; exact WE (fY k) aA)
   rw[n1,if_neg aE,if_neg,if_neg,if_neg];show¬ (QA ws g0 k).length=12;rw[J6]; omega;intro he;have:=JT _ aA _ aA he;omega;rintro(q|q);exact q (Jh aA);exact q (Jh aA)
  refine⟨_,rfl,?_⟩;rw[Wa e3];refine⟨?_,h2,h3,by simp[h4]; omega⟩;dsimp only;rw[Xo,h1,J5,e2];show(⟨Qy rm.toNat,QA ws g0 k ++ [(Ki k,⟨(QA ws g0 k).length,O6 (Qy rm.toNat) (Ki (ws.getD k default).f.toNat),O6 (Qy rm.toNat) (Ki (ws.getD k default).t.toNat),none,none,[],false⟩)],[],[],[]⟩:Off)=_;rw[J6,JO _ aA _ aA,JO _ aA _ aA];unfold QH;congr 1;unfold QA;rw[dT,fF];rfl
theorem Wj {rm : Int} {ws : List W} (hB : BOk rm ws) (hw : ws.length ≤ 7) {g : Nat → Option Int × Option Int} (hg : GOk ws g) {s : List Str × Int × Bool} {i : Nat} (hi : i < ws.length) {line : Str} {v : Int} {most : Bool} (hread : Vd line (Ki i) v most = true) (hv : v = if most then (ws.getD i default).m else (ws.getD i default).l)
    (hA:after s.1=QH rm.toNat ws g ws.length) (hl:s.1.length<100) :
    (QZ rm (QH rm.toNat ws (upd g i v most) ws.length).ws=true∧KP s (line,true)=(s.1 ++ [line],s.2.1,s.2.2)∧after (s.1 ++ [line])=QH rm.toNat ws (upd g i v most) ws.length)∨(QZ rm ws=false∧KP s (line,true)=(s.1,s.2.1+1,s.2.2)):=by
 obtain⟨e1,e2⟩:=SH hread;have hr2:=hB.r2;have hrm:(QH rm.toNat ws (upd g i v most) ws.length).rm=rm:=by
  show((Qy rm.toNat).length:Int)=rm;rw[Jr]; omega
 have hmg:OG (QH rm.toNat ws g ws.length).ways (Ki i)=some (QW ws g i):=mgetG aA hi;have hmod:(QH rm.toNat ws g ws.length).mod (Ki i) (chB v most)=QH rm.toNat ws (upd g i v most) ws.length:=offG_mod aA hi v most;have hg2:=hg.upd hv;have hwi:=hB.way i hi;have hch:chB v most (QW ws g i)=QW ws (upd g i v most) i:=by
  unfold QW upd;rw[if_pos rfl]
  cases most <;> rfl
 have e4:(QH rm.toNat ws g ws.length).wrong (.bound (Ki i) v most)=if QZ rm (QH rm.toNat ws (upd g i v most) ws.length).ws then 0 else 13:=by
  show(match OG (QH rm.toNat ws g ws.length).ways (Ki i) with
   | none=>(2:Int)
   | some l=>if l.paid then 20 else (QH rm.toNat ws g ws.length).tries (Ki i) (chB v most) l)=_
  rw[hmg];dsimp only;rw[if_neg (by show¬ (false=true); decide)];unfold Off.tries;have h1:=U0 hg2 hwi;have h2:=UZ hg2 hwi;have h3:=hwi.lm;rw[hch,if_neg aA,hmod];have hrm2:(QH rm.toNat ws g ws.length).rm=rm:=hrm;rw[hrm2]
 have e5:KQ s.1 line=if QZ rm (QH rm.toNat ws (upd g i v most) ws.length).ws then 0 else 13:=by
  rw[V0 e1 hl,e2,hA,e4]
 by_cases hc:QZ rm (QH rm.toNat ws (upd g i v most) ws.length).ws=true;rw[if_pos hc] at e5;refine .inl ⟨hc,Wa e5,?_⟩;rw[Xo,hA,e2];exact hmod
 ·rw[if_neg hc] at e5;refine .inr ⟨?_,?_⟩
  ·cases h:QZ rm ws with
   | false=>rfl
   | true=>exact absurd (wsG_can hB hg2 _ h) hc
  rw[tellS_no e5 aE];simp
structure ToldI (rm:Int) (ws:List W) (k:Nat) (s:List Str × Int × Bool) (g:Nat→Option Int × Option Int):Prop where
  gok:GOk ws g
  aft:after s.1=QH rm.toNat ws g ws.length
  len:s.1.length≤rm.toNat+ws.length+2*k
  good:s.2.2=true
  nn : 0≤s.2.1
  full:s.2.1=0→∀ i,i<k→g i=(some (ws.getD i default).l,some (ws.getD i default).m)
  can:s.2.1=0→0<k→QZ rm (QH rm.toNat ws g ws.length).ws=true
  lost:s.2.1≠0→QZ rm ws=false
theorem Sy {rm:Int} {ws:List W} (hB:BOk rm ws) (hr:rm≤4) (hw:ws.length≤7):∀ k,k≤ws.length→∃ s g,(Z3 ws k).foldl KP ((Yw ws ws.length).foldl KP ((QF rm.toNat).foldl KP told0))=s∧ToldI rm ws k s g:=by
 intro k
 induction k with
 | zero=>
  intro _;obtain⟨s,hs,h1,h2,h3,h4⟩:=ways_told hB hr hw ws.length (fY _);refine⟨s,g0,hs,GOk.g0 ws,h1,by omega,h3,by omega,fun _ i hi=>absurd hi (fG _),fun _ hk=>absurd hk (Nat.lt_irrefl _),fun h=>absurd h2 h⟩
 | succ k ih=>
  intro hk;obtain⟨s,g,hs,I⟩:=ih aA;have hr2:=hB.r2;have hwk:=hB.way k aA;have l0:=hwk.l0;have lm:=hwk.lm;have m1:=hwk.m1;have hlen:=I.len;rw[Y5,show ∀ (a b:Str × Bool),Z3 ws k ++ [a,b]=(Z3 ws k ++ [a]) ++ [b] from fun a b=>by simp,Xy,Xy,hs];have em:X3 (ws.getD k default) k=sMost ++ Ki k ++ [32] ++ dd (ws.getD k default).m.toNat:=by
   unfold X3; rw[dd_is aA]
  have el:Ve (ws.getD k default) k=WV ++ Ki k ++ [32] ++ dd (ws.getD k default).l.toNat:=by
   unfold Ve; rw[dd_is aA]
  have rm1:=most_read k aA (ws.getD k default).m.toNat aA;have rl1:=least_read k aA (ws.getD k default).l.toNat aA;rw[←em,show(((ws.getD k default).m.toNat:Nat):Int)=(ws.getD k default).m by omega] at rm1;rw[←el,show(((ws.getD k default).l.toNat:Nat):Int)=(ws.getD k default).l by omega] at rl1;have key:∃ s1 g1,KP s (X3 (ws.getD k default) k,true)=s1∧GOk ws g1∧after s1.1=QH rm.toNat ws g1 ws.length∧s1.1.length≤s.1.length+1∧s1.2.2=true∧0≤s1.2.1∧(s1.2.1=0→s.2.1=0∧g1=upd g k (ws.getD k default).m true)∧(s1.2.1≠0→QZ rm ws=false):=by
   rcases Wj hB hw I.gok aA rm1 rfl I.aft aA with ⟨_,h2,h3⟩|⟨h1,h2⟩
   refine⟨_,_,h2,I.gok.upd rfl,h3,by simp,I.good,I.nn,fun h=>⟨h,rfl⟩,I.lost⟩;have:=I.nn;refine⟨_,g,h2,I.gok,I.aft,by simp,I.good,by dsimp only; omega,fun h=>by dsimp only at h; omega,fun _=>h1⟩
  obtain⟨s1,g1,hs1,gok1,aft1,len1,good1,nn1,full1,lost1⟩:=key;rw[hs1];rcases Wj hB hw gok1 aA rl1 rfl aft1 aA with ⟨h1,h2,h3⟩|⟨h1,h2⟩
  refine⟨_,_,h2,gok1.upd rfl,h3,by simp; omega,good1,nn1,?_,fun _ _=>h1,lost1⟩;intro hz i hi;obtain⟨hz0,hg1⟩:=full1 hz;subst hg1;unfold upd;by_cases hik:i=k;subst hik;simp;simp only[if_neg hik];exact I.full hz0 i aA;refine⟨_,g1,h2,gok1,aft1,by dsimp only; omega,good1,by dsimp only; omega,fun h=>by dsimp only at h; omega,fun h=>by dsimp only at h; omega,fun _=>h1⟩
def gF (ws:List W):Nat→Option Int × Option Int:=fun i=>(some (ws.getD i default).l,some (ws.getD i default).m)
theorem book_told {rm : Int} {ws : List W} (hB : BOk rm ws) (hr : rm ≤ 4) (hw : ws.length ≤ 7) {ls : List Str} {r : Int} {gd : Bool} (h : (Z3 ws ws.length).foldl KP ((Yw ws ws.length).foldl KP ((QF rm.toNat).foldl KP told0)) = (ls, r, gd)) :
    gd=true∧QZ rm ws=decide (r=0)∧(∀ i,i<ws.length→((after ls).spn (Ki i)).2.2=0)∧(r=0→(after ls).ways=QA ws (gF ws) ws.length∧(after ls).ws=ws∧(after ls).rm=rm∧(after ls).rooms=Qy rm.toNat):=by
 obtain⟨s,g,hs,I⟩:=Sy hB hr hw ws.length (fY _);rw[h] at hs;subst hs;have hr2:=hB.r2;have hw0:r=0→(QH rm.toNat ws g ws.length).ws=ws:=fun hz=>wsG_full hB (I.full hz) _
 refine⟨I.good,?_,?_,?_⟩;by_cases hz:r=0;rw[decide_eq_true hz];by_cases hn : 0<ws.length;have:=I.can hz hn;rwa [hw0 hz] at this;have he:ws = []:=List.length_eq_zero_iff.1 aA;refine(V6 hB).2 ⟨[],?_⟩;subst he;exact⟨⟨rfl,fun i hi=>absurd hi (fG _),fun i hi=>absurd hi (fG _)⟩,fun _=>rfl⟩;rw[decide_eq_false hz];exact I.lost hz;intro i hi;have e:=I.aft;dsimp only at e;rw[e,U8 (show OG (QH rm.toNat ws g ws.length).ways (Ki i)=_ from mgetG aA hi)];intro hz;have e:=I.aft;dsimp only at e;rw[e];refine⟨?_,hw0 hz,?_,rfl⟩;show QA ws g ws.length=_;unfold QA;refine fE fun i hi=>?_
 have hi:=dR.1 hi;congr 1;unfold QW gF;rw[I.full hz i hi];show((Qy rm.toNat).length:Int)=rm;rw[Jr]; omega
end Go.Am
namespace Go.Am
section
variable {P:Program} {n:Nat} {ops:Array Oper} {ex:List Nat} {Q:KF→AHeap→Prop} {k:Nat} {os:List Oper} {K:KF} {h:AHeap} {d:Nat} {ty:TypeId} {pos:String} {after:Array Edge}
theorem wdQ_append (a b:Str):wdQ a ++ wdQ b=wdQ (a ++ b):=ba_ext (by rw[ByteArray.data_append,Array.toList_append,Xz,Xz,Xz])
theorem KOps.strAdd {t t':TypeId} {x y:Operand} {a b:ByteArray} [hx:EvK h.globs n K x (.str a)] [hy:EvK h.globs n K y (.str b)] (hs:a.size+b.size≤4294967296) (hk:KOps P n ops ex Q (k+1) os ((d,.str (a ++ b))::K) h):KOps P n ops ex Q k (⟨some d,.binOp .add t x y t',ty,pos,after,none⟩::os) K h:=
  O9 rfl (by simp only[apure,hx.eq,hy.eq,Zq,astr]; rw[if_pos aA]) hk
theorem QM {t t':TypeId} {x y:Operand} {a b:Str} [hx:EvK h.globs n K x (.str (wdQ a))] [hy:EvK h.globs n K y (.str (wdQ b))] (hs:a.length+b.length≤4294967296) (hk:KOps P n ops ex Q (k+1) os ((d,.str (wdQ (a ++ b)))::K) h):KOps P n ops ex Q k (⟨some d,.binOp .add t x y t',ty,pos,after,none⟩::os) K h:=
  KOps.strAdd (by rw[wd_size,wd_size]; exact hs) (by rw[wdQ_append]; exact hk)
end
theorem Tv {b:AV} (h:AddrOf b b 0 0):b.one=true:=by
 obtain⟨c,o,_,h2⟩:=h;rw[h2]; rfl
theorem JQ {h:AHeap} {x:Int} (h0 : 0≤x) (hi:x<16):ACalls Go.Proofs.Tryz.prog 24 [.int .i64 x] h (fun q h'=>q = .str (wdQ (Ki x.toNat))∧Keeps h h'):=by
 have e:x=((x.toNat:Nat):Int):=by omega
 rw[e];exact XP aA
theorem itoaZ_c {h:AHeap} {x:Int} (h0 : 0≤x) (hi:x<100):ACalls Go.Proofs.Tryz.prog 25 [.int .i64 x] h (fun q h'=>q = .str (wdQ (Go.Lib.decDigits x.toNat))∧h=h'):=by
 have e:x=((x.toNat:Nat):Int):=by omega
 rw[e];exact itoaS_c aA
theorem Ue {i:Nat} (h:i<100):(Go.Lib.decDigits i).length≤2:=by
 rw[dd_is h];unfold dd;split <;> simp
theorem St.toEnd {h0 h:AHeap} {a b c o:Obj} {B:List Obj} (st:St h0 h (o::(B ++ a::b::c :: []))):St h0 h (B ++ a::b::c :: [o]):=
  st.perm (by simpa using (fC o (B ++ [a,b,c])).symm)
theorem St.toFront {h0 h:AHeap} {a b c o:Obj} {B:List Obj} (st:St h0 h (B ++ a::b::c :: [o])):St h0 h (o::(B ++ a::b::c :: [])):=
  st.perm (by simpa using (fC o (B ++ [a,b,c])))
theorem St.dropC {h0 h:AHeap} {a b c o:Obj} {B:List Obj} (st:St h0 h (B ++ a::b::c :: [o])):St h0 h (B ++ a::b::c :: []):=St.tail st.toFront
theorem perm3 {a b c:Obj} {B:List Obj}:(c::b::a::(B ++ [])).Perm (B ++ a::b::c :: []):=by
 have h1:(c::b::a::(B ++ [])) = [a,b,c].reverse ++ B:=by simp
 rw[h1];exact((List.reverse_perm [a,b,c]).append_right B).trans dN
theorem waysT_len (ws:List W) (k:Nat):(Yw ws k).length=k:=by simp[Yw]
theorem Sx (ws:List W) (k:Nat):(Z3 ws k).length=2*k:=by
 induction k with
 | zero=>rfl
 | succ k ih=>rw[Y5,dW,ih]; simp; omega
noncomputable abbrev SR (rm:Int):List Str × Int × Bool:=(QF rm.toNat).foldl KP told0
noncomputable abbrev SW (rm:Int) (ws:List W) (k:Nat):List Str × Int × Bool:=(Yw ws k).foldl KP (SR rm)
noncomputable abbrev SB (rm:Int) (ws:List W) (k:Nat):List Str × Int × Bool:=(Z3 ws k).foldl KP (SW rm ws ws.length)
theorem SW_r {rm:Int} (ws:List W) (k:Nat) : 0≤(SW rm ws k).2.1∧(SW rm ws k).2.1≤rm.toNat+k:=by
 have h1 : 0≤(SR rm).2.1∧(SR rm).2.1≤rm.toNat:=rooms_r rm.toNat;have h2:(SR rm).2.1≤(SW rm ws k).2.1∧(SW rm ws k).2.1≤(SR rm).2.1+k:=by
  have h3:=RE (Yw ws k) (SR rm);rw[waysT_len] at h3;exact h3
 exact⟨by omega,by omega⟩
theorem SB_r {rm:Int} (ws:List W) (k:Nat) : 0≤(SB rm ws k).2.1∧(SB rm ws k).2.1≤rm.toNat+ws.length+2*k:=by
 have h1:=SW_r (rm:=rm) ws ws.length;have h2:(SW rm ws ws.length).2.1≤(SB rm ws k).2.1∧(SB rm ws k).2.1≤(SW rm ws ws.length).2.1+((2*k:Nat):Int):=by
  have h3:=RE (Z3 ws k) (SW rm ws ws.length);rw[Sx] at h3;exact h3
 exact⟨by omega,by omega⟩
theorem written_c {h:AHeap} {rm:Int} {vW:AV} {ws:List W} (hv:Rd h vW 4 (flr wc ws)) (hB:BOk rm ws) (hr4:rm≤4) (hw7:ws.length≤7) (hV:Vs h):ACalls Go.Proofs.Tryz.prog 23 [.agg [.int .i64 rm,vW]] h (fun q h'=>∃ b ls r g,SB rm ws ws.length=(ls,r,g)∧q = .tup [b,.int .i64 r,.bool g]∧Bk h h' b ls []):=by
 refine OI 83 [.tmp 2,.tmp 3,.tmp 4] Go.Proofs.Tryz.func23 rfl aE rfl rfl (dS rfl) ?_;have hS:=St.refl h;have hvo:vW.one=true:=hv.one;have hrm2:=hB.r2;show KA _ 83 _ _ [(0,.agg [.int .i64 rm,vW])] _;refine bZ ?_;intro p1 h' hp1 hS;refine Ov ?_;refine Ov ?_;refine Ov ?_;refine On [1] ?_;refine Oq ?_;have hP:=hS.rd 0 rfl;have hK1:=hS.keeps
 rename AHeap=>h1
 have hv1:=Rd.ext hK1 hv;have hV1:=hV.ext hK1;clear hS;have hS:=St.refl h1;refine Ol rfl (new_c) ?_;rintro vB h14 ⟨vl14,A14,hb14,hS14⟩;have hvB:vB.one=true:=Tv (St.rbk hS14 hb14).ad;clear hS;have hS:=hS14;clear hS14;refine O1 hS ?_;intro p5 h' hp5 hS;refine Kf hS rfl (i:=0) rfl hp5 aG ?_;intro h' hS;refine On [1,5] ?_;refine Oq ?_;refine O1 hS ?_;intro p6 h' hp6 hS;refine O1 hS ?_;intro p7 h' hp7 hS;refine Kf hS rfl (i:=1) rfl hp6 aG ?_;intro h' hS;refine Kf hS rfl (i:=0) rfl hp7 aG ?_;intro h' hS;refine b6 ?_;refine Oq ?_;refine Qp ?_;refine Ov ?_;refine On [1,5,6,7,8] ?_;refine bu ?_;refine Ob hp1 ?_;intro p16 hp16;refine Oe hp16 (Rd.ext hS.keeps hP) rfl ?_;refine Of ?_;refine On [1,5,6,7,8,17,18] ?_;refine Oz ?_;refine Kb (X:=Nat) (fun i=>[(1,p1),(5,p5),(6,p6),(7,p7),(8,.fn 51 [p5,p6,p7]),(17,.int .i64 rm),(18,.int .i64 ((i:Nat):Int))]) (fun i h'=>(i:Int)≤rm∧Bk h1 h' vB ((QF i).foldl KP told0).1 (cells3 p5 p6 p7 vB ((QF i).foldl KP told0).2.1 ((QF i).foldl KP told0).2.2 [])) (fun i=>rm.toNat - i) 0 ?_ ?_;exact⟨by omega,vl14,A14,hb14,hS.perm perm3⟩;rintro i h5 ⟨hi,vl,A,hb,hS⟩;refine bh ?_;refine Om ?_ ?_;intro c19;refine OC [1,5,6,7,8,17,18] ?_;refine ch ?_;refine Of ?_;refine Ov ?_;refine On [1,5,6,7,8,9,17,18] ?_;refine O3 rfl ?_;refine Of ?_;refine Of ?_;refine Ol rfl (XP (i:=i) aA) ?_;rintro _ hN ⟨rfl,hKN⟩;have hS0:St _ _ _:=St.trans hS (St.ofK hKN);clear hS;have hS:=hS0;clear hS0 hKN;simp only[dQ] at hS;refine QM aJ ?_;refine Ol (vs:=[.str (wdQ (Jq i)),.bool false]) (caps:=[p5,p6,p7]) rfl (YU (line:=Jq i) (bound:=false) (G:=[]) hp5 hp6 hp7 hb hS (hV1.ext hS.keeps) (by rw[roomL_len]; decide) (by have:=rooms_r i; omega)) ?_;rintro _ h25 ⟨vl25,A25,hb25,hS25⟩;clear hS hb;have hS:=hS25;have hb:=hb25;clear hS25 hb25;refine cU ?_;refine Ox [1,5,6,7,8,17,18] ?_;refine bf ?_;refine lpN (i+1) ⟨by omega,?_⟩ aA;rw[UK,Xy];exact⟨_,_,hb,hS⟩
 ·intro c19;refine bP ?_;refine Ox [1,5,6,7,8] ?_;refine bu ?_;refine Ob hp1 ?_;intro p27 hp27;refine Oe hp27 (Rd.ext hS.keeps hP) rfl ?_;refine Qi KC (Rd.ext hS.keeps hv1) ?_;refine Of ?_;refine On [1,5,6,7,8,28,29,30] ?_;refine Oz ?_;refine Kb (X:=Nat) (fun i=>[(1,p1),(5,p5),(6,p6),(7,p7),(8,.fn 51 [p5,p6,p7]),(28,vW),(29,.int .i64 (ws.length:Int)),(30,.int .i64 ((i:Nat):Int))]) (fun i h'=>i≤ws.length∧Bk h1 h' vB (SW rm ws i).1 (cells3 p5 p6 p7 vB (SW rm ws i).2.1 (SW rm ws i).2.2 [])) (fun i=>ws.length - i) 0 ?_ ?_;have e0:i=rm.toNat:=by omega
  subst e0;exact⟨fU _,vl,A,hb,hS⟩;rintro i h5 ⟨hi,vl,A,hb,hS⟩;refine bh ?_;refine Om ?_ ?_
  ·intro c31;refine OC [1,5,6,7,8,28,29,30] ?_;refine ch ?_;have hwk:=hB.way i aA;have f0:=hwk.f0;have f1:=hwk.f1;have t0:=hwk.t0;have t1:=hwk.t1;have l0:=hwk.l0;have lm:=hwk.lm;have m1:=hwk.m1;refine Of ?_;refine KZ KC (Rd.ext hS.keeps hv1) (j:=i) rfl aF ?_;intro p33 hp33;refine K3 KC aE hp33 (Rd.ext hS.keeps hv1) aF ?_;refine O1 hS ?_;intro p11 h' hp11 hS;refine Ov ?_;refine O7 hS rfl (i:=0) rfl hp11 aB aH aH aE ?_;intro h' hS;simp only[dO,dU,dP] at hS;refine On [1,5,6,7,8,10,11,28,29,30] ?_;refine OR [2,7,12] mixed rfl aC ?_;refine Of ?_;refine Of ?_;refine Ku (fun _ _ q=>q.2) (XP (i:=i) aA) ?_;rintro _ hN ⟨rfl,hKN⟩;have hS0:St _ _ _:=St.trans hS (St.ofK hKN);clear hS;have hS:=hS0;clear hS0 hKN;simp only[dQ] at hS;refine QM aJ ?_;refine QM aJ ?_;refine Ob hp11 ?_;intro p40 hp40;refine Oe hp40 (hS.rd 0 rfl) rfl ?_;refine Ku (fun _ _ q=>q.2) (JQ (x:=(ws.getD i default).f) aA aA) ?_;rintro _ hN ⟨rfl,hKN⟩;have hS0:St _ _ _:=St.trans hS (St.ofK hKN);clear hS;have hS:=hS0;clear hS0 hKN;simp only[dQ] at hS;refine QM aJ ?_;refine QM aJ ?_;refine Ob hp11 ?_;intro p45 hp45;refine Oe hp45 (hS.rd 0 rfl) rfl ?_;refine Ku (fun _ _ q=>q.2) (JQ (x:=(ws.getD i default).t) aA aA) ?_;rintro _ hN ⟨rfl,hKN⟩;have hS0:St _ _ _:=St.trans hS (St.ofK hKN);clear hS;have hS:=hS0;clear hS0 hKN;simp only[dQ] at hS;refine QM aJ ?_;refine Ol (vs:=[.str (wdQ (J5 (ws.getD i default) i)),.bool false]) (caps:=[p5,p6,p7]) rfl (YU (line:=J5 (ws.getD i default) i) (bound:=false) (G:=[⟨p11,0,wc (ws.getD i default),true⟩]) hp5 hp6 hp7 hb hS.toEnd (hV1.ext hS.keeps) (by rw[wayL_len]; decide) (by have:=SW_r (rm:=rm) ws i; omega)) ?_;rintro _ h49 ⟨vl49,A49,hb49,hS49⟩;clear hS hb;have hS:=hS49.dropC;have hb:=hb49;clear hS49 hb49;refine cU ?_;refine Ox [1,5,6,7,8,28,29,30] ?_;refine bf ?_;refine lpN (i+1) ⟨by omega,?_⟩ aA;unfold SW;rw[Rb,Xy];exact⟨_,_,hb,hS⟩
  ·intro c31;refine bP ?_;refine Ox [1,5,6,7,8] ?_;refine bu ?_;refine Ob hp1 ?_;intro p51 hp51;refine Oe hp51 (Rd.ext hS.keeps hP) rfl ?_;refine Qi KC (Rd.ext hS.keeps hv1) ?_;refine Of ?_;refine On [5,6,7,8,52,53,54] ?_;refine Oz ?_;refine Kb (X:=Nat) (fun i=>[(5,p5),(6,p6),(7,p7),(8,.fn 51 [p5,p6,p7]),(52,vW),(53,.int .i64 (ws.length:Int)),(54,.int .i64 ((i:Nat):Int))]) (fun i h'=>i≤ws.length∧Bk h1 h' vB (SB rm ws i).1 (cells3 p5 p6 p7 vB (SB rm ws i).2.1 (SB rm ws i).2.2 [])) (fun i=>ws.length - i) 0 ?_ ?_;have e0:i=ws.length:=by omega
   subst e0;exact⟨fU _,vl,A,hb,hS⟩;rintro i h5 ⟨hi,vl,A,hb,hS⟩;refine bh ?_;refine Om ?_ ?_
   ·intro c55;refine OC [5,6,7,8,52,53,54] ?_;refine ch ?_;have hwk:=hB.way i aA;have f0:=hwk.f0;have f1:=hwk.f1;have t0:=hwk.t0;have t1:=hwk.t1;have l0:=hwk.l0;have lm:=hwk.lm;have m1:=hwk.m1;refine Of ?_;refine KZ KC (Rd.ext hS.keeps hv1) (j:=i) rfl aF ?_;intro p57 hp57;refine K3 KC aE hp57 (Rd.ext hS.keeps hv1) aF ?_;refine O1 hS ?_;intro p13 h' hp13 hS;refine Ov ?_;refine O7 hS rfl (i:=0) rfl hp13 aB aH aH aE ?_;intro h' hS;simp only[dO,dU,dP] at hS;refine On [5,6,7,8,12,13,52,53,54] ?_;refine Ot ?_;refine OR [2,7] mixed rfl aC ?_;refine Of ?_;refine Of ?_;refine Ku (fun _ _ q=>q.2) (XP (i:=i) aA) ?_;rintro _ hN ⟨rfl,hKN⟩;have hS0:St _ _ _:=St.trans hS (St.ofK hKN);clear hS;have hS:=hS0;clear hS0 hKN;simp only[dQ] at hS;refine QM aJ ?_;refine QM aJ ?_;refine Ob hp13 ?_;intro p64 hp64;refine Oe hp64 (hS.rd 0 rfl) rfl ?_;refine Ku aZ (itoaZ_c (x:=(ws.getD i default).m) aA aA) ?_;rintro _ _ ⟨rfl,rfl⟩;refine QM (by have:=Ue (i:=((ws.getD i default).m).toNat) aA; simp only[Qv,dW,dZ,dV]; omega) ?_;refine Ol (vs:=[.str (wdQ (X3 (ws.getD i default) i)),.bool true]) (caps:=[p5,p6,p7]) rfl (YU (line:=X3 (ws.getD i default) i) (bound:=true) (G:=[⟨p13,0,wc (ws.getD i default),true⟩]) hp5 hp6 hp7 hb hS.toEnd (hV1.ext hS.keeps) (by unfold X3; have:=Ue (i:=(ws.getD i default).m.toNat) aA; unfold sMost; simp only[Qv,dW,dZ,dV]; omega) (by have:=SB_r (rm:=rm) ws i; omega)) ?_;rintro _ h68 ⟨vl68,A68,hb68,hS68⟩;clear hS hb;have hS:=hS68.toFront;have hb:=hb68;clear hS68 hb68;refine On [5,6,7,8,12,13,52,53,54] ?_;refine OR [2,7] mixed rfl aC ?_;refine Of ?_;refine Of ?_;refine Ku (fun _ _ q=>q.2) (XP (i:=i) aA) ?_;rintro _ hN ⟨rfl,hKN⟩;have hS0:St _ _ _:=St.trans hS (St.ofK hKN);clear hS;have hS:=hS0;clear hS0 hKN;simp only[dQ] at hS;refine QM aJ ?_;refine QM aJ ?_;refine Ob hp13 ?_;intro p74 hp74;refine Oe hp74 (hS.rd 0 rfl) rfl ?_;refine Ku aZ (itoaZ_c (x:=(ws.getD i default).l) aA aA) ?_;rintro _ _ ⟨rfl,rfl⟩;refine QM (by have:=Ue (i:=((ws.getD i default).l).toNat) aA; simp only[Qv,dW,dZ,dV]; omega) ?_;refine Ol (vs:=[.str (wdQ (Ve (ws.getD i default) i)),.bool true]) (caps:=[p5,p6,p7]) rfl (YU (line:=Ve (ws.getD i default) i) (bound:=true) (G:=[⟨p13,0,wc (ws.getD i default),true⟩]) hp5 hp6 hp7 hb hS.toEnd (hV1.ext hS.keeps) (by unfold Ve; have:=Ue (i:=(ws.getD i default).l.toNat) aA; unfold WV; simp only[Qv,dW,dZ,dV]; omega) (by have:=SB_r (rm:=rm) ws i; have:=tellS_r (SB rm ws i) (X3 (ws.getD i default) i,true); exact⟨by show 0≤(KP (SB rm ws i) (X3 (ws.getD i default) i,true)).2.1; omega,by show(KP (SB rm ws i) (X3 (ws.getD i default) i,true)).2.1≤_; omega⟩)) ?_;rintro _ h78 ⟨vl78,A78,hb78,hS78⟩;clear hS hb;have hS:=hS78.dropC;have hb:=hb78;clear hS78 hb78;refine cU ?_;refine Ox [5,6,7,8,52,53,54] ?_;refine bf ?_;refine lpN (i+1) ⟨by omega,?_⟩ aA;unfold SB;rw[Y5,List.foldl_append];exact⟨_,_,hb,hS⟩
   intro c55;refine bP ?_;refine Ox [5,6,7] ?_;refine bX ?_;have hSr:=hS.rot;clear hS;have hS:=hSr;clear hSr;simp only[cells3,List.cons_append,dQ] at hS;refine OH hS (i:=0) rfl hp5 ?_;refine OH hS (i:=1) rfl hp6 ?_;refine OH hS (i:=2) rfl hp7 ?_;refine Ov ?_;refine Ov ?_;refine Ov ?_;refine On [2,3,4] ?_;refine Kn ?_;refine fnQ.retN ?_;have e0:i=ws.length:=by omega
   subst e0;exact⟨vB,_,_,_,rfl,rfl,vl,A,hb,St.trans (St.ofK hK1) (St.drop (A:=[_,_,_]) hS)⟩
end Go.Am
namespace Go.Am
structure Told (rm:Int) (ws:List W) (ls:List Str):Prop where
  ok:BOk rm ws
  n7:ws.length≤7
  r4:rm≤4
  can:QZ rm ws=true
  ways:(after ls).ways=QA ws (gF ws) ws.length
  wsE:(after ls).ws=ws
  rmE:(after ls).rm=rm
  rooms:(after ls).rooms=Qy rm.toNat
theorem Told.agree {rm:Int} {ws:List W} {ls:List Str} (T:Told rm ws ls):KU rm ws=0:=by
 unfold KU;rw[if_pos T.ok.chkQ,if_pos T.can]
theorem Told.ask {rm:Int} {ws:List W} {ls:List Str} (T:Told rm ws ls) {i:Nat} (hi:i<ws.length):Zr rm ws i=0:=by
 unfold Zr;rw[if_pos T.ok.chkQ,if_pos aA,T.agree]
theorem Told.flow {rm:Int} {ws:List W} {ls:List Str} (T:Told rm ws ls):∃ n,Flow ws n:=(V6 T.ok).1 T.can
theorem Told.lane {rm:Int} {ws:List W} {ls:List Str} (T:Told rm ws ls) {i:Nat} (hi:i<ws.length):OG (after ls).ways (Ki i)=some (QW ws (gF ws) i):=by
 have h7:=T.n7;rw[T.ways];exact mgetG aA hi
theorem Told.lo {rm:Int} {ws:List W} {ls:List Str} (T:Told rm ws ls) {i:Nat} (hi:i<ws.length):(after ls).spLo i=Qd ws i:=by
 unfold Off.spLo;rw[T.wsE,T.rmE,if_pos (T.ask hi)]
theorem Told.hi {rm:Int} {ws:List W} {ls:List Str} (T:Told rm ws ls) {i:Nat} (hi:i<ws.length):(after ls).spHi i=K9 ws i:=by
 unfold Off.spHi;rw[T.wsE,T.rmE,if_pos (T.ask hi)]
theorem Told.spn {rm:Int} {ws:List W} {ls:List Str} (T:Told rm ws ls) {i:Nat} (hi:i<ws.length):(after ls).spn (Ki i)=(Qd ws i,K9 ws i,0):=by
 rw[U8 (T.lane hi)];show((after ls).spLo i,(after ls).spHi i,(0:Int))=_;rw[T.lo hi,T.hi hi]
theorem Told.le {rm:Int} {ws:List W} {ls:List Str} (T:Told rm ws ls) {i:Nat} (hi:i<ws.length):Qd ws i≤K9 ws i:=U2 T.flow hi
theorem lo_hi_99 {rm:Int} {ws:List W} (hB:BOk rm ws) (hF:∃ n,Flow ws n) {i:Nat} (hi:i<ws.length) : 0≤Qd ws i∧K9 ws i≤99:=by
 obtain⟨⟨n1,h1,e1⟩,_⟩:=Uk hF hi;obtain⟨⟨n2,h2,e2⟩,_⟩:=Uh hF hi;have q1:=h1.lo i hi;have q2:=h2.hi i hi;have w:=hB.way i hi;have w1:=w.l0;have w2:=w.m1;omega
def XC (a b:Int) (g:Bool):Int:=if g then b+1 else a - 1
theorem Told.whyE {rm:Int} {ws:List W} {ls:List Str} (T:Told rm ws ls) {i:Nat} (hi:i<ws.length) (g:Bool):(after ls).whyE (Ki i) (XC (Qd ws i) (K9 ws i) g)=0:=by
 have hle:=T.le hi;unfold Off.whyE;rw[T.lane hi];show(if (after ls).spLo i≤_∧_≤(after ls).spHi i then (13:Int) else 0)=0;rw[T.lo hi,T.hi hi,if_neg];unfold XC
 cases g <;> simp <;> omega
theorem Told.whyL {rm:Int} {ws:List W} {ls:List Str} (T:Told rm ws ls) {i:Nat} (hi:i<ws.length) (g:Bool):(after ls).whyL (Ki i) (XC (Qd ws i) (K9 ws i) g)=(Kp rm ws i g).map fun x=>Ki x.toNat:=by
 have hle:=T.le hi;have hr2:=T.ok.r2;have hr6:=T.ok.r6;unfold Off.whyL;rw[T.lane hi];show(if (after ls).spLo i≤_∧_≤(after ls).spHi i then [] else (after ls).rn (Kp (after ls).rm (after ls).ws (i:Int) (decide ((after ls).spHi i<_))))=_;rw[T.lo hi,T.hi hi,T.rmE,T.wsE,if_neg];have e:decide (K9 ws i<XC (Qd ws i) (K9 ws i) g)=g:=by
  unfold XC;cases g;simp; omega;simp; omega
 rw[e];unfold Off.rn;refine fE fun x hx=>?_
 have hx2:=Vv aA hr6 x hx;rw[T.rooms];exact roomsO_get aA;unfold XC
 cases g <;> simp <;> omega
noncomputable def Zo (ws:List W) (k:Nat):List Str:=((dX k).filter fun i=>decide (Qd ws i=K9 ws i)).map Ki
theorem WX (ws:List W) (k:Nat):Zo ws (k+1)=if Qd ws k=K9 ws k then Zo ws k ++ [Ki k] else Zo ws k:=by
 unfold Zo;rw[dT,List.filter_append,fF];by_cases h:Qd ws k=K9 ws k;rw[if_pos h,List.filter_cons_of_pos ay]; rfl;rw[if_neg h,List.filter_cons_of_neg ay]; simp
theorem Tc (ws:List W) (k:Nat):(Zo ws k).length≤k:=by
 unfold Zo;rw[fM];exact Nat.le_trans (List.length_filter_le _ _) (by rw[List.length_range]; exact fY _)
theorem Told.sure {rm:Int} {ws:List W} {ls:List Str} (T:Told rm ws ls):(after ls).sureL=Zo ws ws.length:=by
 unfold Off.sureL Zo;rw[T.ways];unfold QA;rw[List.filter_map,fD];congr 1;refine List.filter_congr fun i hi=>?_
 have hi:=dR.1 hi;show decide ((after ls).spLo i=(after ls).spHi i)=_;rw[T.lo hi,T.hi hi]
theorem Told.open_ {rm:Int} {ws:List W} {ls:List Str} (T:Told rm ws ls) {i:Nat} (hi:i<ws.length):decide ((i:Int)∈QE ws ws.length) = !decide (Qd ws i=K9 ws i):=by
 have hle:=T.le hi;rw[Bool.eq_iff_iff,decide_eq_true_eq,Bool.not_eq_true',decide_eq_false_iff_not];unfold QE;rw[fK];constructor;rintro⟨j,hj,he⟩;have e:j=i:=by omega
 subst e;have:=(fN.1 hj).2;simp only[decide_eq_true_eq] at this;omega;intro hne;exact⟨i,fN.2 ⟨dR.2 hi,by simp only[decide_eq_true_eq]; omega⟩,rfl⟩
end Go.Am
