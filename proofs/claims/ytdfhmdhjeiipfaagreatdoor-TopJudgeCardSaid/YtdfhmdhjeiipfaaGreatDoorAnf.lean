/-
  Tops: contracts: the number of fillings of a board.
  Conditions: none.
-/
import Derived.Test.YtdfhmdhjeiipfaaGreatDoorXUd
open Go.Builtin renaming delete_ → fB, len_ → fN
open Go.Instr renaming mapUpdate → fY, lookup → fM
open Go.MapKept renaming run_getObj_map → dQ, run_setObj_map → dV
open Go.Result renaming andThen_ok → dY
open Go.Sem renaming run_bind → dP, run_pure → dR
open List renaming nil_append → dU, set_cons_zero → dT, cons_append → dW, getElem?_eq_some_iff → dX, set_cons_succ → fA, map_cons → fE, getElem?_cons_zero → fD, getElem?_cons_succ → fF, getElem?_eraseIdx → fH, getElem?_toArray → fJ, length_eraseIdx → fK
open Nat renaming le_of_ble_eq_true → dO, one_shiftLeft → dS, zero_add → fI, pow_le_pow_right → fO, two_pow_pos → fU, zero_le → fC, lt_of_le_of_lt → fL, le_refl → fP
open Option renaming map_some → dZ, map_eq_some_iff → fG, getD_some → fQ
set_option maxRecDepth 99999
set_option maxHeartbeats 4000000
namespace Go.Am
set_option maxRecDepth 2000
def CntC (s : Sht) (x : Nat) : Prop := ∀ {h0 h : AHeap} {vm : AV} {L : List (Int × Nat)} {G : List Obj}, Zr vm → OkL s.n s.cntS L → St h0 h (mapO vm (entL (AV.int .u64) ctA L) :: G) →
  ACalls Go.Proofs.Tryz.prog 231 [.agg (tbL s),.int .u64 (x:Int),.agg [vm]] h (fun q h'=>∃ L',OkL s.n s.cntS L'∧q=ctA (s.cntS x)∧St h0 h' (mapO vm (entL (AV.int .u64) ctA L')::G))
def Sht.ctI (s : Sht) (b : Nat) : Nat → Nat
  | 0=>0
  | 1=>s.ct1 b false
  | _=>s.cntS b
theorem Sht.ct1_le (s:Sht) (b:Nat) (t:Bool):s.ct1 b t≤2 ^ 40:=by
 unfold Sht.ct1
 cases s.put b t (s.fz b) with
 | none=>exact fC _
 | some x=>exact s.cntS_le x
theorem Sht.ctI_le (s:Sht) (b i:Nat):s.ctI b i≤2 ^ 40:=by
 rcases i with _|_|i
 exact fC _;exact s.ct1_le b false;exact s.cntS_le b
theorem Sht.ct1_some {s:Sht} {b x:Nat} {t:Bool} (h:s.put b t (s.fz b)=some x):s.ct1 b t=s.cntS x:=by unfold Sht.ct1; rw[h]; rfl
theorem Sht.ct1_none {s:Sht} {b:Nat} {t:Bool} (h:s.put b t (s.fz b)=none):s.ct1 b t=0:=by unfold Sht.ct1; rw[h]; rfl
section
variable {s:Sht} {b:Nat} (hs:s.Ok) (hb:b<2 ^ s.n) (hf:b≠s.full)
include hs hb hf
theorem Sht.ctI_step {i x:Nat} (hi:i<2) (hl:i=1→s.l≠s.w) (hx:s.put b (decide (i=1)) (s.fz b)=some x):s.ctI b (i+1)=s.ctI b i+s.cntS x:=by
 rcases(show i=0∨i=1 by omega) with rfl|rfl
 show s.ct1 b false=0+s.cntS x;rw[fI]; exact Sht.ct1_some hx;show s.cntS b=s.ct1 b false+_;rw[Sht.cntS_step hs hb hf,if_neg (hl rfl),Sht.ct1_some (t:=true) hx]
theorem Sht.ctI_skip {i:Nat} (hi:i<2) (hl:i=1→s.l≠s.w) (hx:s.put b (decide (i=1)) (s.fz b)=none):s.ctI b (i+1)=s.ctI b i:=by
 rcases(show i=0∨i=1 by omega) with rfl|rfl
 exact Sht.ct1_none hx;show s.cntS b=s.ct1 b false;rw[Sht.cntS_step hs hb hf,if_neg (hl rfl),Sht.ct1_none (t:=true) hx,Nat.add_zero]
theorem Sht.ctI_end (hl:s.l=s.w):s.ctI b 2=s.ctI b 1:=by
 show s.cntS b=s.ct1 b false;rw[Sht.cntS_step hs hb hf,if_pos hl,Nat.add_zero]
end
def ctI (s:Sht) (b:Nat) (p0 p2 p4 vm:AV) (i:Nat) (F:List Obj):Prop:=∃ L,OkL s.n s.cntS L∧F = [⟨p4,0,[ctA (s.ctI b i)],true⟩,⟨p0,0,tbL s,true⟩,⟨p2,0,[vm],true⟩,mapO vm (entL (AV.int .u64) ctA L)]
theorem cnt1_c {h0 h:AHeap} {s:Sht} {x row col:Nat} {t:Bool} {p0 p2 p4 vm:AV} {o:Nat} {L:List (Int × Nat)} {G:List Obj} (hIH:CntC s x) (hp0:AddrOf p0 p0 0 0) (hp2:AddrOf p2 p2 0 0) (hp4:AddrOf p4 p4 0 0) (hvm:Zr vm) (hL:OkL s.n s.cntS L) (ho:o≤2 ^ 40) (hS:St h0 h (⟨p4,0,[ctA (o)],true⟩::⟨p0,0,tbL s,true⟩::⟨p2,0,[vm],true⟩::mapO vm (entL (AV.int .u64) ctA L)::G)):ACalls Go.Proofs.Tryz.prog 249 [.agg (cdL row col t),.int .u64 (x:Int),p4,p0,p2] h (fun q h'=>q = .bool true∧∃ L',OkL s.n s.cntS L'∧St h0 h' (⟨p4,0,[ctA (o+s.cntS x)],true⟩::⟨p0,0,tbL s,true⟩::⟨p2,0,[vm],true⟩::mapO vm (entL (AV.int .u64) ctA L')::G)):=by
 refine OK 14 [.tmp 7] Go.Proofs.Tryz.func249 rfl aE rfl rfl (dO rfl) ?_;have hle:=s.cntS_le x;have hvo:vm.one=true:=by obtain⟨b,rfl⟩:=hvm; rfl
 show KA _ 14 _ _ [(0,.agg (cdL row col t)),(1,.int .u64 (x:Int)),(2,p4),(3,p0),(4,p2)] _;refine be ?_;intro p5 h' hp5 hS;refine Oa [1,2,3,4] ?_;refine Ou ?_;refine KA.drawS (c:=4) (r:=0) (t:=3) (a:=2) (d:=8) [] mixed rfl rfl rfl aB rfl rfl rfl aE aE aB ?_;refine OJ hS (i:=1) rfl hp4 ?_;refine OR hS (i:=2) rfl hp0 aI aE ?_;refine Oe ?_;refine OR hS (i:=3) rfl hp2 aI aE ?_;refine Oo rfl (hIH hvm hL (St.pickF (A:=[_,_,_,_,_]) (A':=[_,_,_,_,_]) 5 [4,0,1,2,3] rfl aE aE rfl hS)) ?_;rintro _ h9 ⟨L2,hL2,rfl,hS9⟩;have hS0:=(St.pickF (A:=[_,_,_,_,_]) (A':=[_,_,_,_,_]) 5 [1,2,3,4,0] rfl aE aE rfl hS9);clear hS;have hS:=hS0;clear hS0;simp only[dW,dU] at hS;refine KOps.doneS rfl rfl hp4 (hS.rd 1 rfl) rfl ?_;refine Kx aF aF ?_;refine Kp hS rfl (i:=1) rfl hp4 aG ?_;intro h' hS;refine Oj [] ?_;refine bX ?_;refine Od ?_;refine Oi ?_;refine⟨rfl,L2,hL2,St.cells (congrArg (fun z=>[AV.int .i64 z]) (Int.natCast_add ..).symm) (St.drop (A:=[_]) hS)⟩
theorem cnt2_c {h0 h:AHeap} {s:Sht} {b:Nat} {p0 p1 p2 vm:AV} {L:List (Int × Nat)} {G:List Obj} (hs:s.Ok) (hb:b<2 ^ s.n) (hf:b≠s.full) (hIH:∀ t x,s.put b t (s.fz b)=some x→CntC s x) (hp0:AddrOf p0 p0 0 0) (hp1:AddrOf p1 p1 0 0) (hp2:AddrOf p2 p2 0 0) (hvm:Zr vm) (hL:OkL s.n s.cntS L) (hS:St h0 h (⟨p0,0,tbL s,true⟩::⟨p1,0,[.int .u64 (b:Int)],true⟩::⟨p2,0,[vm],true⟩::mapO vm (entL (AV.int .u64) ctA L)::G)):ACalls Go.Proofs.Tryz.prog 247 [p0,p1,p2] h (fun q h'=>∃ L',OkL s.n s.cntS L'∧q=ctA (s.cntS b)∧St h0 h' (⟨p0,0,tbL s,true⟩::⟨p1,0,[.int .u64 (b:Int)],true⟩::⟨p2,0,[vm],true⟩::mapO vm (entL (AV.int .u64) ctA L')::G)):=by
 refine OK 10 [.tmp 3] Go.Proofs.Tryz.func247 rfl aE rfl rfl (dO rfl) ?_;have hvo:vm.one=true:=by obtain⟨b,rfl⟩:=hvm; rfl
 show KA _ 10 _ _ [(0,p0),(1,p1),(2,p2)] _;refine Oa [0,1,2] ?_;refine Ot ?_;refine O6 hS ?_;intro p4 h' hp4 hS;refine Kp hS rfl (i:=0) rfl hp4 aG ?_;intro h' hS;refine bl ?_;refine Ot ?_;refine OR hS (i:=1) rfl hp0 aI aE ?_;refine OJ hS (i:=2) rfl hp1 ?_;refine Qb ?_
 refine Oo rfl (next_c (fa := 249) (caps := [p4, p0, p2]) (Inv := ctI s b p0 p2 p4 vm) (F := [_, _, _, _]) hs hb (Sht.fz_lt hb hf)
     (fun i hi hl x hx {h0 h F G}=>by
       rintro⟨L,hL,rfl⟩ hS;refine ACalls.mono (cnt1_c (hIH _ _ hx) hp0 hp2 hp4 hvm hL (s.ctI_le b i) hS) ?_;rintro q h' ⟨rfl,L',hL',hS'⟩;exact⟨true,_,rfl,hS',fun _=>⟨L',hL',by rw[Sht.ctI_step hs hb hf hi hl hx]⟩,fun e=>by cases e⟩)
     (fun i hi hl hx F=>by
       rintro⟨L,hL,rfl⟩;exact⟨L,hL,by rw[Sht.ctI_skip hs hb hf hi hl hx]⟩)
     (fun hl F=>by
       rintro⟨L,hL,rfl⟩;exact⟨L,hL,by rw[Sht.ctI_end hs hb hf hl]⟩) ⟨L,hL,rfl⟩ (St.pickF (A:=[_,_,_,_,_]) (A':=[_,_,_,_,_]) 5 [0,1,3,4,2] rfl aE aE rfl hS)) ?_
 rintro _ h9 ⟨rfl,F9,⟨L2,hL2,rfl⟩,hS9⟩;have hS0:=(St.pickF (A:=[_,_,_,_,_]) (A':=[_,_,_,_,_]) 5 [0,1,4,2,3] rfl aE aE rfl hS9);clear hS;have hS:=hS0;clear hS0;simp only[dW,dU] at hS;refine Oj [4] ?_;refine Ot ?_;refine OJ hS (i:=0) rfl hp4 ?_;refine Oa [3] ?_;refine Oi ?_;exact⟨L2,hL2,rfl,St.drop (A:=[_]) hS⟩
theorem cntAsk_c {h0 h:AHeap} {s:Sht} {b:Nat} {p0 p1 p2 vm:AV} {L:List (Int × Nat)} {G:List Obj} (hs:s.Ok) (hb:b<2 ^ s.n) (hf:b≠s.full) (hIH:∀ t x,s.put b t (s.fz b)=some x→CntC s x) (hp0:AddrOf p0 p0 0 0) (hp1:AddrOf p1 p1 0 0) (hp2:AddrOf p2 p2 0 0) (hvm:Zr vm) (hL:OkL s.n s.cntS L) (hS:St h0 h (⟨p0,0,tbL s,true⟩::⟨p1,0,[.int .u64 (b:Int)],true⟩::⟨p2,0,[vm],true⟩::mapO vm (entL (AV.int .u64) ctA L)::G)):ACalls Go.Proofs.Tryz.prog 246 [.agg [vm],.int .u64 (b:Int),.fn 247 [p0,p1,p2]] h (fun q h'=>∃ L',OkL s.n s.cntS L'∧q=ctA (s.cntS b)∧St h0 h' (⟨p0,0,tbL s,true⟩::⟨p1,0,[.int .u64 (b:Int)],true⟩::⟨p2,0,[vm],true⟩::mapO vm (entL (AV.int .u64) ctA L')::G)):=by
 refine OK 26 [.tmp 6] Go.Proofs.Tryz.func246 rfl aE rfl rfl (dO rfl) ?_;have hvo:vm.one=true:=by obtain⟨b,rfl⟩:=hvm; rfl
 show KA _ 26 _ _ [(0,.agg [vm]),(1,.int .u64 (b:Int)),(2,.fn 247 [p0,p1,p2])] _;refine be ?_;intro p3 h' hp3 hS;refine Oa [1,2,3] ?_;refine bt ?_;refine Ob hp3 ?_;intro p11 hp11;refine Of hp11 (hS.rd 0 rfl) rfl ?_;refine Oe ?_;refine KOps.lookupD2 (kf:=AV.int .u64) (vf:=ctA) (w:=0) EvK.eq (St.rdM hS 4 rfl hvm) rfl rfl ?_;refine Oa [1,2,3,7,8] ?_;refine Oa [1,2,3,7,17] ?_;refine Kz ?_ ?_;intro c17;refine Oa [6] ?_;refine Oi ?_;obtain⟨v,hv⟩:=Option.isSome_iff_exists.1 c17;rw[hv];exact⟨L,hL,by rw[fQ,hL b v hb hv],St.drop (A:=[_]) hS⟩;intro c17;refine OD [1,2,3] ?_;refine Oc ?_;refine Oo rfl (cnt2_c hs hb hf hIH hp0 hp1 hp2 hvm hL (St.pickF (A:=[_,_,_,_,_]) (A':=[_,_,_,_,_]) 5 [1,2,3,4,0] rfl aE aE rfl hS)) ?_;rintro _ h9 ⟨L2,hL2,rfl,hS9⟩;have hS0:=(St.pickF (A:=[_,_,_,_,_]) (A':=[_,_,_,_,_]) 5 [4,0,1,2,3] rfl aE aE rfl hS9);clear hS;have hS:=hS0;clear hS0;simp only[dW,dU] at hS;refine Oa [1,3,9] ?_;refine Ot ?_;refine Ob hp3 ?_;intro p21 hp21;refine Of hp21 (hS.rd 0 rfl) rfl ?_;refine Oc ?_;refine KOps.mapPutK (kf:=AV.int .u64) (vf:=ctA) (i:=4) (b:=s.cntS b) EvK.eq rfl hS hvm rfl rfl ?_;intro h' hS;simp only[dT,fA,fI] at hS;refine Oj [9] ?_;refine Oa [6] ?_;refine Oi ?_;exact⟨_,hL2.put b,rfl,St.drop (A:=[_]) hS⟩
theorem cntN_c {h0 h:AHeap} {s:Sht} {b:Nat} {vm:AV} {L:List (Int × Nat)} {G:List Obj} (hs:s.Ok) (hb:b<2 ^ s.n) (hIH:∀ t x,s.fz b<s.n→s.put b t (s.fz b)=some x→CntC s x) (hvm:Zr vm) (hL:OkL s.n s.cntS L) (hS:St h0 h (mapO vm (entL (AV.int .u64) ctA L)::G)):ACalls Go.Proofs.Tryz.prog 231 [.agg (tbL s),.int .u64 (b:Int),.agg [vm]] h (fun q h'=>∃ L',OkL s.n s.cntS L'∧q=ctA (s.cntS b)∧St h0 h' (mapO vm (entL (AV.int .u64) ctA L')::G)):=by
 refine OK 15 [.tmp 6] Go.Proofs.Tryz.func231 rfl aE rfl rfl (dO rfl) ?_;have hvo:vm.one=true:=by obtain⟨b,rfl⟩:=hvm; rfl
 show KA _ 15 _ _ [(0,.agg (tbL s)),(1,.int .u64 (b:Int)),(2,.agg [vm])] _;refine be ?_;intro p3 h' hp3 hS;refine KOps.box hS (l:=[_]) rfl ?_;intro p4 h' hp4 hS;refine OH hS aD ?_;intro p5 h' hp5 hS;refine Oa [3,4,5] ?_;refine bt ?_;refine OJ hS (i:=1) rfl hp4 ?_;refine Ob hp3 ?_;intro p8 hp8;refine Of hp8 (hS.rd 2 rfl) rfl ?_;refine Oa [3,4,5,10] ?_;refine On ?_ ?_;intro c10;have hbf:b=s.full:=by omega
 subst hbf;refine Oa [6] ?_;refine Oi ?_;exact⟨L,hL,by rw[Sht.cntS_full]; rfl,St.drop (A:=[_,_,_]) hS⟩;intro c10;have hf:b≠s.full:=fun e=>c10 (by rw[e])
 refine OD [3,4,5] ?_;refine Ot ?_;refine OR hS (i:=0) rfl hp5 aI aE ?_;refine OJ hS (i:=1) rfl hp4 ?_;refine Qb ?_;refine Oo rfl (cntAsk_c hs hb hf (fun t x hx=>hIH t x (Sht.fz_lt hb hf) hx) hp3 hp4 hp5 hvm hL (St.pickF (A:=[_,_,_,_]) (A':=[_,_,_,_]) 4 [2,1,0,3] rfl aE aE rfl hS)) ?_;rintro _ h9 ⟨L2,hL2,rfl,hS9⟩;have hS0:=(St.pickF (A:=[_,_,_,_]) (A':=[_,_,_,_]) 4 [2,1,0,3] rfl aE aE rfl hS9);clear hS;have hS:=hS0;clear hS0;simp only[dW,dU] at hS;refine Oa [6] ?_;refine Oi ?_;exact⟨L2,hL2,rfl,St.drop (A:=[_,_,_]) hS⟩
theorem cnt_c {s:Sht} (hs:s.Ok):∀ (d b:Nat),b<2 ^ s.n→s.n - s.fz b=d→CntC s b:=by
 intro d
 induction d using Nat.strongRecOn with
 | _ d ih=>
  intro b hb hd h0 h vm L G hvm hL hS;refine cntN_c hs hb (fun t x hlt hx=>?_) hvm hL hS;obtain⟨h1,h2⟩:=Sht.put_fz hs hb hlt hx;exact ih (s.n - s.fz x) aA x h1 rfl
end Go.Am
namespace Go.Am
theorem blk_shl {w c i:Nat} (hw:w≤6) (hc:c≤6) (hi:i<6):XT w c i <<< c<Qx .u64:=by
 rw[Nat.shiftLeft_eq];have h1:=Ry w c i;have h2:(i - 1)*c≤5*6:=Nat.mul_le_mul aA hc;have h3 : 2 ^ ((i - 1)*c+w)≤2 ^ 36:=fO aE aA;have h4 : 2 ^ c≤2 ^ 6:=fO aE hc
 calc XT w c i * 2 ^ c ≤ 2 ^ 36 * 2 ^ 6 := Nat.mul_le_mul aA h4
   _<Qx .u64:=by decide
theorem Vx {w:Nat} (hw:w≤36) : 1 <<< w<Qx .u64:=by
 rw[dS];have h4 : 2 ^ w≤2 ^ 36:=fO aE hw;exact fL h4 aE
theorem pow_ones' {w:Nat} (hw:w≤36) : 2 ^ w - 1<Qx .u64:=by
 have:=Vx hw;rw[dS] at this;have:=fU w;omega
theorem cutCheck_c {h:AHeap} {s:Sht} (hs:s.Ok):ACalls Go.Proofs.Tryz.prog 229 [.agg (shL s)] h (fun q h'=>q = .int .i64 0∧Keeps h h'):=by
 refine OK 29 [.tmp 2] Go.Proofs.Tryz.func229 rfl aE rfl rfl (dO rfl) ?_;have hS:=St.refl h;have hsr:=hs.r;have hsc:=hs.c;have hsl:=hs.l;have hsw:=hs.w;show KA _ 29 _ _ [(0,.agg (shL s))] _;refine be ?_;intro p1 h' hp1 hS;refine Oa [1] ?_;refine Ou ?_;refine bZ ?_;refine Ob hp1 ?_;intro p5 hp5;refine Of hp5 (hS.rd 0 rfl) rfl ?_;refine Ob hp1 ?_;intro p7 hp7;refine Of hp7 (hS.rd 0 rfl) rfl ?_;refine Ob hp1 ?_;intro p9 hp9;refine dF ?_;refine Ob hp1 ?_;intro p11 hp11;refine Of hp11 (hS.rd 0 rfl) rfl ?_;refine KOps.min4 ?_;refine Ob hp1 ?_;intro p14 hp14;refine Of hp14 (hS.rd 0 rfl) rfl ?_;refine Ob hp1 ?_;intro p16 hp16;refine Of hp16 (hS.rd 0 rfl) rfl ?_;refine Ob hp1 ?_;intro p18 hp18;refine Of hp18 (hS.rd 0 rfl) rfl ?_;refine Ob hp1 ?_;intro p20 hp20;refine Of hp20 (hS.rd 0 rfl) rfl ?_;refine KOps.max4 ?_;refine Oa [3,4] ?_;refine Oc ?_;refine Ov (dj:=25) rfl rfl false true rfl ?_ ?_;intro g25;have g25:=of_decide_eq_false g25;refine Oa [28] ?_;refine On ?_ ?_;intro c28;exfalso;omega;intro c28;refine OD [] ?_;refine bX ?_;refine Od ?_;refine Oi ?_;exact⟨rfl,hS.keeps⟩;intro g25;have g25:=of_decide_eq_true g25;exfalso;omega
theorem block_c {h:AHeap} {hh w c:Nat} (hhh:hh≤6) (hw:w≤6) (hc:c≤6):ACalls Go.Proofs.Tryz.prog 230 [.int .i64 (hh:Int),.int .i64 (w:Int),.int .i64 (c:Int)] h (fun q h'=>q = .int .u64 (XT w c hh:Int)∧h=h'):=by
 refine OK 22 [.tmp 6] Go.Proofs.Tryz.func230 rfl aE rfl rfl (dO rfl) ?_;show KA _ 22 _ _ [(0,.int .i64 (hh:Int)),(1,.int .i64 (w:Int)),(2,.int .i64 (c:Int))] _;refine O0 [0,1,2] ?_;refine cV ?_;refine ZO (1) (w) rfl rfl (by show w≤64; omega) (Vx aA) ?_;refine KOps.subN (1 <<< w) (1) rfl rfl (by rw[dS]; exact fU w) (Vx aA) ?_;rw[dS];refine O0 [0,2,7,8] ?_;refine O0 [2,7,8,12,13] ?_;refine Oz ?_;refine Kd (X:=Nat) (fun i=>[(2,.int .i64 (c:Int)),(7,.int .u64 (XT w c i:Int)),(8,.int .u64 ((2 ^ w - 1:Nat):Int)),(12,.int .i64 (hh:Int)),(13,.int .i64 (i:Int))]) (fun i h'=>i≤hh∧h=h') (fun i=>hh - i) 0 ?_ ?_;exact⟨fC _,rfl⟩;rintro i h2 ⟨hi,rfl⟩;refine cH ?_;refine On ?_ ?_;intro c14;refine OD [2,7,8,12,13] ?_;refine bj ?_;refine OI ?_;refine ZO (XT w c i) (c) rfl rfl (by show c≤64; omega) (blk_shl hw hc aA) ?_;refine Oe ?_;refine KOps.orN (XT w c i <<< c) (2 ^ w - 1) rfl rfl (blk_shl hw hc aA) (pow_ones' aA) ?_;refine Oq ?_;refine bu ?_;refine Ow [2,7,8,12,13] ?_;refine bv ?_;exact lpN (i+1) ⟨by omega,rfl⟩ aA;intro c14;refine bS ?_;refine Ow [7] ?_;refine O0 [6] ?_;refine Oi ?_;obtain rfl:i=hh:=by omega
 exact⟨rfl,rfl⟩
theorem opened_c13 {h:AHeap} {s:Sht} (hs:s.Ok):ACalls Go.Proofs.Tryz.prog 214 [.agg (shL s)] h (fun q h'=>q = .tup [.agg (tbL s),.int .i64 0]∧Keeps h h'):=by
 refine KA.fnH 35 [.cell 2 306,.tmp 3] Go.Proofs.Tryz.func214 rfl aE rfl rfl (dO rfl) ?_;have hS:=St.refl h;have hsr:=hs.r;have hsc:=hs.c;have hsl:=hs.l;have hsw:=hs.w;have hsn:=hs.n;show KA _ 35 _ _ [(0,.agg (shL s))] _;refine be ?_;intro p1 h' hp1 hS;refine O6 hS ?_;intro p2 h' hp2 hS;refine O0 [1,2] ?_;refine bt ?_;refine OR hS (i:=1) rfl hp1 aI aE ?_;refine Oo rfl (cutCheck_c hs) ?_;rintro _ hx ⟨rfl,hK⟩;replace hS:St _ _ _:=St.trans hS (St.ofK hK);simp only[dU] at hS;refine O0 [1,2,4] ?_;refine OI ?_;refine KOps.neq ?_;refine Oj [1,2,4,8] ?_;refine Kk ?_ ?_;intro c8;exact absurd rfl c8
 ·intro c8;refine OD [1,2] ?_;refine Ou ?_;refine OQ [7,14] mixed rfl aB ?_;refine OR hS (i:=1) rfl hp1 aI aE ?_;refine Ob hp1 ?_;intro p12 hp12;refine Of hp12 (hS.rd 1 rfl) rfl ?_;refine Ob hp1 ?_;intro p14 hp14;refine Of hp14 (hS.rd 1 rfl) rfl ?_;refine Ob hp1 ?_;intro p16 hp16;refine Of hp16 (hS.rd 1 rfl) rfl ?_;refine Kl aP (block_c aA aA aA) ?_;rintro _ _ ⟨rfl,rfl⟩;refine Ob hp1 ?_;intro p19 hp19;refine Of hp19 (hS.rd 1 rfl) rfl ?_;refine Ob hp1 ?_;intro p21 hp21;refine Of hp21 (hS.rd 1 rfl) rfl ?_;refine Ob hp1 ?_;intro p23 hp23;refine Of hp23 (hS.rd 1 rfl) rfl ?_;refine Kl aP (block_c aA aA aA) ?_;rintro _ _ ⟨rfl,rfl⟩;refine OP (zs:=[.int .u64 0,.int .u64 0]) (cs:=[_,_]) aB aI aB (.cons (off:=0) (s:=1) aB (AV.cells_one aG) rfl aE (.cons (off:=1) (s:=1) aB (AV.cells_one aG) rfl aE .nil)) aI ?_;refine Ob hp1 ?_;intro p27 hp27;refine Of hp27 (hS.rd 1 rfl) rfl ?_;refine Ob hp1 ?_;intro p29 hp29;refine Of hp29 (hS.rd 1 rfl) rfl ?_;refine KOps.mulN (s.r) (s.c) rfl rfl (fL hsn.2 aE) ?_;refine ZO (1) (s.n) rfl rfl (by show s.n≤64; omega) (Vx aA) ?_;refine KOps.subN (1 <<< s.n) (1) rfl rfl (by rw[dS]; exact fU _) (Vx aA) ?_;rw[dS];refine OP (zs:=[.int .i64 0,.int .i64 0,.int .i64 0,.int .i64 0,.int .u64 0,.int .u64 0,.int .u64 0]) (cs:=[_,_,_,_,_,_,_]) aB aI aB (.cons (off:=0) (s:=4) aB (VL (by first|rfl|(simp[AV.one]; done)|(simp[AV.one, *]; done))) rfl aE (.cons (off:=4) (s:=2) aB (VL (by first|rfl|(simp[AV.one]; done)|(simp[AV.one, *]; done))) rfl aE (.cons (off:=6) (s:=1) aB (AV.cells_one aG) rfl aE .nil))) aI ?_;refine O8 hS rfl (i:=0) rfl hp2 aD aI aI aE ?_;intro h' hS;simp only[dT,fA,fI] at hS;refine O0 [2,3] ?_;refine Ke ?_;refine fnC.retC1 hS (i:=0) rfl hp2 aI aK ?_;exact⟨rfl,hS.keeps⟩
theorem ways_c13 {h:AHeap} {s:Sht} (hs:s.Ok):ACalls Go.Proofs.Tryz.prog 215 [.agg (tbL s)] h (fun q h'=>q=ctA (s.cntS 0)∧Keeps h h'):=by
 refine OK 7 [.tmp 2] Go.Proofs.Tryz.func215 rfl aE rfl rfl (dO rfl) ?_;have hS:=St.refl h;show KA _ 7 _ _ [(0,.agg (tbL s))] _;refine be ?_;intro p1 h' hp1 hS;refine dN ?_;refine KOps.makeMap hS rfl ?_;intro v4 h' hv4 hS;have hv4o:v4.one=true:=by obtain⟨_,rfl⟩:=hv4; rfl
 refine OP (zs:=[.nilm]) (cs:=[_]) aB aI aB (.cons (off:=0) (s:=1) aB (AV.cells_one aG) rfl aE .nil) aI ?_;refine Oo rfl (cnt_c hs _ 0 (fU _) rfl hv4 OkL.nil hS) ?_;rintro _ h9 ⟨L2,hL2,rfl,hS9⟩;have hS0:=hS9;clear hS;have hS:=hS0;clear hS0;refine bY ?_;exact⟨rfl,hS.keeps⟩
theorem cutCount_c {h:AHeap} {s:Sht} (hs:s.Ok):ACalls Go.Proofs.Tryz.prog 187 [.agg (shL s)] h (fun q h'=>q = .tup [ctA (s.cntS 0),.int .i64 0]∧Keeps h h'):=by
 refine OK 16 [.tmp 2,.tmp 3] Go.Proofs.Tryz.func187 rfl aE rfl rfl (dO rfl) ?_;have hS:=St.refl h;show KA _ 16 _ _ [(0,.agg (shL s))] _;refine be ?_;intro p1 h' hp1 hS;refine dN ?_;refine Oo rfl (opened_c13 hs) ?_;rintro _ hx ⟨rfl,hK⟩;replace hS:St _ _ _:=St.trans hS (St.ofK hK);simp only[dU] at hS;refine Oc ?_;refine O6 hS ?_;intro p4 h' hp4 hS;refine O8 hS rfl (i:=0) rfl hp4 aD aI aI aE ?_;intro h' hS;simp only[dT,fA,fI] at hS;refine Oa [4,5] ?_;refine Oa [4,5,12] ?_;refine Kk ?_ ?_;intro c12;exact absurd rfl c12;intro c12;refine OD [4] ?_;refine Ot ?_;refine OR hS (i:=0) rfl hp4 aI aE ?_;refine Oo rfl (ways_c13 hs) ?_;rintro _ hx ⟨rfl,hK⟩;replace hS:St _ _ _:=St.trans hS (St.ofK hK);simp only[dU] at hS;refine cA ?_;exact⟨rfl,hS.keeps⟩
end Go.Am
namespace Go.Am
theorem lex_exists {ws:List W} (h:∃ n,Flow ws n):∃ n,LexMin ws n:=by
 have key:∀ j,j≤ws.length→∃ n,MinTo ws n j:=by
  intro j
  induction j with
  | zero=>intro _; obtain⟨n,hn⟩:=h; exact⟨n,hn,fun _ _ i hi=>by omega⟩
  | succ j ih=>
   intro hj;obtain⟨n,hn⟩:=ih aA;obtain⟨m,⟨hm1,hm2⟩,hm3⟩:=Jp (P:=fun m=>Flow ws m∧∀ k,k<j→m.getD k 0=n.getD k 0) (fun m=>(m.getD j 0 - (ws.getD j default).l).toNat) ⟨n,hn.1,fun _ _=>rfl⟩;refine⟨m,hn.step hm1 hm2 ?_⟩;intro n' hn' hk;have h1:=hm3 n' ⟨hn',fun k hk'=>by rw[hk k hk',hm2 k hk']⟩;have h2:=hm1.lo j aA;have h3:=hn'.lo j aA;omega
 obtain⟨n,hn⟩:=key _ (fP _);exact⟨n,hn.1,hn.2⟩
theorem FromTo.lex {ws:List W} {n:List Int} {c:List Int} (h:FromTo ws n 0 ws.length c):LexMin ws c:=⟨h.fl,fun m hm i hi hk=>h.le m hm i (fC _) hi hk⟩
open Classical in
noncomputable def Uw (ws:List W):List Int:=if h:∃ n,LexMin ws n then Classical.choose h else []
theorem WK {ws:List W} (h:∃ n,Flow ws n):LexMin ws (Uw ws):=by
 have h2:=lex_exists h;unfold Uw;rw[dif_pos h2];exact Classical.choose_spec h2
theorem first1_c {h:AHeap} {i k:Nat} {p4:AV} (hp4:AddrOf p4 p4 0 0) (h4:Rd h p4 0 [.int .i64 (i:Int)]):ACalls Go.Proofs.Tryz.prog 264 [.int .i64 (k:Int),p4] h (fun q h'=>q = .bool (decide (i<k))∧h=h'):=by
 refine OK 7 [.tmp 3] Go.Proofs.Tryz.func264 rfl aE rfl rfl (dO rfl) ?_;show KA _ 7 _ _ [(0,.int .i64 (k:Int)),(1,p4)] _;refine b6 ?_;refine Of hp4 h4 rfl ?_;refine Oa [3] ?_;refine Oi ?_;refine cU ?_;exact decide_eq_decide.2 aA
theorem first_c {h0 h:AHeap} {r:Nat} {i:Nat} {pf vW vn:AV} {ws:List W} {n:List Int} {tn:Bool} {G:List Obj} (hpf:AddrOf pf pf 0 0) (hv:Rd h0 vW 4 (flr wc ws)) (hB:BOk (r:Int) ws) (hfl:Flow ws n) (hi:i≤ws.length) (hS:St h0 h (⟨pf,0,[.int .i64 (r:Int),vW,vn],true⟩::⟨vn,1,ints n,tn⟩::G)):ACalls Go.Proofs.Tryz.prog 254 [pf,.int .i64 (i:Int)] h (fun _ h'=>∃ n',St h0 h' (⟨pf,0,[.int .i64 (r:Int),vW,vn],true⟩::⟨vn,1,ints n',tn⟩::G)∧FromTo ws n i ws.length n'):=by
 refine OK 20 [] Go.Proofs.Tryz.func254 rfl aE rfl rfl (dO rfl) ?_;have hwl:=hB.len;show KA _ 20 _ _ [(0,pf),(1,.int .i64 (i:Int))] _;refine Oc ?_;refine O6 hS ?_;intro p4 h' hp4 hS;refine Kp hS rfl (i:=0) rfl hp4 aG ?_;intro h' hS;refine Oj [0,4] ?_;refine Oz ?_;refine Kd (X:=Nat × List Int × AV) (fun x=>[(0,pf),(4,x.2.2)]) (fun x h'=>i≤x.1∧x.1≤ws.length∧FromTo ws n i x.1 x.2.1∧AddrOf x.2.2 x.2.2 0 0∧St h0 h' (⟨pf,0,[.int .i64 (r:Int),vW,vn],true⟩::⟨vn,1,ints x.2.1,tn⟩::⟨x.2.2,0,[.int .i64 (x.1:Int)],true⟩::G)) (fun x=>ws.length - x.1) (i,n,p4) ?_ ?_;exact⟨fP _,hi,FromTo.init hfl,hp4,St.swap (A:=[_]) (B:=[_,_]) hS⟩;rintro⟨j,c,pj⟩ h3 ⟨hij,hj,hc,hpj,hS⟩;dsimp only at hij hj hc hpj hS⊢;have hcl:=hc.fl.len;refine Ou ?_;refine bZ ?_;refine OJ hS (i:=2) rfl hpj ?_;refine Oe ?_;refine cD ?_;intro p9 hp9;refine dF ?_;refine Kv (hS.rd 1 rfl) ?_;refine Oa [0,4,12] ?_;refine On ?_ ?_;intro c12;refine OD [0,4] ?_;refine bj ?_;refine Oc ?_;refine OJ hS (i:=2) rfl hpj ?_;refine Qb ?_;refine Oo rfl (lower_c (i:=j) (A:=fun k=>decide (j<k)) hpf hv hB hc.fl aA (by
  intro h' X k hS' hk;exact first1_c hpj (hS'.rd X.length (o:=⟨pj,0,[.int .i64 (j:Int)],true⟩) aK)) hS) ?_
 rintro _ h4 ⟨c2,hS4,hf2,hn2,hl2⟩;clear hS;have hS:=hS4;clear hS4;refine bu ?_;refine Ow [0,4] ?_;refine bt ?_;refine OJ hS (i:=2) rfl hpj ?_;refine Oj [0,19] ?_;refine Kc rfl ?_;refine O6 hS ?_;intro p4 h' hp4 hS;refine Kp hS rfl (i:=0) rfl hp4 aG ?_;intro h' hS;refine Oj [0,4] ?_;refine Kc rfl ?_;refine OJ hS (i:=0) rfl hp4 ?_;refine Kx aF aF ?_;refine Kp hS rfl (i:=0) rfl hp4 aG ?_;intro h' hS;refine Og ?_;simp only[dT] at hS;exact Zx (j+1,c2,p4) (by refine Sub.cons Look.eq (Sub.cons Look.eq (Sub.nil _))) ⟨by dsimp only; omega,by dsimp only; omega,hc.step hij hf2 hn2 hl2,hp4,St.mid (A:=[_,_,_]) (B:=[_]) (St.swap (A:=[_]) (B:=[_,_]) hS)⟩ aJ;intro c12;refine cL ?_;refine KH ?_;have hje:j=ws.length:=by omega
 subst hje;exact⟨c,St.mid (A:=[_,_]) (B:=[_]) hS,hc⟩
end Go.Am
namespace Go.Am
theorem stFirst_c {h:AHeap} {rm:Int} {vW:AV} {ws:List W} (hv:Rd h vW 4 (flr wc ws)):ACalls Go.Proofs.Tryz.prog 238 [.agg [.int .i64 rm,vW]] h (fun q h'=>∃ vo,q = .tup [vo,.int .i64 (Qc rm ws)]∧St h h' [⟨vo,1,ints (if Qc rm ws=0 then Uw ws else []),true⟩]):=by
 refine OK 20 [.tmp 2,.tmp 3] Go.Proofs.Tryz.func238 rfl aE rfl rfl (dO rfl) ?_;have hS:=St.refl h;have hvo:vW.one=true:=hv.one;show KA _ 20 _ _ [(0,.agg [.int .i64 rm,vW])] _;refine be ?_;intro p1 h' hp1 hS;refine dN ?_;refine Oo rfl (Ux (Rd.ext hS.keeps hv)) ?_;rintro _ h5 ⟨qp,rfl,hK,hqp,hyes⟩;refine Oa [4,5] ?_;refine Oa [4,5,12] ?_;refine Kk ?_ ?_;intro c12;refine cA ?_;rw[if_neg c12];exact⟨_,rfl,St.trans (St.ofK (hS.keeps.trans hK)) (St.addNil 1 true (St.refl _))⟩;intro c12;have c12:Qc rm ws=0:=c12;have hB:=(U9 c12).1;obtain⟨r,rfl⟩:∃ r:Nat,rm=(r:Int):=⟨rm.toNat,by have:=hB.r2; omega⟩;obtain⟨n,vn,hpf,hf,hSF⟩:=hyes c12;replace hS:St _ _ (_::_::_):=St.trans hS hSF;refine OD [4] ?_;refine Oc ?_;refine Oo rfl (first_c (r:=r) (i:=0) hpf hv hB hf (fC _) hS) ?_;rintro _ h6 ⟨c2,hS6,hft⟩;clear hS;have hS:=hS6;clear hS6;have e1:=hft.lex.uniq (WK ⟨_,hft.fl⟩);refine Oj [4] ?_;refine Oc ?_;refine cD ?_;intro p18 hp18;refine Of hp18 (hS.rd 0 rfl) rfl ?_;refine cA ?_;rw[if_pos c12,←e1,c12];exact⟨_,rfl,St.pick [1] aE rfl hS⟩
end Go.Am
namespace Go.Am
def JG:List W:=[⟨0,1,5,9⟩,⟨1,2,0,7⟩,⟨2,0,4,6⟩]
theorem agrWT:Qc 3 JG=0:=by decide +kernel
theorem verWT13:verE 3 JG [5,5,5]=0:=by decide +kernel
theorem flowWT13 {n:List Int} (h:Flow JG n):∃ v,n = [v,v,v]∧5≤v∧v≤6:=by
 have hl:n.length=3:=h.len
 match n,hl with
 | [a,b,c],_=>
  have l0:(5:Int)≤a:=h.lo 0 aE;have m0:a≤9:=h.hi 0 aE;have l2:(4:Int)≤c:=h.lo 2 aE;have m2:c≤6:=h.hi 2 aE;have k0:=h.kp 0;have k1:=h.kp 1;have e0:kept JG [a,b,c] 0=0+a*(0 - 1)+b*(0 - 0)+c*(1 - 0):=rfl;have e1:kept JG [a,b,c] 1=0+a*(1 - 0)+b*(0 - 1)+c*(0 - 0):=rfl;rw[e0] at k0;rw[e1] at k1;have h1:b=a:=by omega
  have h2:c=a:=by omega
  subst h1 h2;exact⟨_,rfl,l0,m2⟩
theorem Tc:Flow JG [5,5,5]:=(verE_flow verWT13).2
theorem lexWT:Uw JG = [5,5,5]:=by
 refine(WK ⟨_,Tc⟩).uniq ⟨Tc,fun m hm i hi _=>?_⟩;obtain⟨v,rfl,h1,h2⟩:=flowWT13 hm;have hi:i<3:=hi
 match i,hi with
 | 0,_=>exact h1
 | 1,_=>exact h1
 | 2,_=>exact h1
theorem ok45:(⟨4,5,2,1⟩:Sht).Ok:=⟨by decide,by decide,by decide,by decide⟩
theorem cnt45:(⟨4,5,2,1⟩:Sht).cntS 0=95:=by decide +kernel
theorem RV {h:AHeap}:ACalls Go.Proofs.Tryz.prog 220 [] h (fun q h'=>q = .bool true∧Keeps h h'):=by
 refine OK 35 [.tmp 0] Go.Proofs.Tryz.func220 rfl aE rfl rfl (dO rfl) ?_;have hS:=St.refl h;show KA _ 35 _ _ [] _;refine cQ ?_;refine bV ?_;refine Oo rfl (cutCount_c ok45) ?_;rintro _ hx ⟨rfl,hK⟩;replace hS:St _ _ _:=St.trans hS (St.ofK hK);simp only[dU] at hS;refine bh ?_;refine Oj [1,2] ?_;refine Ot ?_;refine bV ?_;refine bV ?_;refine bV ?_;refine Zm (cs:=flr wc JG) hS rfl rfl rfl aE ?_;intro v14 h' hS;have hv14:v14.one=true:=St.one hS (k:=0) rfl;refine br ?_;refine Oo rfl (stFirst_c (ws:=JG) (hS.rd 0 rfl)) ?_;rintro _ h16 ⟨v16,rfl,hS16⟩;replace hS:St _ _ (_::_):=St.trans hS hS16;refine bh ?_;refine Oj [1,2,3,4] ?_;refine Ot ?_;refine Oe ?_;refine Ku ?_;refine Oe ?_;refine Ov (dj:=21) rfl rfl true false rfl ?_ ?_;intro g21;have g21:=of_decide_eq_true g21;refine Oe ?_;refine Oh (dj:=21) rfl rfl ?_;refine b9 ?_;refine Ov (dj:=25) rfl rfl true false rfl ?_ ?_;intro g25;have g25:=of_decide_eq_true g25;refine Oe ?_;refine Oh (dj:=25) rfl rfl ?_;refine b9 ?_;refine Ov (dj:=29) rfl rfl true false rfl ?_ ?_;intro g29;have g29:=of_decide_eq_true g29;refine Oe ?_;refine Oh (dj:=29) rfl rfl ?_;refine b5 ?_;intro v31 h' hS;refine Oh (dj:=29) rfl rfl ?_;refine Oo rfl Vr ?_;rintro _ _ ⟨rfl,rfl⟩;refine Oh (dj:=29) rfl rfl ?_;refine Oo rfl (same_c (b:=[5,5,5]) (hS.rd 1 rfl) (hS.rd 0 rfl) (by rw[agrWT,if_pos rfl,lexWT]; decide)) ?_;rintro _ _ ⟨rfl,rfl⟩;refine O1 ?_;refine bW ?_;refine⟨congrArg AV.bool ?_,hS.keeps⟩;rw[agrWT,if_pos rfl,lexWT];rfl;intro g29;have g29:=of_decide_eq_false g29;exact absurd (congrArg (Nat.cast:Nat→Int) cnt45) g29;intro g25;have g25:=of_decide_eq_false g25;exact absurd agrWT g25;intro g21;have g21:=of_decide_eq_false g21;exact absurd rfl g21
end Go.Am
namespace Go.Am
open Go.RowKit
theorem Yv {x y:AV} (hx:x.plain=true) (hy:y.plain=true):∀ m d,AV.shm m d 4 (.tup [x,y]) = .tup [x,y]:=fun m d=>by simp only[AV.shm,fE,List.map_nil,VR hx,VR hy]
theorem XI {h:AHeap} {bs:List ArgB} {v:AV} {l:List Int} (hr:Row h v l) (hne:(ints l).isEmpty=false) (hp:(ints l).all AV.plain=true):OkG h bs ⟨v,1,ints l,ints l⟩:=Tu hr aE (fun e=>by rw[e] at hne; cases hne) hp
theorem TE:XP Go.Proofs.Tryz.prog 4000 186 [.agg [.int .i64 2,.int .i64 2,.int .i64 2,.slc 0 0 4 1 false]] [ints [0,1,2,3]] [] (fun r _=>AV.isP 3 r (.tup [.int .i64 6,.int .i64 0]))=true:=by kernel_rfl
theorem T1 {h:AHeap} {v:AV} (hv:Row h v [0,1,2,3]):ACalls Go.Proofs.Tryz.prog 186 [.agg [.int .i64 2,.int .i64 2,.int .i64 2,v]] h (fun q h'=>q = .tup [.int .i64 6,.int .i64 0]∧Keeps h h'):=
  ZA mixed 4000 [.agg [.int .i64 2, .int .i64 2, .int .i64 2, .slc 0 0 4 1 false]] [⟨v, 1, ints [0, 1, 2, 3], ints [0, 1, 2, 3]⟩] [] (QO (XI hv rfl rfl) Xt) XD rfl
    (KZ (.agg _ _ rfl (KZ (.plain _ rfl) (KZ (.plain _ rfl) (KZ (.plain _ rfl) (KZ (Zu rfl aE rfl) ZI))))) ZI) TE (Yv rfl rfl)
theorem Rs:XP Go.Proofs.Tryz.prog 4000 219 [.slc 0 0 3 1 false] [ints [3,3,3]] [] (fun r _=>AV.isP 3 r (.tup [.int .i64 2,.int .i64 0]))=true:=by kernel_rfl
theorem TM {h:AHeap} {v:AV} (hv:Row h v [3,3,3]):ACalls Go.Proofs.Tryz.prog 219 [v] h (fun q h'=>q = .tup [.int .i64 2,.int .i64 0]∧Keeps h h'):=
  ZA mixed 4000 [.slc 0 0 3 1 false] [⟨v,1,ints [3,3,3],ints [3,3,3]⟩] [] (QO (XI hv rfl rfl) Xt) XD rfl (KZ (Zu rfl aE rfl) ZI) Rs (Yv rfl rfl)
theorem RN:XP Go.Proofs.Tryz.prog 4000 193 [.slc 3 0 3 1 false] [ints [1,0,0],ints [0,1,0],ints [0,0,1],[.slc 0 0 3 1 false,.slc 1 0 3 1 false,.slc 2 0 3 1 false]] [] (fun r _=>AV.isP 3 r (.tup [.int .i64 4,.int .i64 0]))=true:=by kernel_rfl
theorem SC {h:AHeap} {v a b c:AV} (hv:Rd h v 1 [a,b,c]) (ha:Row h a [1,0,0]) (hb:Row h b [0,1,0]) (hc:Row h c [0,0,1]):ACalls Go.Proofs.Tryz.prog 193 [v] h (fun q h'=>q = .tup [.int .i64 4,.int .i64 0]∧Keeps h h'):=
  ZA mixed 4000 [.slc 3 0 3 1 false] [⟨a, 1, ints [1, 0, 0], ints [1, 0, 0]⟩, ⟨b, 1, ints [0, 1, 0], ints [0, 1, 0]⟩, ⟨c, 1, ints [0, 0, 1], ints [0, 0, 1]⟩, ⟨v, 1, [a, b, c], [.slc 0 0 3 1 false, .slc 1 0 3 1 false, .slc 2 0 3 1 false]⟩] []
    (QO (XI ha rfl rfl) (QO (XI hb rfl rfl) (QO (XI hc rfl rfl) (QO ⟨hv,.inl ⟨Nat.one_pos,by simp⟩,rfl,KZ (Zu (v:=a) (s:=1) rfl aE rfl) (KZ (Zu (v:=b) (s:=1) rfl aE rfl) (KZ (Zu (v:=c) (s:=1) rfl aE rfl) ZI))⟩ Xt)))) XD rfl
    (KZ (Zu rfl aE rfl) ZI) RN (Yv rfl rfl)
theorem size_run:XP Go.Proofs.Tryz.prog 4000 165 [.int .i64 10,.int .i64 0] [] [] (fun r _=>AV.isP 3 r (.tup [.int .i64 94,.int .i64 0]))=true:=by kernel_rfl
theorem sizeL_c {h:AHeap}:ACalls Go.Proofs.Tryz.prog 165 [.int .i64 10,.int .i64 0] h (fun q h'=>q = .tup [.int .i64 94,.int .i64 0]∧Keeps h h'):=
  ZA mixed 4000 [.int .i64 10,.int .i64 0] [] [] Xt XD rfl (J1 rfl) size_run (Yv rfl rfl)
theorem ways_run:XP Go.Proofs.Tryz.prog 4000 152 [.slc 0 0 5 1 false,.int .i64 3] [ints [0,2,1,3,4]] [] (fun r _=>AV.isP 3 r (.tup [.int .i64 6,.int .i64 0]))=true:=by kernel_rfl
theorem waysL_c {h:AHeap} {v:AV} (hv:Row h v [0,2,1,3,4]):ACalls Go.Proofs.Tryz.prog 152 [v,.int .i64 3] h (fun q h'=>q = .tup [.int .i64 6,.int .i64 0]∧Keeps h h'):=
  ZA mixed 4000 [.slc 0 0 5 1 false,.int .i64 3] [⟨v,1,ints [0,2,1,3,4],ints [0,2,1,3,4]⟩] [] (QO (XI hv rfl rfl) Xt) XD rfl (KZ (Zu rfl aE rfl) (KZ (.plain _ rfl) ZI)) ways_run (Yv rfl rfl)
theorem sorts_run:XP Go.Proofs.Tryz.prog 4000 103 [.agg [.int .i64 3,.slc 0 0 3 2 false]] [ints [0,1,1,2,0,1]] [] (fun r _=>AV.isP 3 r (.tup [.bool true,.int .i64 0]))=true:=by kernel_rfl
theorem sortsL_c {h:AHeap} {v:AV} (hv:Rd h v 2 (ints [0,1,1,2,0,1])):ACalls Go.Proofs.Tryz.prog 103 [.agg [.int .i64 3,v]] h (fun q h'=>q = .tup [.bool true,.int .i64 0]∧Keeps h h'):=
  ZA mixed 4000 [.agg [.int .i64 3,.slc 0 0 3 2 false]] [⟨v,2,ints [0,1,1,2,0,1],ints [0,1,1,2,0,1]⟩] [] (QO (Tu hv aE aE rfl) Xt) XD rfl (KZ (.agg _ _ rfl (KZ (.plain _ rfl) (KZ (Zu rfl aE rfl) ZI))) ZI) sorts_run (Yv rfl rfl)
theorem TH:XP Go.Proofs.Tryz.prog 4000 125 [.agg [.int .i64 4,.slc 2 0 2 1 false],.slc 3 0 3 1 false,.int .i64 2] [ints [0,0,2,2],ints [0,1,1,3],[.slc 0 0 4 1 false,.slc 1 0 4 1 false],ints [0,1,2]] [] (RA 4 1 (ints [0]) (.int .i64 0))=true:=by kernel_rfl
theorem S8 {h:AHeap} {v a b c:AV} (hv:Rd h v 1 [a,b]) (ha:Row h a [0,0,2,2]) (hb:Row h b [0,1,1,3]) (hc:Row h c [0,1,2]):ACalls Go.Proofs.Tryz.prog 125 [.agg [.int .i64 4,v],c,.int .i64 2] h (fun r h'=>∃ a,r = .tup [a,.int .i64 0]∧St h h' [⟨a,1,ints [0],true⟩]):=
  over_tupO mixed TH [⟨a, 1, ints [0, 0, 2, 2], ints [0, 0, 2, 2]⟩, ⟨b, 1, ints [0, 1, 1, 3], ints [0, 1, 1, 3]⟩, ⟨v, 1, [a, b], [.slc 0 0 4 1 false, .slc 1 0 4 1 false]⟩, ⟨c, 1, ints [0, 1, 2], ints [0, 1, 2]⟩] rfl rfl
    (QO (XI ha rfl rfl) (QO (XI hb rfl rfl) (QO ⟨hv,.inl ⟨Nat.one_pos,by simp⟩,rfl,KZ (Zu (v:=a) (s:=1) rfl aE rfl) (KZ (Zu (v:=b) (s:=1) rfl aE rfl) ZI)⟩ (QO (XI hc rfl rfl) Xt)))) XD rfl
    (KZ (.agg _ _ rfl (KZ (.plain _ rfl) (KZ (Zu rfl aE rfl) ZI))) (KZ (Zu (v:=c) rfl aE rfl) (KZ (.plain _ rfl) ZI)))
theorem TR {h:AHeap}:ACalls Go.Proofs.Tryz.prog 194 [] h (fun q h'=>q = .bool true∧Keeps h h'):=by
 refine OK 35 [.tmp 0] Go.Proofs.Tryz.func194 rfl aE rfl rfl (dO rfl) ?_;have hS:=St.refl h;show KA _ 35 _ _ [] _;refine cQ ?_;refine b5 ?_;intro v6 h' hS;refine Oo rfl Vr ?_;rintro w6 _ ⟨rfl,rfl⟩;have hw6:w6.one=true:=St.one hS (k:=0) rfl;refine OP (zs:=[.int .i64 0,.int .i64 0,.int .i64 0,.nils]) (cs:=[_,_,_,_]) aB aI aB (.cons (off:=0) (s:=1) aB (AV.cells_one aG) rfl aE (.cons (off:=1) (s:=1) aB (AV.cells_one aG) rfl aE (.cons (off:=2) (s:=1) aB (AV.cells_one aG) rfl aE (.cons (off:=3) (s:=1) aB (AV.cells_one aG) rfl aE .nil)))) aI ?_;refine Oo rfl (T1 (hS.rd 0 rfl)) ?_;rintro _ hx ⟨rfl,hK⟩;replace hS:St _ _ _:=St.trans hS (St.ofK hK);simp only[dU] at hS;refine bh ?_;refine Oj [1,2] ?_;refine Ot ?_;refine b5 ?_;intro v13 h' hS;refine Oo rfl Vr ?_;rintro w13 _ ⟨rfl,rfl⟩;refine Oo rfl (TM (hS.rd 0 rfl)) ?_;rintro _ hx ⟨rfl,hK⟩;replace hS:St _ _ _:=St.trans hS (St.ofK hK);simp only[dU] at hS;refine bh ?_;refine Oj [1,2,3,4] ?_;refine Ot ?_;refine Oe ?_;refine Ku ?_;refine Oe ?_;refine Ov (dj:=20) rfl rfl true false rfl ?_ ?_;intro g20;have g20:=of_decide_eq_true g20;refine Oe ?_;refine Oh (dj:=20) rfl rfl ?_;refine b9 ?_;refine Ov (dj:=24) rfl rfl true false rfl ?_ ?_;intro g24;have g24:=of_decide_eq_true g24;refine Oe ?_;refine Oh (dj:=24) rfl rfl ?_;refine b9 ?_;refine Ov (dj:=28) rfl rfl true false rfl ?_ ?_;intro g28;have g28:=of_decide_eq_true g28;refine Oe ?_;refine Oh (dj:=28) rfl rfl ?_;refine b9 ?_;refine Ov (dj:=32) rfl rfl true false rfl ?_ ?_;intro g32;have g32:=of_decide_eq_true g32;refine Oo rfl (RV) ?_;rintro _ hx ⟨rfl,hK⟩;replace hS:St _ _ _:=St.trans hS (St.ofK hK);simp only[dU] at hS;refine O1 ?_;refine bW ?_
 first|exact⟨rfl,hS.keeps⟩|(exfalso; contradiction)|(exfalso; omega)
 intro g32;have g32:=of_decide_eq_false g32;refine cm ?_
 first|exact⟨rfl,hS.keeps⟩|(exfalso; contradiction)|(exfalso; omega)
 intro g28;have g28:=of_decide_eq_false g28;refine ch ?_;refine cm ?_
 first|exact⟨rfl,hS.keeps⟩|(exfalso; contradiction)|(exfalso; omega)
 intro g24;have g24:=of_decide_eq_false g24;refine Om (dj:=24) rfl rfl rfl ?_;refine cI ?_;refine Om (dj:=28) rfl rfl rfl ?_;refine ch ?_;refine cm ?_
 first|exact⟨rfl,hS.keeps⟩|(exfalso; contradiction)|(exfalso; omega)
 intro g20;have g20:=of_decide_eq_false g20;refine Om (dj:=20) rfl rfl rfl ?_;refine cI ?_;refine Om (dj:=24) rfl rfl rfl ?_;refine Om (dj:=24) rfl rfl rfl ?_;refine cI ?_;refine Om (dj:=28) rfl rfl rfl ?_;refine ch ?_;refine cm ?_
 first|exact⟨rfl,hS.keeps⟩|(exfalso; contradiction)|(exfalso; omega)
theorem WX {h:AHeap}:ACalls Go.Proofs.Tryz.prog 166 [] h (fun q h'=>q = .bool true∧Keeps h h'):=by
 refine OK 20 [.tmp 0] Go.Proofs.Tryz.func166 rfl aE rfl rfl (dO rfl) ?_;have hS:=St.refl h;show KA _ 20 _ _ [] _;refine cQ ?_;refine b5 ?_;intro v4 h' hS;have ho4:v4.one=true:=St.one hS (k:=0) rfl;refine b5 ?_;intro v5 h' hS;have ho5:v5.one=true:=St.one hS (k:=0) rfl;refine b5 ?_;intro v6 h' hS;have ho6:v6.one=true:=St.one hS (k:=0) rfl;refine OL hS rfl aE (by simp only[List.all_cons,List.all_nil,ho4,ho5,ho6]; rfl) ?_;intro v7 h' hS;refine Oo rfl (SC (hS.rd 0 rfl) (hS.rd 3 rfl) (hS.rd 2 rfl) (hS.rd 1 rfl)) ?_;rintro _ hx ⟨rfl,hK⟩;replace hS:St _ _ _:=St.trans hS (St.ofK hK);simp only[dU] at hS;refine bh ?_;refine Oj [1,2] ?_;refine Ot ?_;refine Oe ?_;refine Ku ?_;refine Oe ?_;refine Ov (dj:=13) rfl rfl true false rfl ?_ ?_;intro g13;have g13:=of_decide_eq_true g13;refine Oe ?_;refine Oh (dj:=13) rfl rfl ?_;refine b9 ?_;refine Ov (dj:=17) rfl rfl true false rfl ?_ ?_;intro g17;have g17:=of_decide_eq_true g17;refine Oo rfl (TR) ?_;rintro _ hx ⟨rfl,hK⟩;replace hS:St _ _ _:=St.trans hS (St.ofK hK);simp only[dU] at hS;refine O1 ?_;refine bW ?_
 first|exact⟨rfl,hS.keeps⟩|(exfalso; contradiction)|(exfalso; omega)
 intro g17;have g17:=of_decide_eq_false g17;refine cm ?_
 first|exact⟨rfl,hS.keeps⟩|(exfalso; contradiction)|(exfalso; omega)
 intro g13;have g13:=of_decide_eq_false g13;refine Om (dj:=13) rfl rfl rfl ?_;refine cI ?_;refine Om (dj:=17) rfl rfl rfl ?_;refine cm ?_
 first|exact⟨rfl,hS.keeps⟩|(exfalso; contradiction)|(exfalso; omega)
theorem Pu {h:AHeap}:ACalls Go.Proofs.Tryz.prog 126 [] h (fun q h'=>q = .bool true∧Keeps h h'):=by
 refine OK 50 [.tmp 0] Go.Proofs.Tryz.func126 rfl aE rfl rfl (dO rfl) ?_;have hS:=St.refl h;show KA _ 50 _ _ [] _;refine cQ ?_;refine Oo rfl (sizeL_c) ?_;rintro _ hx ⟨rfl,hK⟩;replace hS:St _ _ _:=St.trans hS (St.ofK hK);simp only[dU] at hS;refine bh ?_;refine Oj [1,2] ?_;refine Ot ?_;refine b5 ?_;intro v12 h' hS;refine Oo rfl Vr ?_;rintro w12 _ ⟨rfl,rfl⟩;refine Oo rfl (waysL_c (hS.rd 0 rfl)) ?_;rintro _ hx ⟨rfl,hK⟩;replace hS:St _ _ _:=St.trans hS (St.ofK hK);simp only[dU] at hS;refine bh ?_;refine Oj [1,2,3,4] ?_;refine Ot ?_;refine cC ?_;refine OP (zs:=[.int .i64 0,.int .i64 0]) (cs:=[_,_]) aB aI aB (.cons (off:=0) (s:=1) aB (AV.cells_one aG) rfl aE (.cons (off:=1) (s:=1) aB (AV.cells_one aG) rfl aE .nil)) aI ?_;refine Zm (cs:=ints [0,1,1,2,0,1]) hS rfl rfl rfl aE ?_;intro v21 h' hS;have ho21:v21.one=true:=St.one hS (k:=0) rfl;refine br ?_;refine Oo rfl (sortsL_c (hS.rd 0 rfl)) ?_;rintro _ hx ⟨rfl,hK⟩;replace hS:St _ _ _:=St.trans hS (St.ofK hK);simp only[dU] at hS;refine bh ?_;refine Oj [1,2,3,4,5,6] ?_;refine Ot ?_;refine Oe ?_;refine Ku ?_;refine Oe ?_;refine Ov (dj:=28) rfl rfl true false rfl ?_ ?_;intro g28;have g28:=of_decide_eq_true g28;refine Oe ?_;refine Oh (dj:=28) rfl rfl ?_;refine b9 ?_;refine Ov (dj:=32) rfl rfl true false rfl ?_ ?_;intro g32;have g32:=of_decide_eq_true g32;refine Oe ?_;refine Oh (dj:=32) rfl rfl ?_;refine b9 ?_;refine Ov (dj:=36) rfl rfl true false rfl ?_ ?_;intro g36;have g36:=of_decide_eq_true g36;refine Oe ?_;refine Oh (dj:=36) rfl rfl ?_;refine b9 ?_;refine Ov (dj:=40) rfl rfl true false rfl ?_ ?_;intro g40;have g40:=of_decide_eq_true g40;refine Oe ?_;refine Oh (dj:=40) rfl rfl ?_;refine b9 ?_;refine Ov (dj:=44) rfl rfl true false rfl ?_ ?_;intro g44;have g44:=of_decide_eq_true g44;refine Oe ?_;refine O1 ?_;refine Oe ?_;refine Ov (dj:=47) rfl rfl true false rfl ?_ ?_;intro g47;refine Oo rfl (WX) ?_;rintro _ hx ⟨rfl,hK⟩;replace hS:St _ _ _:=St.trans hS (St.ofK hK);simp only[dU] at hS;refine O1 ?_;refine bW ?_
 first|exact⟨rfl,hS.keeps⟩|(exfalso; contradiction)|(exfalso; omega)
 intro g47;refine cm ?_
 first|exact⟨rfl,hS.keeps⟩|(exfalso; contradiction)|(exfalso; omega)
 intro g44;have g44:=of_decide_eq_false g44;refine cI ?_;refine Om (dj:=47) rfl rfl rfl ?_;refine cm ?_
 first|exact⟨rfl,hS.keeps⟩|(exfalso; contradiction)|(exfalso; omega)
 intro g40;have g40:=of_decide_eq_false g40;refine bo ?_
 first|exact⟨rfl,hS.keeps⟩|(exfalso; contradiction)|(exfalso; omega)
 intro g36;have g36:=of_decide_eq_false g36;refine dM ?_
 first|exact⟨rfl,hS.keeps⟩|(exfalso; contradiction)|(exfalso; omega)
 intro g32;have g32:=of_decide_eq_false g32;refine Om (dj:=32) rfl rfl rfl ?_;refine cI ?_;refine Om (dj:=36) rfl rfl rfl ?_;refine dM ?_
 first|exact⟨rfl,hS.keeps⟩|(exfalso; contradiction)|(exfalso; omega)
 intro g28;have g28:=of_decide_eq_false g28;refine ch ?_;refine Om (dj:=32) rfl rfl rfl ?_;refine cI ?_;refine Om (dj:=36) rfl rfl rfl ?_;refine dM ?_
 first|exact⟨rfl,hS.keeps⟩|(exfalso; contradiction)|(exfalso; omega)
theorem Sq {h:AHeap}:ACalls Go.Proofs.Tryz.prog 88 [] h (fun q h'=>q = .bool true∧Keeps h h'):=by
 refine OK 24 [.tmp 0] Go.Proofs.Tryz.func88 rfl aE rfl rfl (dO rfl) ?_;have hS:=St.refl h;show KA _ 24 _ _ [] _;refine cQ ?_;refine b5 ?_;intro v4 h' hS;have ho4:v4.one=true:=St.one hS (k:=0) rfl;refine b5 ?_;intro v5 h' hS;have ho5:v5.one=true:=St.one hS (k:=0) rfl;refine OL hS rfl aE (by simp only[List.all_cons,List.all_nil,ho4,ho5]; rfl) ?_;intro v6 h' hS;have ho6:v6.one=true:=St.one hS (k:=0) rfl;refine br ?_;refine b5 ?_;intro v8 h' hS;refine Oo rfl Vr ?_;rintro w8 _ ⟨rfl,rfl⟩;refine Oo rfl (S8 (hS.rd 1 rfl) (hS.rd 3 rfl) (hS.rd 2 rfl) (hS.rd 0 rfl)) ?_;rintro _ h10 ⟨vE,rfl,hS10⟩;replace hS:St _ _ (_::_):=St.trans hS hS10;refine bh ?_;refine Oj [1,2] ?_;refine Ot ?_;refine Oe ?_;refine Ku ?_;refine Oe ?_;refine Ov (dj:=15) rfl rfl true false rfl ?_ ?_;intro g15;have g15:=of_decide_eq_true g15;refine Oe ?_;refine Oh (dj:=15) rfl rfl ?_;refine b5 ?_;intro v17 h' hS;refine Oh (dj:=15) rfl rfl ?_;refine Oo rfl Vr ?_;rintro w17 _ ⟨rfl,rfl⟩;refine Oh (dj:=15) rfl rfl ?_;refine Oo rfl (same_c (a:=[0]) (b:=[0]) (hS.rd 1 rfl) (hS.rd 0 rfl) aE) ?_;rintro _ _ ⟨rfl,rfl⟩;refine O1 ?_;refine Oe ?_;refine Ov (dj:=21) rfl rfl true false rfl ?_ ?_;intro g21;have g21:=of_decide_eq_true g21;refine Oo rfl (Pu) ?_;rintro _ hx ⟨rfl,hK⟩;replace hS:St _ _ _:=St.trans hS (St.ofK hK);simp only[dU] at hS;refine O1 ?_;refine bW ?_
 first|exact⟨rfl,hS.keeps⟩|(exfalso; contradiction)|(exfalso; omega)
 intro g21;have g21:=of_decide_eq_false g21;refine cm ?_
 first|exact⟨rfl,hS.keeps⟩|(exfalso; contradiction)|(exfalso; omega)
 intro g15;have g15:=of_decide_eq_false g15;refine Om (dj:=15) rfl rfl rfl ?_;refine Om (dj:=15) rfl rfl rfl ?_;refine Om (dj:=15) rfl rfl rfl ?_;refine cI ?_;refine Om (dj:=21) rfl rfl rfl ?_;refine cm ?_
 first|exact⟨rfl,hS.keeps⟩|(exfalso; contradiction)|(exfalso; omega)
end Go.Am
namespace Go.Am
theorem Po {h:AHeap}:ACalls Go.Proofs.Tryz.prog 50 [] h (fun q h'=>q = .bool true∧Keeps h h'):=by
 refine OK 24 [.tmp 0] Go.Proofs.Tryz.func50 rfl aE rfl rfl (dO rfl) ?_;have hS:=St.refl h;show KA _ 24 _ _ [] _;refine cQ ?_;refine Oo rfl (find_c) ?_;rintro _ h4 ⟨vE,rfl,hS4⟩;replace hS:St _ _ (_::_):=St.trans hS hS4;have hoE:vE.one=true:=St.one hS (k:=0) rfl;refine Oe ?_;refine OG ?_;refine OG ?_;refine O6 hS ?_;intro p1 h' hp1 hS;refine O8 hS rfl (i:=0) rfl hp1 aD aI aI aE ?_;intro h' hS;simp only[dT,fA,fI] at hS;refine Oq ?_;refine Oj [1,2] ?_;refine Ou ?_;refine OQ [11] mixed rfl aB ?_;refine Oe ?_;refine Ku ?_;refine Oe ?_;refine Ov (dj:=9) rfl rfl true false rfl ?_ ?_;intro g9;have g9:=of_decide_eq_true g9;refine Ob hp1 ?_;intro p10 hp10;refine Oh (dj:=9) rfl rfl ?_;refine Of hp10 (hS.rd 0 rfl) rfl ?_;refine Oh (dj:=9) rfl rfl ?_;refine b9 ?_;refine Ov (dj:=14) rfl rfl true false rfl ?_ ?_;intro g14;have g14:=of_decide_eq_true g14;refine Ob hp1 ?_;intro p15 hp15;refine Oh (dj:=14) rfl rfl ?_;refine Of hp15 (hS.rd 0 rfl) rfl ?_;refine Oh (dj:=14) rfl rfl ?_;refine b5 ?_;intro v17 h' hS;refine Oh (dj:=14) rfl rfl ?_;refine Kl aP Vr ?_;rintro w17 _ ⟨rfl,rfl⟩;refine Oh (dj:=14) rfl rfl ?_;refine Oo rfl (same_c (a:=[0,1,3,9]) (b:=[0,1,3,9]) (hS.rd 2 rfl) (hS.rd 0 rfl) aE) ?_;rintro _ _ ⟨rfl,rfl⟩;refine O1 ?_;refine Oe ?_;refine Ov (dj:=21) rfl rfl true false rfl ?_ ?_;intro g21;have g21:=of_decide_eq_true g21;refine Oo rfl (Sq) ?_;rintro _ hx ⟨rfl,hK⟩;replace hS:St _ _ _:=St.trans hS (St.ofK hK);simp only[dU] at hS;refine O1 ?_;refine bW ?_
 first|exact⟨rfl,hS.keeps⟩|(exfalso; contradiction)|(exfalso; omega)
 intro g21;have g21:=of_decide_eq_false g21;refine cm ?_
 first|exact⟨rfl,hS.keeps⟩|(exfalso; contradiction)|(exfalso; omega)
 intro g14;have g14:=of_decide_eq_false g14;refine cB ?_;refine Om (dj:=14) rfl rfl rfl ?_;refine cI ?_;refine Om (dj:=21) rfl rfl rfl ?_;refine cm ?_
 first|exact⟨rfl,hS.keeps⟩|(exfalso; contradiction)|(exfalso; omega)
 intro g9;have g9:=of_decide_eq_false g9;refine Om (dj:=9) rfl rfl rfl ?_;refine Om (dj:=9) rfl rfl rfl ?_;refine cI ?_;refine cB ?_;refine Om (dj:=14) rfl rfl rfl ?_;refine Om (dj:=14) rfl rfl rfl ?_;refine cI ?_;refine Om (dj:=21) rfl rfl rfl ?_;refine cm ?_
 first|exact⟨rfl,hS.keeps⟩|(exfalso; contradiction)|(exfalso; omega)
end Go.Am
namespace Go.Am
theorem TK {P:Program} {ρ:Operand→AV} {o:Oper} {h:AHeap} {t:TypeId} (ho:o.op = .makeMap t none):StepS P ρ o h (.mp h.next) (h.allocT (.dmap [])):=by
 refine⟨HGrow.allocT _ _,?_⟩;intro φ a w K Q hfr r _ hk;have hφ : φ h.next=none:=hfr h.next (fP _) a6;obtain⟨r',tr⟩:=r.allocT hφ (.dmap []) (.map #[] 0) (fun φ' w' _ hw=>⟨#[],0,hw,rfl,by simp⟩);have hrun:(execOp a.eval o).run P w = .ok (.value (.map (some w.heap.size))) (w.alloc (.map #[] 0)):=by
  simp[execOp,ho,Instr.makeMap]
 exact wp_of_run hrun (hk _ _ _ tr r' (.mp _ _ _ _ (Emb.upd_same _ _ _)))
def Uv (h : AHeap) : AV → Option (List (AV × AV))
  | .nilm=>some []
  | .mp b=>match h.get b with
    | some (.obj _ (.dmap es))=>some es
    | _=>none
  | _=>none
def Wv (P:Program) (h:AHeap) (t:TypeId) (x key:AV) (ok:Bool):Option AV:=
  match Xc P t,Uv h x with
  | some (kt,et),some es=>if Zp P kt key=true then
      match Ze P kt key es,Qf P et with
      | some r,some z=>some (match r with
        | some (_,v)=>if ok then .tup [v,.bool true] else v
        | none=>if ok then .tup [z,.bool false] else z)
      | _,_=>none
    else none
  | _,_=>none
theorem Sr {P:Program} {ρ:Operand→AV} {o:Oper} {h:AHeap} {t:TypeId} {x ix:Operand} {ok:Bool} {v:AV} (ho:o.op = .lookup t x ix ok) (hs:Wv P h t (ρ x) (ρ ix) ok=some v):ReadS P ρ o h v:=by
 intro φ w ev r hops;unfold Wv at hs;split at hs
 ·rename_i kt et es hm hes;split at hs
  ·rename_i hkey;split at hs
   ·rename_i fr z hf hz;simp only[Option.some.injEq] at hs;subst hs;have hx:=hops x aN;have hi:=hops ix aN;obtain⟨i,zv,hzi,hzv,hzr⟩:=Qo hz;have hzrun:(zeroValue et).run P w = .ok zv w:=by simp[zeroValue,typeInfo,hzi,hzv]
    have hu:=ZZ hm
    obtain ⟨ms, hlen, hrel, hget⟩ : ∃ ms : Array MapEntry, es.length = ms.toList.length ∧ (∀ (j : Nat) y m, es[j]? = some y → ms.toList[j]? = some m → VRel φ y.1 m.key ∧ VRel φ y.2 m.val) ∧
        ((ev x = .map none∧ms = #[])∨∃ k n,ev x = .map (some k)∧w.heap[k]? = some (.map ms n)):=by
      unfold Uv at hes;split at hes
      · rename_i hρ;cases hes;rw[hρ] at hx;generalize hq:ev x=q at hx;cases hx;exact⟨#[],rfl,by simp,.inl ⟨rfl,rfl⟩⟩
      · rename_i b hρ;rw[hρ] at hx;generalize hq:ev x=q at hx;cases hx;rename_i k i' z' hφ;split at hes
        · rename_i F es' hg;cases hes;obtain⟨ms,n,h1,h2,h3⟩:=r.blk b k i' z' _ hφ hg aT;exact⟨ms,by simpa using h2,fun j y m hy hm=>h3 j y m hy ax,.inr ⟨k,n,rfl,h1⟩⟩
        · cases hes
      · cases hes
    obtain⟨cr,h1,h2,h3⟩:=XM (P:=P) hkey hi w es ms.toList fr hlen hrel hf;have hck:=Xk (P:=P) hkey hi ms.isEmpty w;have hrun:∀ (c:Value) (b:Bool),(match cr with|some (_,v)=>(v,true)|none=>(zv,false))=(c,b)→(fM t (ev x) (ev ix) ok).run P w = .ok (if ok then .tuple #[c,.bool b] else c) w:=by
     intro c b hcb;rcases hget with ⟨hq,rfl⟩|⟨k,n,hq,hw⟩
     ·have hcr:cr=none:=by
       cases cr with
       | none=>rfl
       | some p=>
        cases fr with
        | none=>exact h2 rfl
        | some p'=>obtain⟨_,_,_,_,h4,_⟩:=h3 p'.1 p'.2 rfl; simp at h4
      subst hcr;cases hcb;simp only[fM,dP,run_underlying hu,dY,hq,dR,hck,h1,hzrun]
     ·simp only[fM,dP,run_underlying hu,dY,hq,dQ hw,dR,hck,h1]
      cases cr with
      | none=>cases hcb; simp only[dP,hzrun,dY,dR]
      | some p=>obtain⟨p1,p2⟩:=p; cases hcb; simp only[dP,dR,dY]
    cases fr with
    | none=>
     have hcr:=h2 rfl;subst hcr;have hrun:=hrun zv false rfl;have hop:(execOp ev o).run P w = .ok (.value (if ok then .tuple #[zv,.bool false] else zv)) w:=by simp only[execOp,ho,dP,hrun,dY,dR]
     refine⟨_,hop,?_⟩
     cases ok with
     | true=>exact Xv (hzr φ) false
     | false=>exact hzr φ
    | some p=>
     obtain⟨i',v'⟩:=p;obtain⟨cv,m,rfl,h5,_,_,_⟩:=h3 i' v' rfl;have hrun:=hrun cv true rfl;have hop:(execOp ev o).run P w = .ok (.value (if ok then .tuple #[cv,.bool true] else cv)) w:=by simp only[execOp,ho,dP,hrun,dY,dR]
     refine⟨_,hop,?_⟩
     cases ok with
     | true=>exact Xv h5 true
     | false=>exact h5
   cases hs
  cases hs
 cases hs
def aputD (P:Program) (h:AHeap) (t:TypeId) (x key val:AV):Option AHeap:=
  match Xc P t,x with
  | some (kt,_),.mp b=>match h.get b with
    | some (.obj F (.dmap es))=>if Zp P kt key=true then
        (Ze P kt key es).map fun r=>h.set b (.obj F (.dmap (match r with|some (i,_)=>es.set i (key,val)|none=>es ++ [(key,val)])))
      else none
    | _=>none
  | _,_=>none
theorem WW {P:Program} {ρ:Operand→AV} {o:Oper} {h h':AHeap} {t:TypeId} {x ix y:Operand} (ho:o.op = .mapUpdate t x ix y) (hs:aputD P h t (ρ x) (ρ ix) (ρ y)=some h'):StepS P ρ o h (.tup []) h':=by
 unfold aputD at hs;split at hs
 ·rename_i kt et b hm hρ;split at hs
  ·rename_i F es hg;split at hs
   ·rename_i hkey;simp only[fG] at hs;obtain⟨fr,hf,rfl⟩:=hs;refine⟨HGrow.setT hg,?_⟩;intro φ a w K Q hfr r hops hk;have hx:=hops x aN;have hi:=hops ix aN;have hy:=hops y aN;have hu:=ZZ hm;rw[hρ] at hx;generalize hq:a.eval x=q at hx;cases hx;rename_i k i' z' hφ;obtain⟨ms,cl,h1,h2,h3⟩:=r.blk b k i' z' _ hφ hg aT;obtain⟨cr,g1,g2,g3⟩:=XM (P:=P) hkey hi w es ms.toList fr bH (fun j y m hy hm=>h3 j y m hy ax) hf;have hck:=Xk (P:=P) hkey hi false w;have hst:=J5 (P:=P) hkey hi w
    cases fr with
    | none=>
     have hcr:=g2 rfl;subst hcr;have hrun:(fY t (a.eval x) (a.eval ix) (a.eval y)).run P w = .ok () (Q8 w k (.map (ms.push {key:=a.eval ix,val:=a.eval y,born:=cl}) (cl+1))):=by
      simp only[fY,dP,run_underlying hu,dY,hq,dQ h1,hck,g1,dV _ h1];rfl
     have hop:(execOp a.eval o).run P w = .ok .skip (Q8 w k (.map (ms.push {key:=a.eval ix,val:=a.eval y,born:=cl}) (cl+1))):=by simp only[execOp,ho,dP,hrun,dY,dR]
     obtain⟨r',tr⟩:=r.setT hφ hg (.dmap (es ++ [(ρ ix,ρ y)])) (.map (ms.push {key:=a.eval ix,val:=a.eval y,born:=cl}) (cl+1)) (by
      intro w' hw';refine⟨ms.push {key:=a.eval ix,val:=a.eval y,born:=cl},cl+1,hw',by simp[h2],?_⟩;intro j p m hp hm;rw[List.getElem?_append] at hp;rw[Array.getElem?_push] at hm;split at hp;rename_i hj;rw[if_neg aA] at hm;exact h3 j p m hp hm;rename_i hj;have hj0:j=ms.size:=by
       have:=(dX.1 hp).1;simp at this; omega
      rw[if_pos hj0] at hm;cases hm;rw[show j - es.length=0 by omega] at hp;cases hp;exact⟨hi,hy⟩)
     exact Yj hop (hk φ _ _ tr r' (VRel.undef φ))
    | some p=>
     obtain⟨i,v⟩:=p;obtain⟨cv,m,rfl,g5,g6,g7,g8⟩:=g3 i v rfl;have hmi:ms[i]? = some m:=by simpa using g6
     have hrun:(fY t (a.eval x) (a.eval ix) (a.eval y)).run P w = .ok () (Q8 w k (.map (ms.modify i fun e=>{e with key:=a.eval ix,val:=a.eval y}) cl)):=by
      simp only[fY,dP,run_underlying hu,dY,hq,dQ h1,hck,g1,hmi,dZ,fQ,g7,hst,dV _ h1];rfl
     have hop:(execOp a.eval o).run P w = .ok .skip (Q8 w k (.map (ms.modify i fun e=>{e with key:=a.eval ix,val:=a.eval y}) cl)):=by simp only[execOp,ho,dP,hrun,dY,dR]
     obtain⟨r',tr⟩:=r.setT hφ hg (.dmap (es.set i (ρ ix,ρ y))) (.map (ms.modify i fun e=>{e with key:=a.eval ix,val:=a.eval y}) cl) (by
      intro w' hw';refine⟨ms.modify i fun e=>{e with key:=a.eval ix,val:=a.eval y},cl,hw',by simp[h2],?_⟩;intro j p m' hp hm;rw[List.getElem?_set] at hp;rw[Array.getElem?_modify] at hm;by_cases hij:i=j;subst hij;rw[if_pos rfl] at hp hm;rw[hmi] at hm;cases hm;split at hp;cases hp;exact⟨hi,hy⟩;cases hp;rw[if_neg hij] at hp hm;exact h3 j p m' hp hm)
     exact Yj hop (hk φ _ _ tr r' (VRel.undef φ))
   cases hs
  cases hs
 cases hs
theorem Ss {P : Program} {ρ : Operand → AV} {o : Oper} {h : AHeap} {t : TypeId} {p : TypeId × TypeId} {x : Operand} {es : List (AV × AV)} (ho : o.op = .call { callee := .builtin .len, args := #[x], argTypes := #[t] })
    (hm:Xc P t=some p) (hs:Uv h (ρ x)=some es):StepS P ρ o h (.int .i64 es.length) h:=by
 refine⟨HGrow.refl _,?_⟩;intro φ a w K Q hfr r hops hk;have hx:=hops x aV;have hu:=ZZ hm;have hrun:(fN #[t] o.type #[a.eval x]).run P w = .ok (.int .i64 es.length) w:=by
  unfold Uv at hs;split at hs;rename_i hρ;cases hs;rw[hρ] at hx;generalize hq:a.eval x=q at hx;cases hx;simp[fN,run_underlying hu,goInt];rename_i b hρ;rw[hρ] at hx;generalize hq:a.eval x=q at hx;cases hx;rename_i k i' z' hφ;split at hs;rename_i F es' hg;cases hs;obtain⟨ms,n,h1,h2,h3⟩:=r.blk b k i' z' _ hφ hg aT;simp[fN,run_underlying hu,goInt,dQ h1,h2];cases hs;cases hs
 have hop:(execOp a.eval o).run P w = .ok (.value (.int .i64 es.length)) w:=by
  simp[execOp,ho,resolve,invoke,builtin,hrun]
 exact wp_of_run hop (hk φ _ w (Trans.refl _ _ _) r (.int _ _))
def WJ (es : List (AV × AV)) : Option (Nat × AV) → List (AV × AV)
  | some (i,_)=>es.eraseIdx i
  | none=>es
theorem RI {P : Program} {ρ : Operand → AV} {o : Oper} {h : AHeap} {t t' : TypeId} {p : TypeId × TypeId} {x ix : Operand} {b F : Nat} {es : List (AV × AV)} {fr : Option (Nat × AV)} (ho : o.op = .call { callee := .builtin .delete, args := #[x, ix], argTypes := #[t, t'] })
    (hm:Xc P t=some p) (hρ : ρ x = .mp b) (hg:h.get b=some (.obj F (.dmap es))) (hkey:Zp P p.1 (ρ ix)=true) (hf:Ze P p.1 (ρ ix) es=some fr) :
    StepS P ρ o h (.tup []) (h.set b (.obj F (.dmap (WJ es fr)))):=by
 refine⟨HGrow.setT hg,?_⟩;intro φ a w K Q hfr r hops hk;have hx:=hops x aV;have hi:=hops ix aV;have hu:=ZZ hm;rw[hρ] at hx;generalize hq:a.eval x=q at hx;cases hx;rename_i k i' z' hφ;obtain⟨ms,cl,h1,h2,h3⟩:=r.blk b k i' z' _ hφ hg aT;obtain⟨cr,g1,g2,g3⟩:=XM (P:=P) hkey hi w es ms.toList fr bH (fun j y m hy hm=>h3 j y m hy ax) hf;have hck:=Xk (P:=P) hkey hi ms.isEmpty w
 cases fr with
 | none=>
  have hcr:=g2 rfl;subst hcr;have hrun:(fB #[t,t'] o.type #[a.eval x,a.eval ix]).run P w = .ok (.tuple #[]) (Q8 w k (.map ms cl)):=by
   simp only[fB,dP,run_underlying hu,dY,fJ,fD,fF,hq,dQ h1,hck,g1,dV _ h1];rfl
  have hop:(execOp a.eval o).run P w = .ok (.value (.tuple #[])) (Q8 w k (.map ms cl)):=by
   simp[execOp,ho,resolve,invoke,builtin,hrun]
  obtain⟨r',tr⟩:=r.setT hφ hg (.dmap es) (.map ms cl) (fun w' hw'=>⟨ms,cl,hw',h2,h3⟩);exact wp_of_run hop (hk φ _ _ tr r' (VRel.undef φ))
 | some p=>
  obtain⟨i,v⟩:=p;obtain⟨cv,m,rfl,g5,g6,g7,g8⟩:=g3 i v rfl;have hrun:(fB #[t,t'] o.type #[a.eval x,a.eval ix]).run P w = .ok (.tuple #[]) (Q8 w k (.map (ms.eraseIdxIfInBounds i) cl)):=by
   simp only[fB,dP,run_underlying hu,dY,fJ,fD,fF,hq,dQ h1,hck,g1,dV _ h1];rfl
  have hop:(execOp a.eval o).run P w = .ok (.value (.tuple #[])) (Q8 w k (.map (ms.eraseIdxIfInBounds i) cl)):=by
   simp[execOp,ho,resolve,invoke,builtin,hrun]
  obtain⟨r',tr⟩:=r.setT hφ hg (.dmap (es.eraseIdx i)) (.map (ms.eraseIdxIfInBounds i) cl) (by
   intro w' hw';have hlt:i<ms.toList.length:=(dX.1 g6).1;have hlt':i<ms.size:=by simpa using hlt
   have htl:(ms.eraseIdxIfInBounds i).toList=ms.toList.eraseIdx i:=by
    unfold Array.eraseIdxIfInBounds;rw[dif_pos hlt'];exact Array.toList_eraseIdx
   have hsz:(ms.eraseIdxIfInBounds i).size=ms.size - 1:=by
    rw[←Array.length_toList,htl,fK,if_pos hlt];simp
   refine⟨ms.eraseIdxIfInBounds i,cl,hw',?_,?_⟩;rw[hsz,fK,if_pos aA,h2];intro j y m' hy hm;rw[←Array.getElem?_toList,htl,fH] at hm;rw[fH] at hy;split at hy;rename_i hj; rw[if_pos hj] at hm; exact h3 j y m' hy ax;rename_i hj; rw[if_neg hj] at hm; exact h3 (j+1) y m' hy ax)
  exact wp_of_run hop (hk φ _ _ tr r' (VRel.undef φ))
abbrev dmapO (v:AV) (es:List (AV × AV)):Obj:=⟨v,0,Thing.enc (.dmap es),false⟩
def RdD (h:AHeap) (v:AV) (es:List (AV × AV)):Prop:=∃ b F,v = .mp b∧h.get b=some (.obj F (.dmap es))
theorem RdD.ext {h0 h:AHeap} (k:Keeps h0 h) {v:AV} {es:List (AV × AV)} (hr:RdD h0 v es):RdD h v es:=let⟨b,F,hv,hg⟩:=hr; ⟨b,F,hv,k.get_some hg⟩
theorem Sf {es es':List (AV × AV)} (h:Thing.enc (.dmap es)=Thing.enc (.dmap es')):es=es':=by
 simp only[Thing.enc,List.cons.injEq,true_and] at h;exact UP h
theorem Mu.dmap {lo:Nat} {h:AHeap} {F:Option Nat} {v:AV} {es:List (AV × AV)} (hv:Zr v) (hm:Mu lo h F (dmapO v es)):∃ b G f,F=some G∧lo≤b∧v = .mp b∧h.get b=some (.obj G (.dmap es))∧h.fam G=some f:=by
 obtain⟨b0,rfl⟩:=hv
 cases F with
 | none=>cases hm.1
 | some G=>
  rcases hm with ⟨b,off,p,cs,f,_,hw,_⟩|⟨b,x,f,h1,h2,h3,h4,h5,h6⟩
  rcases hw with ⟨_,_,hw,_⟩|⟨_,hw⟩ <;> cases hw
  ·cases x with
   | walk s pos=>cases h2
   | mwalk _ _ _=>cases h2
   | gone=>cases h2
   | map es'=>cases es' <;> simp[Thing.enc] at h6
   | dmap es'=>
    simp only[Thing.at,AV.mp.injEq] at h2;subst h2;have:=Sf h6;subst this;exact⟨b0,G,f,rfl,h1,rfl,h4,h5⟩
theorem St.rdD {h0 h:AHeap} {objs:List Obj} (st:St h0 h objs) (k:Nat) {v:AV} {es:List (AV × AV)} (hk:objs[k]? = some (dmapO v es)) (hv:Zr v):RdD h v es:=by
 obtain⟨_,fs,h1,h2,_⟩:=st;have hlt:k<fs.length:=by rw[h1]; exact(dX.1 hk).1
 obtain⟨b,G,f,_,_,h3,h4,_⟩:=(h2 k _ _ hk (List.getElem?_eq_getElem hlt)).dmap hv;exact⟨b,G,h3,h4⟩
theorem RdD.ents {h:AHeap} {v:AV} {es:List (AV × AV)} (hr:RdD h v es):Uv h v=some es:=by
 obtain⟨b,F,rfl,hg⟩:=hr;simp only[Uv,hg]
theorem St.setD {h0 h:AHeap} {objs:List Obj} (st:St h0 h objs) {i b G:Nat} {es es':List (AV × AV)} (hk:objs[i]? = some (dmapO (.mp b) es)) (hg:h.get b=some (.obj G (.dmap es))):St h0 (h.set b (.obj G (.dmap es'))) (objs.set i (dmapO (.mp b) es')):=by
 refine St.setT (x:=.dmap es) (x':=.dmap es') st hk (fun _=>rfl) rfl hg ?_;intro F hm;obtain⟨b',G',f,hF,hlo,hb',hg',hf⟩:=hm.dmap ⟨b,rfl⟩;cases hb';rw[hg] at hg'; cases hg';exact⟨hF,hlo,f,hf⟩
section maps
variable {κ ν:Type} [DecidableEq κ]
def Jv : List (κ × ν) → κ → List (κ × ν)
  | [],_=>[]
  | p::l,a=>if a=p.1 then l else p::Jv l a
theorem mdel_ent {P : Program} {kt : TypeId} {kf : κ → AV} {vf : ν → AV} [hk : KeyT P kt kf] (l : List (κ × ν)) (a : κ) :
    ∃ r,Ze P kt (kf a) (entL kf vf l)=some r∧WJ (entL kf vf l) r=entL kf vf (Jv l a):=by
 induction l with
 | nil=>exact⟨none,rfl,rfl⟩
 | cons p l ih=>
  obtain⟨r,h1,h3⟩:=ih;by_cases h:a=p.1;refine⟨some (0,vf p.2),?_,?_⟩;simp only[entL,fE,Ze,hk.eq,h,decide_true];simp[Jv,h,WJ]
  ·refine⟨r.map fun q=>(q.1+1,q.2),?_,?_⟩;have h1':Ze P kt (kf a) (List.map (fun p=>(kf p.1,vf p.2)) l)=some r:=h1;simp only[entL,fE,Ze,hk.eq,h,decide_false,h1',dZ]
   ·simp only[Jv,if_neg h]
    cases r with
    | none=>simp only[Option.map_none,WJ] at h3⊢; simp only[entL,fE] at h3⊢; rw[←h3]
    | some q=>simp only[dZ,WJ] at h3⊢; simp only[entL,fE,List.eraseIdx_cons_succ] at h3⊢; rw[h3]
variable {P:Program} {n:Nat} {ops:Array Oper} {ex:List Nat} {Q:KF→AHeap→Prop} {k:Nat} {os:List Oper} {K:KF} {h h0:AHeap} {d:Nat} {ty:TypeId} {pos:String} {after:Array Edge} {objs:List Obj}
theorem KOps.makeMapD {t:TypeId} (st:St h0 h objs) (hex:ex.contains k=false) (hk:∀ v h',Zr v→St h0 h' (dmapO v []::objs)→KOps P n ops ex Q (k+1) os ((d,v)::K) h'):KOps P n ops ex Q k (⟨some d,.makeMap t none,ty,pos,after,none⟩::os) K h:=
  KOps.chainS rfl hex (TK rfl) (hk _ _ ⟨_,rfl⟩ (St.allocT st (.dmap [])))
theorem RdD.look {t kt : TypeId} {z : AV} {kf : κ → AV} {vf : ν → AV} {l : List (κ × ν)} {v : AV} [ht : MpT P t kt z] [hkt : KeyT P kt kf] (hr : RdD h v (entL kf vf l)) (a : κ) (ok : Bool) :
    Wv P h t v (kf a) ok=some (match OE l a with|some w=>if ok then .tup [vf w,.bool true] else vf w|none=>if ok then .tup [z,.bool false] else z):=by
 obtain⟨et,h1,h2⟩:=ht.mp;obtain⟨r,h3,h4,-⟩:=YK (P:=P) (kt:=kt) (kf:=kf) (vf:=vf) l a;simp only[Wv,h1,hr.ents,hkt.ok,if_true,h3,h2]
 cases r with
 | none=>
  cases hm:OE l a with
  | none=>rfl
  | some w=>rw[hm] at h4; cases h4
 | some q=>
  cases hm:OE l a with
  | none=>rw[hm] at h4; cases h4
  | some w=>rw[hm] at h4; simp only[dZ,Option.some.injEq] at h4; obtain⟨q1,q2⟩:=q; simp only at h4; subst h4; rfl
theorem KOps.lookD {t kt : TypeId} {z : AV} {kf : κ → AV} {vf : ν → AV} {l : List (κ × ν)} {v : AV} {x ix : Operand} {a : κ} [hx : EvK h.globs n K x v] (hi : KK h.globs n K ix = kf a) [ht : MpT P t kt z] [hkt : KeyT P kt kf] (hr : RdD h v (entL kf vf l))
    (hk:KOps P n ops ex Q (k+1) os ((d,match OE l a with|some w=>vf w|none=>z)::K) h):KOps P n ops ex Q k (⟨some d,.lookup t x ix false,ty,pos,after,none⟩::os) K h:=by
 refine KOps.readS rfl (Sr rfl ?_) hk;rw[hx.eq,hi,hr.look]
 cases OE l a <;> rfl
theorem KOps.lookDS {t kt : TypeId} {z : AV} {kf : κ → AV} {vf : ν → AV} {l : List (κ × ν)} {v : AV} {x ix : Operand} {a : κ} {w : ν} [hx : EvK h.globs n K x v] (hi : KK h.globs n K ix = kf a) [ht : MpT P t kt z] [hkt : KeyT P kt kf] (hr : RdD h v (entL kf vf l)) (hm : OE l a = some w)
    (hk:KOps P n ops ex Q (k+1) os ((d,vf w)::K) h):KOps P n ops ex Q k (⟨some d,.lookup t x ix false,ty,pos,after,none⟩::os) K h:=by
 refine KOps.lookD hi hr ?_;rw[hm]; exact hk
theorem KOps.lookDN {t kt : TypeId} {z : AV} {kf : κ → AV} {vf : ν → AV} {l : List (κ × ν)} {v : AV} {x ix : Operand} {a : κ} [hx : EvK h.globs n K x v] (hi : KK h.globs n K ix = kf a) [ht : MpT P t kt z] [hkt : KeyT P kt kf] (hr : RdD h v (entL kf vf l)) (hm : OE l a = none)
    (hk:KOps P n ops ex Q (k+1) os ((d,z)::K) h):KOps P n ops ex Q k (⟨some d,.lookup t x ix false,ty,pos,after,none⟩::os) K h:=by
 refine KOps.lookD hi hr ?_;rw[hm]; exact hk
theorem KOps.putD {t kt : TypeId} {z : AV} {kf : κ → AV} {vf : ν → AV} {l : List (κ × ν)} {v u : AV} {x ix y : Operand} {a : κ} {b : ν} {i : Nat} [hx : EvK h.globs n K x v] (hi : KK h.globs n K ix = kf a) [hy : EvK h.globs n K y u] (hu : u = vf b) [ht : MpT P t kt z] [hkt : KeyT P kt kf]
    (st:St h0 h objs) (hv:Zr v) (hk':objs[i]? = some (dmapO v (entL kf vf l))) (hex:ex.contains k=false)
    (hk:∀ h',St h0 h' (objs.set i (dmapO v (entL kf vf (Qn l a b))))→KOps P n ops ex Q (k+1) os K h'):KOps P n ops ex Q k (⟨none,.mapUpdate t x ix y,ty,pos,after,none⟩::os) K h:=by
 obtain⟨bb,G,rfl,hg⟩:=St.rdD st i hk' hv;obtain⟨et,h1,h2⟩:=ht.mp;obtain⟨r,h3,-,h4⟩:=YK (P:=P) (kt:=kt) (kf:=kf) (vf:=vf) l a;have hput:aputD P h t (.mp bb) (kf a) (vf b)=some (h.set bb (.obj G (.dmap (entL kf vf (Qn l a b))))):=by
  simp only[aputD,h1,hg,hkt.ok,if_true,h3,dZ];have h5:=h4 b
  cases r with
  | none=>simp only at h5⊢; rw[h5]
  | some q=>simp only at h5⊢; rw[h5]
 refine Zn (v:=.tup []) (h':=h.set bb (.obj G (.dmap (entL kf vf (Qn l a b))))) rfl hex (WW rfl ?_) (hk _ (St.setD st hk' hg));rw[hx.eq,hi,hy.eq,hu]; exact hput
theorem KOps.lenD {t kt : TypeId} {z : AV} {es : List (AV × AV)} {v : AV} {x : Operand} [hx : EvK h.globs n K x v] [ht : MpT P t kt z] (hr : RdD h v es) (hk : KOps P n ops TXT Q (k + 1) os ((d, .int .i64 es.length) :: K) h) (hlt : Nat.beq k 1000000 = false := by rfl) :
    KOps P n ops TXT Q k (⟨some d,.call {callee:=.builtin .len,args:=#[x],argTypes:=#[t]},ty,pos,after,none⟩::os) K h:=by
 obtain⟨et,h1,h2⟩:=ht.mp;exact Zv (Ss rfl h1 (by rw[hx.eq]; exact hr.ents)) hk hlt
theorem KOps.delD0 {t t' kt : TypeId} {z : AV} {kf : κ → AV} {vf : ν → AV} {l : List (κ × ν)} {v : AV} {x ix : Operand} {a : κ} {i : Nat} [hx : EvK h.globs n K x v] (hi : KK h.globs n K ix = kf a) [ht : MpT P t kt z] [hkt : KeyT P kt kf]
    (st:St h0 h objs) (hv:Zr v) (hk':objs[i]? = some (dmapO v (entL kf vf l))) (hex:ex.contains k=false)
    (hk:∀ h',St h0 h' (objs.set i (dmapO v (entL kf vf (Jv l a))))→KOps P n ops ex Q (k+1) os K h'):KOps P n ops ex Q k (⟨none,.call {callee:=.builtin .delete,args:=#[x,ix],argTypes:=#[t,t']},ty,pos,after,none⟩::os) K h:=by
 obtain⟨bb,G,rfl,hg⟩:=St.rdD st i hk' hv;obtain⟨et,h1,h2⟩:=ht.mp;obtain⟨r,h3,h4⟩:=mdel_ent (P:=P) (kt:=kt) (kf:=kf) (vf:=vf) l a;refine Zn rfl hex (RI (p:=(kt,et)) rfl h1 hx.eq hg (by rw[hi]; exact hkt.ok a) (by rw[hi]; exact h3)) (hk _ ?_);rw[h4];exact St.setD st hk' hg
end maps
end Go.Am
namespace Go.Am
theorem Ev.stepI {P : Program} {ρ : Operand → AV} {o : Oper} {h h' : AHeap} {f : FuncId} {t : TypeId} {x r : AV} {recv : Operand} {name : String} {args : Array Operand} {tys : Array TypeId}
    (ho:o.op = .call {callee:=.invoke recv name,args:=args,argTypes:=tys}) (hg : ρ recv = .ifc t x) (hm:YF P t name=some f) (hev:Ev P f (x::args.toList.map ρ) h r h'):SemStep P ρ o h r h':=by
 have hc:clsOf o.op = .chain:=by rw[ho]; rfl
 unfold SemStep;rw[hc];obtain⟨⟨fn,hf,hn,hb⟩,hgrow,hcalls⟩:=hev;refine⟨hgrow,?_⟩;intro φ a w K Q hfr rr hops hk;have hgv:=hops recv aV;rw[hg] at hgv;generalize hgc:a.eval recv=cg at hgv
 cases hgv with|ifc _ _ v hv=>
 have hmr:=methA_run hm v w;have hrun:(execOp a.eval o).run P w = .ok (.enter f ((v::args.toList.map a.eval).toArray)) w:=by
  have he:(#[a.eval recv] ++ args.map a.eval).extract 1 (#[a.eval recv] ++ args.map a.eval).size=args.map a.eval:=by
   apply Array.ext';simp only[Array.toList_extract,Array.toList_append,Array.toList_map,List.extract_eq_take_drop,dW,dU,List.drop_succ_cons,List.drop_zero,Array.size_append,Array.size_map];refine List.take_of_length_le ?_;simp
  have h0:(#[a.eval recv] ++ args.map a.eval)[0]? = some (.iface t v):=by
   rw[hgc,Array.getElem?_append_left Nat.zero_lt_one];rfl
  have hcm:(callMethod (.iface t v) name (args.map a.eval)).run P w = .ok (.enter f (#[v] ++ args.map a.eval)) w:=by
   simp only[callMethod,dP,run_program,dY,hmr,callFunc,hf,hn,hb,Bool.false_eq_true,if_false,dR]
  simp only[execOp,ho,resolve,dP,dR,dY,invoke,he,h0,hcm];congr 2;simp
 unfold Oper.wp;rw[hrun];refine(hcalls φ w _ hfr rr ?_).mono ?_
 ·refine VRels.append (l:=[x]) (cs:=[v]) ⟨rfl,?_⟩ ⟨by simp,?_⟩
  ·intro j y u hy hu
   cases j with
   | zero=>cases hy; cases hu; exact hv
   | succ j=>simp at hy
  intro j y u hy hu;rw[List.getElem?_map,fG] at hy hu;obtain⟨q,hq,rfl⟩:=hy;obtain⟨q',hq',rfl⟩:=hu;rw[hq] at hq'; cases hq';refine hops q ?_;simp[ho,Op.operands,Call.operands];exact .inr (Array.mem_of_getElem? (by simpa using hq))
 rintro e w' ⟨v,φ',rfl,t,r',hv⟩;exact hk φ' v w' t r' hv
section
variable {P:Program} {n:Nat} {ops:Array Oper} {ex:List Nat} {Q:KF→AHeap→Prop} {k:Nat} {os:List Oper} {K:KF} {h:AHeap} {d:Nat} {ty:TypeId} {pos:String} {after:Array Edge}
theorem KOps.callI {f : FuncId} {t : TypeId} {x : AV} {recv : Operand} {name : String} {l : List Operand} {vs : List AV} {tys : Array TypeId} {R : AV → AHeap → Prop} [hg : EvK h.globs n K recv (.ifc t x)] [hl : EvKs h.globs n K l vs] (hx : ex.contains k = false) (hm : YF P t name = some f)
    (hc:ACalls P f (x::vs) h R) (hk:∀ r h',R r h'→KOps P n ops ex Q (k+1) os ((d,r)::K) h'):KOps P n ops ex Q k (⟨some d,.call {callee:=.invoke recv name,args:=List.toArray l,argTypes:=tys},ty,pos,after,none⟩::os) K h:=by
 obtain⟨r,h',hev,hR⟩:=hc;refine QZ (v:=r) (h':=h') ?_ (fun hc=>by rw[hx] at hc; cases hc) (hk r h' hR);refine Ev.stepI (recv:=recv) (args:=List.toArray l) (tys:=tys) rfl hg.eq hm ?_;rw[List.toList_toArray,hl.eq];exact hev
instance instNili (globs:List Nat) (n:Nat) (K:KF):EvK globs n K (.const .nilIface) .nili:=⟨rfl⟩
theorem Kq {t:TypeId} {x:Operand} {v:AV} [hx:EvK h.globs n K x v] (hc:Jn P t=true) (hk:KOps P n ops ex Q (k+1) os ((d,.ifc t v)::K) h):KOps P n ops ex Q k (⟨some d,.makeInterface t x,ty,pos,after,none⟩::os) K h:=by
 refine O9 (v:=.ifc t v) rfl ?_ hk;simp only[apure];rw[hx.eq,if_pos hc]
theorem KOps.makeFmeth {x:Operand} {v:AV} {name:String} [hx:EvK h.globs n K x v] (hk:KOps P n ops ex Q (k+1) os ((d,.fmeth name v)::K) h):KOps P n ops ex Q k (⟨some d,.makeFunc (.method name) #[x] #[],ty,pos,after,none⟩::os) K h:=by
 refine O9 (v:=.fmeth name v) rfl ?_ hk;show some (AV.fmeth name (KK h.globs n K x))=_;rw[hx.eq]
theorem KOps.nilMeth {x:Operand} {name:String} {t:TypeId} {y:AV} [hx:EvK h.globs n K x (.fmeth name (.ifc t y))] (hm:(YF P t name).isSome=true) (hk:KOps P n ops ex Q (k+1) os ((d,.fmeth name (.ifc t y))::K) h):KOps P n ops ex Q k (⟨some d,.nilCheck x,ty,pos,after,none⟩::os) K h:=by
 refine O9 (v:=.fmeth name (.ifc t y)) rfl ?_ hk;simp only[apure];rw[hx.eq];simp only[hm,if_true]
end
end Go.Am
