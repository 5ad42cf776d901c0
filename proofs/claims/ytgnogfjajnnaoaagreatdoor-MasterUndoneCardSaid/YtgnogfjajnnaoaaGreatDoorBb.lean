/-
  Layer 01: sums over rooms, rooms of lists: contracts.
  Conditions: none.
-/
import Derived.Test.YtgnogfjajnnaoaaGreatDoorSPj
import Derived.Test.YtgnogfjajnnaoaaGreatDoorSPd
set_option maxRecDepth 99999
set_option maxHeartbeats 4000000
namespace Go.Am
theorem and8:∀ s:Nat,s<64→∀ i:Nat,i<6→bits .and .u8 ((s:Int).fdiv (2 ^ Min.min (i:Int).toNat (IntKind.bits .u8))) 1=if s.testBit i then 1 else 0:=by decide +kernel
theorem and_in8 {s:Nat} {x:Int} (hs:s<64) (h0 : 0≤x) (h1:x<6):decide (bits .and .u8 ((s:Int).fdiv (2 ^ Min.min x.toNat (IntKind.bits .u8))) 1=1)=inS s x:=by
 have:=and8 s hs x.toNat (by omega);rw[show((x.toNat:Nat):Int).toNat=x.toNat by omega] at this;rw[this];unfold inS
 cases s.testBit x.toNat <;> rfl
theorem Xy {h:AHeap} {s:Nat} {x:Int} (hs:s<64) (h0 : 0≤x) (h1:x<6):ACalls Go.Proofs.Tryz.prog 124 [.int .u8 (s:Int),.int .i64 x] h (fun q h'=>q = .bool (inS s x)∧h=h'):=by
 refine OI 10 [.tmp 4] Go.Proofs.Tryz.func124 rfl (by decide) rfl rfl (Nat.le_of_ble_eq_true rfl) ?_;show KA _ 10 _ _ [(0,.int .u8 (s:Int)),(1,.int .i64 x)] _;refine Oa [0,1] ?_;refine Oc ?_;refine KOps.shr (by first|omega|(simp; omega)) ?_;refine KOps.bits (by simp) ?_;refine KOps.eql ?_;rw[and_in8 hs h0 h1];refine Oa [4] ?_;refine Oj ?_;exact⟨rfl,rfl⟩
theorem sums_c {h:AHeap} {rm w:Int} {vW:AV} {ws:List W} {s:Nat} (hv:Rd h vW 4 (flr wc ws)) (hB:BOk rm ws) (hs:s<64):ACalls Go.Proofs.Tryz.prog 138 [.agg [.int .i64 rm,vW],.int .u8 (s:Int),.int .i64 w] h (fun q h'=>q = .tup [.int .i64 (ZT ws s w ws.length),.int .i64 (ZU ws s w ws.length)]∧Keeps h h'):=by
 refine OI 49 [.tmp 6,.tmp 7] Go.Proofs.Tryz.func138 rfl (by decide) rfl rfl (Nat.le_of_ble_eq_true rfl) ?_;have hS:=St.refl h;have hvo:vW.one=true:=hv.one;have hwl:=hB.len;have hr6:=hB.r6;show KA _ 49 _ _ [(0,.agg [.int .i64 rm,vW]),(1,.int .u8 (s:Int)),(2,.int .i64 w)] _;refine Ov ?_;refine O2 hS (by first|rfl|(simp[AV.one]; done)|(simp[AV.one]; assumption)|(simp[AV.one, *]; done)) ?_;intro p3 h' hp3 hS;refine O1 [1,2,3,6,7] ?_;refine Ot ?_;refine Ov ?_;refine Ob hp3 ?_;intro p10 hp10;refine Of hp10 (hS.rd 0 rfl) rfl ?_;refine QS KL (Rd.ext hS.keeps hv) ?_;refine O1 [1,2,6,7,11,12,13] ?_;refine Oy ?_;refine Kd (X:=Nat) (fun i=>[(1,.int .u8 (s:Int)),(2,.int .i64 w),(6,.int .i64 (ZT ws s w i)),(7,.int .i64 (ZU ws s w i)),(11,vW),(12,.int .i64 (ws.length:Int)),(13,.int .i64 (i:Int))]) (fun i h'=>i≤ws.length∧St h h' [⟨p3,0,[.int .i64 rm,vW],true⟩]) (fun i=>ws.length - i) 0 ?_ ?_
 ·exact⟨Nat.zero_le _,hS⟩
 rintro i h2 ⟨hi,hS⟩;refine Ov ?_;refine QW ?_;refine Oh ?_;refine Od ?_;refine Ot ?_;refine Om ?_ ?_
 ·intro c14;refine Ox [1,2,6,7,11,12,13] ?_;refine Ot ?_;refine Oy ?_;refine Oz ?_;refine Qa KL (Rd.ext hS.keeps hv) (j:=i) rfl (by first|omega|(simp; omega)) ?_;intro p16 hp16;refine Qb KL (by decide) hp16 (Rd.ext hS.keeps hv) (by first|omega|(simp; omega)) ?_;refine Ks hS ?_;intro p9 h' hp9 hS;refine OC ?_;refine Kv hS rfl (i:=0) rfl hp9 (by first|rfl|(simp[AV.one]; done)|(simp[AV.one]; assumption)|(simp[AV.one, *]; done)) (by rfl) (by rfl) (by decide) ?_;intro h' hS;simp only[List.set_cons_zero,List.set_cons_succ,Nat.zero_add] at hS;refine Oo [1,2,6,7,8,9,11,12,13] ?_;refine Oy ?_;refine Ot ?_;refine OS [7,11] mixed rfl (by kernel_rfl) ?_;have hwi:=hB.way i (by omega);have hwf0:=hwi.f0;have hwf1:=hwi.f1;have hwt0:=hwi.t0;have hwt1:=hwi.t1;have hwl0:=hwi.l0;have hwm1:=hwi.m1;have hwlm:=hwi.lm;have hsb:=JJ hB s w i (by omega);refine Oz ?_;refine KOps.eql ?_;refine Og ?_;refine OD (dj:=26) rfl rfl false true rfl ?_ ?_
  ·intro g26;have g26:=of_decide_eq_false g26;refine Oz ?_;refine Ob hp9 ?_;intro p28 hp28;refine Oe (dj:=26) rfl rfl ?_;refine Of hp28 (hS.rd 0 rfl) rfl ?_;refine Oe (dj:=26) rfl rfl ?_;refine Ko (by intro _ _ hr; exact hr.2 ▸ Keeps.refl _) (Xy (by first|omega|(simp; omega)) (by first|omega|(simp; omega)) (by first|omega|(simp; omega))) ?_;rintro _ _ ⟨rfl,rfl⟩;refine Oz ?_;refine Ob hp9 ?_;intro p32 hp32;refine Oe (dj:=26) rfl rfl ?_;refine Of hp32 (hS.rd 0 rfl) rfl ?_;refine Oe (dj:=26) rfl rfl ?_;refine Ko (by intro _ _ hr; exact hr.2 ▸ Keeps.refl _) (Xy (by first|omega|(simp; omega)) (by first|omega|(simp; omega)) (by first|omega|(simp; omega))) ?_;rintro _ _ ⟨rfl,rfl⟩;refine Oe (dj:=26) rfl rfl ?_;refine KOps.eqlB (by kernel_rfl) ?_;refine OG ?_;refine O1 [1,2,6,7,9,11,12,13,22,27,28,29,30,31,32,33,34,35] ?_;refine Ki ?_ ?_
   ·intro c22;have hc:lvs (ws.getD i default) s=false∧ens (ws.getD i default) s=false:=by
     rw[lvs_ens] at c22; simpa using c22
    refine Ow ?_;refine Ol ?_;refine Ol ?_;refine Od ?_;refine Oq [1,2,6,7,11,12,13,27,28,29,30,31,32,33,34,35] ?_;refine Ke rfl ?_;refine KX (by first|omega|(simp; omega)) (by first|omega|(simp; omega)) ?_;refine Og ?_;refine Oh ?_;exact KW (i+1) (by repeat (first|exact Sub.nil _|refine Sub.cons Look.eq ?_|refine Sub.cons (Eq.trans Look.eq (congrArg (AV.int _) (by first|omega|(dsimp only; omega)))) ?_|refine Sub.cons (Eq.trans Look.eq (congrArg (AV.int _) (by rw[ZT,if_neg (fun h0=>by rw[hc.1] at h0; exact absurd h0.2 (by decide))] <;> omega))) ?_|refine Sub.cons (Eq.trans Look.eq (congrArg (AV.int _) (by rw[ZU,if_neg (fun h0=>by rw[hc.2] at h0; exact absurd h0.2 (by decide))] <;> omega))) ?_)) ⟨by omega,St.tail hS⟩ (by omega)
   ·intro c22;refine Oz ?_;refine Ob hp9 ?_;intro p39 hp39;refine Of hp39 (hS.rd 0 rfl) rfl ?_;refine Oi rfl (Xy (by first|omega|(simp; omega)) (by first|omega|(simp; omega)) (by first|omega|(simp; omega))) ?_;rintro _ _ ⟨rfl,rfl⟩;refine O1 [1,2,6,7,9,11,12,13,27,28,29,30,31,32,33,34,35,37] ?_;refine Ki ?_ ?_
    ·intro c37;have hc:lvs (ws.getD i default) s=true∧ens (ws.getD i default) s=false:=by
      unfold lvs ens; rw[c37] at c22⊢; cases h9:inS s (ws.getD i default).t <;> simp_all
     refine Oz ?_;refine Ob hp9 ?_;intro p43 hp43;refine Of hp43 (hS.rd 0 rfl) rfl ?_;refine KX (by first|omega|(simp; omega)) (by first|omega|(simp; omega)) ?_;refine OC ?_;refine Oh ?_;refine Ol ?_;refine Ol ?_;refine Od ?_;refine Oq [1,2,6,7,11,12,13,27,28,29,30,31,32,33,34,35] ?_;refine Ke rfl ?_;refine KX (by first|omega|(simp; omega)) (by first|omega|(simp; omega)) ?_;refine Og ?_;refine Oh ?_;exact KW (i+1) (by repeat (first|exact Sub.nil _|refine Sub.cons Look.eq ?_|refine Sub.cons (Eq.trans Look.eq (congrArg (AV.int _) (by first|omega|(dsimp only; omega)))) ?_|refine Sub.cons (Eq.trans Look.eq (congrArg (AV.int _) (by rw[ZT,if_pos ⟨g26,hc.1⟩] <;> omega))) ?_|refine Sub.cons (Eq.trans Look.eq (congrArg (AV.int _) (by rw[ZU,if_neg (fun h0=>by rw[hc.2] at h0; exact absurd h0.2 (by decide))] <;> omega))) ?_)) ⟨by omega,St.tail hS⟩ (by omega)
    ·intro c37;have hc:lvs (ws.getD i default) s=false∧ens (ws.getD i default) s=true:=by
      unfold lvs ens; rw[c37] at c22⊢; cases h9:inS s (ws.getD i default).t <;> simp_all
     refine Oz ?_;refine Ob hp9 ?_;intro p19 hp19;refine Of hp19 (hS.rd 0 rfl) rfl ?_;refine KX (by first|omega|(simp; omega)) (by first|omega|(simp; omega)) ?_;refine OC ?_;refine Oh ?_;refine Ol ?_;refine Ol ?_;refine Od ?_;refine Oq [1,2,6,7,11,12,13,27,28,29,30,31,32,33,34,35] ?_;refine Ke rfl ?_;refine KX (by first|omega|(simp; omega)) (by first|omega|(simp; omega)) ?_;refine Og ?_;refine Oh ?_;exact KW (i+1) (by repeat (first|exact Sub.nil _|refine Sub.cons Look.eq ?_|refine Sub.cons (Eq.trans Look.eq (congrArg (AV.int _) (by first|omega|(dsimp only; omega)))) ?_|refine Sub.cons (Eq.trans Look.eq (congrArg (AV.int _) (by rw[ZT,if_neg (fun h0=>by rw[hc.1] at h0; exact absurd h0.2 (by decide))] <;> omega))) ?_|refine Sub.cons (Eq.trans Look.eq (congrArg (AV.int _) (by rw[ZU,if_pos ⟨g26,hc.2⟩] <;> omega))) ?_)) ⟨by omega,St.tail hS⟩ (by omega)
  ·intro g26;have g26:=of_decide_eq_true g26;refine Oz ?_;refine KN ?_;refine O1 [1,2,6,7,9,11,12,13,22,27,28,29,30,31,32,33,34,35] ?_;refine Kz ?_;refine Ow ?_;refine Ol ?_;refine Ol ?_;refine Od ?_;refine Oq [1,2,6,7,11,12,13,27,28,29,30,31,32,33,34,35] ?_;refine Ke rfl ?_;refine KX (by first|omega|(simp; omega)) (by first|omega|(simp; omega)) ?_;refine Og ?_;refine Oh ?_;exact KW (i+1) (by repeat (first|exact Sub.nil _|refine Sub.cons Look.eq ?_|refine Sub.cons (Eq.trans Look.eq (congrArg (AV.int _) (by first|omega|(dsimp only; omega)))) ?_|refine Sub.cons (Eq.trans Look.eq (congrArg (AV.int _) (by rw[ZT,if_neg (fun h0=>h0.1 g26)] <;> omega))) ?_|refine Sub.cons (Eq.trans Look.eq (congrArg (AV.int _) (by rw[ZU,if_neg (fun h0=>h0.1 g26)] <;> omega))) ?_)) ⟨by omega,St.tail hS⟩ (by omega)
 ·intro c14;refine Kc ?_;refine OV ?_;refine O6 ?_;refine OZ ?_;refine Od ?_;refine Oq [6,7] ?_;refine O1 [6,7] ?_;refine Oj ?_;rw[show ws.length=i by omega];exact⟨rfl,hS.keeps⟩
end Go.Am
namespace Go.Am
theorem list_c {h:AHeap} {s:Nat} (hs:s<64):ACalls Go.Proofs.Tryz.prog 162 [.int .u8 (s:Int)] h (fun q h'=>St h h' [⟨q,1,ints (Kt s 6),true⟩]):=by
 refine OI 17 [.tmp 2] Go.Proofs.Tryz.func162 rfl (by decide) rfl rfl (Nat.le_of_ble_eq_true rfl) ?_;have hS:=St.refl h;show KA _ 17 _ _ [(0,.int .u8 (s:Int))] _;refine Oa [0] ?_;refine Oc ?_;refine Oh ?_;refine Od ?_;refine Oc ?_;refine Oh ?_;refine Od ?_;refine Oy ?_;refine Kd (X:=Nat × AV) (fun x=>[(0,.int .u8 (s:Int)),(3,x.2),(5,.int .i64 (x.1:Int))]) (fun x h'=>x.1≤6∧St h h' [⟨x.2,1,ints (Kt s x.1),true⟩]) (fun x=>6 - x.1) (0,.nils) ?_ ?_
 ·exact⟨Nat.zero_le _,St.nil hS 1⟩
 rintro⟨i,vo⟩ h2 ⟨hi,hS⟩;dsimp only at hi hS⊢;have hrl:=Xw s i;refine Oc ?_;refine Oh ?_;refine Od ?_;refine Ot ?_;refine Om ?_ ?_
 ·intro c6;refine Ox [0,3,5] ?_;refine Ot ?_;refine Oy ?_;refine Oa [0,3,4,5] ?_;refine Oc ?_;refine Oi rfl (Xy (by first|omega|(simp; omega)) (by first|omega|(simp; omega)) (by first|omega|(simp; omega))) ?_;rintro _ _ ⟨rfl,rfl⟩;refine Oo [0,3,4,5,10] ?_;refine Ki ?_ ?_
  ·intro c10;have hb:s.testBit i=true:=by unfold inS at c10; simpa using c10
   refine Oc ?_;refine OE hS rfl (by decide) rfl ?_;intro v13 h' hS;refine KOps.appendI hS (fun _=>rfl) (i:=0) rfl (by first|omega|(simp; omega)) ?_;intro r14 h' hr14 hS;refine OC ?_;refine Oh ?_;refine Ol ?_;refine Od ?_;refine Oq [0,3,5] ?_;refine Oc ?_;refine Oh ?_;rw[show Kt s i ++ [(i:Int)]=Kt s (i+1) by rw[Vw,if_pos hb]] at hS;exact lpN (i+1,r14) ⟨by dsimp only; omega,hS⟩ (by dsimp only; omega)
  ·intro c10;have hb:¬ s.testBit i=true:=by unfold inS at c10; simpa using c10
   refine Ow ?_;refine Ol ?_;refine Od ?_;refine Oq [0,3,5] ?_;refine Oc ?_;refine Oh ?_;rw[show Kt s i=Kt s (i+1) by rw[Vw,if_neg hb]] at hS;exact lpN (i+1,vo) ⟨by dsimp only; omega,hS⟩ (by dsimp only; omega)
 ·intro c6;refine Kc ?_;refine OV ?_;refine O6 ?_;refine OZ ?_;refine Od ?_;refine Oq [3] ?_;refine Oa [2] ?_;refine Oj ?_;rw[show i=6 by omega] at hS;exact hS
theorem isNaN_c {h:AHeap} {a:Int}:ACalls Go.Proofs.Tryz.prog 222 [.int .i64 a] h (fun q h'=>q = .bool false∧h=h'):=by
 refine OI 6 [.tmp 2] Go.Proofs.Tryz.func222 rfl (by decide) rfl rfl (Nat.le_of_ble_eq_true rfl) ?_;show KA _ 6 _ _ [(0,.int .i64 a)] _;refine Oa [0] ?_;refine Oa [2] ?_;refine Oj ?_;exact⟨by simp,rfl⟩
theorem compare_c {h:AHeap} {a b:Int}:ACalls Go.Proofs.Tryz.prog 197 [.int .i64 a,.int .i64 b] h (fun q h'=>q = .int .i64 (if a<b then -1 else if b<a then 1 else 0)∧h=h'):=by
  refine OI 20 [.tmp 4] Go.Proofs.Tryz.func197 rfl (by decide) rfl rfl (Nat.le_of_ble_eq_true rfl) ?_;show KA _ 20 _ _ [(0,.int .i64 a),(1,.int .i64 b)] _;refine Oa [0,1] ?_;refine Oc ?_;refine Oi rfl (isNaN_c) ?_;rintro _ _ ⟨rfl,rfl⟩;refine Oa [0,1,5] ?_;refine Oc ?_;refine Oi rfl (isNaN_c) ?_;rintro _ _ ⟨rfl,rfl⟩;refine Oa [0,1,5,6] ?_;refine Oa [0,1,6,11] ?_;refine OH ?_;refine Ox [0,1,6] ?_;refine Oa [0,1,13] ?_;refine OH ?_;refine Ox [0,1] ?_;refine Oa [0,1,16] ?_;refine Om ?_ ?_
  · intro c16;refine Oa [4] ?_;refine Oj ?_;exact⟨by rw[if_pos (by omega)],rfl⟩
  · intro c16;refine Ox [0,1] ?_;refine Oa [19] ?_;refine Om ?_ ?_
    · intro c19;refine Oa [4] ?_;refine Oj ?_;exact⟨by rw[if_neg (by omega),if_pos (by omega)],rfl⟩
    · intro c19;refine Ox [] ?_;refine Oc ?_;refine Oh ?_;refine Od ?_;refine Oj ?_;exact⟨by rw[if_neg (by omega),if_neg (by omega)],rfl⟩
theorem compares_c {h:AHeap} {v u:AV} {a b:List Int} (hv:Row h v a) (hu:Row h u b) (hla:a.length≤1000000) (hlab:a.length=b.length):ACalls Go.Proofs.Tryz.prog 163 [v,u] h (fun q h'=>(∃ c:Int,q = .int .i64 c∧(c<0↔XD a b=true))∧h=h'):=by
 refine OI 36 [.tmp 4] Go.Proofs.Tryz.func163 rfl (by decide) rfl rfl (Nat.le_of_ble_eq_true rfl) ?_;show KA _ 36 _ _ [(0,v),(1,u)] _;refine Oa [0,1] ?_;refine Oc ?_;refine OT hv ?_;refine Og ?_;refine Oh ?_;refine Od ?_;refine Oy ?_;refine Kd (X:=Nat) (fun i=>[(1,u),(0,v),(9,v),(10,.int .i64 (a.length:Int)),(11,.int .i64 (i:Int))]) (fun i h'=>h=h'∧i≤a.length∧∀ j,j<i→a.getD j 0=b.getD j 0) (fun i=>a.length - i) 0 ?_ ?_
 ·exact⟨rfl,Nat.zero_le _,fun j hj=>by omega⟩
 rintro i _ ⟨rfl,hi,hj⟩;refine Oc ?_;refine Oh ?_;refine Od ?_;refine Ot ?_;refine Om ?_ ?_
 ·intro c12;refine Ox [0,1,9,10,11] ?_;refine Ot ?_;refine Oy ?_;refine Oc ?_;refine Ou hv (j:=i) rfl (by first|omega|(simp; omega)) ?_;intro p14 hp14;refine O9 hp14 hv (by first|omega|(simp; omega)) ?_;refine Oa [0,1,5,6,9,10,11] ?_;refine Oc ?_;refine OT hu ?_;refine Oa [0,1,5,6,9,10,11,19] ?_;refine Om ?_ ?_
  ·intro c19;refine Oa [4] ?_;refine Oj ?_;exact absurd c19 (by omega)
  ·intro c19;refine Ox [0,1,5,6,9,10,11] ?_;refine Oc ?_;refine Ou hu (j:=i) rfl (by first|omega|(simp; omega)) ?_;intro p22 hp22;refine O9 hp22 hu (by first|omega|(simp; omega)) ?_;refine Oa [0,1,6,7,9,10,11] ?_;refine Oc ?_;refine Oi rfl (compare_c) ?_;rintro _ _ ⟨rfl,rfl⟩;refine Oa [0,1,8,9,10,11] ?_;refine Oa [0,1,8,9,10,11,28] ?_;refine O8 ?_ ?_
   ·intro c28;refine Oa [4] ?_;refine Oj ?_;refine⟨⟨_,rfl,?_⟩,rfl⟩;rw[befB_at hlab (i:=i) (by omega) hj (by intro h0; rw[h0] at c28; simp at c28),decide_eq_true_iff];split
    ·omega
    ·split <;> omega
   ·intro c28;refine Ow ?_;refine Ol ?_;refine Od ?_;refine Oq [0,1,9,10,11] ?_;refine Oc ?_;refine Oh ?_;refine lpN (i+1) ⟨rfl,by omega,?_⟩ (by omega);intro j hj2;rcases Nat.lt_succ_iff_lt_or_eq.1 hj2 with h3|rfl
    ·exact hj j h3
    ·split at c28 <;> (try split at c28) <;> omega
 ·intro c12;refine Kc ?_;refine OV ?_;refine O6 ?_;refine OZ ?_;refine Od ?_;refine Oq [0,1] ?_;refine Oc ?_;refine OT hv ?_;refine Og ?_;refine OT hu ?_;refine Oa [35] ?_;refine Om ?_ ?_
  ·intro c35;refine Oa [4] ?_;refine Oj ?_;exact absurd c35 (by omega)
  ·intro c35;refine Ox [] ?_;refine Oc ?_;refine Oh ?_;refine Od ?_;refine Oj ?_;refine⟨⟨_,rfl,?_⟩,rfl⟩;rw[befB_same hlab (fun j h3=>hj j (by omega))];simp
end Go.Am
namespace Go.Am
section
variable {P:Program} {n:Nat} {ops:Array Oper} {ex:List Nat} {Q:KF→AHeap→Prop} {k:Nat} {os:List Oper} {K:KF} {h:AHeap} {d:Nat} {ty:TypeId} {pos:String} {after:Array Edge}
theorem KOps.addK {t t':TypeId} {x y:Operand} {kd:IntKind} {a b:Int} [hx:EvK h.globs n K x (.int kd a)] [hy:EvK h.globs n K y (.int kd b)] (hw:kd.wrap (a+b)=a+b) (hk:KOps P n ops ex Q (k+1) os ((d,.int kd (a+b))::K) h):KOps P n ops ex Q k (⟨some d,.binOp .add t x y t',ty,pos,after,none⟩::os) K h:=
 Qk (.inr (.inr rfl)) (by rw[←hw]; rfl) hk
end
theorem add8:∀ k:Nat,k<64→IntKind.wrap .u8 ((k:Int)+1)=(k:Int)+1:=by decide +kernel
theorem shl8:∀ i:Nat,i≤6→IntKind.wrap .u8 (1*2 ^ Min.min (i:Int).toNat (IntKind.bits .u8))=((2 ^ i:Nat):Int):=by decide +kernel
def Vx:List AV:=(List.range 64).map fun s=>.int .i8 ((Kt s 6).length:Int)
def Sizes (h:AHeap):Prop:=h.globs.contains 0=true∧Rd h (.ptr 0 0) 0 Vx
theorem Sizes.ext {h h':AHeap} (z:Sizes h) (k:Keeps h h'):Sizes h':=⟨by rw[k.globs]; exact z.1,Rd.ext k z.2⟩
theorem Sizes.ev {h:AHeap} (z:Sizes h) (n:Nat) (K:KF):EvK h.globs n K (.global 0) (.ptr 0 0):=⟨by simp only[KC]; rw[if_pos z.1]⟩
theorem Yi {k:Nat} (hk:k<64):Vx[0+k]? = some (.int .i8 ((Kt k 6).length:Int)):=by
 rw[Nat.zero_add,Vx,List.getElem?_map,List.getElem?_range hk]; rfl
theorem addr0:AddrOf (.ptr 0 0) (.ptr 0 0) 0 0:=⟨0,0,.inr ⟨rfl,rfl⟩,rfl⟩
def szO (o:Option Nat):Nat:=match o with|none=>7|some b=>(Kt b 6).length
def rowO (o:Option Nat):List Int:=match o with|none=>[] | some b=>Kt b 6
theorem fewL_is (p:Nat→Bool) (k:Nat):fewL p k=rowO (QI p k):=by unfold fewL rowO; cases QI p k <;> rfl
theorem better_lt {o:Option Nat} {k:Nat} (h:(Kt k 6).length<szO o):XR o k=true:=by
 cases o with
 | none=>rfl
 | some b=>
  have h:(Kt k 6).length<(Kt b 6).length:=h;show XD _ _=true;rw[UG (by omega),decide_eq_true h]
theorem better_gt {o:Option Nat} {k:Nat} (h:szO o<(Kt k 6).length):XR o k=false:=by
 cases o with
 | none=>
  have h : 7<(Kt k 6).length:=h;have:=Xw k 6;omega
 | some b=>
  have h:(Kt b 6).length<(Kt k 6).length:=h;show XD _ _=false;rw[UG (by omega),decide_eq_false (by omega)]
theorem Vh {o:Option Nat} {k:Nat} (h:(Kt k 6).length=szO o):XR o k=XD (Kt k 6) (rowO o)∧(Kt k 6).length=(rowO o).length:=by
 cases o with
 | none=>
  have h:(Kt k 6).length=7:=h;have:=Xw k 6;omega
 | some b=>exact⟨rfl,h⟩
theorem JS {p:Nat→Bool} {k:Nat} (h:(p k && XR (QI p k) k)=false):QI p (k+1)=QI p k:=by rw[QI,if_neg (by rw[h]; decide)]
theorem UH {p:Nat→Bool} {k:Nat} (h:p k=true) (h2:XR (QI p k) k=true):QI p (k+1)=some k:=by rw[QI,if_pos (by rw[h,h2]; rfl)]
theorem UV {h : AHeap} {r : Nat} {vW vi : AV} {ws : List W} {p : Nat → Bool} (hv : Rd h vW 4 (flr wc ws)) (hr : r ≤ 6) (hSz : Sizes h) (hone : vi.one = true)
    (hP:∀ (h':AHeap) (s:Nat),Keeps h h'→s<2 ^ r→CallsV Go.Proofs.Tryz.prog vi [.int .u8 (s:Int)] h' (fun q h2=>q = .bool (p s)∧Keeps h' h2)):ACalls Go.Proofs.Tryz.prog 122 [.agg [.int .i64 (r:Int),vW],vi] h (fun q h'=>St h h' [⟨q,1,ints (fewL p (2 ^ r)),true⟩]):=by
  refine OI 45 [.tmp 4] Go.Proofs.Tryz.func122 rfl (by decide) rfl rfl (Nat.le_of_ble_eq_true rfl) ?_;have hS:=St.refl h;have hvo:vW.one=true:=hv.one;have hpw : 2 ^ r≤2 ^ 6:=Nat.pow_le_pow_right (by decide) hr;have hsh:=shl8 r hr;show KA _ 45 _ _ [(0,.agg [.int .i64 (r:Int),vW]),(1,vi)] _;refine Ov ?_;refine O2 hS (by first|rfl|(simp[AV.one]; done)|(simp[AV.one]; assumption)|(simp[AV.one, *]; done)) ?_;intro p2 h' hp2 hS;refine O1 [1,2] ?_;refine Oz ?_;refine Oh ?_;refine Od ?_;refine Oz ?_;refine Oh ?_;refine Od ?_;refine Ot ?_;refine Ov ?_;refine Ob hp2 ?_;intro p9 hp9;refine Of hp9 (hS.rd 0 rfl) rfl ?_;refine KOps.shl (by omega) ?_;rw[hsh];refine O1 [1,5,6,11,12] ?_;refine Oy ?_;refine Kd (X:=Nat × AV) (fun x=>[(1,vi),(5,x.2),(6,.int .i8 (szO (QI p x.1):Int)),(11,.int .u8 ((2 ^ r:Nat):Int)),(12,.int .u8 (x.1:Int))]) (fun x h'=>x.1≤2 ^ r∧St h h' [⟨p2,0,[.int .i64 (r:Int),vW],true⟩,⟨x.2,1,ints (rowO (QI p x.1)),true⟩]) (fun x=>2 ^ r - x.1) (0,.nils) ?_ ?_
  · exact⟨Nat.zero_le _,St.addNil 1 true hS⟩
  rintro⟨k,vo⟩ h4 ⟨hk,hS⟩;dsimp only at hk hS⊢;have hkl:=Xw k 6;refine Ov ?_;refine QW ?_;refine Oh ?_;refine Od ?_;refine Ot ?_;refine Om ?_ ?_
  · intro c13;refine Ox [1,5,6,11,12] ?_;refine Ot ?_;refine Oy ?_;refine O1 [1,5,6,7,11,12] ?_;refine Oz ?_;have hz:=hSz.ext hS.keeps
    haveI hzi:=hz.ev
    refine KY (v:=.ptr 0 0) addr0 (j:=k) rfl (by omega) ?_;intro p16 hp16;refine Of hp16 hz.2 (Yi (by omega)) ?_;refine Og ?_;refine KOps.gtr ?_;refine Og ?_;refine OD (dj:=20) rfl rfl false true rfl ?_ ?_
    · intro g20;have g20:=of_decide_eq_false g20;refine Oz ?_;refine KOps.callV rfl (hP _ k hS.keeps (by omega)) ?_;rintro _ h5 ⟨rfl,hK⟩;replace hS:St _ _ (_::_):=St.trans hS (St.ofK hK);refine Oe (dj:=20) rfl rfl ?_;refine QX ?_;refine OG ?_;refine Oo [1,5,6,7,11,12,21,22,23,24,25] ?_;refine Ki ?_ ?_
      · intro c25;refine Kc ?_;refine OV ?_;refine OZ ?_;refine Od ?_;refine Oq [1,5,6,11,12,21,22,23,24] ?_;refine Ke rfl ?_;refine KOps.addK (add8 k (by omega)) ?_;refine Og ?_;refine Oh ?_;have hb:=JS (p:=p) (k:=k) (by rw[show p k=false by simpa using c25,Bool.false_and]);refine KW (k+1,vo) (by repeat (first|exact Sub.nil _|refine Sub.cons Look.eq ?_|refine Sub.cons (Eq.trans Look.eq (congrArg (AV.int _) (by first|omega|(dsimp only; omega)))) ?_|refine Sub.cons (Eq.trans Look.eq (by rw[hb])) ?_)) ⟨by dsimp only; omega,?_⟩ (by dsimp only; omega);dsimp only;rw[hb];exact hS
      · intro c25;refine Ox [1,5,6,7,11,12,21,22,23,24] ?_;refine Oz ?_;refine Oi rfl (list_c (by omega)) ?_;rintro vl h6 hL;replace hS:St _ _ (_::_):=St.trans hS hL;refine O1 [1,5,6,7,8,11,12,21,22,23,24] ?_;refine Oz ?_;have hz:=hSz.ext hS.keeps
        haveI hzi:=hz.ev
        refine KY (v:=.ptr 0 0) addr0 (j:=k) rfl (by omega) ?_;intro p29 hp29;refine Of hp29 hz.2 (Yi (by omega)) ?_;refine Og ?_;refine QW ?_;refine Og ?_;refine OD (dj:=33) rfl rfl false true rfl ?_ ?_
        · intro g33;have g33:=of_decide_eq_false g33;refine Oz ?_;refine Oi rfl (compares_c (hS.rd 0 rfl) (hS.rd 2 rfl) (by omega) (Vh (by omega)).2) ?_;rintro _ _ ⟨⟨c,rfl,hc⟩,rfl⟩;refine Oe (dj:=33) rfl rfl ?_;refine QW ?_;refine OG ?_;refine Oo [1,5,6,7,8,11,12,21,22,23,24,34,35,36,37,38] ?_;refine Om ?_ ?_
          · intro c38;refine OS [] mixed rfl (by kernel_rfl) ?_;refine Oz ?_;have hz:=hSz.ext hS.keeps
            haveI hzi:=hz.ev
            refine KY (v:=.ptr 0 0) addr0 (j:=k) rfl (by omega) ?_;intro p41 hp41;refine Of hp41 hz.2 (Yi (by omega)) ?_;refine Oz ?_;refine Oh ?_;refine Ol ?_;refine Od ?_;refine Oq [1,5,6,11,12,21,22,23,24,34,35,36,37] ?_;refine Ke rfl ?_;refine KOps.addK (add8 k (by omega)) ?_;refine Og ?_;refine Oh ?_;have hb:=UH (p:=p) (k:=k) (by simpa using c25) (by rw[(Vh (by omega)).1]; exact hc.1 (by omega));refine KW (k+1,vl) (by repeat (first|exact Sub.nil _|refine Sub.cons Look.eq ?_|refine Sub.cons (Eq.trans Look.eq (congrArg (AV.int _) (by first|omega|(dsimp only; omega)))) ?_|refine Sub.cons (Eq.trans Look.eq (by rw[hb]; rfl)) ?_)) ⟨by dsimp only; omega,?_⟩ (by dsimp only; omega);dsimp only;rw[hb];exact St.pick [1,0] (by decide) rfl hS
          · intro c38;refine Ow ?_;refine Ol ?_;refine Od ?_;refine Oq [1,5,6,11,12,21,22,23,24,34,35,36,37] ?_;refine Ke rfl ?_;refine KOps.addK (add8 k (by omega)) ?_;refine Og ?_;refine Oh ?_;have hb:=JS (p:=p) (k:=k) (by rw[(Vh (by omega)).1,show XD (Kt k 6) (rowO (QI p k))=false from Bool.eq_false_iff.2 (fun h0=>by have:=hc.2 h0; omega),Bool.and_false]);refine KW (k+1,vo) (by repeat (first|exact Sub.nil _|refine Sub.cons Look.eq ?_|refine Sub.cons (Eq.trans Look.eq (congrArg (AV.int _) (by first|omega|(dsimp only; omega)))) ?_|refine Sub.cons (Eq.trans Look.eq (by rw[hb])) ?_)) ⟨by dsimp only; omega,?_⟩ (by dsimp only; omega);dsimp only;rw[hb];exact St.tail hS
        · intro g33;have g33:=of_decide_eq_true g33;refine Oz ?_;refine KN ?_;refine Oo [1,5,6,7,8,11,12,21,22,23,24,34,35,36,37,38] ?_;refine Kz ?_;refine OS [] mixed rfl (by kernel_rfl) ?_;refine Oz ?_;have hz:=hSz.ext hS.keeps
          haveI hzi:=hz.ev
          refine KY (v:=.ptr 0 0) addr0 (j:=k) rfl (by omega) ?_;intro p41 hp41;refine Of hp41 hz.2 (Yi (by omega)) ?_;refine Oz ?_;refine Oh ?_;refine Ol ?_;refine Od ?_;refine Oq [1,5,6,11,12,21,22,23,24,34,35,36,37] ?_;refine Ke rfl ?_;refine KOps.addK (add8 k (by omega)) ?_;refine Og ?_;refine Oh ?_;have hb:=UH (p:=p) (k:=k) (by simpa using c25) (better_lt (by omega));refine KW (k+1,vl) (by repeat (first|exact Sub.nil _|refine Sub.cons Look.eq ?_|refine Sub.cons (Eq.trans Look.eq (congrArg (AV.int _) (by first|omega|(dsimp only; omega)))) ?_|refine Sub.cons (Eq.trans Look.eq (by rw[hb]; rfl)) ?_)) ⟨by dsimp only; omega,?_⟩ (by dsimp only; omega);dsimp only;rw[hb];exact St.pick [1,0] (by decide) rfl hS
    · intro g20;have g20:=of_decide_eq_true g20;refine Oz ?_;refine KN ?_;refine Oo [1,5,6,7,11,12,21,22,23,24,25] ?_;refine Kz ?_;refine Kc ?_;refine OV ?_;refine OZ ?_;refine Od ?_;refine Oq [1,5,6,11,12,21,22,23,24] ?_;refine Ke rfl ?_;refine KOps.addK (add8 k (by omega)) ?_;refine Og ?_;refine Oh ?_;have hb:=JS (p:=p) (k:=k) (by rw[better_gt (by omega),Bool.and_false]);refine KW (k+1,vo) (by repeat (first|exact Sub.nil _|refine Sub.cons Look.eq ?_|refine Sub.cons (Eq.trans Look.eq (congrArg (AV.int _) (by first|omega|(dsimp only; omega)))) ?_|refine Sub.cons (Eq.trans Look.eq (by rw[hb])) ?_)) ⟨by dsimp only; omega,?_⟩ (by dsimp only; omega);dsimp only;rw[hb];exact hS
  · intro c13;refine Kc ?_;refine OV ?_;refine O6 ?_;refine OZ ?_;refine Od ?_;refine Oq [5] ?_;refine O1 [4] ?_;refine Oj ?_;rw[fewL_is,show 2 ^ r=k by omega];exact St.pick [1] (by decide) rfl hS
end Go.Am
namespace Go.Am
def Ze (ws:List W) (s i:Nat):Bool:=lvs (ws.getD i default) s || ens (ws.getD i default) s
theorem cross_no {ws:List W} {s i:Nat}:(inS s (ws.getD i default).f == inS s (ws.getD i default).t) = !Ze ws s i:=by
 rw[lvs_ens,Ze,Bool.not_or]
theorem says_c {h:AHeap} {rm:Int} {vW:AV} {ws:List W} {s i:Nat} (hv:Rd h vW 4 (flr wc ws)) (hB:BOk rm ws) (hs:s<64) (hi:i<ws.length):ACalls Go.Proofs.Tryz.prog 103 [.agg [.int .i64 rm,vW],.int .u8 (s:Int),.int .i64 (i:Int)] h (fun q h'=>q = .tup [.int .i64 (if Ze ws s i=true then Yh ws s i else 0),.bool (Ze ws s i)]∧Keeps h h'):=by
  refine OI 44 [.tmp 6,.tmp 7] Go.Proofs.Tryz.func103 rfl (by decide) rfl rfl (Nat.le_of_ble_eq_true rfl) ?_;have hS:=St.refl h;have hvo:vW.one=true:=hv.one;have hwl:=hB.len;have hr6:=hB.r6;have hsb:=JJ hB s (i:Int) ws.length (Nat.le_refl _);have hwi:=hB.way i (by omega);have hwf0:=hwi.f0;have hwf1:=hwi.f1;have hwt0:=hwi.t0;have hwt1:=hwi.t1;have hwl0:=hwi.l0;have hwm1:=hwi.m1;have hwlm:=hwi.lm;have hcr:=cross_no (ws:=ws) (s:=s) (i:=i);show KA _ 44 _ _ [(0,.agg [.int .i64 rm,vW]),(1,.int .u8 (s:Int)),(2,.int .i64 (i:Int))] _;refine Ov ?_;refine O2 hS (by first|rfl|(simp[AV.one]; done)|(simp[AV.one]; assumption)|(simp[AV.one, *]; done)) ?_;intro p3 h' hp3 hS;refine O1 [1,2,3] ?_;refine Ov ?_;refine Ky hS (i:=0) rfl hp3 (by rfl) (by decide) ?_;refine Oz ?_;refine Oi rfl (sums_c (Rd.ext hS.keeps hv) hB hs) ?_;rintro _ h5 ⟨rfl,hK⟩;replace hS:St _ _ (_::_):=St.trans hS (St.ofK hK);refine O1 [1,2,3,8,9] ?_;refine Ot ?_;refine Ov ?_;refine Ob hp3 ?_;intro p18 hp18;refine Of hp18 (hS.rd 0 rfl) rfl ?_;refine Og ?_;refine Qa KL (Rd.ext hS.keeps hv) (j:=i) (by first|omega|(simp; omega)) (by first|omega|(simp; omega)) ?_;intro p21 hp21;refine Qb KL (by decide) hp21 (Rd.ext hS.keeps hv) (by first|omega|(simp; omega)) ?_;refine Ks hS ?_;intro p10 h' hp10 hS;refine Kv hS rfl (i:=0) rfl hp10 (by first|rfl|(simp[AV.one]; done)|(simp[AV.one]; assumption)|(simp[AV.one, *]; done)) (by rfl) (by rfl) (by decide) ?_;intro h' hS;simp only[List.set_cons_zero,List.set_cons_succ,Nat.zero_add] at hS;refine Oo [1,8,9,10] ?_;refine Oy ?_;refine Ot ?_;refine OS [3,7] mixed rfl (by kernel_rfl) ?_;refine Og ?_;refine Ob hp10 ?_;intro p25 hp25;refine Of hp25 (hS.rd 0 rfl) rfl ?_;refine Ko (by intro _ _ hr; exact hr.2 ▸ Keeps.refl _) (Xy (by first|omega|(simp; omega)) (by first|omega|(simp; omega)) (by first|omega|(simp; omega))) ?_;rintro _ _ ⟨rfl,rfl⟩;refine Og ?_;refine Ob hp10 ?_;intro p29 hp29;refine Of hp29 (hS.rd 0 rfl) rfl ?_;refine Ko (by intro _ _ hr; exact hr.2 ▸ Keeps.refl _) (Xy (by first|omega|(simp; omega)) (by first|omega|(simp; omega)) (by first|omega|(simp; omega))) ?_;rintro _ _ ⟨rfl,rfl⟩;refine KOps.eqlB (by kernel_rfl) ?_;rw[hcr];refine O1 [1,8,9,10,23] ?_;refine Ki ?_ ?_
  · intro c23;refine O1 [6,7] ?_;refine Oj ?_;rw[show Ze ws s i=false by simpa using c23];exact⟨rfl,hS.keeps⟩
  · intro c23;refine Oz ?_;refine Ob hp10 ?_;intro p35 hp35;refine Of hp35 (hS.rd 0 rfl) rfl ?_;refine Oi rfl (Xy (by first|omega|(simp; omega)) (by first|omega|(simp; omega)) (by first|omega|(simp; omega))) ?_;rintro _ _ ⟨rfl,rfl⟩;refine O1 [8,9,33] ?_;refine Ki ?_ ?_
    · intro c33;refine Oz ?_;refine QY (by first|omega|(simp; omega)) (by first|omega|(simp; omega)) ?_;refine O1 [6,7] ?_;refine Oj ?_;have hc:Ze ws s i=true:=by simpa using c23
      have hl:lvs (ws.getD i default) s=true:=by
        unfold Ze lvs ens at hc;unfold lvs;rw[c33] at hc⊢;simpa using hc
      rw[hc,if_pos rfl,Yh,if_pos hl];exact⟨rfl,hS.keeps⟩
    · intro c33;refine Ow ?_;refine Ol ?_;refine Od ?_;refine Oq [8,9] ?_;refine Oz ?_;refine QY (by first|omega|(simp; omega)) (by first|omega|(simp; omega)) ?_;refine O1 [6,7] ?_;refine Oj ?_;have hc:Ze ws s i=true:=by simpa using c23
      have hl:lvs (ws.getD i default) s=false:=by
        unfold lvs;rw[c33]; rfl
      rw[hc,if_pos rfl,Yh,if_neg (by rw[hl]; decide)];exact⟨rfl,hS.keeps⟩
end Go.Am
namespace Go.Am
noncomputable def pB (ws:List W) (i:Nat) (g:Bool) (s:Nat):Bool:=if g then lvs (ws.getD i default) s && decide (Yh ws s i=Vn ws i) else ens (ws.getD i default) s && decide (Yh ws s i=Vq ws i)
noncomputable def Yp (ws:List W) (i:Nat) (g:Bool):Int:=if g then Vn ws i else Vq ws i
def insI (ws:List W) (i:Nat) (g:Bool):Int:=if g then (ws.getD i default).f else (ws.getD i default).t
def ownI (ws:List W) (i:Nat) (g:Bool):Int:=if g then (ws.getD i default).m else (ws.getD i default).l
theorem cross_in (ws:List W) (s i:Nat) (g:Bool):(Ze ws s i && inS s (insI ws i g))=if g then lvs (ws.getD i default) s else ens (ws.getD i default) s:=by
  unfold Ze insI lvs ens
  cases g <;> simp only[if_true,if_false,Bool.false_eq_true] <;> cases inS s (ws.getD i default).f <;> cases inS s (ws.getD i default).t <;> rfl
theorem pB_is {ws:List W} {s i:Nat} {g:Bool}:pB ws i g s=(Ze ws s i && inS s (insI ws i g) && decide (Yh ws s i=Yp ws i g)):=by
 rw[cross_in];unfold pB Yp
 cases g <;> rfl
noncomputable def Kw (rm:Int) (ws:List W) (i:Int) (g:Bool):List Int:=if Za rm ws i=0 then (if Yp ws i.toNat g=ownI ws i.toNat g then [] else fewL (pB ws i.toNat g) (2 ^ rm.toNat)) else []
end Go.Am
namespace Go.Am
theorem UK {h:AHeap} {rm:Int} {vW p3 p4 p12 p13:AV} {ws:List W} {s i:Nat} {g:Bool} (hv:Rd h vW 4 (flr wc ws)) (hB:BOk rm ws) (hs:s<64) (hi:i<ws.length) (hp3:AddrOf p3 p3 0 0) (hp4:AddrOf p4 p4 0 0) (hp12:AddrOf p12 p12 0 0) (hp13:AddrOf p13 p13 0 0) (h3:Rd h p3 0 [.int .i64 rm,vW]) (h4:Rd h p4 0 [.int .i64 (i:Int)]) (h12:Rd h p12 0 [.int .i64 (insI ws i g)]) (h13:Rd h p13 0 [.int .i64 (Yp ws i g)]):ACalls Go.Proofs.Tryz.prog 123 [.int .u8 (s:Int),p3,p4,p12,p13] h (fun q h'=>q = .bool (pB ws i g s)∧Keeps h h'):=by
  refine OI 27 [.tmp 6] Go.Proofs.Tryz.func123 rfl (by decide) rfl rfl (Nat.le_of_ble_eq_true rfl) ?_;have hS:=St.refl h;have hr6:=hB.r6;have hwi:=hB.way i hi;have hwf0:=hwi.f0;have hwf1:=hwi.f1;have hwt0:=hwi.t0;have hwt1:=hwi.t1;have hin : 0≤insI ws i g∧insI ws i g<6:=by
    unfold insI; cases g <;> simp only[if_true,if_false,Bool.false_eq_true] <;> omega
  show KA _ 27 _ _ [(0,.int .u8 (s:Int)),(1,p3),(2,p4),(3,p12),(4,p13)] _;refine Oa [0,1,2,3,4] ?_;refine Ov ?_;refine KOps.loadAgg (z:=2) hp3 (Rd.ext hS.keeps h3) (by decide) (by simp) ?_;refine Og ?_;refine Of hp4 (Rd.ext hS.keeps h4) rfl ?_;refine Oi rfl (says_c (i:=i) (Rd.ext hS.keeps hv) hB hs hi) ?_;rintro _ h5 ⟨rfl,hK⟩;have hS0:=St.trans hS (St.ofK hK);clear hS;have hS:=hS0;clear hS0;refine Oa [0,3,4,7,8] ?_;refine Oc ?_;refine OD (dj:=17) rfl rfl true false rfl ?_ ?_
  · intro g17;refine Oc ?_;refine Of hp12 (Rd.ext hS.keeps h12) rfl ?_;refine Oe (dj:=17) rfl rfl ?_;refine Oi rfl (Xy (by first|omega|(simp; omega)) (by first|omega|(simp; omega)) (by first|omega|(simp; omega))) ?_;rintro _ _ ⟨rfl,rfl⟩;refine Oc ?_;refine OD (dj:=22) rfl rfl true false rfl ?_ ?_
    · intro g22;refine Oc ?_;refine Of hp13 (Rd.ext hS.keeps h13) rfl ?_;refine Oa [6] ?_;refine Oj ?_;refine⟨congrArg AV.bool ?_,hS.keeps⟩;rw[pB_is,g17,g22,if_pos rfl]; rfl
    · intro g22;refine Oa [6] ?_;refine Oj ?_;refine⟨congrArg AV.bool ?_,hS.keeps⟩;rw[pB_is,g17,g22]; rfl
  · intro g17;refine Oa [6] ?_;refine Oj ?_;refine⟨congrArg AV.bool ?_,hS.keeps⟩;rw[pB_is,g17]; rfl
theorem UL {h:AHeap} {rm i:Int} {vW:AV} {ws:List W} (hv:Rd h vW 4 (flr wc ws)) (hSz:Sizes h):ACalls Go.Proofs.Tryz.prog 87 [.agg [.int .i64 rm,vW],.int .i64 i,.bool true] h (fun q h'=>∃ vo,q = .tup [vo,.int .i64 (Za rm ws i)]∧St h h' [⟨vo,1,ints (Kw rm ws i true),true⟩]):=by
 refine OI 47 [.tmp 6,.tmp 7] Go.Proofs.Tryz.func87 rfl (by decide) rfl rfl (Nat.le_of_ble_eq_true rfl) ?_;have hS:=St.refl h;have hvo:vW.one=true:=hv.one;show KA _ 47 _ _ [(0,.agg [.int .i64 rm,vW]),(1,.int .i64 i),(2,.bool true)] _;refine Ov ?_;refine O2 hS (by first|rfl|(simp[AV.one]; done)|(simp[AV.one]; assumption)|(simp[AV.one, *]; done)) ?_;intro p3 h' hp3 hS;refine KOps.box hS (l:=[_]) rfl ?_;intro p4 h' hp4 hS;refine Oa [2,3,4] ?_;refine Ov ?_;refine Ky hS (i:=1) rfl hp3 (by rfl) (by decide) ?_;refine O0 hS (i:=0) rfl hp4 ?_;refine Oi rfl (Jh (Rd.ext hS.keeps hv)) ?_;rintro _ h5 ⟨rfl,hK⟩;replace hS:St _ _ (_::_::_):=St.trans hS (St.ofK hK);refine Oa [2,3,4,8,9,10] ?_;refine Oa [2,3,4,8,9,10,23] ?_;refine O8 ?_ ?_
 ·intro c23;refine Oa [6,7] ?_;refine Oj ?_;rw[Kw,if_neg c23];exact⟨_,rfl,St.pick [2] (by decide) rfl (St.addNil 1 true hS)⟩
 ·intro c23;obtain⟨he,hi0,hi1⟩:=Jk c23;have hB:=(Xk he).1;have hx:=(Xk he).2;obtain⟨r,rfl⟩:∃ r:Nat,rm=(r:Int):=⟨rm.toNat,by have:=hB.r2; omega⟩;obtain⟨j,rfl⟩:∃ j:Nat,i=(j:Int):=⟨i.toNat,by omega⟩;rw[if_pos c23,if_pos c23,Int.toNat_natCast];have hr6:=hB.r6;have hwl:=hB.len;have hpw : 2 ^ r≤2 ^ 6:=Nat.pow_le_pow_right (by decide) (by omega);have h1p : 1≤2 ^ r:=Nat.one_le_two_pow;have hsh:=shl64 r (by omega);have hj:j<ws.length:=by omega
  refine Ox [2,3,4,8,9] ?_;refine Ov ?_;refine Ob hp3 ?_;intro p25 hp25;refine Of hp25 (hS.rd 1 rfl) rfl ?_;refine O0 hS (i:=0) rfl hp4 ?_;refine Qa KL (Rd.ext hS.keeps hv) (j:=j) (by first|omega|(simp; omega)) (by first|omega|(simp; omega)) ?_;intro p28 hp28;refine Qb KL (by decide) hp28 (Rd.ext hS.keeps hv) (by first|omega|(simp; omega)) ?_;refine Ks hS ?_;intro p11 h' hp11 hS;refine Kv hS rfl (i:=0) rfl hp11 (by first|rfl|(simp[AV.one]; done)|(simp[AV.one]; assumption)|(simp[AV.one, *]; done)) (by rfl) (by rfl) (by decide) ?_;intro h' hS;simp only[List.set_cons_zero,List.set_cons_succ,Nat.zero_add] at hS;refine Oo [2,3,4,8,9,11] ?_;refine Ot ?_;refine KA.drawS2 (c:=7) (r:=4) (t:=3) (a:=33) (d:=34) [] mixed rfl rfl rfl (by kernel_rfl) rfl rfl rfl (by decide) (by decide) (by kernel_rfl) ?_;refine Ob hp11 ?_;intro p30 hp30;refine Of hp30 (hS.rd 0 rfl) rfl ?_;refine Og ?_;refine Ob hp11 ?_;intro p33 hp33;refine Of hp33 (hS.rd 0 rfl) rfl ?_;refine Ks hS ?_;intro p12 h' hp12 hS;refine Ks hS ?_;intro p13 h' hp13 hS;refine KP hS rfl (i:=1) rfl hp12 (by first|rfl|assumption) ?_;intro h' hS;simp only[List.set_cons_zero,List.set_cons_succ,Nat.zero_add] at hS;refine Zs rfl rfl hp33 (hS.rd 2 rfl) rfl ?_;refine KP hS rfl (i:=0) rfl hp13 (by first|rfl|assumption) ?_;intro h' hS;simp only[List.set_cons_zero,List.set_cons_succ,Nat.zero_add] at hS;refine Zs rfl rfl hp33 (hS.rd 2 rfl) rfl ?_;refine Oa [2,3,4,9,11,12,13,14] ?_;refine Oa [3,4,9,11,12,13,14,35] ?_;refine Kz ?_;refine KA.drawS2 (c:=5) (r:=4) (t:=3) (a:=39) (d:=40) [] mixed rfl rfl rfl (by kernel_rfl) rfl rfl rfl (by decide) (by decide) (by kernel_rfl) ?_;refine Ob hp11 ?_;intro p36 hp36;refine Of hp36 (hS.rd 2 rfl) rfl ?_;refine Og ?_;refine Ob hp11 ?_;intro p39 hp39;refine Of hp39 (hS.rd 2 rfl) rfl ?_;refine KP hS rfl (i:=1) rfl hp12 (by first|rfl|assumption) ?_;intro h' hS;simp only[List.set_cons_zero,List.set_cons_succ,Nat.zero_add] at hS;refine Zs rfl rfl hp39 (hS.rd 2 rfl) rfl ?_;refine KP hS rfl (i:=0) rfl hp13 (by first|rfl|assumption) ?_;intro h' hS;simp only[List.set_cons_zero,List.set_cons_succ,Nat.zero_add] at hS;refine Zs rfl rfl hp39 (hS.rd 2 rfl) rfl ?_;refine Oa [3,4,12,13,14] ?_;refine Ot ?_;refine Ov ?_;refine O0 hS (i:=0) rfl hp13 ?_;refine Oa [3,4,12,13,43] ?_;refine Om ?_ ?_
  ·intro c43;have hend:Yp ws j true=ownI ws j true:=c43;refine Oa [6,7] ?_;refine Oj ?_;rw[Kw,if_pos c23,Int.toNat_natCast,if_pos hend,c23];exact⟨_,rfl,St.pick [5] (by decide) rfl (St.addNil 1 true hS)⟩
  ·intro c43;have hend:¬ Yp ws j true=ownI ws j true:=c43;refine Ox [3,4,12,13] ?_;refine Ov ?_;refine Ky hS (i:=4) rfl hp3 (by rfl) (by decide) ?_;refine Q3 ?_;refine Oi rfl (UV (r:=r) (p:=pB ws j true) (vi:=.fn 123 [p3,p4,p12,p13]) (Rd.ext hS.keeps hv) (by omega) (hSz.ext hS.keeps) rfl (fun h' s hK hs=>ACalls.mono (UK (s:=s) (i:=j) (g:=true) (Rd.ext (hS.keeps.trans hK) hv) hB (by omega) hj hp3 hp4 hp12 hp13 (Rd.ext hK (hS.rd 4 rfl)) (Rd.ext hK (hS.rd 3 rfl)) (Rd.ext hK (hS.rd 1 rfl)) (Rd.ext hK (hS.rd 0 rfl))) (fun _ _ hx=>hx))) ?_;rintro vo h6 hF;refine Oa [6,7] ?_;refine Oj ?_;rw[Kw,if_pos c23,Int.toNat_natCast,if_neg hend,c23,Int.toNat_natCast];exact⟨_,rfl,St.pick [0] (by decide) rfl (St.trans hS hF)⟩
theorem Us {h:AHeap} {rm i:Int} {vW:AV} {ws:List W} (hv:Rd h vW 4 (flr wc ws)) (hSz:Sizes h):ACalls Go.Proofs.Tryz.prog 87 [.agg [.int .i64 rm,vW],.int .i64 i,.bool false] h (fun q h'=>∃ vo,q = .tup [vo,.int .i64 (Za rm ws i)]∧St h h' [⟨vo,1,ints (Kw rm ws i false),true⟩]):=by
 refine OI 47 [.tmp 6,.tmp 7] Go.Proofs.Tryz.func87 rfl (by decide) rfl rfl (Nat.le_of_ble_eq_true rfl) ?_;have hS:=St.refl h;have hvo:vW.one=true:=hv.one;show KA _ 47 _ _ [(0,.agg [.int .i64 rm,vW]),(1,.int .i64 i),(2,.bool false)] _;refine Ov ?_;refine O2 hS (by first|rfl|(simp[AV.one]; done)|(simp[AV.one]; assumption)|(simp[AV.one, *]; done)) ?_;intro p3 h' hp3 hS;refine KOps.box hS (l:=[_]) rfl ?_;intro p4 h' hp4 hS;refine Oa [2,3,4] ?_;refine Ov ?_;refine Ky hS (i:=1) rfl hp3 (by rfl) (by decide) ?_;refine O0 hS (i:=0) rfl hp4 ?_;refine Oi rfl (Jh (Rd.ext hS.keeps hv)) ?_;rintro _ h5 ⟨rfl,hK⟩;replace hS:St _ _ (_::_::_):=St.trans hS (St.ofK hK);refine Oa [2,3,4,8,9,10] ?_;refine Oa [2,3,4,8,9,10,23] ?_;refine O8 ?_ ?_
 ·intro c23;refine Oa [6,7] ?_;refine Oj ?_;rw[Kw,if_neg c23];exact⟨_,rfl,St.pick [2] (by decide) rfl (St.addNil 1 true hS)⟩
 ·intro c23;obtain⟨he,hi0,hi1⟩:=Jk c23;have hB:=(Xk he).1;have hx:=(Xk he).2;obtain⟨r,rfl⟩:∃ r:Nat,rm=(r:Int):=⟨rm.toNat,by have:=hB.r2; omega⟩;obtain⟨j,rfl⟩:∃ j:Nat,i=(j:Int):=⟨i.toNat,by omega⟩;rw[if_pos c23,if_pos c23,Int.toNat_natCast];have hr6:=hB.r6;have hwl:=hB.len;have hpw : 2 ^ r≤2 ^ 6:=Nat.pow_le_pow_right (by decide) (by omega);have h1p : 1≤2 ^ r:=Nat.one_le_two_pow;have hsh:=shl64 r (by omega);have hj:j<ws.length:=by omega
  refine Ox [2,3,4,8,9] ?_;refine Ov ?_;refine Ob hp3 ?_;intro p25 hp25;refine Of hp25 (hS.rd 1 rfl) rfl ?_;refine O0 hS (i:=0) rfl hp4 ?_;refine Qa KL (Rd.ext hS.keeps hv) (j:=j) (by first|omega|(simp; omega)) (by first|omega|(simp; omega)) ?_;intro p28 hp28;refine Qb KL (by decide) hp28 (Rd.ext hS.keeps hv) (by first|omega|(simp; omega)) ?_;refine Ks hS ?_;intro p11 h' hp11 hS;refine Kv hS rfl (i:=0) rfl hp11 (by first|rfl|(simp[AV.one]; done)|(simp[AV.one]; assumption)|(simp[AV.one, *]; done)) (by rfl) (by rfl) (by decide) ?_;intro h' hS;simp only[List.set_cons_zero,List.set_cons_succ,Nat.zero_add] at hS;refine Oo [2,3,4,8,9,11] ?_;refine Ot ?_;refine KA.drawS2 (c:=7) (r:=4) (t:=3) (a:=33) (d:=34) [] mixed rfl rfl rfl (by kernel_rfl) rfl rfl rfl (by decide) (by decide) (by kernel_rfl) ?_;refine Ob hp11 ?_;intro p30 hp30;refine Of hp30 (hS.rd 0 rfl) rfl ?_;refine Og ?_;refine Ob hp11 ?_;intro p33 hp33;refine Of hp33 (hS.rd 0 rfl) rfl ?_;refine Ks hS ?_;intro p12 h' hp12 hS;refine Ks hS ?_;intro p13 h' hp13 hS;refine KP hS rfl (i:=1) rfl hp12 (by first|rfl|assumption) ?_;intro h' hS;simp only[List.set_cons_zero,List.set_cons_succ,Nat.zero_add] at hS;refine Zs rfl rfl hp33 (hS.rd 2 rfl) rfl ?_;refine KP hS rfl (i:=0) rfl hp13 (by first|rfl|assumption) ?_;intro h' hS;simp only[List.set_cons_zero,List.set_cons_succ,Nat.zero_add] at hS;refine Zs rfl rfl hp33 (hS.rd 2 rfl) rfl ?_;refine Oa [2,3,4,9,11,12,13,14] ?_;refine Oa [3,4,9,11,12,13,14,35] ?_;refine OH ?_;refine Ox [3,4,12,13,14] ?_;refine Ot ?_;refine Ov ?_;refine O0 hS (i:=0) rfl hp13 ?_;refine Oa [3,4,12,13,43] ?_;refine Om ?_ ?_
  ·intro c43;have hend:Yp ws j false=ownI ws j false:=c43;refine Oa [6,7] ?_;refine Oj ?_;rw[Kw,if_pos c23,Int.toNat_natCast,if_pos hend,c23];exact⟨_,rfl,St.pick [5] (by decide) rfl (St.addNil 1 true hS)⟩
  ·intro c43;have hend:¬ Yp ws j false=ownI ws j false:=c43;refine Ox [3,4,12,13] ?_;refine Ov ?_;refine Ky hS (i:=4) rfl hp3 (by rfl) (by decide) ?_;refine Q3 ?_;refine Oi rfl (UV (r:=r) (p:=pB ws j false) (vi:=.fn 123 [p3,p4,p12,p13]) (Rd.ext hS.keeps hv) (by omega) (hSz.ext hS.keeps) rfl (fun h' s hK hs=>ACalls.mono (UK (s:=s) (i:=j) (g:=false) (Rd.ext (hS.keeps.trans hK) hv) hB (by omega) hj hp3 hp4 hp12 hp13 (Rd.ext hK (hS.rd 4 rfl)) (Rd.ext hK (hS.rd 3 rfl)) (Rd.ext hK (hS.rd 1 rfl)) (Rd.ext hK (hS.rd 0 rfl))) (fun _ _ hx=>hx))) ?_;rintro vo h6 hF;refine Oa [6,7] ?_;refine Oj ?_;rw[Kw,if_pos c23,Int.toNat_natCast,if_neg hend,c23,Int.toNat_natCast];exact⟨_,rfl,St.pick [0] (by decide) rfl (St.trans hS hF)⟩
end Go.Am
namespace Go.Am
theorem Row.nil (h:AHeap):Row h .nils []:=.inl ⟨rfl,rfl⟩
theorem bound_c {h:AHeap} {rm i:Int} {vW:AV} {ws:List W} (hv:Rd h vW 4 (flr wc ws)) (hSz:Sizes h) (g:Bool):ACalls Go.Proofs.Tryz.prog 87 [.agg [.int .i64 rm,vW],.int .i64 i,.bool g] h (fun q h'=>∃ vo,q = .tup [vo,.int .i64 (Za rm ws i)]∧St h h' [⟨vo,1,ints (Kw rm ws i g),true⟩]):=by
 cases g
 ·exact Us hv hSz
 ·exact UL hv hSz
end Go.Am
namespace Go.Am
def OY {κ : Type} [DecidableEq κ] : List κ → κ → Nat
  | [],_=>0
  | a::l,k=>if k=a then 0 else OY l k+1
theorem XT {κ:Type} [DecidableEq κ]:∀ {l:List κ} {k : κ},k∈l→OY l k<l.length:=by
 intro l
 induction l with
 | nil=>intro k h; cases h
 | cons a l ih=>
  intro k h;simp only[OY,List.length_cons];split
  ·omega
  ·rename_i hne;have:=ih ((List.mem_cons.1 h).resolve_left hne);omega
theorem YS {κ:Type} [DecidableEq κ]:∀ {l:List κ} {k : κ},k∈l→l[OY l k]? = some k:=by
 intro l
 induction l with
 | nil=>intro k h; cases h
 | cons a l ih=>
  intro k h;simp only[OY];split
  ·rename_i he; rw[he]; rfl
  ·rename_i hne;exact ih ((List.mem_cons.1 h).resolve_left hne)
structure Lane where
 pl:Nat
 fr:Nat
 to:Nat
 told:Option Int
 top:Option Int
 packs:List Int
 paid:Bool
instance:Inhabited Lane:=⟨⟨0,0,0,none,none,[],false⟩⟩
def Lane.lo (l:Lane):Int:=if l.paid then l.told.getD 0 else match l.told with
  | some n=>max (l.packs.length:Int) n
  | none=>l.packs.length
def Lane.hi (l:Lane):Int:=if l.paid then l.told.getD 0 else l.top.getD 99
structure Off where
 rooms:List Str
 ways:List (Str × Lane)
 packs:List (Int × (Str × Int))
 ever:List Int
 claims:List Str
def YV:Off:=⟨[],[],[],[],[]⟩
def Off.ws (o:Off):List W:=o.ways.map fun p=>⟨p.2.fr,p.2.to,p.2.lo,p.2.hi⟩
def Off.rm (o:Off):Int:=o.rooms.length
inductive Tell where
 | room (r:Str)
 | way (w f t:Str)
 | bound (w:Str) (n:Int) (most:Bool)
 | pack (p:Int) (w:Str)
 | move (p s:Int)
 | claim (w:Str) (n:Int)
 | free (w:Str)
def chB (n:Int) (most:Bool) (l:Lane):Lane:=if most then {l with top:=some n} else {l with told:=some n}
def chP (p:Int) (l:Lane):Lane:={l with packs:=l.packs ++ [p]}
def QC (l:List (Str × Lane)) (w:Str) (f:Lane→Lane):List (Str × Lane):=l.map fun p=>if p.1=w then (p.1,f p.2) else p
def Off.mod (o:Off) (w:Str) (f:Lane→Lane):Off:={o with ways:=QC o.ways w f}
def Off.tries (o:Off) (w:Str) (f:Lane→Lane) (l:Lane):Int:=
 if (f l).hi<(f l).lo then 15 else if XY o.rm (o.mod w f).ws then 0 else 13
noncomputable def Off.spLo (o:Off) (i:Nat):Int:=if Za o.rm o.ws i=0 then Vq o.ws i else 0
noncomputable def Off.spHi (o:Off) (i:Nat):Int:=if Za o.rm o.ws i=0 then Vn o.ws i else 0
noncomputable def Off.wrong (o : Off) : Tell → Int
  | .room r=>if r∈o.rooms then 6 else if o.rooms.length=6 then 3 else 0
  | .way w f t=>if (OB o.ways w).isSome then 6 else if f ∉ o.rooms∨t ∉ o.rooms then 2 else if f=t then 13 else if o.ways.length=12 then 3 else 0
  | .bound w n most=>match OB o.ways w with
    | none=>2
    | some l=>if l.paid then 20 else o.tries w (chB n most) l
  | .pack p w=>if p∈o.ever then 6 else match OB o.ways w with
    | none=>2
    | some l=>if o.packs.length=20 then 3 else if l.hi≤l.packs.length then 15 else o.tries w (chP p) l
  | .move p s=>match OB o.packs p with
    | none=>2
    | some d=>if (s=2∨s=0)∧d.2≠1 then 20 else if s=3∧d.2≠2∨s=1∧d.2≠3 then 21 else 0
  | .claim w n=>match OB o.ways w with
    | none=>2
    | some l=>if l.paid then 20 else if n<o.spLo l.pl∨o.spHi l.pl<n then 14 else if o.spLo l.pl<o.spHi l.pl then 21 else 0
  | .free w=>match OB o.ways w with
    | none=>2
    | some l=>if l.paid then 20 else 0
def Off.tell (o : Off) : Tell → Off
  | .room r=>{o with rooms:=o.rooms ++ [r]}
  | .way w f t=>{o with ways:=o.ways ++ [(w,⟨o.ways.length,OY o.rooms f,OY o.rooms t,none,none,[],false⟩)]}
  | .bound w n most=>o.mod w (chB n most)
  | .pack p w=>{o.mod w (chP p) with packs:=o.packs ++ [(p,(w,1))],ever:=o.ever ++ [p]}
  | .move p s=>match OB o.packs p with
    | none=>o
    | some d=>if s=0 then {o.mod d.1 (fun l=>{l with packs:=l.packs.filter fun q=>!decide (q=p)}) with packs:=YT o.packs p} else {o with packs:=Qd o.packs p (d.1,s)}
  | .claim w n=>{o.mod w (fun l=>{l with paid:=true,told:=some n}) with claims:=o.claims ++ [w]}
  | .free w=>o.mod w (fun l=>{l with told:=none,top:=none})
def O7 (c : UInt8) : Str → List Str
  | []=>[[]]
  | x::l=>if x=c then []::O7 c l else match O7 c l with
    | w::ws=>(x::w)::ws
    | []=>[[x]]
def Zb (l:Str):Int:=l.foldl (fun n c=>10*n+((c.toNat:Int) - 48)) 0
def K8 (l:Str) (most:Nat):Bool:=decide (l≠[]) && decide (l.length≤most) && (decide (l.length=1) || !decide (l.head? = some 48)) && l.all fun c=>decide (48≤c.toNat∧c.toNat≤57)
def isName (l:Str):Bool:=decide (l≠[]) && decide (l.length≤12) && l.all fun c=>decide (97≤c.toNat∧c.toNat≤122)
def OQ:Str:=[114,111,111,109]
def O5:Str:=[119,97,121]
def OK:Str:=[108,101,97,115,116]
def OL:Str:=[109,111,115,116]
def OM:Str:=[112,97,99,107]
def OR:Str:=[115,101,97,108]
def OP:Str:=[100,101,97,108]
def ON:Str:=[98,97,99,107]
def OO:Str:=[98,117,114,110]
def OJ:Str:=[99,108,97,105,109]
def Kb:Str:=[102,114,101,101]
def OU (k:Str):Str:=if k=OQ∨k=Kb then [119] else if k=O5 then [119,119,119] else if k=OK∨k=OL∨k=OJ then [119,110] else if k=OM then [112,119] else if k=OR∨k=OP∨k=ON∨k=OO then [112] else []
def Kj (c:UInt8) (w:Str):Int:=if c=119 then (if isName w then 0 else 10) else if K8 w 3 then 0 else 9
def Kl (c:UInt8) (w:Str):Bool:=(decide (c=112) && decide (Zb w=0)) || (decide (c=110) && decide (99<Zb w))
def QB : Str → List Str → Int
  | c::f,w::l=>if Kj c w=0 then QB f l else Kj c w
  | _,_=>0
def Yq : Str → List Str → Bool
  | c::f,w::l=>Kl c w || Yq f l
  | _,_=>false
def Yu : Str → List Str → Int → Int
  | c::f,w::l,n=>Yu f l (if c=119 then n else Zb w)
  | _,_,n=>n
def Qc (l:List Str) (n:Int):Tell:=
 let k:=l.getD 0 []
 if k=OQ then .room (l.getD 1 []) else if k=O5 then .way (l.getD 1 []) (l.getD 2 []) (l.getD 3 []) else if k=OK∨k=OL then .bound (l.getD 1 []) n (decide (k=OL))
 else if k=OM then .pack n (l.getD 2 []) else if k=OR then .move n 2 else if k=OP then .move n 3 else if k=ON then .move n 1 else if k=OO then .move n 0 else if k=OJ then .claim (l.getD 1 []) n else .free (l.getD 1 [])
def KM (line:Str):Int:=
 let l:=O7 32 line
 let f:=OU (l.getD 0 [])
 if 40<line.length then 19 else if []∈l∨(line.any fun c=>decide (c.toNat<32∨126<c.toNat)) then 9 else if f = [] then 8 else if l.length≠f.length+1 then 5
 else if QB f (l.drop 1)≠0 then QB f (l.drop 1) else if Yq f (l.drop 1) then 1 else 0
def Qp (line:Str):Tell:=
 let l:=O7 32 line
 Qc l (Yu (OU (l.getD 0 [])) (l.drop 1) 0)
def after (lines:List Str):Off:=lines.foldl (fun o x=>o.tell (Qp x)) YV
noncomputable def O4 (lines:List Str) (line:Str):Int:=
 let e:=if KM line=0 then (after lines).wrong (Qp line) else KM line
 if e=0∧lines.length=100 then 16 else e
noncomputable def doL (lines:List Str) (line:Str):List Str:=if O4 lines line=0 then lines ++ [line] else lines
inductive Done:List Str→Prop where
 | nil:Done []
 | snoc {lines:List Str} {line:Str} (h:Done lines) (he:O4 lines line=0):Done (lines ++ [line])
theorem Xc (lines:List Str) (x:Str):after (lines ++ [x])=(after lines).tell (Qp x):=by simp[after]
end Go.Am
namespace Go.Am
structure LA where
 p:AV
 told:AV
 top:AV
 packs:AV
 t1:Bool
 t2:Bool
 t3:Bool
instance:Inhabited LA:=⟨⟨.nilp,.nils,.nils,.nils,false,false,false⟩⟩
def lcells (a:LA) (l:Lane):List AV:=[.int .i64 (l.pl:Int),.int .i64 (l.fr:Int),.int .i64 (l.to:Int),a.told,a.top,a.packs,.bool l.paid]
def lobj (a:LA) (l:Lane):Obj:=⟨a.p,0,lcells a l,true⟩
def toldO (a:LA) (l:Lane):Obj:=⟨a.told,1,ints l.told.toList,a.t1⟩
def topO (a:LA) (l:Lane):Obj:=⟨a.top,1,ints l.top.toList,a.t2⟩
def JF (a:LA) (l:Lane):Obj:=⟨a.packs,1,ints l.packs,a.t3⟩
def KJ (a:LA) (l:Lane):List Obj:=[lobj a l,toldO a l,topO a l,JF a l]
def KB : List LA → List (Str × Lane) → List Obj
  | a::la,p::ws=>KJ a p.2 ++ KB la ws
  | _,_=>[]
structure LOk (a:LA) (l:Lane):Prop where
 ad:AddrOf a.p a.p 0 0
 told:l.told=none→a.told = .nils
 top:l.top=none→a.top = .nils
structure RLane (h:AHeap) (a:LA) (l:Lane):Prop where
 ok:LOk a l
 rd:Rd h a.p 0 (lcells a l)
 rtold:Row h a.told l.told.toList
 rtop:Row h a.top l.top.toList
 rpacks:Row h a.packs l.packs
theorem RLane.ext {h h':AHeap} {a:LA} {l:Lane} (r:RLane h a l) (k:Keeps h h'):RLane h' a l:=⟨r.ok,r.rd.ext k,r.rtold.ext k,r.rtop.ext k,r.rpacks.ext k⟩
theorem St.rlane {h0 h:AHeap} {a:LA} {l:Lane} {G:List Obj} (st:St h0 h (KJ a l ++ G)) (ok:LOk a l):RLane h a l:=
 ⟨ok,st.rd 0 rfl,st.rd 1 rfl,st.rd 2 rfl,st.rd 3 rfl⟩
structure OA where
 po:AV
 vr:AV
 vn:AV
 vw:AV
 vp:AV
 ve:AV
 vc:AV
 la:List LA
 da:List AV
def KV : List AV → List (Int × (Str × Int)) → List Obj
  | a::da,p::ps=>⟨a,0,[.str (wd p.2.1),.int .i64 p.2.2],true⟩::KV da ps
  | _,_=>[]
def QJ (la:List LA) (ws:List (Str × Lane)):List (Str × AV):=(ws.map (·.1)).zip (la.map (·.p))
def KT (da:List AV) (ps:List (Int × (Str × Int))):List (Int × AV):=(ps.map (·.1)).zip da
abbrev kint (i:Int):AV:=.int .i64 i
abbrev idV (v:AV):AV:=v
def ZA (A:OA) (O:Off):List Obj:=
 ⟨A.po,0,[A.vr,A.vn,A.vw,A.vp,A.ve,A.vc],true⟩::⟨A.vr,1,wcs O.rooms,true⟩::⟨A.vn,1,wcs (O.ways.map (·.1)),true⟩::dmapO A.vw (entL kstr idV (QJ A.la O.ways)) ::
 dmapO A.vp (entL kint idV (KT A.da O.packs))::dmapO A.ve (entL kint AV.bool (O.ever.map fun x=>(x,true)))::⟨A.vc,1,wcs O.claims,true⟩ :: []
def Kf (A:OA) (O:Off):List Obj:=ZA A O ++ (KB A.la O.ways ++ KV A.da O.packs)
structure AOk (A:OA) (O:Off):Prop where
 po:AddrOf A.po A.po 0 0
 vw:Zy A.vw
 vp:Zy A.vp
 ve:Zy A.ve
 ll:A.la.length=O.ways.length
 lok:∀ i,i<O.ways.length→LOk (A.la.getD i default) (O.ways.getD i default).2
 dl:A.da.length=O.packs.length
 dok:∀ i,i<O.packs.length→AddrOf (A.da.getD i .bot) (A.da.getD i .bot) 0 0
theorem Jy (a:LA) (la:List LA) (p:Str × Lane) (ws:List (Str × Lane)):KB (a::la) (p::ws)=KJ a p.2 ++ KB la ws:=rfl
theorem Yt:∀ (la:List LA) (ws:List (Str × Lane)) (i:Nat),la.length=ws.length→i<ws.length→(KB la ws).Perm (KJ (la.getD i default) (ws.getD i default).2 ++ KB (la.eraseIdx i) (ws.eraseIdx i)):=by
 intro la
 induction la with
 | nil=>intro ws i hl hi; simp at hl; omega
 | cons a la ih=>
  intro ws i hl hi
  cases ws with
  | nil=>simp at hi
  | cons p ws=>
   cases i with
   | zero=>exact List.Perm.refl _
   | succ i=>
    have:=ih ws i (by simpa using hl) (by simpa using hi);rw[Jy,List.getD_cons_succ,List.getD_cons_succ,List.eraseIdx_cons_succ,List.eraseIdx_cons_succ,Jy];refine(List.Perm.append_left _ this).trans ?_;rw[←List.append_assoc,←List.append_assoc];exact List.Perm.append_right _ List.perm_append_comm
theorem Uv (la:List LA) (ws:List (Str × Lane)) (i:Nat) (hl:la.length=ws.length) (hi:i<ws.length) (a:LA) (p:Str × Lane):(KJ a p.2 ++ KB (la.eraseIdx i) (ws.eraseIdx i)).Perm (KB (la.set i a) (ws.set i p)):=by
 have:=Yt (la.set i a) (ws.set i p) i (by simp[hl]) (by simpa using hi);rw[List.getD_eq_getElem?_getD,List.getD_eq_getElem?_getD,List.getElem?_set,List.getElem?_set,if_pos rfl,if_pos rfl,if_pos (by omega),if_pos hi,Option.getD_some,Option.getD_some] at this;have e1:(la.set i a).eraseIdx i=la.eraseIdx i:=List.eraseIdx_set_eq;have e2:(ws.set i p).eraseIdx i=ws.eraseIdx i:=List.eraseIdx_set_eq;rw[e1,e2] at this;exact this.symm
theorem Jr (a:AV) (da:List AV) (p:Int × (Str × Int)) (ps:List (Int × (Str × Int))):KV (a::da) (p::ps)=⟨a,0,[.str (wd p.2.1),.int .i64 p.2.2],true⟩::KV da ps:=rfl
theorem Jq:∀ (da:List AV) (ps:List (Int × (Str × Int))) (i:Nat),da.length=ps.length→i<ps.length→(KV da ps).Perm (⟨da.getD i .bot,0,[.str (wd (ps.getD i default).2.1),.int .i64 (ps.getD i default).2.2],true⟩::KV (da.eraseIdx i) (ps.eraseIdx i)):=by
 intro da
 induction da with
 | nil=>intro ps i hl hi; simp at hl; omega
 | cons a da ih=>
  intro ps i hl hi
  cases ps with
  | nil=>simp at hi
  | cons p ps=>
   cases i with
   | zero=>exact List.Perm.refl _
   | succ i=>
    have:=ih ps i (by simpa using hl) (by simpa using hi);rw[Jr,List.getD_cons_succ,List.getD_cons_succ,List.eraseIdx_cons_succ,List.eraseIdx_cons_succ,Jr];exact(List.Perm.cons _ this).trans (List.Perm.swap _ _ _)
theorem U5 {κ ν:Type} [DecidableEq κ]:∀ (ks:List κ) (vs:List ν) (k : κ),ks.length=vs.length→OB (ks.zip vs) k=if k∈ks then vs[OY ks k]? else none:=by
  intro ks
  induction ks with
  | nil=>intro vs k _; simp[OB]
  | cons a ks ih=>
    intro vs k hl
    cases vs with
    | nil=>simp at hl
    | cons v vs=>
      simp only[List.zip_cons_cons,OB,OY];by_cases h:k=a
      · rw[if_pos h,if_pos h,if_pos (by simp[h])];rfl
      · rw[if_neg h,if_neg h,ih vs k (by simpa using hl)];by_cases hm:k∈ks
        · rw[if_pos hm,if_pos (by simp[hm])];rfl
        · rw[if_neg hm,if_neg (by simp[h,hm])]
theorem YU {κ ν:Type} [DecidableEq κ]:∀ (l:List (κ × ν)) (k : κ),OB l k=if k∈l.map (·.1) then (l[OY (l.map (·.1)) k]?).map (·.2) else none:=by
  intro l
  induction l with
  | nil=>intro k; rfl
  | cons a l ih=>
    intro k;simp only[List.map_cons,OB,OY];by_cases h:k=a.1
    · rw[if_pos h,if_pos h,if_pos (by simp[h])];rfl
    · rw[if_neg h,if_neg h,ih k];by_cases hm:k∈l.map (·.1)
      · rw[if_pos hm,if_pos (List.mem_cons_of_mem _ hm)];rfl
      · rw[if_neg hm,if_neg (fun hc=>(List.mem_cons.1 hc).elim h hm)]
theorem YC {κ ν:Type} [DecidableEq κ] {l:List (κ × ν)} {k : κ} {v : ν} (h:OB l k=some v):∃ i,i<l.length∧l[i]? = some (k,v)∧i=OY (l.map (·.1)) k:=by
 rw[YU] at h;split at h
 ·rename_i hm;have hlt:OY (l.map (·.1)) k<l.length:=by have:=XT hm; rwa [List.length_map] at this
  have hg:=YS hm;rw[List.getElem?_map,List.getElem?_eq_getElem hlt,Option.map_some,Option.some.injEq] at hg;rw[List.getElem?_eq_getElem hlt,Option.map_some,Option.some.injEq] at h;exact⟨_,hlt,by rw[List.getElem?_eq_getElem hlt]; exact congrArg some (Prod.ext hg h),rfl⟩
 ·cases h
theorem Jb {κ ν:Type} [DecidableEq κ] {l:List (κ × ν)} {k : κ} (h:OB l k=none):k ∉ l.map (·.1):=by
 intro hm;have hlt:OY (l.map (·.1)) k<l.length:=by have:=XT hm; rwa [List.length_map] at this
 rw[YU,if_pos hm,List.getElem?_eq_getElem hlt] at h
 cases h
theorem Wf {la:List LA} {ws:List (Str × Lane)} (hl:la.length=ws.length) {w:Str}:(OB ws w=none→OB (QJ la ws) w=none)∧∀ i l,i=OY (ws.map (·.1)) w→ws[i]? = some (w,l)→OB (QJ la ws) w=some (la.getD i default).p:=by
 have hz:=U5 (ws.map (·.1)) (la.map (·.p)) w (by simp[hl]);refine⟨fun h=>?_,fun i l hi h=>?_⟩
 ·rw[QJ,hz,if_neg (Jb h)]
 ·have hlt:=(List.getElem?_eq_some_iff.1 h).1;have hm:w∈ws.map (·.1):=List.mem_map.2 ⟨_,List.mem_of_getElem? h,rfl⟩;rw[QJ,hz,if_pos hm,←hi,List.getElem?_map,List.getD_eq_getElem?_getD,List.getElem?_eq_getElem (show i<la.length by omega)];rfl
theorem packE_get {da:List AV} {ps:List (Int × (Str × Int))} (hl:da.length=ps.length) {p:Int}:(OB ps p=none→OB (KT da ps) p=none)∧∀ i d,i=OY (ps.map (·.1)) p→ps[i]? = some (p,d)→OB (KT da ps) p=some (da.getD i .bot):=by
 have hz:=U5 (ps.map (·.1)) da p (by simp[hl]);refine⟨fun h=>?_,fun i l hi h=>?_⟩
 ·rw[KT,hz,if_neg (Jb h)]
 ·have hlt:=(List.getElem?_eq_some_iff.1 h).1;have hm:p∈ps.map (·.1):=List.mem_map.2 ⟨_,List.mem_of_getElem? h,rfl⟩;rw[KT,hz,if_pos hm,←hi,List.getD_eq_getElem?_getD,List.getElem?_eq_getElem (show i<da.length by omega)];rfl
theorem X4:∀ {ws:List (Str × Lane)} {i:Nat} {w:Str} {l:Lane} (f:Lane→Lane),(ws.map (·.1)).Nodup→ws[i]? = some (w,l)→QC ws w f=ws.set i (w,f l):=by
 intro ws
 induction ws with
 | nil=>intro i w l f _ h; simp at h
 | cons p ws ih=>
  intro i w l f hn h;rw[List.map_cons,List.nodup_cons] at hn;have key:p.1 ∉ ws.map (·.1)→QC ws p.1 f=ws:=by
   intro hp;unfold QC;refine(List.map_congr_left fun q hq=>?_).trans (List.map_id ws);rw[if_neg (fun e=>hp (List.mem_map.2 ⟨q,hq,e⟩))];rfl
  cases i with
  | zero=>
   cases h
   simp only[QC,List.map_cons,if_true,List.set_cons_zero];exact congrArg _ (key hn.1)
  | succ i=>
   have h':ws[i]? = some (w,l):=h;have hne:p.1≠w:=fun e=>hn.1 (List.mem_map.2 ⟨_,List.mem_of_getElem? h',e.symm⟩)
   simp only[QC,List.map_cons,if_neg hne,List.set_cons_succ];exact congrArg _ (ih f hn.2 h')
theorem Xf (ws:List (Str × Lane)) (w:Str) (f:Lane→Lane):(QC ws w f).map (·.1)=ws.map (·.1):=by
 rw[QC,List.map_map];refine List.map_congr_left fun q _=>?_
 simp only[Function.comp_apply];split <;> rfl
theorem X3 (ws:List (Str × Lane)) (w:Str) (f:Lane→Lane):(QC ws w f).length=ws.length:=List.length_map _
structure ROff (h:AHeap) (A:OA) (O:Off):Prop where
 ok:AOk A O
 off:Rd h A.po 0 [A.vr,A.vn,A.vw,A.vp,A.ve,A.vc]
 rooms:WRow h A.vr O.rooms
 names:WRow h A.vn (O.ways.map (·.1))
 ways:RdD h A.vw (entL kstr idV (QJ A.la O.ways))
 packs:RdD h A.vp (entL kint idV (KT A.da O.packs))
 ever:RdD h A.ve (entL kint AV.bool (O.ever.map fun x=>(x,true)))
 claims:WRow h A.vc O.claims
 lane:∀ i,i<O.ways.length→RLane h (A.la.getD i default) (O.ways.getD i default).2
 deck:∀ i,i<O.packs.length→Rd h (A.da.getD i .bot) 0 [.str (wd (O.packs.getD i default).2.1),.int .i64 (O.packs.getD i default).2.2]
theorem ROff.ext {h h':AHeap} {A:OA} {O:Off} (r:ROff h A O) (k:Keeps h h'):ROff h' A O:=
 ⟨r.ok,r.off.ext k,r.rooms.ext k,r.names.ext k,r.ways.ext k,r.packs.ext k,r.ever.ext k,r.claims.ext k,fun i hi=>(r.lane i hi).ext k,fun i hi=>(r.deck i hi).ext k⟩
theorem St.roff {h0 h:AHeap} {A:OA} {O:Off} {G:List Obj} (st:St h0 h (Kf A O ++ G)) (ok:AOk A O):ROff h A O:=by
 refine⟨ok,st.rd 0 rfl,st.rd 1 rfl,st.rd 2 rfl,st.rdD 3 rfl ok.vw,st.rdD 4 rfl ok.vp,st.rdD 5 rfl ok.ve,st.rd 6 rfl,?_,?_⟩
 ·intro i hi;have hp:(Kf A O ++ G).Perm (KJ (A.la.getD i default) (O.ways.getD i default).2 ++ (ZA A O ++ (KB (A.la.eraseIdx i) (O.ways.eraseIdx i) ++ KV A.da O.packs) ++ G)):=by
   unfold Kf;have h1:=Yt A.la O.ways i ok.ll hi;have h2:(ZA A O ++ (KB A.la O.ways ++ KV A.da O.packs)).Perm (KJ (A.la.getD i default) (O.ways.getD i default).2 ++ (ZA A O ++ (KB (A.la.eraseIdx i) (O.ways.eraseIdx i) ++ KV A.da O.packs))):=by
    refine(List.Perm.append_left _ (List.Perm.append_right _ h1)).trans ?_;rw[List.append_assoc,←List.append_assoc,←List.append_assoc (KJ _ _)];exact List.Perm.append_right _ List.perm_append_comm
   rw[←List.append_assoc];exact List.Perm.append_right _ h2
  exact(St.perm hp st).rlane (ok.lok i hi)
 ·intro i hi;have h1:=Jq A.da O.packs i ok.dl hi;have hp:(Kf A O ++ G).Perm ((⟨A.da.getD i .bot,0,[.str (wd (O.packs.getD i default).2.1),.int .i64 (O.packs.getD i default).2.2],true⟩::KV (A.da.eraseIdx i) (O.packs.eraseIdx i)) ++ (ZA A O ++ KB A.la O.ways ++ G)):=by
   unfold Kf;have h2:(ZA A O ++ (KB A.la O.ways ++ KV A.da O.packs)).Perm (KV A.da O.packs ++ (ZA A O ++ KB A.la O.ways)):=by
    rw[←List.append_assoc];exact List.perm_append_comm
   refine(List.Perm.append_right G h2).trans ?_;rw[List.append_assoc];exact List.Perm.append_right _ h1
  exact(St.perm hp st).rd 0 rfl
structure WF (O:Off):Prop where
 nd:(O.ways.map (·.1)).Nodup
 paid:∀ p∈O.ways,p.2.paid=true→p.2.told.isSome=true
 pl:∀ i,i<O.ways.length→(O.ways.getD i default).2.pl=i
 rooms:O.rooms.length≤6
 ways:O.ways.length≤12
 packs:O.packs.length≤20
 lp:∀ p∈O.ways,p.2.packs.length≤99
 ever:O.ever.length≤100
 claims:O.claims.length≤100
 home:∀ p∈O.packs,p.2.1∈O.ways.map (·.1)
 pnd:(O.packs.map (·.1)).Nodup
 rk:∀ p∈O.ways,p.2.fr<O.rooms.length∧p.2.to<O.rooms.length∧p.2.fr≠p.2.to
 rg:∀ p∈O.ways,0≤p.2.lo∧p.2.lo≤p.2.hi∧p.2.hi≤99
 pev:∀ p∈O.packs,p.1∈O.ever
theorem getD_mem {α:Type} {l:List α} {i:Nat} {d : α} (h:i<l.length):l.getD i d∈l:=by
 rw[List.getD_eq_getElem?_getD,List.getElem?_eq_getElem h]; exact List.getElem_mem h
theorem way_at {A:OA} {O:Off} (ok:AOk A O) (nd:(O.ways.map (·.1)).Nodup) {i:Nat} (hi:i<O.ways.length):OB (QJ A.la O.ways) (O.ways.getD i default).1=some (A.la.getD i default).p:=by
 have h1:O.ways[i]? = some ((O.ways.getD i default).1,(O.ways.getD i default).2):=by rw[List.getD_eq_getElem?_getD,List.getElem?_eq_getElem hi]; rfl
 refine(Wf ok.ll).2 i (O.ways.getD i default).2 ?_ h1;have hm:(O.ways.getD i default).1∈O.ways.map (·.1):=List.mem_map.2 ⟨_,getD_mem hi,rfl⟩;have h2:=YS hm;exact Vr nd (by rw[List.getElem?_map,h1]; rfl) h2
end Go.Am
namespace Go.Am
theorem dec_lo {s:ByteArray} {p:Nat} (h:(s.get! p).toNat<128):Utf8.decode s p=((s.get! p).toNat,1):=by
 unfold Utf8.decode;simp only[Nat.add_zero];rw[if_pos h]
theorem dec_hi {s:ByteArray} {p:Nat} (h : 128≤(s.get! p).toNat) : 128≤(Utf8.decode s p).1:=by
 unfold Utf8.decode;simp only[Nat.add_zero];rw[if_neg (by omega)];have h9:(128:Nat)≤Utf8.runeError:=by decide
 split
 ·split
  ·rename_i h; exact h
  ·exact h9
 ·split
  ·split
   ·rename_i h; simp at h; omega
   ·exact h9
  ·split
   ·split
    ·rename_i h; simp at h; omega
    ·exact h9
   ·exact h9
theorem XL {l:Str} {p:Nat} (hp:p<l.length) (h:(l.getD p 0).toNat<128):Utf8.decode (wd l) p=((l.getD p 0).toNat,1):=by
 have:=dec_lo (s:=wd l) (p:=p) (by rw[VP hp]; exact h);rw[VP hp] at this;exact this
theorem V7 {l:Str} {p:Nat} (hp:p<l.length) (h : 128≤(l.getD p 0).toNat) : 128≤(Utf8.decode (wd l) p).1:=dec_hi (by rw[VP hp]; exact h)
theorem wrap32 {a:Int} (h1 : -2147483648≤a) (h2:a≤2147483647):IntKind.i32.wrap a=a:=by
 unfold IntKind.wrap;simp[IntKind.bits,IntKind.signed];omega
section
variable {P:Program} {n:Nat} {ops:Array Oper} {ex:List Nat} {Q:KF→AHeap→Prop} {k:Nat} {os:List Oper} {K:KF} {h:AHeap} {d:Nat} {ty:TypeId} {pos:String} {after:Array Edge}
theorem KOps.subK {t t' : TypeId} {x y : Operand} {kd : IntKind} {a b : Int} [hx : EvK h.globs n K x (.int kd a)] [hy : EvK h.globs n K y (.int kd b)] (hw : kd.wrap (a - b) = a - b)
    (hk:KOps P n ops ex Q (k+1) os ((d,.int kd (a - b))::K) h):KOps P n ops ex Q k (⟨some d,.binOp .sub t x y t',ty,pos,after,none⟩::os) K h:=
  Qk (.inr (.inr rfl)) (by simp only[XU,hw]) hk
theorem isSlc {v:AV} {z:Nat} {xs:List AV} (hr:Rd h v z xs) (hz : 0<z) (hne:xs≠[]):∃ b o m full,v = .slc b o m z full:=by
 rcases hr with ⟨_,h2⟩|⟨b,o,F,p,cs,h1,_⟩|⟨_,_,_,_,h0,_⟩
 ·exact absurd h2 hne
 ·rcases h1 with ⟨m,full,h1,_⟩|⟨h0,_⟩
  ·exact⟨b,o,m,full,h1⟩
  ·omega
 ·omega
theorem KOps.nilEqY {t t' e:TypeId} {s:Nat} {zs:List AV} {x y:Operand} {v:AV} [hx:EvK h.globs n K x v] [hy:EvK h.globs n K y .nils] [ht:SlT P t e s zs] (hv:v = .nils) (hk:KOps P n ops ex Q (k+1) os ((d,.bool true)::K) h):KOps P n ops ex Q k (⟨some d,.binOp .eql t x y t',ty,pos,after,none⟩::os) K h:=
 Kh rfl (by simp only[apure,hx.eq,hy.eq,hv,Zm]; rw[if_pos ht.sl]) hk
theorem KOps.nilNeY {t t' e:TypeId} {s:Nat} {zs:List AV} {x y:Operand} {v:AV} [hx:EvK h.globs n K x v] [hy:EvK h.globs n K y .nils] [ht:SlT P t e s zs] (hv:v = .nils) (hk:KOps P n ops ex Q (k+1) os ((d,.bool false)::K) h):KOps P n ops ex Q k (⟨some d,.binOp .neq t x y t',ty,pos,after,none⟩::os) K h:=
 Kh rfl (by simp only[apure,hx.eq,hy.eq,hv,Zm]; rw[if_pos ht.sl]) hk
def Yn (v:AV):Prop:=∃ b o m z full,v = .slc b o m z full
theorem Rd.nilOr {v:AV} {xs:List AV} {z:Nat} (hr:Rd h v z xs) (hz : 0<z):(v = .nils∧xs = [])∨Yn v:=by
 rcases hr with h2|⟨b,o,F,p,cs,h1,_⟩|⟨_,_,_,_,h0,_⟩
 ·exact .inl h2
 ·rcases h1 with ⟨m,full,h1,_⟩|⟨h0,_⟩
  ·exact .inr ⟨b,o,m,_,full,h1⟩
  ·omega
 ·omega
theorem KOps.nilEqS {t t' e:TypeId} {s:Nat} {zs:List AV} {x y:Operand} {v:AV} [hx:EvK h.globs n K x v] [hy:EvK h.globs n K y .nils] [ht:SlT P t e s zs] (hv:Yn v) (hk:KOps P n ops ex Q (k+1) os ((d,.bool false)::K) h):KOps P n ops ex Q k (⟨some d,.binOp .eql t x y t',ty,pos,after,none⟩::os) K h:=by
 obtain⟨b,o,m,z,full,rfl⟩:=hv;exact Kh rfl (by simp only[apure,hx.eq,hy.eq,Zm]; rw[if_pos ht.sl]) hk
theorem KOps.nilNeS {t t' e:TypeId} {s:Nat} {zs:List AV} {x y:Operand} {v:AV} [hx:EvK h.globs n K x v] [hy:EvK h.globs n K y .nils] [ht:SlT P t e s zs] (hv:Yn v) (hk:KOps P n ops ex Q (k+1) os ((d,.bool true)::K) h):KOps P n ops ex Q k (⟨some d,.binOp .neq t x y t',ty,pos,after,none⟩::os) K h:=by
 obtain⟨b,o,m,z,full,rfl⟩:=hv;exact Kh rfl (by simp only[apure,hx.eq,hy.eq,Zm]; rw[if_pos ht.sl]) hk
theorem KOps.ptrEqY {t t':TypeId} {x y:Operand} {v:AV} [hx:EvK h.globs n K x v] [hy:EvK h.globs n K y .nilp] (ht:Z1 P t=true) (hv:v = .nilp) (hk:KOps P n ops ex Q (k+1) os ((d,.bool true)::K) h):KOps P n ops ex Q k (⟨some d,.binOp .eql t x y t',ty,pos,after,none⟩::os) K h:=
 Kh rfl (by simp only[apure,hx.eq,hy.eq,hv,Zm]; rw[if_pos ht]) hk
theorem KOps.ptrNeY {t t':TypeId} {x y:Operand} {v:AV} [hx:EvK h.globs n K x v] [hy:EvK h.globs n K y .nilp] (ht:Z1 P t=true) (hv:v = .nilp) (hk:KOps P n ops ex Q (k+1) os ((d,.bool false)::K) h):KOps P n ops ex Q k (⟨some d,.binOp .neq t x y t',ty,pos,after,none⟩::os) K h:=
 Kh rfl (by simp only[apure,hx.eq,hy.eq,hv,Zm]; rw[if_pos ht]) hk
theorem VI {v:AV} (ha:AddrOf v v 0 0):∃ b o,v = .ptr b o:=by
 obtain⟨b,o,h,_⟩:=ha;rcases h with ⟨h0,_⟩|⟨_,h1⟩
 ·omega
 ·exact⟨b,o,h1⟩
theorem KOps.ptrEqN {t t':TypeId} {x y:Operand} {v:AV} [hx:EvK h.globs n K x v] [hy:EvK h.globs n K y .nilp] (ht:Z1 P t=true) (ha:AddrOf v v 0 0) (hk:KOps P n ops ex Q (k+1) os ((d,.bool false)::K) h):KOps P n ops ex Q k (⟨some d,.binOp .eql t x y t',ty,pos,after,none⟩::os) K h:=by
 obtain⟨b,o,rfl⟩:=VI ha;exact Kh rfl (by simp only[apure,hx.eq,hy.eq,Zm]; rw[if_pos ht]) hk
theorem KOps.ptrNeN {t t':TypeId} {x y:Operand} {v:AV} [hx:EvK h.globs n K x v] [hy:EvK h.globs n K y .nilp] (ht:Z1 P t=true) (ha:AddrOf v v 0 0) (hk:KOps P n ops ex Q (k+1) os ((d,.bool true)::K) h):KOps P n ops ex Q k (⟨some d,.binOp .neq t x y t',ty,pos,after,none⟩::os) K h:=by
 obtain⟨b,o,rfl⟩:=VI ha;exact Kh rfl (by simp only[apure,hx.eq,hy.eq,Zm]; rw[if_pos ht]) hk
theorem KOps.nilNeB (b:Bool) {t t' e:TypeId} {s:Nat} {zs:List AV} {x y:Operand} {v:AV} [hx:EvK h.globs n K x v] [hy:EvK h.globs n K y .nils] [ht:SlT P t e s zs] (h0:b=false→v = .nils) (h1:b=true→Yn v) (hk:KOps P n ops ex Q (k+1) os ((d,.bool b)::K) h):KOps P n ops ex Q k (⟨some d,.binOp .neq t x y t',ty,pos,after,none⟩::os) K h:=by
 cases b
 ·exact KOps.nilNeY (h0 rfl) hk
 ·exact KOps.nilNeS (h1 rfl) hk
theorem KOps.ptrNeB (b:Bool) {t t':TypeId} {x y:Operand} {v:AV} [hx:EvK h.globs n K x v] [hy:EvK h.globs n K y .nilp] (ht:Z1 P t=true) (h0:b=false→v = .nilp) (h1:b=true→AddrOf v v 0 0) (hk:KOps P n ops ex Q (k+1) os ((d,.bool b)::K) h):KOps P n ops ex Q k (⟨some d,.binOp .neq t x y t',ty,pos,after,none⟩::os) K h:=by
 cases b
 ·exact KOps.ptrNeY ht (h0 rfl) hk
 ·exact KOps.ptrNeN ht (h1 rfl) hk
theorem KOps.ptrEqB (b:Bool) {t t':TypeId} {x y:Operand} {v:AV} [hx:EvK h.globs n K x v] [hy:EvK h.globs n K y .nilp] (ht:Z1 P t=true) (h0:b=true→v = .nilp) (h1:b=false→AddrOf v v 0 0) (hk:KOps P n ops ex Q (k+1) os ((d,.bool b)::K) h):KOps P n ops ex Q k (⟨some d,.binOp .eql t x y t',ty,pos,after,none⟩::os) K h:=by
 cases b
 ·exact KOps.ptrEqN ht (h1 rfl) hk
 ·exact KOps.ptrEqY ht (h0 rfl) hk
end
end Go.Am
