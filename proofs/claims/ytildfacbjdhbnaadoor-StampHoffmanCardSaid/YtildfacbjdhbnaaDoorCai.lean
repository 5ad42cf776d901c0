/-
  Layer 01: all flows; sums, rooms and lists as the outright laws see them: contracts.
  Conditions: none.
-/
import Derived.Test.YtildfacbjdhbnaaDoorCag
namespace Go.Am
theorem two_sums {s : Nat} {w : W} (hs : s < 64) (hf0 : 0 ≤ w.f) (hf1 : w.f < 6) (ht0 : 0 ≤ w.t) (ht1 : w.t < 6) :
    decide (bits .and .i64 ((s : Int).fdiv (2 ^ Min.min w.t.toNat (IntKind.bits .i64))) 1 < bits .and .i64 ((s : Int).fdiv (2 ^ Min.min w.f.toNat (IntKind.bits .i64))) 1) = lvs w s ∧
    decide (bits .and .i64 ((s : Int).fdiv (2 ^ Min.min w.f.toNat (IntKind.bits .i64))) 1 < bits .and .i64 ((s : Int).fdiv (2 ^ Min.min w.t.toNat (IntKind.bits .i64))) 1) = ens w s := by
  have h1 := and64 s hs w.f.toNat (by omega)
  have h2 := and64 s hs w.t.toNat (by omega)
  rw [show ((w.f.toNat : Nat) : Int).toNat = w.f.toNat by omega] at h1
  rw [show ((w.t.toNat : Nat) : Int).toNat = w.t.toNat by omega] at h2
  rw [h1, h2]
  unfold lvs ens inS
  cases s.testBit w.f.toNat <;> cases s.testBit w.t.toNat <;> exact ⟨rfl, rfl⟩

theorem flows_c {h : AHeap} {rm : Int} {vW : AV} {ws : List W} (hv : Rd h vW 4 (flr wc ws)) (hB : BOk rm ws) (ht : Thin ws) : ACalls Go.Proofs.Tryd.prog 45 [.agg [.int .i64 rm, vW]] h (fun q h' => ∃ vs, vs.length = (allF ws).length ∧ St h h' (matObjs true q vs (allF ws) ++ [])) := by
  refine KA.fn 9 [.tmp 2] Go.Proofs.Tryd.func45 rfl (by decide) rfl rfl (Nat.le_of_ble_eq_true rfl) ?_
  have hS := St.refl h
  have hvo : vW.one = true := hv.one
  have hfl := flowsF_len ht ws.length [] (by simp)
  have hwl := hB.len
  have h5 : 5 ^ ws.length ≤ 5 ^ 12 := Nat.pow_le_pow_right (by decide) hwl
  show KA _ 9 _ _ [(0, .agg [.int .i64 rm, vW])] _
  refine KA.seq ?_
  refine KA.region rfl ?_
  refine KOps.boxAll hS (by first | rfl | (simp [AV.one]; done) | (simp [AV.one]; assumption) | (simp [AV.one, *]; done)) ?_
  intro p1 h' hp1 hS
  refine KOps.assign ?_
  refine KOps.done ?_
  refine sqQ.normal ?_
  refine KA.sub (Sub.cons (t := 1) Look.eq (Sub.nil _)) ?_
  refine KA.seq ?_
  refine KA.region rfl ?_
  refine KOps.alloc hS ?_
  intro p3 h2 hp3 hS
  refine KOps.done ?_
  refine sqQ.normal ?_
  refine KA.seq ?_
  refine KA.region rfl ?_
  refine KOps.alloc hS ?_
  intro p4 h3 hp4 hS
  refine KOps.done ?_
  refine sqQ.normal ?_
  refine KA.seq ?_
  refine KA.region rfl ?_
  refine KOps.makeFunc ?_
  refine KOps.storeBox hS rfl (i := 0) rfl hp4 (by first | rfl | assumption) ?_
  intro h' hS
  simp only [List.set_cons_zero] at hS
  refine KOps.done ?_
  refine sqQ.normal ?_
  refine KA.sub (Sub.cons (t := 3) Look.eq (Sub.cons (t := 4) Look.eq (Sub.nil _))) ?_
  refine KA.seq ?_
  refine KA.region rfl ?_
  refine KOps.loadBox hS (i := 0) rfl hp4 ?_
  refine KOps.call rfl (flows1_c hp1 hp3 hp4 hv hB ht ws.length (vo := .nils) (vs := []) (l := []) (ps := []) (G := []) (by simp) (fun k hk => absurd hk (Nat.not_lt_zero _)) rfl (by simpa using (by omega : (flowsF ws ws.length []).length ≤ 4294967295)) (St.nil (St.pick [1, 2, 0, 3] (by decide) rfl (St.addNil 1 true hS)) 1)) ?_
  rintro _ h5 ⟨vo, vs, hl, hS⟩
  rw [List.nil_append] at hl hS
  refine KOps.done ?_
  refine sqQ.normal ?_
  refine KA.sub (Sub.cons (t := 3) Look.eq (Sub.nil _)) ?_
  refine KA.seq ?_
  refine KA.region rfl ?_
  refine KOps.loadBox hS (i := 0) rfl hp3 ?_
  refine KOps.assign ?_
  refine KOps.done ?_
  refine sqQ.normal ?_
  refine KA.sub (Sub.cons (t := 2) Look.eq (Sub.nil _)) ?_
  refine KA.ret ?_
  refine fnQ.ret1 ?_
  exact ⟨vs, hl, St.drop (A := [_, _, _]) hS⟩

theorem sums46_c {h : AHeap} {rm w : Int} {vW : AV} {ws : List W} {s : Nat} (hv : Rd h vW 4 (flr wc ws)) (hB : BOk rm ws) (hs : s < 64) : ACalls Go.Proofs.Tryd.prog 46 [.agg [.int .i64 rm, vW], .int .i64 (s : Int), .int .i64 w] h (fun q h' => q = .tup [.int .i64 (lstTo ws s w ws.length), .int .i64 (mstTo ws s w ws.length)] ∧ Keeps h h') := by
  refine KA.fn 65 [.tmp 6, .tmp 7] Go.Proofs.Tryd.func46 rfl (by decide) rfl rfl (Nat.le_of_ble_eq_true rfl) ?_
  have hS := St.refl h
  have hvo : vW.one = true := hv.one
  have hwl := hB.len
  have hr6 := hB.r6
  show KA _ 65 _ _ [(0, .agg [.int .i64 rm, vW]), (1, .int .i64 (s : Int)), (2, .int .i64 w)] _
  refine KA.seq ?_
  refine KA.region rfl ?_
  refine KOps.boxAll hS (by first | rfl | (simp [AV.one]; done) | (simp [AV.one]; assumption) | (simp [AV.one, *]; done)) ?_
  intro p3 h' hp3 hS
  refine KOps.assign ?_
  refine KOps.assign ?_
  refine KOps.done ?_
  refine sqQ.normal ?_
  refine KA.sub (Sub.cons (t := 1) Look.eq (Sub.cons (t := 2) Look.eq (Sub.cons (t := 3) Look.eq (Sub.cons (t := 6) Look.eq (Sub.cons (t := 7) Look.eq (Sub.nil _)))))) ?_
  refine KA.seq ?_
  refine KA.seq ?_
  refine KA.region rfl ?_
  refine KOps.fieldAddr hp3 ?_
  intro p12 hp12
  refine KOps.load hp12 (hS.rd 0 rfl) rfl ?_
  refine KOps.lenF wc_len (Rd.ext hS.keeps hv) ?_
  refine KOps.move ?_
  refine KOps.done ?_
  refine sqQ.normal ?_
  refine KA.sub (Sub.cons (t := 1) Look.eq (Sub.cons (t := 2) Look.eq (Sub.cons (t := 6) Look.eq (Sub.cons (t := 7) Look.eq (Sub.cons (t := 13) Look.eq (Sub.cons (t := 14) Look.eq (Sub.cons (t := 15) Look.eq (Sub.nil _)))))))) ?_
  refine KA.block ?_
  refine KA.loop (X := Nat) (fun i => [(1, .int .i64 (s : Int)), (2, .int .i64 w), (6, .int .i64 (lstTo ws s w i)), (7, .int .i64 (mstTo ws s w i)), (13, vW), (14, .int .i64 (ws.length : Int)), (15, .int .i64 (i : Int))]) (fun i h' => i ≤ ws.length ∧ St h h' [⟨p3, 0, [.int .i64 rm, vW], true⟩]) (fun i => ws.length - i) 0 (by repeat (first | exact Sub.nil _ | refine Sub.cons Look.eq ?_ | refine Sub.cons (Eq.trans Look.eq (congrArg (AV.int _) (by first | omega | (dsimp only; omega)))) ?_)) ?_ ?_
  · exact ⟨Nat.zero_le _, hS⟩
  rintro i h2 ⟨hi, hS⟩
  refine KA.seq ?_
  refine KA.region rfl ?_
  refine KOps.lss ?_
  refine KOps.done ?_
  refine sqQ.normal ?_
  refine KA.seq ?_
  refine KA.condD ?_ ?_
  · intro c16
    refine KA.skip ?_
    refine sqQ.normal ?_
    refine KA.sub (Sub.cons (t := 1) Look.eq (Sub.cons (t := 2) Look.eq (Sub.cons (t := 6) Look.eq (Sub.cons (t := 7) Look.eq (Sub.cons (t := 13) Look.eq (Sub.cons (t := 14) Look.eq (Sub.cons (t := 15) Look.eq (Sub.nil _)))))))) ?_
    refine KA.seq ?_
    refine KA.block ?_
    refine KA.seq ?_
    refine KA.region rfl ?_
    refine KOps.move ?_
    refine KOps.indexF wc_len (Rd.ext hS.keeps hv) (j := i) rfl (by first | omega | (simp; omega)) ?_
    intro p18 hp18
    refine KOps.loadFl wc_len (by decide) hp18 (Rd.ext hS.keeps hv) (by first | omega | (simp; omega)) ?_
    refine KOps.alloc hS ?_
    intro p9 h' hp9 hS
    refine KOps.assign ?_
    refine KOps.storeAll hS rfl (i := 0) rfl hp9 (by first | rfl | (simp [AV.one]; done) | (simp [AV.one]; assumption) | (simp [AV.one, *]; done)) (by rfl) (by rfl) (by decide) ?_
    intro h' hS
    simp only [List.set_cons_zero, List.set_cons_succ, Nat.zero_add] at hS
    refine KOps.done ?_
    refine sqQ.normal ?_
    refine KA.sub (Sub.cons (t := 1) Look.eq (Sub.cons (t := 2) Look.eq (Sub.cons (t := 6) Look.eq (Sub.cons (t := 7) Look.eq (Sub.cons (t := 8) Look.eq (Sub.cons (t := 9) Look.eq (Sub.cons (t := 13) Look.eq (Sub.cons (t := 14) Look.eq (Sub.cons (t := 15) Look.eq (Sub.nil _)))))))))) ?_
    refine KA.seq ?_
    refine KA.draw [] mixed rfl (by kernel_rfl) ?_
    have hwi := hB.way i (by omega)
    have hwf0 := hwi.f0
    have hwf1 := hwi.f1
    have hwt0 := hwi.t0
    have hwt1 := hwi.t1
    have hwl0 := hwi.l0
    have hwm1 := hwi.m1
    have hwlm := hwi.lm
    have hsb := sums_bound hB s w i (by omega)
    have h2s := two_sums (s := s) (w := ws.getD i default) hs (by omega) (by omega) (by omega) (by omega)
    refine KOps.move ?_
    refine KOps.fieldAddr hp9 ?_
    intro p21 hp21
    refine KOps.load hp21 (hS.rd 0 rfl) rfl ?_
    refine KOps.shr (by first | omega | (simp; omega)) ?_
    refine KOps.bits (by simp) ?_
    refine KOps.move ?_
    refine KOps.fieldAddr hp9 ?_
    intro p26 hp26
    refine KOps.load hp26 (hS.rd 0 rfl) rfl ?_
    refine KOps.shr (by first | omega | (simp; omega)) ?_
    refine KOps.bits (by simp) ?_
    refine KOps.gtr ?_
    rw [h2s.1]
    refine KOps.move ?_
    refine KOps.fieldAddr hp9 ?_
    intro p32 hp32
    refine KOps.load hp32 (hS.rd 0 rfl) rfl ?_
    refine KOps.shr (by first | omega | (simp; omega)) ?_
    refine KOps.bits (by simp) ?_
    refine KOps.move ?_
    refine KOps.fieldAddr hp9 ?_
    intro p37 hp37
    refine KOps.load hp37 (hS.rd 0 rfl) rfl ?_
    refine KOps.shr (by first | omega | (simp; omega)) ?_
    refine KOps.bits (by simp) ?_
    refine KOps.lss ?_
    rw [h2s.2]
    refine KOps.assign ?_
    refine KOps.assign ?_
    refine KOps.done ?_
    refine sqQ.normal ?_
    refine KA.sub (Sub.cons (t := 1) Look.eq (Sub.cons (t := 2) Look.eq (Sub.cons (t := 6) Look.eq (Sub.cons (t := 7) Look.eq (Sub.cons (t := 8) Look.eq (Sub.cons (t := 9) Look.eq (Sub.cons (t := 10) Look.eq (Sub.cons (t := 11) Look.eq (Sub.cons (t := 13) Look.eq (Sub.cons (t := 14) Look.eq (Sub.cons (t := 15) Look.eq (Sub.nil _)))))))))))) ?_
    refine KA.meet (X := Unit) (fun _ => [(1, .int .i64 (s : Int)), (2, .int .i64 w), (6, .int .i64 (lstTo ws s w (i + 1))), (7, .int .i64 (mstTo ws s w i)), (13, vW), (14, .int .i64 (ws.length : Int)), (15, .int .i64 (i : Int)), (8, .int .i64 (i : Int)), (9, p9), (11, .bool (ens (ws.getD i default) s))]) (fun _ h' => St h h' [⟨p9, 0, wc (ws.getD i default), true⟩, ⟨p3, 0, [.int .i64 rm, vW], true⟩]) ?_ ?_
    ·
      refine KA.seq ?_
      refine KA.region rfl ?_
      refine KOps.move ?_
      refine KOps.move ?_
      refine KOps.neq ?_
      refine KOps.move ?_
      refine KOps.guardB (dj := 45) rfl rfl true false rfl ?_ ?_
      · intro g45
        have g45 := not_of_not_decide g45
        refine KOps.move ?_
        refine KOps.pickT ?_
        refine KOps.done ?_
        refine sqQ.normal ?_
        refine KA.sub (Sub.cons (t := 1) Look.eq (Sub.cons (t := 2) Look.eq (Sub.cons (t := 6) Look.eq (Sub.cons (t := 7) Look.eq (Sub.cons (t := 8) Look.eq (Sub.cons (t := 9) Look.eq (Sub.cons (t := 11) Look.eq (Sub.cons (t := 13) Look.eq (Sub.cons (t := 14) Look.eq (Sub.cons (t := 15) Look.eq (Sub.cons (t := 46) Look.eq (Sub.cons (t := 47) Look.eq (Sub.nil _))))))))))))) ?_
        refine KA.condB ?_ ?_
        · intro c47
          refine KA.region rfl ?_
          refine KOps.move ?_
          refine KOps.fieldAddr hp9 ?_
          intro p49 hp49
          refine KOps.load hp49 (hS.rd 0 rfl) rfl ?_
          refine KOps.add (by first | omega | (simp; omega)) (by first | omega | (simp; omega)) ?_
          refine KOps.assign ?_
          refine KOps.done ?_
          exact mtQ.normal () (by repeat (first | exact Sub.nil _ | refine Sub.cons Look.eq ?_ | refine Sub.cons (Eq.trans Look.eq (congrArg (AV.int _) (by first | omega | (dsimp only; omega)))) ?_ | refine Sub.cons (Eq.trans Look.eq (congrArg (AV.int _) (by rw [lstTo, if_pos ⟨g45, c47⟩] <;> omega))) ?_)) hS
        · intro c47
          refine KA.skip ?_
          exact mtQ.normal () (by repeat (first | exact Sub.nil _ | refine Sub.cons Look.eq ?_ | refine Sub.cons (Eq.trans Look.eq (congrArg (AV.int _) (by first | omega | (dsimp only; omega)))) ?_ | refine Sub.cons (Eq.trans Look.eq (congrArg (AV.int _) (by rw [lstTo, if_neg (fun h0 => by rw [c47] at h0; exact absurd h0.2 (by decide))] <;> omega))) ?_)) hS
      · intro g45
        have g45 := of_not_decide g45
        refine KOps.pickF ?_
        refine KOps.done ?_
        refine sqQ.normal ?_
        refine KA.sub (Sub.cons (t := 1) Look.eq (Sub.cons (t := 2) Look.eq (Sub.cons (t := 6) Look.eq (Sub.cons (t := 7) Look.eq (Sub.cons (t := 8) Look.eq (Sub.cons (t := 9) Look.eq (Sub.cons (t := 11) Look.eq (Sub.cons (t := 13) Look.eq (Sub.cons (t := 14) Look.eq (Sub.cons (t := 15) Look.eq (Sub.cons (t := 46) Look.eq (Sub.cons (t := 47) Look.eq (Sub.nil _))))))))))))) ?_
        refine KA.condF ?_
        refine KA.skip ?_
        exact mtQ.normal () (by repeat (first | exact Sub.nil _ | refine Sub.cons Look.eq ?_ | refine Sub.cons (Eq.trans Look.eq (congrArg (AV.int _) (by first | omega | (dsimp only; omega)))) ?_ | refine Sub.cons (Eq.trans Look.eq (congrArg (AV.int _) (by rw [lstTo, if_neg (fun h0 => h0.1 g45)] <;> omega))) ?_)) hS
    ·
      rintro _ h7 hS
      refine KA.seq ?_
      refine KA.region rfl ?_
      refine KOps.move ?_
      refine KOps.move ?_
      refine KOps.neq ?_
      refine KOps.move ?_
      refine KOps.guardB (dj := 55) rfl rfl true false rfl ?_ ?_
      · intro g55
        have g55 := not_of_not_decide g55
        refine KOps.move ?_
        refine KOps.pickT ?_
        refine KOps.done ?_
        refine sqQ.normal ?_
        refine KA.sub (Sub.cons (t := 1) Look.eq (Sub.cons (t := 2) Look.eq (Sub.cons (t := 6) Look.eq (Sub.cons (t := 7) Look.eq (Sub.cons (t := 9) Look.eq (Sub.cons (t := 13) Look.eq (Sub.cons (t := 14) Look.eq (Sub.cons (t := 15) Look.eq (Sub.cons (t := 56) Look.eq (Sub.cons (t := 57) Look.eq (Sub.nil _))))))))))) ?_
        refine KA.condB ?_ ?_
        · intro c57
          refine KA.region rfl ?_
          refine KOps.move ?_
          refine KOps.fieldAddr hp9 ?_
          intro p59 hp59
          refine KOps.load hp59 (hS.rd 0 rfl) rfl ?_
          refine KOps.add (by first | omega | (simp; omega)) (by first | omega | (simp; omega)) ?_
          refine KOps.assign ?_
          refine KOps.done ?_
          refine blQ.normal ?_
          refine sqQ.normal ?_
          refine KA.sub (Sub.cons (t := 1) Look.eq (Sub.cons (t := 2) Look.eq (Sub.cons (t := 6) Look.eq (Sub.cons (t := 7) Look.eq (Sub.cons (t := 13) Look.eq (Sub.cons (t := 14) Look.eq (Sub.cons (t := 15) Look.eq (Sub.cons (t := 56) Look.eq (Sub.nil _))))))))) ?_
          refine KA.region rfl ?_
          refine KOps.add (by first | omega | (simp; omega)) (by first | omega | (simp; omega)) ?_
          refine KOps.move ?_
          refine KOps.done ?_
          exact lpQ.normal (i + 1) (by repeat (first | exact Sub.nil _ | refine Sub.cons Look.eq ?_ | refine Sub.cons (Eq.trans Look.eq (congrArg (AV.int _) (by first | omega | (dsimp only; omega)))) ?_ | refine Sub.cons (Eq.trans Look.eq (congrArg (AV.int _) (by rw [mstTo, if_pos ⟨g55, c57⟩] <;> omega))) ?_)) ⟨by omega, St.tail hS⟩ (by omega)
        · intro c57
          refine KA.skip ?_
          refine blQ.normal ?_
          refine sqQ.normal ?_
          refine KA.sub (Sub.cons (t := 1) Look.eq (Sub.cons (t := 2) Look.eq (Sub.cons (t := 6) Look.eq (Sub.cons (t := 7) Look.eq (Sub.cons (t := 13) Look.eq (Sub.cons (t := 14) Look.eq (Sub.cons (t := 15) Look.eq (Sub.cons (t := 56) Look.eq (Sub.nil _))))))))) ?_
          refine KA.region rfl ?_
          refine KOps.add (by first | omega | (simp; omega)) (by first | omega | (simp; omega)) ?_
          refine KOps.move ?_
          refine KOps.done ?_
          exact lpQ.normal (i + 1) (by repeat (first | exact Sub.nil _ | refine Sub.cons Look.eq ?_ | refine Sub.cons (Eq.trans Look.eq (congrArg (AV.int _) (by first | omega | (dsimp only; omega)))) ?_ | refine Sub.cons (Eq.trans Look.eq (congrArg (AV.int _) (by rw [mstTo, if_neg (fun h0 => by rw [c57] at h0; exact absurd h0.2 (by decide))] <;> omega))) ?_)) ⟨by omega, St.tail hS⟩ (by omega)
      · intro g55
        have g55 := of_not_decide g55
        refine KOps.pickF ?_
        refine KOps.done ?_
        refine sqQ.normal ?_
        refine KA.sub (Sub.cons (t := 1) Look.eq (Sub.cons (t := 2) Look.eq (Sub.cons (t := 6) Look.eq (Sub.cons (t := 7) Look.eq (Sub.cons (t := 9) Look.eq (Sub.cons (t := 13) Look.eq (Sub.cons (t := 14) Look.eq (Sub.cons (t := 15) Look.eq (Sub.cons (t := 56) Look.eq (Sub.cons (t := 57) Look.eq (Sub.nil _))))))))))) ?_
        refine KA.condF ?_
        refine KA.skip ?_
        refine blQ.normal ?_
        refine sqQ.normal ?_
        refine KA.sub (Sub.cons (t := 1) Look.eq (Sub.cons (t := 2) Look.eq (Sub.cons (t := 6) Look.eq (Sub.cons (t := 7) Look.eq (Sub.cons (t := 13) Look.eq (Sub.cons (t := 14) Look.eq (Sub.cons (t := 15) Look.eq (Sub.cons (t := 56) Look.eq (Sub.nil _))))))))) ?_
        refine KA.region rfl ?_
        refine KOps.add (by first | omega | (simp; omega)) (by first | omega | (simp; omega)) ?_
        refine KOps.move ?_
        refine KOps.done ?_
        exact lpQ.normal (i + 1) (by repeat (first | exact Sub.nil _ | refine Sub.cons Look.eq ?_ | refine Sub.cons (Eq.trans Look.eq (congrArg (AV.int _) (by first | omega | (dsimp only; omega)))) ?_ | refine Sub.cons (Eq.trans Look.eq (congrArg (AV.int _) (by rw [mstTo, if_neg (fun h0 => h0.1 g55)] <;> omega))) ?_)) ⟨by omega, St.tail hS⟩ (by omega)
  · intro c16
    refine KA.exit ?_
    refine sqQ.exit ?_
    refine lpQ.exit ?_
    refine blQ.here ?_
    refine sqQ.normal ?_
    refine KA.sub (Sub.cons (t := 6) Look.eq (Sub.cons (t := 7) Look.eq (Sub.nil _))) ?_
    refine KA.seq ?_
    refine KA.region rfl ?_
    refine KOps.move ?_
    refine KOps.move ?_
    refine KOps.assign ?_
    refine KOps.assign ?_
    refine KOps.done ?_
    refine sqQ.normal ?_
    refine KA.sub (Sub.cons (t := 6) Look.eq (Sub.cons (t := 7) Look.eq (Sub.nil _))) ?_
    refine KA.ret ?_
    refine fnQ.retN ?_
    rw [show ws.length = i by omega]
    exact ⟨rfl, hS.keeps⟩

theorem rooms47_c {h : AHeap} {s : Nat} (hs : s < 64) : ACalls Go.Proofs.Tryd.prog 47 [.int .i64 (s : Int)] h (fun q h' => (roomsTo s 6 = [] → q = .nils) ∧ St h h' [⟨q, 1, ints (roomsTo s 6), true⟩]) := by
  refine KA.fn 19 [.tmp 2] Go.Proofs.Tryd.func47 rfl (by decide) rfl rfl (Nat.le_of_ble_eq_true rfl) ?_
  have hS := St.refl h
  show KA _ 19 _ _ [(0, .int .i64 (s : Int))] _
  refine KA.seq ?_
  refine KA.region rfl ?_
  refine KOps.assign ?_
  refine KOps.done ?_
  refine sqQ.normal ?_
  refine KA.sub (Sub.cons (t := 0) Look.eq (Sub.nil _)) ?_
  refine KA.seq ?_
  refine KA.region rfl ?_
  refine KOps.assign ?_
  refine KOps.done ?_
  refine sqQ.normal ?_
  refine KA.seq ?_
  refine KA.seq ?_
  refine KA.region rfl ?_
  refine KOps.assign ?_
  refine KOps.done ?_
  refine sqQ.normal ?_
  refine KA.block ?_
  refine KA.loop (X := Nat × AV) (fun x => [(0, .int .i64 (s : Int)), (3, x.2), (4, .int .i64 (x.1 : Int))]) (fun x h' => x.1 ≤ 6 ∧ (roomsTo s x.1 = [] → x.2 = .nils) ∧ St h h' [⟨x.2, 1, ints (roomsTo s x.1), true⟩]) (fun x => 6 - x.1) (0, .nils) (by repeat (first | exact Sub.nil _ | refine Sub.cons Look.eq ?_ | refine Sub.cons (Eq.trans Look.eq (congrArg (AV.int _) (by first | omega | (dsimp only; omega)))) ?_)) ?_ ?_
  · exact ⟨Nat.zero_le _, fun _ => rfl, St.nil hS 1⟩
  rintro ⟨i, vo⟩ h2 ⟨hi, hnn, hS⟩
  dsimp only at hi hnn hS ⊢
  have hrl := roomsTo_len s i
  refine KA.seq ?_
  refine KA.seq ?_
  refine KA.region rfl ?_
  refine KOps.move ?_
  refine KOps.lss ?_
  refine KOps.done ?_
  refine sqQ.normal ?_
  refine KA.sub (Sub.cons (t := 0) Look.eq (Sub.cons (t := 3) Look.eq (Sub.cons (t := 4) Look.eq (Sub.cons (t := 6) Look.eq (Sub.nil _))))) ?_
  refine KA.condD ?_ ?_
  · intro c6
    refine KA.skip ?_
    refine sqQ.normal ?_
    refine KA.sub (Sub.cons (t := 0) Look.eq (Sub.cons (t := 3) Look.eq (Sub.cons (t := 4) Look.eq (Sub.nil _)))) ?_
    refine KA.seq ?_
    refine KA.block ?_
    refine KA.seq ?_
    refine KA.region rfl ?_
    refine KOps.move ?_
    refine KOps.move ?_
    refine KOps.shr (by first | omega | (simp; omega)) ?_
    refine KOps.bits (by simp) ?_
    refine KOps.eql ?_
    rw [and_in hs (by omega) (by omega)]
    refine KOps.done ?_
    refine sqQ.normal ?_
    refine KA.sub (Sub.cons (t := 0) Look.eq (Sub.cons (t := 3) Look.eq (Sub.cons (t := 4) Look.eq (Sub.cons (t := 13) Look.eq (Sub.nil _))))) ?_
    refine KA.condB ?_ ?_
    · intro c13
      have hb : s.testBit i = true := by unfold inS at c13; simpa using c13
      refine KA.region rfl ?_
      refine KOps.move ?_
      refine KOps.move ?_
      refine KOps.buildSlice hS rfl (by decide) rfl ?_
      intro v16 h' hS
      refine KOps.appendI hS (fun _ => rfl) (i := 0) rfl (by first | omega | (simp; omega)) ?_
      intro r17 h' hr17 hS
      refine KOps.assign ?_
      refine KOps.done ?_
      refine blQ.normal ?_
      refine sqQ.normal ?_
      refine KA.sub (Sub.cons (t := 0) Look.eq (Sub.cons (t := 3) Look.eq (Sub.cons (t := 4) Look.eq (Sub.nil _)))) ?_
      refine KA.region rfl ?_
      refine KOps.move ?_
      refine KOps.add (by first | omega | (simp; omega)) (by first | omega | (simp; omega)) ?_
      refine KOps.assign ?_
      refine KOps.done ?_
      have e1 : roomsTo s i ++ [(i : Int)] = roomsTo s (i + 1) := by rw [roomsTo_succ, if_pos hb]
      rw [e1] at hS
      exact lpQ.normal (i + 1, r17) (by repeat (first | exact Sub.nil _ | refine Sub.cons Look.eq ?_ | refine Sub.cons (Eq.trans Look.eq (congrArg (AV.int _) (by first | omega | (dsimp only; omega)))) ?_)) ⟨by dsimp only; omega, fun h0 => by dsimp only at h0; rw [← e1] at h0; simp at h0, hS⟩ (by dsimp only; omega)
    · intro c13
      have hb : ¬ s.testBit i = true := by unfold inS at c13; simpa using c13
      refine KA.skip ?_
      refine blQ.normal ?_
      refine sqQ.normal ?_
      refine KA.sub (Sub.cons (t := 0) Look.eq (Sub.cons (t := 3) Look.eq (Sub.cons (t := 4) Look.eq (Sub.nil _)))) ?_
      refine KA.region rfl ?_
      refine KOps.move ?_
      refine KOps.add (by first | omega | (simp; omega)) (by first | omega | (simp; omega)) ?_
      refine KOps.assign ?_
      refine KOps.done ?_
      have e1 : roomsTo s i = roomsTo s (i + 1) := by rw [roomsTo_succ, if_neg hb]
      rw [e1] at hS hnn
      exact lpQ.normal (i + 1, vo) (by repeat (first | exact Sub.nil _ | refine Sub.cons Look.eq ?_ | refine Sub.cons (Eq.trans Look.eq (congrArg (AV.int _) (by first | omega | (dsimp only; omega)))) ?_)) ⟨by dsimp only; omega, hnn, hS⟩ (by dsimp only; omega)
  · intro c6
    refine KA.exit ?_
    refine sqQ.exit ?_
    refine lpQ.exit ?_
    refine blQ.here ?_
    refine sqQ.normal ?_
    refine KA.sub (Sub.cons (t := 3) Look.eq (Sub.nil _)) ?_
    refine KA.seq ?_
    refine KA.region rfl ?_
    refine KOps.move ?_
    refine KOps.assign ?_
    refine KOps.done ?_
    refine sqQ.normal ?_
    refine KA.sub (Sub.cons (t := 2) Look.eq (Sub.nil _)) ?_
    refine KA.ret ?_
    refine fnQ.ret1 ?_
    rw [show i = 6 by omega] at hS hnn
    exact ⟨hnn, hS⟩

theorem better48_c {h : AHeap} {v u : AV} {a b : List Int} (hv : Row h v a) (hu : Row h u b) (hla : a.length ≤ 1000000) : ACalls Go.Proofs.Tryd.prog 48 [v, u] h (fun q h' => q = .bool (befB a b) ∧ h = h') := by
  refine KA.fn 40 [.tmp 4] Go.Proofs.Tryd.func48 rfl (by decide) rfl rfl (Nat.le_of_ble_eq_true rfl) ?_
  show KA _ 40 _ _ [(0, v), (1, u)] _
  refine KA.seq ?_
  refine KA.region rfl ?_
  refine KOps.assign ?_
  refine KOps.done ?_
  refine sqQ.normal ?_
  refine KA.sub (Sub.cons (t := 0) Look.eq (Sub.cons (t := 1) Look.eq (Sub.nil _))) ?_
  refine KA.seq ?_
  refine KA.seq ?_
  refine KA.region rfl ?_
  refine KOps.move ?_
  refine KOps.lenI hv ?_
  refine KOps.move ?_
  refine KOps.lenI hu ?_
  refine KOps.neq ?_
  refine KOps.done ?_
  refine sqQ.normal ?_
  refine KA.sub (Sub.cons (t := 0) Look.eq (Sub.cons (t := 1) Look.eq (Sub.cons (t := 10) Look.eq (Sub.nil _)))) ?_
  refine KA.condN ?_ ?_
  · intro c10
    refine KA.seq ?_
    refine KA.region rfl ?_
    refine KOps.move ?_
    refine KOps.lenI hv ?_
    refine KOps.move ?_
    refine KOps.lenI hu ?_
    refine KOps.lss ?_
    refine KOps.assign ?_
    refine KOps.done ?_
    refine sqQ.normal ?_
    refine KA.sub (Sub.cons (t := 4) Look.eq (Sub.nil _)) ?_
    refine KA.ret ?_
    refine sqQ.ret ?_
    refine fnQ.ret1 ?_
    refine ⟨congrArg AV.bool ?_, rfl⟩
    rw [befB_len (by omega)]
    exact decide_eq_decide.2 (by omega)
  · intro c10
    have hlab : a.length = b.length := by omega
    refine KA.skip ?_
    refine sqQ.normal ?_
    refine KA.sub (Sub.cons (t := 0) Look.eq (Sub.cons (t := 1) Look.eq (Sub.nil _))) ?_
    refine KA.seq ?_
    refine KA.seq ?_
    refine KA.region rfl ?_
    refine KOps.move ?_
    refine KOps.lenI hv ?_
    refine KOps.move ?_
    refine KOps.done ?_
    refine sqQ.normal ?_
    refine KA.sub (Sub.cons (t := 0) Look.eq (Sub.cons (t := 1) Look.eq (Sub.cons (t := 17) Look.eq (Sub.cons (t := 18) Look.eq (Sub.nil _))))) ?_
    refine KA.block ?_
    refine KA.loop (X := Nat) (fun i => [(0, v), (1, u), (17, .int .i64 (a.length : Int)), (18, .int .i64 (i : Int))]) (fun i h' => h = h' ∧ i ≤ a.length ∧ ∀ j, j < i → a.getD j 0 = b.getD j 0) (fun i => a.length - i) 0 (by repeat (first | exact Sub.nil _ | refine Sub.cons Look.eq ?_ | refine Sub.cons (Eq.trans Look.eq (congrArg (AV.int _) (by first | omega | (dsimp only; omega)))) ?_)) ?_ ?_
    · exact ⟨rfl, Nat.zero_le _, fun j hj => by omega⟩
    rintro i _ ⟨rfl, hi, hj⟩
    refine KA.seq ?_
    refine KA.region rfl ?_
    refine KOps.lss ?_
    refine KOps.done ?_
    refine sqQ.normal ?_
    refine KA.seq ?_
    refine KA.condD ?_ ?_
    · intro c19
      refine KA.skip ?_
      refine sqQ.normal ?_
      refine KA.sub (Sub.cons (t := 0) Look.eq (Sub.cons (t := 1) Look.eq (Sub.cons (t := 17) Look.eq (Sub.cons (t := 18) Look.eq (Sub.nil _))))) ?_
      refine KA.seq ?_
      refine KA.block ?_
      refine KA.seq ?_
      refine KA.region rfl ?_
      refine KOps.move ?_
      refine KOps.assign ?_
      refine KOps.done ?_
      refine sqQ.normal ?_
      refine KA.sub (Sub.cons (t := 0) Look.eq (Sub.cons (t := 1) Look.eq (Sub.cons (t := 5) Look.eq (Sub.cons (t := 17) Look.eq (Sub.cons (t := 18) Look.eq (Sub.nil _)))))) ?_
      refine KA.seq ?_
      refine KA.draw [] mixed rfl (by kernel_rfl) ?_
      refine KOps.move ?_
      refine KOps.move ?_
      refine KOps.indexIJ hv (j := i) rfl (by first | omega | (simp; omega)) ?_
      intro p23 hp23
      refine KOps.loadI hp23 hv (by first | omega | (simp; omega)) ?_
      refine KOps.move ?_
      refine KOps.move ?_
      refine KOps.indexIJ hu (j := i) rfl (by first | omega | (simp; omega)) ?_
      intro p27 hp27
      refine KOps.loadI hp27 hu (by first | omega | (simp; omega)) ?_
      refine KOps.neq ?_
      refine KOps.done ?_
      refine sqQ.normal ?_
      refine KA.sub (Sub.cons (t := 0) Look.eq (Sub.cons (t := 1) Look.eq (Sub.cons (t := 5) Look.eq (Sub.cons (t := 17) Look.eq (Sub.cons (t := 18) Look.eq (Sub.cons (t := 29) Look.eq (Sub.nil _))))))) ?_
      refine KA.condN ?_ ?_
      · intro c29
        refine KA.seq ?_
        refine KA.draw [] mixed rfl (by kernel_rfl) ?_
        refine KOps.move ?_
        refine KOps.move ?_
        refine KOps.indexIJ hv (j := i) rfl (by first | omega | (simp; omega)) ?_
        intro p32 hp32
        refine KOps.loadI hp32 hv (by first | omega | (simp; omega)) ?_
        refine KOps.move ?_
        refine KOps.move ?_
        refine KOps.indexIJ hu (j := i) rfl (by first | omega | (simp; omega)) ?_
        intro p36 hp36
        refine KOps.loadI hp36 hu (by first | omega | (simp; omega)) ?_
        refine KOps.lss ?_
        refine KOps.assign ?_
        refine KOps.done ?_
        refine sqQ.normal ?_
        refine KA.sub (Sub.cons (t := 4) Look.eq (Sub.nil _)) ?_
        refine KA.ret ?_
        refine blQ.ret ?_
        refine sqQ.ret ?_
        refine lpQ.ret ?_
        refine blQ.ret ?_
        refine sqQ.ret ?_
        refine fnQ.ret1 ?_
        exact ⟨congrArg AV.bool (befB_at hlab (i := i) (by omega) hj (by omega)).symm, rfl⟩
      · intro c29
        refine KA.skip ?_
        refine blQ.normal ?_
        refine sqQ.normal ?_
        refine KA.sub (Sub.cons (t := 0) Look.eq (Sub.cons (t := 1) Look.eq (Sub.cons (t := 17) Look.eq (Sub.cons (t := 18) Look.eq (Sub.nil _))))) ?_
        refine KA.region rfl ?_
        refine KOps.add (by first | omega | (simp; omega)) (by first | omega | (simp; omega)) ?_
        refine KOps.move ?_
        refine KOps.done ?_
        refine lpQ.normal (i + 1) (by repeat (first | exact Sub.nil _ | refine Sub.cons Look.eq ?_ | refine Sub.cons (Eq.trans Look.eq (congrArg (AV.int _) (by first | omega | (dsimp only; omega)))) ?_)) ⟨rfl, by omega, ?_⟩ (by omega)
        intro j hj2
        rcases Nat.lt_succ_iff_lt_or_eq.1 hj2 with h3 | rfl
        · exact hj j h3
        · exact c29
    · intro c19
      refine KA.exit ?_
      refine sqQ.exit ?_
      refine lpQ.exit ?_
      refine blQ.here ?_
      refine sqQ.normal ?_
      refine KA.sub (Sub.nil _) ?_
      refine KA.seq ?_
      refine KA.region rfl ?_
      refine KOps.assign ?_
      refine KOps.done ?_
      refine sqQ.normal ?_
      refine KA.ret ?_
      refine fnQ.ret1 ?_
      exact ⟨congrArg AV.bool (befB_same hlab (fun j h3 => hj j (by omega))).symm, rfl⟩

end Go.Am

namespace Go.Am
theorem chk_of_B {rm : Int} {ws : List W} (hB : BOk rm ws) : chkB rm ws = 0 := by
  have hw : ∀ k, k ≤ ws.length → waysE rm ws k = 0 := by
    intro k
    induction k with
    | zero => intro _; rfl
    | succ k ih =>
      intro hk
      have h := hB.way k (by omega)
      have := h.f0; have := h.f1; have := h.t0; have := h.t1; have := h.ne; have := h.l0; have := h.lm; have := h.m1
      rw [waysE, if_pos (ih (by omega)), wayE, if_neg (by omega), if_neg (by omega), if_neg (by omega)]
  exact chk_end ⟨hB.r2, hB.r6⟩ hB.len (hw _ (Nat.le_refl _))
theorem made_thin (rm : Int) (hs : List H4) (k : Nat) (hx : ∀ i, i < hs.length → (hs.getD i default).Ok) : Thin (madeW rm hs k) := by
  intro i hi
  rw [madeW_len] at hi
  have e : (madeW rm hs k).getD i default = hway rm (hs.getD i default) := by
    unfold madeW
    rw [List.getD_eq_getElem?_getD, List.getElem?_map, List.getElem?_take, if_pos (by omega), List.getD_eq_getElem?_getD, List.getElem?_eq_getElem (by omega)]
    rfl
  rw [e]
  have t3 := tmod_b (hx i (by omega)).c0 (show (0 : Int) < 4 by decide)
  show Min.min 4 _ - (hs.getD i default).c.tmod 4 ≤ 4
  omega
theorem rooms_ok : ∀ r : Nat, r ≤ 6 → ∀ k : Nat, k < 2 ^ r → roomsE (r : Int) (roomsTo k 6) (roomsTo k 6).length = 0 ∧ setTo (roomsTo k 6) (roomsTo k 6).length = k := by decide +kernel
theorem prov_rooms {r : Nat} {ws : List W} (hB : BOk (r : Int) ws) {k : Nat} (hk : k < 2 ^ r) : decide (provE (r : Int) ws (roomsTo k 6) = 0) = proofB ws k := by
  have h6 := hB.r6
  have h := rooms_ok r (by omega) k hk
  rw [provE, if_pos (chk_of_B hB), if_pos h.1, setE, if_pos h.1, h.2]
  cases proofB ws k <;> rfl
theorem roomsTo_nil : ∀ s : Nat, s < 64 → roomsTo s 6 = [] → s = 0 := by decide +kernel
theorem proof_zero (ws : List W) : proofB ws 0 = false := by
  have key : ∀ k, netTo ws 0 k = 0 := by
    intro k
    induction k with
    | zero => rfl
    | succ k ih => rw [netTo, ih]; unfold lvs ens inS; simp
  rw [proofB, key]; rfl
theorem rowO_nil {p : Nat → Bool} (h0 : p 0 = false) {k : Nat} (hk : k ≤ 64) (h : rowO (bestTo p k) = []) : bestTo p k = none := by
  cases hb : bestTo p k with
  | none => rfl
  | some b =>
    rw [hb] at h
    obtain ⟨h1, h2⟩ := bestTo_lt hb
    have h3 := roomsTo_nil b (by omega) h
    subst h3
    rw [h0] at h2; cases h2
section
variable {P : Program} {n : Nat} {ops : Array Oper} {ex : List Nat} {Q : KF → AHeap → Prop} {k : Nat} {os : List Oper} {K : KF} {h : AHeap} {d : Nat} {ty : TypeId} {pos : String} {after : Array Edge}
/-- Whether a row is nil: if it is nil just where it is empty. -/
theorem KOps.eqNilR {t t' e : TypeId} {zs : List AV} {x y : Operand} {v : AV} {l : List Int} [hx : EvK h.globs n K x v] [hy : EvK h.globs n K y .nils] [ht : SlT P t e 1 zs] (hr : Row h v l) (h0 : l = [] → v = .nils) (hk : KOps P n ops ex Q (k + 1) os ((d, .bool (decide (l = []))) :: K) h) : KOps P n ops ex Q k (⟨some d, .binOp .eql t x y t', ty, pos, after, none⟩ :: os) K h := by
  by_cases hl : l = []
  · have hv := h0 hl
    subst hv
    rw [decide_eq_true hl] at hk
    exact KOps.nilEq hk
  · rw [decide_eq_false hl] at hk
    exact KOps.slcEq hr (by decide) (by intro he; exact hl (by simpa [ints] using he)) hk
end
theorem KOps.neqBF {P : Program} {n : Nat} {ops : Array Oper} {ex : List Nat} {Q : KF → AHeap → Prop} {k : Nat} {os : List Oper} {K : KF} {h : AHeap} {d : Nat} {ty : TypeId} {pos : String} {after : Array Edge} {t t' : TypeId} {x y : Operand} {a b : Bool} [hx : EvK h.globs n K x (.bool a)] [hy : EvK h.globs n K y (.bool b)] (ht : isBoolA P t = true) (hab : a = b) (hk : KOps P n ops ex Q (k + 1) os ((d, .bool false) :: K) h) : KOps P n ops ex Q k (⟨some d, .binOp .neq t x y t', ty, pos, after, none⟩ :: os) K h := KOps.neqB ht (by subst hab; rw [beq_self_eq_true, Bool.not_true]; exact hk)
theorem St.addMid {h0 h : AHeap} {A B : List Obj} (st : St h0 h (A ++ B)) : St h0 h (A ++ [⟨.nils, 1, [], true⟩] ++ B) := St.swap (A := [⟨.nils, 1, [], true⟩]) (B := A) (C := B) (St.nil st 1)
theorem St.best3 {h0 h : AHeap} {a b c o w s d : Obj} {M : List Obj} (st : St h0 h (a :: b :: c :: o :: w :: s :: d :: M)) : St h0 h (o :: w :: s :: a :: M) :=
  St.drop (A := [b, c, d]) (St.swap (A := [o, w, s, a]) (B := [b, c, d]) (C := M) (St.swap (A := [a, b, c]) (B := [o, w, s]) (C := d :: M) st))
theorem St.best2 {h0 h : AHeap} {a b o w s d : Obj} {M : List Obj} (st : St h0 h (a :: b :: o :: w :: s :: d :: M)) : St h0 h (o :: w :: s :: a :: M) :=
  St.drop (A := [b, d]) (St.swap (A := [o, w, s, a]) (B := [b, d]) (C := M) (St.swap (A := [a, b]) (B := [o, w, s]) (C := d :: M) st))
theorem bet_ne {o : Option Nat} {k : Nat} (h : ¬ rowO o = []) : betterO o k = befB (roomsTo k 6) (rowO o) := by
  cases o with
  | none => exact absurd rfl h
  | some b => rfl
theorem bet_nil {p : Nat → Bool} (h0 : p 0 = false) {k : Nat} (hk : k ≤ 64) (h : rowO (bestTo p k) = []) : betterO (bestTo p k) k = true := by rw [rowO_nil h0 hk h]; rfl
theorem can_all {r : Nat} {ws : List W} (hB : BOk (r : Int) ws) : canP (r : Int) ws = decide (0 < (allF ws).length) := by
  have hc := chk_of_B hB
  rw [canP, decide_eq_true hc, Bool.true_and, Int.toNat_natCast, Bool.eq_iff_iff, decide_eq_true_iff, hoffman hB.inR hB.LM]
  have h := all_none (ws := ws) hB
  constructor
  · intro hx
    refine List.length_pos_iff.2 fun h0 => ?_
    exact (h.1 h0) hx
  · intro hl
    refine Classical.byContradiction fun hx => ?_
    rw [h.2 hx] at hl
    exact absurd hl (by decide)
theorem can_best {r : Nat} {ws : List W} (hB : BOk (r : Int) ws) : canP (r : Int) ws = decide (rowO (bestTo (proofB ws) (2 ^ r)) = []) := by
  have hc := chk_of_B hB
  have h6 := hB.r6
  have hpw : 2 ^ r ≤ 2 ^ 6 := Nat.pow_le_pow_right (by decide) (by omega)
  rw [canP, decide_eq_true hc, Bool.true_and, Int.toNat_natCast, Bool.eq_iff_iff, decide_eq_true_iff]
  constructor
  · intro h
    cases hb : bestTo (proofB ws) (2 ^ r) with
    | none => rfl
    | some b =>
      obtain ⟨h1, h2⟩ := bestTo_lt hb
      rw [canB_iff.1 h b h1] at h2; cases h2
  · intro h
    have hn := rowO_nil (proof_zero ws) hpw h
    refine canB_iff.2 fun s hs => ?_
    cases hp : proofB ws s with
    | false => rfl
    | true =>
      obtain ⟨b, hb⟩ := bestTo_some hp hs
      rw [hn] at hb; cases hb
theorem agree_all {r : Nat} {ws : List W} (hB : BOk (r : Int) ws) : agreeE (r : Int) ws = if canP (r : Int) ws = true then 0 else 12 := by
  rw [agreeE, if_pos (chk_of_B hB)]
theorem again_all {r : Nat} {ws : List W} (hB : BOk (r : Int) ws) : againE (r : Int) ws = if canP (r : Int) ws = true then 13 else 0 := by
  rw [againE, if_pos (chk_of_B hB)]
theorem first_ver {r : Nat} {ws : List W} (hB : BOk (r : Int) ws) (hx : ∃ n, Flow ws n) : verE (r : Int) ws (firstOf ws) = 0 := by
  have hf := (firstOf_is hx).fl
  rw [verE_end (chk_of_B hB) hf.len (fun i hi => ⟨hf.lo i hi, hf.hi i hi⟩), zeroB_iff.2 (fun x _ => hf.kp x), if_neg (by decide)]

theorem law_hoffman {h : AHeap} {a : Int} {vH : AV} {hs : List H4} (hv : Rd h vH 4 (flr hc hs)) (ha0 : 0 ≤ a) (ha1 : a ≤ 255) (hx : ∀ i, i < hs.length → (hs.getD i default).Ok) (hSz : Sizes h) : ACalls Go.Proofs.Tryd.prog 8 [.agg [.int .u8 a, vH]] h (fun q h' => q = .bool true) := by
  refine KA.fn 134 [.tmp 2] Go.Proofs.Tryd.func8 rfl (by decide) rfl rfl (Nat.le_of_ble_eq_true rfl) ?_
  have hS := St.refl h
  have hvo : vH.one = true := hv.one
  show KA _ 134 _ _ [(0, .agg [.int .u8 a, vH])] _
  refine KA.seq ?_
  refine KA.region rfl ?_
  refine KOps.boxAll hS (by first | rfl | (simp [AV.one]; done) | (simp [AV.one]; assumption) | (simp [AV.one, *]; done)) ?_
  intro p1 h' hp1 hS
  refine KOps.assign ?_
  refine KOps.done ?_
  refine sqQ.normal ?_
  refine KA.sub (Sub.cons (t := 1) Look.eq (Sub.nil _)) ?_
  refine KA.seq ?_
  refine KA.region rfl ?_
  refine KOps.loadAll hS (i := 0) rfl hp1 (by rfl) (by decide) ?_
  refine KOps.call rfl (made_c (m := 5) (Rd.ext hS.keeps hv) ha0 ha1 hx (by decide)) ?_
  rintro _ h2 ⟨vB, rfl, hSM⟩
  have hS0 : St _ _ (_ :: _) := St.trans hS hSM
  clear hS
  have hS := hS0
  clear hS0
  have hvB : vB.one = true := St.one hS (k := 0) rfl
  have hrb := roomsOf_b ha0
  have hB := made_ok (hs := hs) (k := 5) hrb.1 (by omega) (by decide) hx
  have hT := made_thin (roomsOf a) hs 5 hx
  generalize madeW (roomsOf a) hs 5 = ws at hB hT hS ⊢
  obtain ⟨r, hr⟩ : ∃ r : Nat, roomsOf a = (r : Int) := ⟨(roomsOf a).toNat, by omega⟩
  rw [hr] at hB hrb ⊢
  have hpw : 2 ^ r ≤ 2 ^ 6 := Nat.pow_le_pow_right (by decide) (by omega)
  have hsh := shl64 r (by omega)
  have hc0 := chk_of_B hB
  have hwl := hB.len
  refine KOps.alloc hS ?_
  intro p3 h' hp3 hS
  refine KOps.storeAll hS rfl (i := 0) rfl hp3 (by show (true && (vB.one && true)) = true; rw [hvB]; rfl) (by rfl) (by rfl) (by decide) ?_
  intro h' hS
  simp only [List.set_cons_zero, List.set_cons_succ, Nat.zero_add] at hS
  refine KOps.done ?_
  refine sqQ.normal ?_
  refine KA.sub (Sub.cons (t := 3) Look.eq (Sub.nil _)) ?_
  refine KA.seq ?_
  refine KA.region rfl ?_
  refine KOps.loadAll hS (i := 0) rfl hp3 (by rfl) (by decide) ?_
  refine KOps.call rfl (flows_c (hS.rd 1 rfl) hB hT) ?_
  rintro vA h3 ⟨vs, hvl, hF⟩
  have hS0 := St.rot (A := matObjs true vA vs (allF ws) ++ []) (St.trans hS hF)
  clear hS
  have hS := hS0
  clear hS0
  have hcan := can_all hB
  rw [← hvl] at hcan
  refine KOps.assign ?_
  refine KOps.done ?_
  refine sqQ.normal ?_
  refine KA.sub (Sub.cons (t := 3) Look.eq (Sub.cons (t := 4) Look.eq (Sub.nil _))) ?_
  refine KA.seq ?_
  refine KA.region rfl ?_
  refine KOps.assign ?_
  refine KOps.done ?_
  refine sqQ.normal ?_
  refine KA.seq ?_
  refine KA.seq ?_
  refine KA.region rfl ?_
  refine KOps.assign ?_
  refine KOps.done ?_
  refine sqQ.normal ?_
  refine KA.block ?_
  refine KA.loop (X := Nat × AV) (fun x => [(3, p3), (4, vA), (5, x.2), (6, .int .i64 (x.1 : Int))]) (fun x h' => x.1 ≤ 2 ^ r ∧ (rowO (bestTo (proofB ws) x.1) = [] → x.2 = .nils) ∧ St h h' ([⟨p3, 0, [.int .i64 (r : Int), vB], true⟩, ⟨vB, 4, flr wc ws, true⟩, ⟨p1, 0, [.int .u8 a, vH], true⟩, ⟨x.2, 1, ints (rowO (bestTo (proofB ws) x.1)), true⟩] ++ (matObjs true vA vs (allF ws) ++ []))) (fun x => 2 ^ r - x.1) (0, .nils) (by repeat (first | exact Sub.nil _ | refine Sub.cons Look.eq ?_ | refine Sub.cons (Eq.trans Look.eq (congrArg (AV.int _) (by first | omega | (dsimp only; omega)))) ?_)) ?_ ?_
  · refine ⟨Nat.zero_le _, fun _ => rfl, ?_⟩
    exact St.addMid (A := [_, _, _]) hS
  rintro ⟨k, vb⟩ h4 ⟨hk, hnn, hS⟩
  dsimp only at hk hnn hS ⊢
  refine KA.seq ?_
  refine KA.seq ?_
  refine KA.region rfl ?_
  refine KOps.move ?_
  refine KOps.fieldAddr hp3 ?_
  intro p20 hp20
  refine KOps.load hp20 (hS.rd 0 rfl) rfl ?_
  refine KOps.shl (by omega) ?_
  rw [hsh]
  refine KOps.lss ?_
  refine KOps.done ?_
  refine sqQ.normal ?_
  refine KA.sub (Sub.cons (t := 3) Look.eq (Sub.cons (t := 4) Look.eq (Sub.cons (t := 5) Look.eq (Sub.cons (t := 6) Look.eq (Sub.cons (t := 23) Look.eq (Sub.nil _)))))) ?_
  refine KA.condD ?_ ?_
  · intro c23
    refine KA.skip ?_
    refine sqQ.normal ?_
    refine KA.sub (Sub.cons (t := 3) Look.eq (Sub.cons (t := 4) Look.eq (Sub.cons (t := 5) Look.eq (Sub.cons (t := 6) Look.eq (Sub.nil _))))) ?_
    refine KA.seq ?_
    refine KA.block ?_
    refine KA.seq ?_
    refine KA.region rfl ?_
    refine KOps.loadAll hS (i := 0) rfl hp3 (by rfl) (by decide) ?_
    refine KOps.move ?_
    refine KOps.call rfl (sums46_c (s := k) (hS.rd 1 rfl) hB (by omega)) ?_
    rintro _ h5 ⟨rfl, hK⟩
    have hS0 : St _ _ (_ :: _) := St.trans hS (St.ofK hK)
    clear hS
    have hS := hS0
    clear hS0

    refine KOps.move ?_
    refine KOps.extract ?_
    refine KOps.extract ?_
    refine KOps.assign ?_
    refine KOps.assign ?_
    refine KOps.done ?_
    refine sqQ.normal ?_
    refine KA.sub (Sub.cons (t := 3) Look.eq (Sub.cons (t := 4) Look.eq (Sub.cons (t := 5) Look.eq (Sub.cons (t := 6) Look.eq (Sub.cons (t := 7) Look.eq (Sub.cons (t := 8) Look.eq (Sub.nil _))))))) ?_
    refine KA.seq ?_
    refine KA.seq ?_
    refine KA.draw [2, 3] mixed rfl (by kernel_rfl) ?_
    refine KOps.loadAll hS (i := 0) rfl hp3 (by rfl) (by decide) ?_
    refine KOps.move ?_
    refine KOps.callK (by intro _ _ hr; exact hr.2.keeps) (rooms47_c (s := k) (by omega)) ?_
    rintro vl hhl1 ⟨hn1, hSN⟩
    have hS0 : St _ _ (_ :: _) := St.trans hS hSN
    clear hS
    have hS := hS0
    clear hS0

    refine KOps.callK (by intro _ _ hr; exact hr.2) (proves_c (hS.rd 2 rfl) (hS.rd 0 rfl) (by have := roomsTo_len k 6; omega)) ?_
    rintro _ h7 ⟨rfl, hK⟩
    have hS0 : St _ _ (_ :: _) := St.trans hS (St.ofK hK)
    clear hS
    have hS := hS0
    clear hS0

    refine KOps.eql ?_
    refine KOps.move ?_
    refine KOps.move ?_
    refine KOps.gtr ?_
    refine KOps.neqB (by kernel_rfl) ?_
    rw [prov_rooms hB (by omega), proof_sums, beq_self_eq_true, Bool.not_true]
    refine KOps.done ?_
    refine sqQ.normal ?_
    refine KA.sub (Sub.cons (t := 3) Look.eq (Sub.cons (t := 4) Look.eq (Sub.cons (t := 5) Look.eq (Sub.cons (t := 6) Look.eq (Sub.cons (t := 7) Look.eq (Sub.cons (t := 8) Look.eq (Sub.cons (t := 40) Look.eq (Sub.nil _)))))))) ?_
    refine KA.condF ?_
    refine KA.skip ?_
    refine sqQ.normal ?_
    refine KA.sub (Sub.cons (t := 3) Look.eq (Sub.cons (t := 4) Look.eq (Sub.cons (t := 5) Look.eq (Sub.cons (t := 6) Look.eq (Sub.cons (t := 7) Look.eq (Sub.cons (t := 8) Look.eq (Sub.nil _))))))) ?_
    refine KA.seq ?_
    refine KA.region rfl ?_
    refine KOps.move ?_
    refine KOps.move ?_
    refine KOps.gtr ?_
    refine KOps.move ?_
    refine KOps.guardB (dj := 44) rfl rfl true false rfl ?_ ?_
    · intro g44
      have g44 := of_decide_eq_true g44
      refine KOps.move ?_
      refine KOps.guardYes (dj := 44) rfl rfl ?_
      refine KOps.eqNilR (hS.rd 4 rfl) hnn ?_
      refine KOps.guardYes (dj := 44) rfl rfl ?_
      refine KOps.move ?_
      refine KOps.guardB (dj := 47) rfl rfl false true rfl ?_ ?_
      · intro g47
        have g47 := of_decide_eq_false g47
        refine KOps.move ?_
        refine KOps.guardYes (dj := 47) rfl rfl ?_
        refine KOps.call rfl (rooms47_c (s := k) (by omega)) ?_
        rintro vl hhl1 ⟨hn1, hSN⟩
        have hS0 : St _ _ (_ :: _) := St.trans hS hSN
        clear hS
        have hS := hS0
        clear hS0

        refine KOps.guardYes (dj := 47) rfl rfl ?_
        refine KOps.move ?_
        refine KOps.guardYes (dj := 47) rfl rfl ?_
        refine KOps.call rfl (better48_c (hS.rd 0 rfl) (hS.rd 5 rfl) (by have := roomsTo_len k 6; omega)) ?_
        rintro _ _ ⟨rfl, rfl⟩
        refine KOps.guardYes (dj := 44) rfl rfl ?_
        refine KOps.pickF ?_
        refine KOps.pickT ?_
        refine KOps.done ?_
        refine sqQ.normal ?_
        refine KA.sub (Sub.cons (t := 3) Look.eq (Sub.cons (t := 4) Look.eq (Sub.cons (t := 5) Look.eq (Sub.cons (t := 6) Look.eq (Sub.cons (t := 45) Look.eq (Sub.cons (t := 46) Look.eq (Sub.cons (t := 47) Look.eq (Sub.cons (t := 48) Look.eq (Sub.cons (t := 49) Look.eq (Sub.cons (t := 50) Look.eq (Sub.cons (t := 51) Look.eq (Sub.cons (t := 52) Look.eq (Sub.cons (t := 53) Look.eq (Sub.nil _)))))))))))))) ?_
        refine KA.condB ?_ ?_
        · intro c53
          refine KA.region rfl ?_
          refine KOps.move ?_
          refine KOps.call rfl (rooms47_c (s := k) (by omega)) ?_
          rintro vm hhl2 ⟨hn2, hSN⟩
          have hS0 : St _ _ (_ :: _) := St.trans hS hSN
          clear hS
          have hS := hS0
          clear hS0

          refine KOps.assign ?_
          refine KOps.done ?_
          refine blQ.normal ?_
          refine sqQ.normal ?_
          refine KA.sub (Sub.cons (t := 3) Look.eq (Sub.cons (t := 4) Look.eq (Sub.cons (t := 5) Look.eq (Sub.cons (t := 6) Look.eq (Sub.cons (t := 45) Look.eq (Sub.cons (t := 46) Look.eq (Sub.cons (t := 47) Look.eq (Sub.cons (t := 48) Look.eq (Sub.cons (t := 49) Look.eq (Sub.cons (t := 50) Look.eq (Sub.cons (t := 51) Look.eq (Sub.cons (t := 52) Look.eq (Sub.nil _))))))))))))) ?_
          refine KA.region rfl ?_
          refine KOps.move ?_
          refine KOps.add (by first | omega | (simp; omega)) (by first | omega | (simp; omega)) ?_
          refine KOps.assign ?_
          refine KOps.done ?_
          have hb := best_yes (p := proofB ws) (k := k) (by rw [proof_sums]; exact decide_eq_true g44) (by rw [bet_ne g47]; exact c53)
          have hro : rowO (bestTo (proofB ws) (k + 1)) = roomsTo k 6 := by rw [hb]; rfl
          refine lpQ.normal (k + 1, vm) (by repeat (first | exact Sub.nil _ | refine Sub.cons Look.eq ?_ | refine Sub.cons (Eq.trans Look.eq (congrArg (AV.int _) (by first | omega | (dsimp only; omega)))) ?_)) ⟨by dsimp only; omega, by dsimp only; rw [hro]; exact hn2, ?_⟩ (by dsimp only; omega)
          dsimp only
          rw [hro]
          exact St.best3 hS
        · intro c53
          refine KA.skip ?_
          refine blQ.normal ?_
          refine sqQ.normal ?_
          refine KA.sub (Sub.cons (t := 3) Look.eq (Sub.cons (t := 4) Look.eq (Sub.cons (t := 5) Look.eq (Sub.cons (t := 6) Look.eq (Sub.cons (t := 45) Look.eq (Sub.cons (t := 46) Look.eq (Sub.cons (t := 47) Look.eq (Sub.cons (t := 48) Look.eq (Sub.cons (t := 49) Look.eq (Sub.cons (t := 50) Look.eq (Sub.cons (t := 51) Look.eq (Sub.cons (t := 52) Look.eq (Sub.nil _))))))))))))) ?_
          refine KA.region rfl ?_
          refine KOps.move ?_
          refine KOps.add (by first | omega | (simp; omega)) (by first | omega | (simp; omega)) ?_
          refine KOps.assign ?_
          refine KOps.done ?_
          have hb := best_no (p := proofB ws) (k := k) (by rw [bet_ne g47, c53, Bool.and_false])
          refine lpQ.normal (k + 1, vb) (by repeat (first | exact Sub.nil _ | refine Sub.cons Look.eq ?_ | refine Sub.cons (Eq.trans Look.eq (congrArg (AV.int _) (by first | omega | (dsimp only; omega)))) ?_)) ⟨by dsimp only; omega, by dsimp only; rw [hb]; exact hnn, ?_⟩ (by dsimp only; omega)
          dsimp only
          rw [hb]
          exact St.tail (St.tail hS)
      · intro g47
        have g47 := of_decide_eq_true g47
        refine KOps.guardNo (dj := 47) rfl rfl rfl ?_
        refine KOps.guardNo (dj := 47) rfl rfl rfl ?_
        refine KOps.guardNo (dj := 47) rfl rfl rfl ?_
        refine KOps.guardYes (dj := 44) rfl rfl ?_
        refine KOps.pickT ?_
        refine KOps.pickT ?_
        refine KOps.done ?_
        refine sqQ.normal ?_
        refine KA.sub (Sub.cons (t := 3) Look.eq (Sub.cons (t := 4) Look.eq (Sub.cons (t := 5) Look.eq (Sub.cons (t := 6) Look.eq (Sub.cons (t := 45) Look.eq (Sub.cons (t := 46) Look.eq (Sub.cons (t := 47) Look.eq (Sub.cons (t := 48) Look.eq (Sub.cons (t := 49) Look.eq (Sub.cons (t := 50) Look.eq (Sub.cons (t := 51) Look.eq (Sub.cons (t := 52) Look.eq (Sub.cons (t := 53) Look.eq (Sub.nil _)))))))))))))) ?_
        refine KA.condT ?_
        refine KA.region rfl ?_
        refine KOps.move ?_
        refine KOps.call rfl (rooms47_c (s := k) (by omega)) ?_
        rintro vm hhl2 ⟨hn2, hSN⟩
        have hS0 : St _ _ (_ :: _) := St.trans hS hSN
        clear hS
        have hS := hS0
        clear hS0

        refine KOps.assign ?_
        refine KOps.done ?_
        refine blQ.normal ?_
        refine sqQ.normal ?_
        refine KA.sub (Sub.cons (t := 3) Look.eq (Sub.cons (t := 4) Look.eq (Sub.cons (t := 5) Look.eq (Sub.cons (t := 6) Look.eq (Sub.cons (t := 45) Look.eq (Sub.cons (t := 46) Look.eq (Sub.cons (t := 47) Look.eq (Sub.cons (t := 48) Look.eq (Sub.cons (t := 49) Look.eq (Sub.cons (t := 50) Look.eq (Sub.cons (t := 51) Look.eq (Sub.cons (t := 52) Look.eq (Sub.nil _))))))))))))) ?_
        refine KA.region rfl ?_
        refine KOps.move ?_
        refine KOps.add (by first | omega | (simp; omega)) (by first | omega | (simp; omega)) ?_
        refine KOps.assign ?_
        refine KOps.done ?_
        have hb := best_yes (p := proofB ws) (k := k) (by rw [proof_sums]; exact decide_eq_true g44) (bet_nil (proof_zero ws) (by omega) g47)
        have hro : rowO (bestTo (proofB ws) (k + 1)) = roomsTo k 6 := by rw [hb]; rfl
        refine lpQ.normal (k + 1, vm) (by repeat (first | exact Sub.nil _ | refine Sub.cons Look.eq ?_ | refine Sub.cons (Eq.trans Look.eq (congrArg (AV.int _) (by first | omega | (dsimp only; omega)))) ?_)) ⟨by dsimp only; omega, by dsimp only; rw [hro]; exact hn2, ?_⟩ (by dsimp only; omega)
        dsimp only
        rw [hro]
        exact St.best2 hS
    · intro g44
      have g44 := of_decide_eq_false g44
      refine KOps.guardNo (dj := 44) rfl rfl rfl ?_
      refine KOps.guardNo (dj := 44) rfl rfl rfl ?_
      refine KOps.guardTup (dj := 47) rfl rfl ?_
      refine KOps.guardTup (dj := 47) rfl rfl ?_
      refine KOps.guardTup (dj := 47) rfl rfl ?_
      refine KOps.guardTup (dj := 47) rfl rfl ?_
      refine KOps.guardNo (dj := 44) rfl rfl rfl ?_
      refine KOps.pickF ?_
      refine KOps.done ?_
      refine sqQ.normal ?_
      refine KA.sub (Sub.cons (t := 3) Look.eq (Sub.cons (t := 4) Look.eq (Sub.cons (t := 5) Look.eq (Sub.cons (t := 6) Look.eq (Sub.cons (t := 45) Look.eq (Sub.cons (t := 46) Look.eq (Sub.cons (t := 47) Look.eq (Sub.cons (t := 48) Look.eq (Sub.cons (t := 49) Look.eq (Sub.cons (t := 50) Look.eq (Sub.cons (t := 51) Look.eq (Sub.cons (t := 52) Look.eq (Sub.cons (t := 53) Look.eq (Sub.nil _)))))))))))))) ?_
      refine KA.condF ?_
      refine KA.skip ?_
      refine blQ.normal ?_
      refine sqQ.normal ?_
      refine KA.sub (Sub.cons (t := 3) Look.eq (Sub.cons (t := 4) Look.eq (Sub.cons (t := 5) Look.eq (Sub.cons (t := 6) Look.eq (Sub.cons (t := 45) Look.eq (Sub.cons (t := 46) Look.eq (Sub.cons (t := 47) Look.eq (Sub.cons (t := 48) Look.eq (Sub.cons (t := 49) Look.eq (Sub.cons (t := 50) Look.eq (Sub.cons (t := 51) Look.eq (Sub.cons (t := 52) Look.eq (Sub.nil _))))))))))))) ?_
      refine KA.region rfl ?_
      refine KOps.move ?_
      refine KOps.add (by first | omega | (simp; omega)) (by first | omega | (simp; omega)) ?_
      refine KOps.assign ?_
      refine KOps.done ?_
      have hb := best_no (p := proofB ws) (k := k) (by rw [proof_sums, decide_eq_false g44, Bool.false_and])
      refine lpQ.normal (k + 1, vb) (by repeat (first | exact Sub.nil _ | refine Sub.cons Look.eq ?_ | refine Sub.cons (Eq.trans Look.eq (congrArg (AV.int _) (by first | omega | (dsimp only; omega)))) ?_)) ⟨by dsimp only; omega, by dsimp only; rw [hb]; exact hnn, ?_⟩ (by dsimp only; omega)
      dsimp only
      rw [hb]
      exact St.tail hS
  · intro c23
    have hkr : k = 2 ^ r := by omega
    subst hkr
    refine KA.exit ?_
    refine sqQ.exit ?_
    refine lpQ.exit ?_
    refine blQ.here ?_
    refine sqQ.normal ?_
    refine KA.sub (Sub.cons (t := 3) Look.eq (Sub.cons (t := 4) Look.eq (Sub.cons (t := 5) Look.eq (Sub.nil _)))) ?_
    refine KA.seq ?_
    refine KA.region rfl ?_
    refine KOps.loadAll hS (i := 0) rfl hp3 (by rfl) (by decide) ?_
    refine KOps.call rfl (stCan_c (hS.rd 1 rfl)) ?_
    rintro _ h9 ⟨rfl, hK⟩
    have hS0 : St _ _ (_ :: _) := St.trans hS (St.ofK hK)
    clear hS
    have hS := hS0
    clear hS0
    rw [hc0]
    refine KOps.move ?_
    refine KOps.extract ?_
    refine KOps.extract ?_
    refine KOps.assign ?_
    refine KOps.assign ?_
    refine KOps.done ?_
    refine sqQ.normal ?_
    refine KA.sub (Sub.cons (t := 3) Look.eq (Sub.cons (t := 4) Look.eq (Sub.cons (t := 5) Look.eq (Sub.cons (t := 9) Look.eq (Sub.cons (t := 10) Look.eq (Sub.nil _)))))) ?_
    refine KA.seq ?_
    refine KA.region rfl ?_
    refine KOps.loadAll hS (i := 0) rfl hp3 (by rfl) (by decide) ?_
    refine KOps.call rfl (stFirst_c (hS.rd 1 rfl)) ?_
    rintro _ hrF ⟨vF, rfl, hSN⟩
    have hS0 : St _ _ (_ :: _) := St.trans hS hSN
    clear hS
    have hS := hS0
    clear hS0

    refine KOps.move ?_
    refine KOps.extract ?_
    refine KOps.extract ?_
    refine KOps.assign ?_
    refine KOps.assign ?_
    refine KOps.done ?_
    refine sqQ.normal ?_
    refine KA.sub (Sub.cons (t := 3) Look.eq (Sub.cons (t := 4) Look.eq (Sub.cons (t := 5) Look.eq (Sub.cons (t := 9) Look.eq (Sub.cons (t := 10) Look.eq (Sub.cons (t := 11) Look.eq (Sub.cons (t := 12) Look.eq (Sub.nil _)))))))) ?_
    refine KA.seq ?_
    refine KA.region rfl ?_
    refine KOps.loadAll hS (i := 1) rfl hp3 (by rfl) (by decide) ?_
    refine KOps.call rfl (against_c (hS.rd 2 rfl) (hSz.ext hS.keeps)) ?_
    rintro _ hrG ⟨vG, rfl, hSN⟩
    have hS0 : St _ _ (_ :: _) := St.trans hS hSN
    clear hS
    have hS := hS0
    clear hS0

    refine KOps.move ?_
    refine KOps.extract ?_
    refine KOps.extract ?_
    refine KOps.assign ?_
    refine KOps.assign ?_
    refine KOps.done ?_
    refine sqQ.normal ?_
    refine KA.sub (Sub.cons (t := 3) Look.eq (Sub.cons (t := 4) Look.eq (Sub.cons (t := 5) Look.eq (Sub.cons (t := 9) Look.eq (Sub.cons (t := 10) Look.eq (Sub.cons (t := 11) Look.eq (Sub.cons (t := 12) Look.eq (Sub.cons (t := 13) Look.eq (Sub.cons (t := 14) Look.eq (Sub.nil _)))))))))) ?_
    refine KA.seq ?_
    refine KA.seq ?_
    refine KA.region rfl ?_
    refine KOps.move ?_
    refine KOps.neqF rfl ?_
    refine KOps.move ?_
    refine KOps.guardYes (dj := 73) rfl rfl ?_
    refine KOps.move ?_
    refine KOps.guardYes (dj := 73) rfl rfl ?_
    refine KOps.move ?_
    refine KOps.guardYes (dj := 73) rfl rfl ?_
    refine KOps.lenV (St.outer (pre := [_, _, _, _, _, _]) hS) ?_
    refine KOps.guardYes (dj := 73) rfl rfl ?_
    refine KOps.gtr ?_
    refine KOps.guardYes (dj := 73) rfl rfl ?_
    refine KOps.neqBF (by kernel_rfl) (hcan.trans (decide_eq_decide.2 (by omega))) ?_
    refine KOps.pickF ?_
    refine KOps.move ?_
    refine KOps.guardYes (dj := 80) rfl rfl ?_
    refine KOps.move ?_
    refine KOps.guardYes (dj := 80) rfl rfl ?_
    refine KOps.move ?_
    refine KOps.guardYes (dj := 80) rfl rfl ?_
    refine KOps.eqNilR (hS.rd 5 rfl) hnn ?_
    refine KOps.guardYes (dj := 80) rfl rfl ?_
    refine KOps.neqBF (by kernel_rfl) (can_best hB) ?_
    refine KOps.pickF ?_
    refine KOps.done ?_
    refine sqQ.normal ?_
    refine KA.sub (Sub.cons (t := 3) Look.eq (Sub.cons (t := 4) Look.eq (Sub.cons (t := 5) Look.eq (Sub.cons (t := 9) Look.eq (Sub.cons (t := 11) Look.eq (Sub.cons (t := 12) Look.eq (Sub.cons (t := 13) Look.eq (Sub.cons (t := 14) Look.eq (Sub.cons (t := 85) Look.eq (Sub.nil _)))))))))) ?_
    refine KA.condF ?_
    refine KA.skip ?_
    refine sqQ.normal ?_
    refine KA.sub (Sub.cons (t := 3) Look.eq (Sub.cons (t := 4) Look.eq (Sub.cons (t := 5) Look.eq (Sub.cons (t := 9) Look.eq (Sub.cons (t := 11) Look.eq (Sub.cons (t := 12) Look.eq (Sub.cons (t := 13) Look.eq (Sub.cons (t := 14) Look.eq (Sub.nil _))))))))) ?_
    refine KA.seq ?_
    refine KA.seq ?_
    refine KA.region rfl ?_
    refine KOps.move ?_
    refine KOps.not ?_
    refine KOps.done ?_
    refine sqQ.normal ?_
    refine KA.sub (Sub.cons (t := 3) Look.eq (Sub.cons (t := 4) Look.eq (Sub.cons (t := 5) Look.eq (Sub.cons (t := 11) Look.eq (Sub.cons (t := 12) Look.eq (Sub.cons (t := 13) Look.eq (Sub.cons (t := 14) Look.eq (Sub.cons (t := 87) Look.eq (Sub.nil _))))))))) ?_
    refine KA.condB ?_ ?_
    · intro c87
      have hcf : canP (r : Int) ws = false := by simpa using c87
      have hagr : agreeE (r : Int) ws = 12 := by rw [agree_all hB, hcf]; rfl
      have hag : againE (r : Int) ws = 0 := by rw [again_all hB, hcf]; rfl
      refine KA.seq ?_
      refine KA.region rfl ?_
      refine KOps.move ?_
      refine KOps.eqlT hagr ?_
      refine KOps.move ?_
      refine KOps.guardYes (dj := 90) rfl rfl ?_
      refine KOps.move ?_
      refine KOps.guardYes (dj := 90) rfl rfl ?_
      refine KOps.lenI (hS.rd 1 rfl) ?_
      refine KOps.guardYes (dj := 90) rfl rfl ?_
      refine KOps.eqlT (by rw [hagr]; rfl) ?_
      refine KOps.pickT ?_
      refine KOps.move ?_
      refine KOps.guardYes (dj := 95) rfl rfl ?_
      refine KOps.move ?_
      refine KOps.guardYes (dj := 95) rfl rfl ?_
      refine KOps.eqlT hag ?_
      refine KOps.pickT ?_
      refine KOps.move ?_
      refine KOps.guardYes (dj := 99) rfl rfl ?_
      refine KOps.move ?_
      refine KOps.guardYes (dj := 99) rfl rfl ?_
      refine KOps.move ?_
      refine KOps.guardYes (dj := 99) rfl rfl ?_
      refine KOps.call rfl (same_c (hS.rd 0 rfl) (hS.rd 5 rfl) (again_short _ _)) ?_
      rintro _ _ ⟨rfl, rfl⟩
      rw [hag, if_pos rfl, Int.toNat_natCast, fewL_is, decide_eq_true rfl]
      refine KOps.pickT ?_
      refine KOps.move ?_
      refine KOps.guardYes (dj := 104) rfl rfl ?_
      refine KOps.call rfl (works_c (hSz.ext hS.keeps)) ?_
      rintro _ hwk ⟨rfl, hK⟩
      refine KOps.pickT ?_
      refine KOps.assign ?_
      refine KOps.done ?_
      refine sqQ.normal ?_
      refine KA.sub (Sub.cons (t := 2) Look.eq (Sub.nil _)) ?_
      refine KA.ret ?_
      refine sqQ.ret ?_
      refine fnQ.ret1 ?_
      exact rfl
    · intro c87
      have hct : canP (r : Int) ws = true := by simpa using c87
      have hagr : agreeE (r : Int) ws = 0 := by rw [agree_all hB, hct]; rfl
      have hag : againE (r : Int) ws = 13 := by rw [again_all hB, hct]; rfl
      have hex := (agree_ok hagr).2
      obtain ⟨y, t, hall⟩ : ∃ y t, allF ws = y :: t := by
        cases ha : allF ws with
        | nil => exact absurd hex ((all_none hB).1 ha)
        | cons y t => exact ⟨y, t, rfl⟩
      have hvl2 : 0 < (allF ws).length := by rw [hall]; simp
      refine KA.skip ?_
      refine sqQ.normal ?_
      refine KA.sub (Sub.cons (t := 3) Look.eq (Sub.cons (t := 4) Look.eq (Sub.cons (t := 11) Look.eq (Sub.cons (t := 12) Look.eq (Sub.cons (t := 13) Look.eq (Sub.cons (t := 14) Look.eq (Sub.nil _))))))) ?_
      refine KA.seq ?_
      refine KA.region rfl ?_
      refine KOps.move ?_
      refine KOps.eqlT hagr ?_
      refine KOps.move ?_
      refine KOps.guardYes (dj := 109) rfl rfl ?_
      refine KOps.move ?_
      refine KOps.guardYes (dj := 109) rfl rfl ?_
      refine KOps.move ?_
      refine KOps.guardYes (dj := 109) rfl rfl ?_
      refine KOps.indexVJ (St.outer (pre := [_, _, _, _, _, _]) hS) (j := 0) rfl (by first | omega | (simp; omega)) ?_
      intro p112 hp112
      refine KOps.guardYes (dj := 109) rfl rfl ?_
      refine KOps.loadV hp112 (St.outer (pre := [_, _, _, _, _, _]) hS) (by first | omega | (simp; omega)) ?_
      refine KOps.guardYes (dj := 109) rfl rfl ?_
      refine KOps.call rfl (same_c (hS.rd 1 rfl) (St.rowAt (pre := [_, _, _, _, _, _]) hS (by first | assumption | omega | (simp only [List.length_set, List.length_append, List.length_singleton, List.length_replicate, List.length_take]; omega)) (by first | omega | (simp; omega))) (first_short _ _)) ?_
      rintro _ _ ⟨rfl, rfl⟩
      rw [hagr, if_pos rfl, all_first hB hall, hall]
      rw [show decide (y = (y :: t).getD 0 []) = true from decide_eq_true rfl]
      refine KOps.pickT ?_
      refine KOps.move ?_
      refine KOps.guardYes (dj := 116) rfl rfl ?_
      refine KOps.move ?_
      refine KOps.guardYes (dj := 116) rfl rfl ?_
      refine KOps.eqlT hag ?_
      refine KOps.pickT ?_
      refine KOps.move ?_
      refine KOps.guardYes (dj := 120) rfl rfl ?_
      refine KOps.move ?_
      refine KOps.guardYes (dj := 120) rfl rfl ?_
      refine KOps.lenI (hS.rd 0 rfl) ?_
      refine KOps.guardYes (dj := 120) rfl rfl ?_
      refine KOps.eqlT (by rw [hag]; rfl) ?_
      refine KOps.pickT ?_
      refine KOps.move ?_
      refine KOps.guardYes (dj := 125) rfl rfl ?_
      refine KOps.loadAll hS (i := 2) rfl hp3 (by rfl) (by decide) ?_
      refine KOps.guardYes (dj := 125) rfl rfl ?_
      refine KOps.move ?_
      refine KOps.guardYes (dj := 125) rfl rfl ?_
      refine KOps.call rfl (verify_c (hS.rd 3 rfl) (hS.rd 1 rfl)) ?_
      rintro _ h10 ⟨rfl, hK⟩
      have hS0 : St _ _ (_ :: _) := St.trans hS (St.ofK hK)
      clear hS
      have hS := hS0
      clear hS0
      rw [hagr, if_pos rfl, first_ver hB hex]
      refine KOps.guardYes (dj := 125) rfl rfl ?_
      refine KOps.eqlT rfl ?_
      refine KOps.pickT ?_
      refine KOps.move ?_
      refine KOps.guardYes (dj := 131) rfl rfl ?_
      refine KOps.call rfl (works_c (hSz.ext hS.keeps)) ?_
      rintro _ hwk ⟨rfl, hK⟩
      refine KOps.pickT ?_
      refine KOps.assign ?_
      refine KOps.done ?_
      refine sqQ.normal ?_
      refine KA.sub (Sub.cons (t := 2) Look.eq (Sub.nil _)) ?_
      refine KA.ret ?_
      refine fnQ.ret1 ?_
      exact rfl

end Go.Am
