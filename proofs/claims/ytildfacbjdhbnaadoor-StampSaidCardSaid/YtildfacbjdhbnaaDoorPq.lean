/-
  Layer 01: all flows; sums, rooms and lists as the outright laws see them: contracts.
  Conditions: none.
-/
import Derived.Test.YtildfacbjdhbnaaDoorCag
namespace Go.Am
theorem two_sums {s : Nat} {w : W} (hs : s < 64) (hf0 : 0 ≤ w.f) (hf1 : w.f < 6) (ht0 : 0 ≤ w.t) (ht1 : w.t < 6) :
    decide (bits .and .i64 ((s : Int).fdiv (2 ^ Min.min w.t.toNat (IntKind.bits .i64))) 1 < bits .and .i64 ((s : Int).fdiv (2 ^ Min.min w.f.toNat (IntKind.bits .i64))) 1) = lvs w s ∧
    decide (bits .and .i64 ((s : Int).fdiv (2 ^ Min.min w.f.toNat (IntKind.bits .i64))) 1 < bits .and .i64 ((s : Int).fdiv (2 ^ Min.min w.t.toNat (IntKind.bits .i64))) 1) = ens w s := by
  have h1 := and64 s hs w.f.toNat (by omega)
  have h2 := and64 s hs w.t.toNat (by omega)
  rw [show ((w.f.toNat : Nat) : Int).toNat = w.f.toNat by omega] at h1
  rw [show ((w.t.toNat : Nat) : Int).toNat = w.t.toNat by omega] at h2
  rw [h1, h2]
  unfold lvs ens inS
  cases s.testBit w.f.toNat <;> cases s.testBit w.t.toNat <;> exact ⟨rfl, rfl⟩

theorem flows_c {h : AHeap} {rm : Int} {vW : AV} {ws : List W} (hv : Rd h vW 4 (flr wc ws)) (hB : BOk rm ws) (ht : Thin ws) : ACalls Go.Proofs.Tryd.prog 45 [.agg [.int .i64 rm, vW]] h (fun q h' => ∃ vs, vs.length = (allF ws).length ∧ St h h' (matObjs true q vs (allF ws) ++ [])) := by
  refine KA.fn 9 [.tmp 2] Go.Proofs.Tryd.func45 rfl (by decide) rfl rfl (Nat.le_of_ble_eq_true rfl) ?_
  have hS := St.refl h
  have hvo : vW.one = true := hv.one
  have hfl := flowsF_len ht ws.length [] (by simp)
  have hwl := hB.len
  have h5 : 5 ^ ws.length ≤ 5 ^ 12 := Nat.pow_le_pow_right (by decide) hwl
  show KA _ 9 _ _ [(0, .agg [.int .i64 rm, vW])] _
  refine KA.seq ?_
  refine KA.region rfl ?_
  refine KOps.boxAll hS (by first | rfl | (simp [AV.one]; done) | (simp [AV.one]; assumption) | (simp [AV.one, *]; done)) ?_
  intro p1 h' hp1 hS
  refine KOps.assign ?_
  refine KOps.done ?_
  refine sqQ.normal ?_
  refine KA.sub (Sub.cons (t := 1) Look.eq (Sub.nil _)) ?_
  refine KA.seq ?_
  refine KA.region rfl ?_
  refine KOps.alloc hS ?_
  intro p3 h2 hp3 hS
  refine KOps.done ?_
  refine sqQ.normal ?_
  refine KA.seq ?_
  refine KA.region rfl ?_
  refine KOps.alloc hS ?_
  intro p4 h3 hp4 hS
  refine KOps.done ?_
  refine sqQ.normal ?_
  refine KA.seq ?_
  refine KA.region rfl ?_
  refine KOps.makeFunc ?_
  refine KOps.storeBox hS rfl (i := 0) rfl hp4 (by first | rfl | assumption) ?_
  intro h' hS
  simp only [List.set_cons_zero] at hS
  refine KOps.done ?_
  refine sqQ.normal ?_
  refine KA.sub (Sub.cons (t := 3) Look.eq (Sub.cons (t := 4) Look.eq (Sub.nil _))) ?_
  refine KA.seq ?_
  refine KA.region rfl ?_
  refine KOps.loadBox hS (i := 0) rfl hp4 ?_
  refine KOps.call rfl (flows1_c hp1 hp3 hp4 hv hB ht ws.length (vo := .nils) (vs := []) (l := []) (ps := []) (G := []) (by simp) (fun k hk => absurd hk (Nat.not_lt_zero _)) rfl (by simpa using (by omega : (flowsF ws ws.length []).length ≤ 4294967295)) (St.nil (St.pick [1, 2, 0, 3] (by decide) rfl (St.addNil 1 true hS)) 1)) ?_
  rintro _ h5 ⟨vo, vs, hl, hS⟩
  rw [List.nil_append] at hl hS
  refine KOps.done ?_
  refine sqQ.normal ?_
  refine KA.sub (Sub.cons (t := 3) Look.eq (Sub.nil _)) ?_
  refine KA.seq ?_
  refine KA.region rfl ?_
  refine KOps.loadBox hS (i := 0) rfl hp3 ?_
  refine KOps.assign ?_
  refine KOps.done ?_
  refine sqQ.normal ?_
  refine KA.sub (Sub.cons (t := 2) Look.eq (Sub.nil _)) ?_
  refine KA.ret ?_
  refine fnQ.ret1 ?_
  exact ⟨vs, hl, St.drop (A := [_, _, _]) hS⟩

theorem sums46_c {h : AHeap} {rm w : Int} {vW : AV} {ws : List W} {s : Nat} (hv : Rd h vW 4 (flr wc ws)) (hB : BOk rm ws) (hs : s < 64) : ACalls Go.Proofs.Tryd.prog 46 [.agg [.int .i64 rm, vW], .int .i64 (s : Int), .int .i64 w] h (fun q h' => q = .tup [.int .i64 (lstTo ws s w ws.length), .int .i64 (mstTo ws s w ws.length)] ∧ Keeps h h') := by
  refine KA.fn 65 [.tmp 6, .tmp 7] Go.Proofs.Tryd.func46 rfl (by decide) rfl rfl (Nat.le_of_ble_eq_true rfl) ?_
  have hS := St.refl h
  have hvo : vW.one = true := hv.one
  have hwl := hB.len
  have hr6 := hB.r6
  show KA _ 65 _ _ [(0, .agg [.int .i64 rm, vW]), (1, .int .i64 (s : Int)), (2, .int .i64 w)] _
  refine KA.seq ?_
  refine KA.region rfl ?_
  refine KOps.boxAll hS (by first | rfl | (simp [AV.one]; done) | (simp [AV.one]; assumption) | (simp [AV.one, *]; done)) ?_
  intro p3 h' hp3 hS
  refine KOps.assign ?_
  refine KOps.assign ?_
  refine KOps.done ?_
  refine sqQ.normal ?_
  refine KA.sub (Sub.cons (t := 1) Look.eq (Sub.cons (t := 2) Look.eq (Sub.cons (t := 3) Look.eq (Sub.cons (t := 6) Look.eq (Sub.cons (t := 7) Look.eq (Sub.nil _)))))) ?_
  refine KA.seq ?_
  refine KA.seq ?_
  refine KA.region rfl ?_
  refine KOps.fieldAddr hp3 ?_
  intro p12 hp12
  refine KOps.load hp12 (hS.rd 0 rfl) rfl ?_
  refine KOps.lenF wc_len (Rd.ext hS.keeps hv) ?_
  refine KOps.move ?_
  refine KOps.done ?_
  refine sqQ.normal ?_
  refine KA.sub (Sub.cons (t := 1) Look.eq (Sub.cons (t := 2) Look.eq (Sub.cons (t := 6) Look.eq (Sub.cons (t := 7) Look.eq (Sub.cons (t := 13) Look.eq (Sub.cons (t := 14) Look.eq (Sub.cons (t := 15) Look.eq (Sub.nil _)))))))) ?_
  refine KA.block ?_
  refine KA.loop (X := Nat) (fun i => [(1, .int .i64 (s : Int)), (2, .int .i64 w), (6, .int .i64 (lstTo ws s w i)), (7, .int .i64 (mstTo ws s w i)), (13, vW), (14, .int .i64 (ws.length : Int)), (15, .int .i64 (i : Int))]) (fun i h' => i ≤ ws.length ∧ St h h' [⟨p3, 0, [.int .i64 rm, vW], true⟩]) (fun i => ws.length - i) 0 (by repeat (first | exact Sub.nil _ | refine Sub.cons Look.eq ?_ | refine Sub.cons (Eq.trans Look.eq (congrArg (AV.int _) (by first | omega | (dsimp only; omega)))) ?_)) ?_ ?_
  · exact ⟨Nat.zero_le _, hS⟩
  rintro i h2 ⟨hi, hS⟩
  refine KA.seq ?_
  refine KA.region rfl ?_
  refine KOps.lss ?_
  refine KOps.done ?_
  refine sqQ.normal ?_
  refine KA.seq ?_
  refine KA.condD ?_ ?_
  · intro c16
    refine KA.skip ?_
    refine sqQ.normal ?_
    refine KA.sub (Sub.cons (t := 1) Look.eq (Sub.cons (t := 2) Look.eq (Sub.cons (t := 6) Look.eq (Sub.cons (t := 7) Look.eq (Sub.cons (t := 13) Look.eq (Sub.cons (t := 14) Look.eq (Sub.cons (t := 15) Look.eq (Sub.nil _)))))))) ?_
    refine KA.seq ?_
    refine KA.block ?_
    refine KA.seq ?_
    refine KA.region rfl ?_
    refine KOps.move ?_
    refine KOps.indexF wc_len (Rd.ext hS.keeps hv) (j := i) rfl (by first | omega | (simp; omega)) ?_
    intro p18 hp18
    refine KOps.loadFl wc_len (by decide) hp18 (Rd.ext hS.keeps hv) (by first | omega | (simp; omega)) ?_
    refine KOps.alloc hS ?_
    intro p9 h' hp9 hS
    refine KOps.assign ?_
    refine KOps.storeAll hS rfl (i := 0) rfl hp9 (by first | rfl | (simp [AV.one]; done) | (simp [AV.one]; assumption) | (simp [AV.one, *]; done)) (by rfl) (by rfl) (by decide) ?_
    intro h' hS
    simp only [List.set_cons_zero, List.set_cons_succ, Nat.zero_add] at hS
    refine KOps.done ?_
    refine sqQ.normal ?_
    refine KA.sub (Sub.cons (t := 1) Look.eq (Sub.cons (t := 2) Look.eq (Sub.cons (t := 6) Look.eq (Sub.cons (t := 7) Look.eq (Sub.cons (t := 8) Look.eq (Sub.cons (t := 9) Look.eq (Sub.cons (t := 13) Look.eq (Sub.cons (t := 14) Look.eq (Sub.cons (t := 15) Look.eq (Sub.nil _)))))))))) ?_
    refine KA.seq ?_
    refine KA.draw [] mixed rfl (by kernel_rfl) ?_
    have hwi := hB.way i (by omega)
    have hwf0 := hwi.f0
    have hwf1 := hwi.f1
    have hwt0 := hwi.t0
    have hwt1 := hwi.t1
    have hwl0 := hwi.l0
    have hwm1 := hwi.m1
    have hwlm := hwi.lm
    have hsb := sums_bound hB s w i (by omega)
    have h2s := two_sums (s := s) (w := ws.getD i default) hs (by omega) (by omega) (by omega) (by omega)
    refine KOps.move ?_
    refine KOps.fieldAddr hp9 ?_
    intro p21 hp21
    refine KOps.load hp21 (hS.rd 0 rfl) rfl ?_
    refine KOps.shr (by first | omega | (simp; omega)) ?_
    refine KOps.bits (by simp) ?_
    refine KOps.move ?_
    refine KOps.fieldAddr hp9 ?_
    intro p26 hp26
    refine KOps.load hp26 (hS.rd 0 rfl) rfl ?_
    refine KOps.shr (by first | omega | (simp; omega)) ?_
    refine KOps.bits (by simp) ?_
    refine KOps.gtr ?_
    rw [h2s.1]
    refine KOps.move ?_
    refine KOps.fieldAddr hp9 ?_
    intro p32 hp32
    refine KOps.load hp32 (hS.rd 0 rfl) rfl ?_
    refine KOps.shr (by first | omega | (simp; omega)) ?_
    refine KOps.bits (by simp) ?_
    refine KOps.move ?_
    refine KOps.fieldAddr hp9 ?_
    intro p37 hp37
    refine KOps.load hp37 (hS.rd 0 rfl) rfl ?_
    refine KOps.shr (by first | omega | (simp; omega)) ?_
    refine KOps.bits (by simp) ?_
    refine KOps.lss ?_
    rw [h2s.2]
    refine KOps.assign ?_
    refine KOps.assign ?_
    refine KOps.done ?_
    refine sqQ.normal ?_
    refine KA.sub (Sub.cons (t := 1) Look.eq (Sub.cons (t := 2) Look.eq (Sub.cons (t := 6) Look.eq (Sub.cons (t := 7) Look.eq (Sub.cons (t := 8) Look.eq (Sub.cons (t := 9) Look.eq (Sub.cons (t := 10) Look.eq (Sub.cons (t := 11) Look.eq (Sub.cons (t := 13) Look.eq (Sub.cons (t := 14) Look.eq (Sub.cons (t := 15) Look.eq (Sub.nil _)))))))))))) ?_
    refine KA.meet (X := Unit) (fun _ => [(1, .int .i64 (s : Int)), (2, .int .i64 w), (6, .int .i64 (lstTo ws s w (i + 1))), (7, .int .i64 (mstTo ws s w i)), (13, vW), (14, .int .i64 (ws.length : Int)), (15, .int .i64 (i : Int)), (8, .int .i64 (i : Int)), (9, p9), (11, .bool (ens (ws.getD i default) s))]) (fun _ h' => St h h' [⟨p9, 0, wc (ws.getD i default), true⟩, ⟨p3, 0, [.int .i64 rm, vW], true⟩]) ?_ ?_
    ·
      refine KA.seq ?_
      refine KA.region rfl ?_
      refine KOps.move ?_
      refine KOps.move ?_
      refine KOps.neq ?_
      refine KOps.move ?_
      refine KOps.guardB (dj := 45) rfl rfl true false rfl ?_ ?_
      · intro g45
        have g45 := not_of_not_decide g45
        refine KOps.move ?_
        refine KOps.pickT ?_
        refine KOps.done ?_
        refine sqQ.normal ?_
        refine KA.sub (Sub.cons (t := 1) Look.eq (Sub.cons (t := 2) Look.eq (Sub.cons (t := 6) Look.eq (Sub.cons (t := 7) Look.eq (Sub.cons (t := 8) Look.eq (Sub.cons (t := 9) Look.eq (Sub.cons (t := 11) Look.eq (Sub.cons (t := 13) Look.eq (Sub.cons (t := 14) Look.eq (Sub.cons (t := 15) Look.eq (Sub.cons (t := 46) Look.eq (Sub.cons (t := 47) Look.eq (Sub.nil _))))))))))))) ?_
        refine KA.condB ?_ ?_
        · intro c47
          refine KA.region rfl ?_
          refine KOps.move ?_
          refine KOps.fieldAddr hp9 ?_
          intro p49 hp49
          refine KOps.load hp49 (hS.rd 0 rfl) rfl ?_
          refine KOps.add (by first | omega | (simp; omega)) (by first | omega | (simp; omega)) ?_
          refine KOps.assign ?_
          refine KOps.done ?_
          exact mtQ.normal () (by repeat (first | exact Sub.nil _ | refine Sub.cons Look.eq ?_ | refine Sub.cons (Eq.trans Look.eq (congrArg (AV.int _) (by first | omega | (dsimp only; omega)))) ?_ | refine Sub.cons (Eq.trans Look.eq (congrArg (AV.int _) (by rw [lstTo, if_pos ⟨g45, c47⟩] <;> omega))) ?_)) hS
        · intro c47
          refine KA.skip ?_
          exact mtQ.normal () (by repeat (first | exact Sub.nil _ | refine Sub.cons Look.eq ?_ | refine Sub.cons (Eq.trans Look.eq (congrArg (AV.int _) (by first | omega | (dsimp only; omega)))) ?_ | refine Sub.cons (Eq.trans Look.eq (congrArg (AV.int _) (by rw [lstTo, if_neg (fun h0 => by rw [c47] at h0; exact absurd h0.2 (by decide))] <;> omega))) ?_)) hS
      · intro g45
        have g45 := of_not_decide g45
        refine KOps.pickF ?_
        refine KOps.done ?_
        refine sqQ.normal ?_
        refine KA.sub (Sub.cons (t := 1) Look.eq (Sub.cons (t := 2) Look.eq (Sub.cons (t := 6) Look.eq (Sub.cons (t := 7) Look.eq (Sub.cons (t := 8) Look.eq (Sub.cons (t := 9) Look.eq (Sub.cons (t := 11) Look.eq (Sub.cons (t := 13) Look.eq (Sub.cons (t := 14) Look.eq (Sub.cons (t := 15) Look.eq (Sub.cons (t := 46) Look.eq (Sub.cons (t := 47) Look.eq (Sub.nil _))))))))))))) ?_
        refine KA.condF ?_
        refine KA.skip ?_
        exact mtQ.normal () (by repeat (first | exact Sub.nil _ | refine Sub.cons Look.eq ?_ | refine Sub.cons (Eq.trans Look.eq (congrArg (AV.int _) (by first | omega | (dsimp only; omega)))) ?_ | refine Sub.cons (Eq.trans Look.eq (congrArg (AV.int _) (by rw [lstTo, if_neg (fun h0 => h0.1 g45)] <;> omega))) ?_)) hS
    ·
      rintro _ h7 hS
      refine KA.seq ?_
      refine KA.region rfl ?_
      refine KOps.move ?_
      refine KOps.move ?_
      refine KOps.neq ?_
      refine KOps.move ?_
      refine KOps.guardB (dj := 55) rfl rfl true false rfl ?_ ?_
      · intro g55
        have g55 := not_of_not_decide g55
        refine KOps.move ?_
        refine KOps.pickT ?_
        refine KOps.done ?_
        refine sqQ.normal ?_
        refine KA.sub (Sub.cons (t := 1) Look.eq (Sub.cons (t := 2) Look.eq (Sub.cons (t := 6) Look.eq (Sub.cons (t := 7) Look.eq (Sub.cons (t := 9) Look.eq (Sub.cons (t := 13) Look.eq (Sub.cons (t := 14) Look.eq (Sub.cons (t := 15) Look.eq (Sub.cons (t := 56) Look.eq (Sub.cons (t := 57) Look.eq (Sub.nil _))))))))))) ?_
        refine KA.condB ?_ ?_
        · intro c57
          refine KA.region rfl ?_
          refine KOps.move ?_
          refine KOps.fieldAddr hp9 ?_
          intro p59 hp59
          refine KOps.load hp59 (hS.rd 0 rfl) rfl ?_
          refine KOps.add (by first | omega | (simp; omega)) (by first | omega | (simp; omega)) ?_
          refine KOps.assign ?_
          refine KOps.done ?_
          refine blQ.normal ?_
          refine sqQ.normal ?_
          refine KA.sub (Sub.cons (t := 1) Look.eq (Sub.cons (t := 2) Look.eq (Sub.cons (t := 6) Look.eq (Sub.cons (t := 7) Look.eq (Sub.cons (t := 13) Look.eq (Sub.cons (t := 14) Look.eq (Sub.cons (t := 15) Look.eq (Sub.cons (t := 56) Look.eq (Sub.nil _))))))))) ?_
          refine KA.region rfl ?_
          refine KOps.add (by first | omega | (simp; omega)) (by first | omega | (simp; omega)) ?_
          refine KOps.move ?_
          refine KOps.done ?_
          exact lpQ.normal (i + 1) (by repeat (first | exact Sub.nil _ | refine Sub.cons Look.eq ?_ | refine Sub.cons (Eq.trans Look.eq (congrArg (AV.int _) (by first | omega | (dsimp only; omega)))) ?_ | refine Sub.cons (Eq.trans Look.eq (congrArg (AV.int _) (by rw [mstTo, if_pos ⟨g55, c57⟩] <;> omega))) ?_)) ⟨by omega, St.tail hS⟩ (by omega)
        · intro c57
          refine KA.skip ?_
          refine blQ.normal ?_
          refine sqQ.normal ?_
          refine KA.sub (Sub.cons (t := 1) Look.eq (Sub.cons (t := 2) Look.eq (Sub.cons (t := 6) Look.eq (Sub.cons (t := 7) Look.eq (Sub.cons (t := 13) Look.eq (Sub.cons (t := 14) Look.eq (Sub.cons (t := 15) Look.eq (Sub.cons (t := 56) Look.eq (Sub.nil _))))))))) ?_
          refine KA.region rfl ?_
          refine KOps.add (by first | omega | (simp; omega)) (by first | omega | (simp; omega)) ?_
          refine KOps.move ?_
          refine KOps.done ?_
          exact lpQ.normal (i + 1) (by repeat (first | exact Sub.nil _ | refine Sub.cons Look.eq ?_ | refine Sub.cons (Eq.trans Look.eq (congrArg (AV.int _) (by first | omega | (dsimp only; omega)))) ?_ | refine Sub.cons (Eq.trans Look.eq (congrArg (AV.int _) (by rw [mstTo, if_neg (fun h0 => by rw [c57] at h0; exact absurd h0.2 (by decide))] <;> omega))) ?_)) ⟨by omega, St.tail hS⟩ (by omega)
      · intro g55
        have g55 := of_not_decide g55
        refine KOps.pickF ?_
        refine KOps.done ?_
        refine sqQ.normal ?_
        refine KA.sub (Sub.cons (t := 1) Look.eq (Sub.cons (t := 2) Look.eq (Sub.cons (t := 6) Look.eq (Sub.cons (t := 7) Look.eq (Sub.cons (t := 9) Look.eq (Sub.cons (t := 13) Look.eq (Sub.cons (t := 14) Look.eq (Sub.cons (t := 15) Look.eq (Sub.cons (t := 56) Look.eq (Sub.cons (t := 57) Look.eq (Sub.nil _))))))))))) ?_
        refine KA.condF ?_
        refine KA.skip ?_
        refine blQ.normal ?_
        refine sqQ.normal ?_
        refine KA.sub (Sub.cons (t := 1) Look.eq (Sub.cons (t := 2) Look.eq (Sub.cons (t := 6) Look.eq (Sub.cons (t := 7) Look.eq (Sub.cons (t := 13) Look.eq (Sub.cons (t := 14) Look.eq (Sub.cons (t := 15) Look.eq (Sub.cons (t := 56) Look.eq (Sub.nil _))))))))) ?_
        refine KA.region rfl ?_
        refine KOps.add (by first | omega | (simp; omega)) (by first | omega | (simp; omega)) ?_
        refine KOps.move ?_
        refine KOps.done ?_
        exact lpQ.normal (i + 1) (by repeat (first | exact Sub.nil _ | refine Sub.cons Look.eq ?_ | refine Sub.cons (Eq.trans Look.eq (congrArg (AV.int _) (by first | omega | (dsimp only; omega)))) ?_ | refine Sub.cons (Eq.trans Look.eq (congrArg (AV.int _) (by rw [mstTo, if_neg (fun h0 => h0.1 g55)] <;> omega))) ?_)) ⟨by omega, St.tail hS⟩ (by omega)
  · intro c16
    refine KA.exit ?_
    refine sqQ.exit ?_
    refine lpQ.exit ?_
    refine blQ.here ?_
    refine sqQ.normal ?_
    refine KA.sub (Sub.cons (t := 6) Look.eq (Sub.cons (t := 7) Look.eq (Sub.nil _))) ?_
    refine KA.seq ?_
    refine KA.region rfl ?_
    refine KOps.move ?_
    refine KOps.move ?_
    refine KOps.assign ?_
    refine KOps.assign ?_
    refine KOps.done ?_
    refine sqQ.normal ?_
    refine KA.sub (Sub.cons (t := 6) Look.eq (Sub.cons (t := 7) Look.eq (Sub.nil _))) ?_
    refine KA.ret ?_
    refine fnQ.retN ?_
    rw [show ws.length = i by omega]
    exact ⟨rfl, hS.keeps⟩

theorem rooms47_c {h : AHeap} {s : Nat} (hs : s < 64) : ACalls Go.Proofs.Tryd.prog 47 [.int .i64 (s : Int)] h (fun q h' => (roomsTo s 6 = [] → q = .nils) ∧ St h h' [⟨q, 1, ints (roomsTo s 6), true⟩]) := by
  refine KA.fn 19 [.tmp 2] Go.Proofs.Tryd.func47 rfl (by decide) rfl rfl (Nat.le_of_ble_eq_true rfl) ?_
  have hS := St.refl h
  show KA _ 19 _ _ [(0, .int .i64 (s : Int))] _
  refine KA.seq ?_
  refine KA.region rfl ?_
  refine KOps.assign ?_
  refine KOps.done ?_
  refine sqQ.normal ?_
  refine KA.sub (Sub.cons (t := 0) Look.eq (Sub.nil _)) ?_
  refine KA.seq ?_
  refine KA.region rfl ?_
  refine KOps.assign ?_
  refine KOps.done ?_
  refine sqQ.normal ?_
  refine KA.seq ?_
  refine KA.seq ?_
  refine KA.region rfl ?_
  refine KOps.assign ?_
  refine KOps.done ?_
  refine sqQ.normal ?_
  refine KA.block ?_
  refine KA.loop (X := Nat × AV) (fun x => [(0, .int .i64 (s : Int)), (3, x.2), (4, .int .i64 (x.1 : Int))]) (fun x h' => x.1 ≤ 6 ∧ (roomsTo s x.1 = [] → x.2 = .nils) ∧ St h h' [⟨x.2, 1, ints (roomsTo s x.1), true⟩]) (fun x => 6 - x.1) (0, .nils) (by repeat (first | exact Sub.nil _ | refine Sub.cons Look.eq ?_ | refine Sub.cons (Eq.trans Look.eq (congrArg (AV.int _) (by first | omega | (dsimp only; omega)))) ?_)) ?_ ?_
  · exact ⟨Nat.zero_le _, fun _ => rfl, St.nil hS 1⟩
  rintro ⟨i, vo⟩ h2 ⟨hi, hnn, hS⟩
  dsimp only at hi hnn hS ⊢
  have hrl := roomsTo_len s i
  refine KA.seq ?_
  refine KA.seq ?_
  refine KA.region rfl ?_
  refine KOps.move ?_
  refine KOps.lss ?_
  refine KOps.done ?_
  refine sqQ.normal ?_
  refine KA.sub (Sub.cons (t := 0) Look.eq (Sub.cons (t := 3) Look.eq (Sub.cons (t := 4) Look.eq (Sub.cons (t := 6) Look.eq (Sub.nil _))))) ?_
  refine KA.condD ?_ ?_
  · intro c6
    refine KA.skip ?_
    refine sqQ.normal ?_
    refine KA.sub (Sub.cons (t := 0) Look.eq (Sub.cons (t := 3) Look.eq (Sub.cons (t := 4) Look.eq (Sub.nil _)))) ?_
    refine KA.seq ?_
    refine KA.block ?_
    refine KA.seq ?_
    refine KA.region rfl ?_
    refine KOps.move ?_
    refine KOps.move ?_
    refine KOps.shr (by first | omega | (simp; omega)) ?_
    refine KOps.bits (by simp) ?_
    refine KOps.eql ?_
    rw [and_in hs (by omega) (by omega)]
    refine KOps.done ?_
    refine sqQ.normal ?_
    refine KA.sub (Sub.cons (t := 0) Look.eq (Sub.cons (t := 3) Look.eq (Sub.cons (t := 4) Look.eq (Sub.cons (t := 13) Look.eq (Sub.nil _))))) ?_
    refine KA.condB ?_ ?_
    · intro c13
      have hb : s.testBit i = true := by unfold inS at c13; simpa using c13
      refine KA.region rfl ?_
      refine KOps.move ?_
      refine KOps.move ?_
      refine KOps.buildSlice hS rfl (by decide) rfl ?_
      intro v16 h' hS
      refine KOps.appendI hS (fun _ => rfl) (i := 0) rfl (by first | omega | (simp; omega)) ?_
      intro r17 h' hr17 hS
      refine KOps.assign ?_
      refine KOps.done ?_
      refine blQ.normal ?_
      refine sqQ.normal ?_
      refine KA.sub (Sub.cons (t := 0) Look.eq (Sub.cons (t := 3) Look.eq (Sub.cons (t := 4) Look.eq (Sub.nil _)))) ?_
      refine KA.region rfl ?_
      refine KOps.move ?_
      refine KOps.add (by first | omega | (simp; omega)) (by first | omega | (simp; omega)) ?_
      refine KOps.assign ?_
      refine KOps.done ?_
      have e1 : roomsTo s i ++ [(i : Int)] = roomsTo s (i + 1) := by rw [roomsTo_succ, if_pos hb]
      rw [e1] at hS
      exact lpQ.normal (i + 1, r17) (by repeat (first | exact Sub.nil _ | refine Sub.cons Look.eq ?_ | refine Sub.cons (Eq.trans Look.eq (congrArg (AV.int _) (by first | omega | (dsimp only; omega)))) ?_)) ⟨by dsimp only; omega, fun h0 => by dsimp only at h0; rw [← e1] at h0; simp at h0, hS⟩ (by dsimp only; omega)
    · intro c13
      have hb : ¬ s.testBit i = true := by unfold inS at c13; simpa using c13
      refine KA.skip ?_
      refine blQ.normal ?_
      refine sqQ.normal ?_
      refine KA.sub (Sub.cons (t := 0) Look.eq (Sub.cons (t := 3) Look.eq (Sub.cons (t := 4) Look.eq (Sub.nil _)))) ?_
      refine KA.region rfl ?_
      refine KOps.move ?_
      refine KOps.add (by first | omega | (simp; omega)) (by first | omega | (simp; omega)) ?_
      refine KOps.assign ?_
      refine KOps.done ?_
      have e1 : roomsTo s i = roomsTo s (i + 1) := by rw [roomsTo_succ, if_neg hb]
      rw [e1] at hS hnn
      exact lpQ.normal (i + 1, vo) (by repeat (first | exact Sub.nil _ | refine Sub.cons Look.eq ?_ | refine Sub.cons (Eq.trans Look.eq (congrArg (AV.int _) (by first | omega | (dsimp only; omega)))) ?_)) ⟨by dsimp only; omega, hnn, hS⟩ (by dsimp only; omega)
  · intro c6
    refine KA.exit ?_
    refine sqQ.exit ?_
    refine lpQ.exit ?_
    refine blQ.here ?_
    refine sqQ.normal ?_
    refine KA.sub (Sub.cons (t := 3) Look.eq (Sub.nil _)) ?_
    refine KA.seq ?_
    refine KA.region rfl ?_
    refine KOps.move ?_
    refine KOps.assign ?_
    refine KOps.done ?_
    refine sqQ.normal ?_
    refine KA.sub (Sub.cons (t := 2) Look.eq (Sub.nil _)) ?_
    refine KA.ret ?_
    refine fnQ.ret1 ?_
    rw [show i = 6 by omega] at hS hnn
    exact ⟨hnn, hS⟩

theorem better48_c {h : AHeap} {v u : AV} {a b : List Int} (hv : Row h v a) (hu : Row h u b) (hla : a.length ≤ 1000000) : ACalls Go.Proofs.Tryd.prog 48 [v, u] h (fun q h' => q = .bool (befB a b) ∧ h = h') := by
  refine KA.fn 40 [.tmp 4] Go.Proofs.Tryd.func48 rfl (by decide) rfl rfl (Nat.le_of_ble_eq_true rfl) ?_
  show KA _ 40 _ _ [(0, v), (1, u)] _
  refine KA.seq ?_
  refine KA.region rfl ?_
  refine KOps.assign ?_
  refine KOps.done ?_
  refine sqQ.normal ?_
  refine KA.sub (Sub.cons (t := 0) Look.eq (Sub.cons (t := 1) Look.eq (Sub.nil _))) ?_
  refine KA.seq ?_
  refine KA.seq ?_
  refine KA.region rfl ?_
  refine KOps.move ?_
  refine KOps.lenI hv ?_
  refine KOps.move ?_
  refine KOps.lenI hu ?_
  refine KOps.neq ?_
  refine KOps.done ?_
  refine sqQ.normal ?_
  refine KA.sub (Sub.cons (t := 0) Look.eq (Sub.cons (t := 1) Look.eq (Sub.cons (t := 10) Look.eq (Sub.nil _)))) ?_
  refine KA.condN ?_ ?_
  · intro c10
    refine KA.seq ?_
    refine KA.region rfl ?_
    refine KOps.move ?_
    refine KOps.lenI hv ?_
    refine KOps.move ?_
    refine KOps.lenI hu ?_
    refine KOps.lss ?_
    refine KOps.assign ?_
    refine KOps.done ?_
    refine sqQ.normal ?_
    refine KA.sub (Sub.cons (t := 4) Look.eq (Sub.nil _)) ?_
    refine KA.ret ?_
    refine sqQ.ret ?_
    refine fnQ.ret1 ?_
    refine ⟨congrArg AV.bool ?_, rfl⟩
    rw [befB_len (by omega)]
    exact decide_eq_decide.2 (by omega)
  · intro c10
    have hlab : a.length = b.length := by omega
    refine KA.skip ?_
    refine sqQ.normal ?_
    refine KA.sub (Sub.cons (t := 0) Look.eq (Sub.cons (t := 1) Look.eq (Sub.nil _))) ?_
    refine KA.seq ?_
    refine KA.seq ?_
    refine KA.region rfl ?_
    refine KOps.move ?_
    refine KOps.lenI hv ?_
    refine KOps.move ?_
    refine KOps.done ?_
    refine sqQ.normal ?_
    refine KA.sub (Sub.cons (t := 0) Look.eq (Sub.cons (t := 1) Look.eq (Sub.cons (t := 17) Look.eq (Sub.cons (t := 18) Look.eq (Sub.nil _))))) ?_
    refine KA.block ?_
    refine KA.loop (X := Nat) (fun i => [(0, v), (1, u), (17, .int .i64 (a.length : Int)), (18, .int .i64 (i : Int))]) (fun i h' => h = h' ∧ i ≤ a.length ∧ ∀ j, j < i → a.getD j 0 = b.getD j 0) (fun i => a.length - i) 0 (by repeat (first | exact Sub.nil _ | refine Sub.cons Look.eq ?_ | refine Sub.cons (Eq.trans Look.eq (congrArg (AV.int _) (by first | omega | (dsimp only; omega)))) ?_)) ?_ ?_
    · exact ⟨rfl, Nat.zero_le _, fun j hj => by omega⟩
    rintro i _ ⟨rfl, hi, hj⟩
    refine KA.seq ?_
    refine KA.region rfl ?_
    refine KOps.lss ?_
    refine KOps.done ?_
    refine sqQ.normal ?_
    refine KA.seq ?_
    refine KA.condD ?_ ?_
    · intro c19
      refine KA.skip ?_
      refine sqQ.normal ?_
      refine KA.sub (Sub.cons (t := 0) Look.eq (Sub.cons (t := 1) Look.eq (Sub.cons (t := 17) Look.eq (Sub.cons (t := 18) Look.eq (Sub.nil _))))) ?_
      refine KA.seq ?_
      refine KA.block ?_
      refine KA.seq ?_
      refine KA.region rfl ?_
      refine KOps.move ?_
      refine KOps.assign ?_
      refine KOps.done ?_
      refine sqQ.normal ?_
      refine KA.sub (Sub.cons (t := 0) Look.eq (Sub.cons (t := 1) Look.eq (Sub.cons (t := 5) Look.eq (Sub.cons (t := 17) Look.eq (Sub.cons (t := 18) Look.eq (Sub.nil _)))))) ?_
      refine KA.seq ?_
      refine KA.draw [] mixed rfl (by kernel_rfl) ?_
      refine KOps.move ?_
      refine KOps.move ?_
      refine KOps.indexIJ hv (j := i) rfl (by first | omega | (simp; omega)) ?_
      intro p23 hp23
      refine KOps.loadI hp23 hv (by first | omega | (simp; omega)) ?_
      refine KOps.move ?_
      refine KOps.move ?_
      refine KOps.indexIJ hu (j := i) rfl (by first | omega | (simp; omega)) ?_
      intro p27 hp27
      refine KOps.loadI hp27 hu (by first | omega | (simp; omega)) ?_
      refine KOps.neq ?_
      refine KOps.done ?_
      refine sqQ.normal ?_
      refine KA.sub (Sub.cons (t := 0) Look.eq (Sub.cons (t := 1) Look.eq (Sub.cons (t := 5) Look.eq (Sub.cons (t := 17) Look.eq (Sub.cons (t := 18) Look.eq (Sub.cons (t := 29) Look.eq (Sub.nil _))))))) ?_
      refine KA.condN ?_ ?_
      · intro c29
        refine KA.seq ?_
        refine KA.draw [] mixed rfl (by kernel_rfl) ?_
        refine KOps.move ?_
        refine KOps.move ?_
        refine KOps.indexIJ hv (j := i) rfl (by first | omega | (simp; omega)) ?_
        intro p32 hp32
        refine KOps.loadI hp32 hv (by first | omega | (simp; omega)) ?_
        refine KOps.move ?_
        refine KOps.move ?_
        refine KOps.indexIJ hu (j := i) rfl (by first | omega | (simp; omega)) ?_
        intro p36 hp36
        refine KOps.loadI hp36 hu (by first | omega | (simp; omega)) ?_
        refine KOps.lss ?_
        refine KOps.assign ?_
        refine KOps.done ?_
        refine sqQ.normal ?_
        refine KA.sub (Sub.cons (t := 4) Look.eq (Sub.nil _)) ?_
        refine KA.ret ?_
        refine blQ.ret ?_
        refine sqQ.ret ?_
        refine lpQ.ret ?_
        refine blQ.ret ?_
        refine sqQ.ret ?_
        refine fnQ.ret1 ?_
        exact ⟨congrArg AV.bool (befB_at hlab (i := i) (by omega) hj (by omega)).symm, rfl⟩
      · intro c29
        refine KA.skip ?_
        refine blQ.normal ?_
        refine sqQ.normal ?_
        refine KA.sub (Sub.cons (t := 0) Look.eq (Sub.cons (t := 1) Look.eq (Sub.cons (t := 17) Look.eq (Sub.cons (t := 18) Look.eq (Sub.nil _))))) ?_
        refine KA.region rfl ?_
        refine KOps.add (by first | omega | (simp; omega)) (by first | omega | (simp; omega)) ?_
        refine KOps.move ?_
        refine KOps.done ?_
        refine lpQ.normal (i + 1) (by repeat (first | exact Sub.nil _ | refine Sub.cons Look.eq ?_ | refine Sub.cons (Eq.trans Look.eq (congrArg (AV.int _) (by first | omega | (dsimp only; omega)))) ?_)) ⟨rfl, by omega, ?_⟩ (by omega)
        intro j hj2
        rcases Nat.lt_succ_iff_lt_or_eq.1 hj2 with h3 | rfl
        · exact hj j h3
        · exact c29
    · intro c19
      refine KA.exit ?_
      refine sqQ.exit ?_
      refine lpQ.exit ?_
      refine blQ.here ?_
      refine sqQ.normal ?_
      refine KA.sub (Sub.nil _) ?_
      refine KA.seq ?_
      refine KA.region rfl ?_
      refine KOps.assign ?_
      refine KOps.done ?_
      refine sqQ.normal ?_
      refine KA.ret ?_
      refine fnQ.ret1 ?_
      exact ⟨congrArg AV.bool (befB_same hlab (fun j h3 => hj j (by omega))).symm, rfl⟩

end Go.Am

namespace Go.Am
theorem chk_of_B {rm : Int} {ws : List W} (hB : BOk rm ws) : chkB rm ws = 0 := by
  have hw : ∀ k, k ≤ ws.length → waysE rm ws k = 0 := by
    intro k
    induction k with
    | zero => intro _; rfl
    | succ k ih =>
      intro hk
      have h := hB.way k (by omega)
      have := h.f0; have := h.f1; have := h.t0; have := h.t1; have := h.ne; have := h.l0; have := h.lm; have := h.m1
      rw [waysE, if_pos (ih (by omega)), wayE, if_neg (by omega), if_neg (by omega), if_neg (by omega)]
  exact chk_end ⟨hB.r2, hB.r6⟩ hB.len (hw _ (Nat.le_refl _))
theorem made_thin (rm : Int) (hs : List H4) (k : Nat) (hx : ∀ i, i < hs.length → (hs.getD i default).Ok) : Thin (madeW rm hs k) := by
  intro i hi
  rw [madeW_len] at hi
  have e : (madeW rm hs k).getD i default = hway rm (hs.getD i default) := by
    unfold madeW
    rw [List.getD_eq_getElem?_getD, List.getElem?_map, List.getElem?_take, if_pos (by omega), List.getD_eq_getElem?_getD, List.getElem?_eq_getElem (by omega)]
    rfl
  rw [e]
  have t3 := tmod_b (hx i (by omega)).c0 (show (0 : Int) < 4 by decide)
  show Min.min 4 _ - (hs.getD i default).c.tmod 4 ≤ 4
  omega
theorem rooms_ok : ∀ r : Nat, r ≤ 6 → ∀ k : Nat, k < 2 ^ r → roomsE (r : Int) (roomsTo k 6) (roomsTo k 6).length = 0 ∧ setTo (roomsTo k 6) (roomsTo k 6).length = k := by decide +kernel
theorem roomsTo_nil : ∀ s : Nat, s < 64 → roomsTo s 6 = [] → s = 0 := by decide +kernel
theorem rowO_nil {p : Nat → Bool} (h0 : p 0 = false) {k : Nat} (hk : k ≤ 64) (h : rowO (bestTo p k) = []) : bestTo p k = none := by
  cases hb : bestTo p k with
  | none => rfl
  | some b =>
    rw [hb] at h
    obtain ⟨h1, h2⟩ := bestTo_lt hb
    have h3 := roomsTo_nil b (by omega) h
    subst h3
    rw [h0] at h2; cases h2
section
variable {P : Program} {n : Nat} {ops : Array Oper} {ex : List Nat} {Q : KF → AHeap → Prop} {k : Nat} {os : List Oper} {K : KF} {h : AHeap} {d : Nat} {ty : TypeId} {pos : String} {after : Array Edge}
/-- Whether a row is nil: if it is nil just where it is empty. -/
theorem KOps.eqNilR {t t' e : TypeId} {zs : List AV} {x y : Operand} {v : AV} {l : List Int} [hx : EvK h.globs n K x v] [hy : EvK h.globs n K y .nils] [ht : SlT P t e 1 zs] (hr : Row h v l) (h0 : l = [] → v = .nils) (hk : KOps P n ops ex Q (k + 1) os ((d, .bool (decide (l = []))) :: K) h) : KOps P n ops ex Q k (⟨some d, .binOp .eql t x y t', ty, pos, after, none⟩ :: os) K h := by
  by_cases hl : l = []
  · have hv := h0 hl
    subst hv
    rw [decide_eq_true hl] at hk
    exact KOps.nilEq hk
  · rw [decide_eq_false hl] at hk
    exact KOps.slcEq hr (by decide) (by intro he; exact hl (by simpa [ints] using he)) hk
end
theorem KOps.neqBF {P : Program} {n : Nat} {ops : Array Oper} {ex : List Nat} {Q : KF → AHeap → Prop} {k : Nat} {os : List Oper} {K : KF} {h : AHeap} {d : Nat} {ty : TypeId} {pos : String} {after : Array Edge} {t t' : TypeId} {x y : Operand} {a b : Bool} [hx : EvK h.globs n K x (.bool a)] [hy : EvK h.globs n K y (.bool b)] (ht : isBoolA P t = true) (hab : a = b) (hk : KOps P n ops ex Q (k + 1) os ((d, .bool false) :: K) h) : KOps P n ops ex Q k (⟨some d, .binOp .neq t x y t', ty, pos, after, none⟩ :: os) K h := KOps.neqB ht (by subst hab; rw [beq_self_eq_true, Bool.not_true]; exact hk)
theorem bet_ne {o : Option Nat} {k : Nat} (h : ¬ rowO o = []) : betterO o k = befB (roomsTo k 6) (rowO o) := by
  cases o with
  | none => exact absurd rfl h
  | some b => rfl
theorem bet_nil {p : Nat → Bool} (h0 : p 0 = false) {k : Nat} (hk : k ≤ 64) (h : rowO (bestTo p k) = []) : betterO (bestTo p k) k = true := by rw [rowO_nil h0 hk h]; rfl
theorem can_all {r : Nat} {ws : List W} (hB : BOk (r : Int) ws) : canP (r : Int) ws = decide (0 < (allF ws).length) := by
  have hc := chk_of_B hB
  rw [canP, decide_eq_true hc, Bool.true_and, Int.toNat_natCast, Bool.eq_iff_iff, decide_eq_true_iff, hoffman hB.inR hB.LM]
  have h := all_none (ws := ws) hB
  constructor
  · intro hx
    refine List.length_pos_iff.2 fun h0 => ?_
    exact (h.1 h0) hx
  · intro hl
    refine Classical.byContradiction fun hx => ?_
    rw [h.2 hx] at hl
    exact absurd hl (by decide)
theorem agree_all {r : Nat} {ws : List W} (hB : BOk (r : Int) ws) : agreeE (r : Int) ws = if canP (r : Int) ws = true then 0 else 12 := by
  rw [agreeE, if_pos (chk_of_B hB)]

end Go.Am

namespace Go.Am
theorem LexLt.asymm {a b : List Int} (h : LexLt a b) (h' : LexLt b a) : False := by
  obtain ⟨i, h1, h2⟩ := h
  obtain ⟨j, h3, h4⟩ := h'
  rcases Nat.lt_trichotomy i j with h5 | rfl | h5
  · have := h3 i h5; omega
  · omega
  · have := h1 j h5; omega
theorem LexLt.ne {a b : List Int} (h : LexLt a b) : a ≠ b := by
  rintro rfl
  exact h.asymm h
end Go.Am

namespace Go.Am
theorem at_mod {a : Int} {n : Nat} (h : 0 ≤ a) (hn : 0 < n) : ∃ j : Nat, a.tmod (n : Int) = (j : Int) ∧ j < n := by
  have := tmod_b h (show (0 : Int) < (n : Int) by omega)
  exact ⟨(a.tmod (n : Int)).toNat, by omega, by omega⟩
theorem allF_len {ws : List W} (ht : Thin ws) (hwl : ws.length ≤ 12) : (allF ws).length ≤ 244140625 :=
  Nat.le_trans (flowsF_len ht ws.length [] (by simp)) (Nat.pow_le_pow_right (show 0 < 5 by decide) hwl)
theorem all_get {rm : Int} {ws : List W} (hB : BOk rm ws) {j : Nat} (hj : j < (allF ws).length) : Flow ws ((allF ws).getD j []) := by
  refine (mem_all hB).1 ?_
  rw [List.getD_eq_getElem?_getD, List.getElem?_eq_getElem hj]
  exact List.getElem_mem hj

end Go.Am

namespace Go.Am
theorem says_sum {ws : List W} {n : List Int} (hw : Within ws n) (s i : Nat) : ∀ k, k ≤ ws.length → crossTo ws n (inS s) k ≤ mstTo ws s i k - lstTo ws s i k + if i < k then n.getD i 0 * (bi (inS s (ws.getD i default).t) - bi (inS s (ws.getD i default).f)) else 0 := by
  intro k
  induction k with
  | zero => intro _; rw [if_neg (by omega)]; exact Int.le_refl _
  | succ k ih =>
    intro hk
    have ih := ih (by omega)
    rw [crossTo, lstTo, mstTo]
    by_cases hik : i = k
    · subst hik
      rw [if_neg (Nat.lt_irrefl _)] at ih
      rw [if_pos (Nat.lt_succ_self _), if_neg (fun h => h.1 rfl), if_neg (fun h => h.1 rfl)]
      omega
    · have hlo := hw.lo k (by omega)
      have hhi := hw.hi k (by omega)
      have h3 : (if i < k + 1 then n.getD i 0 * (bi (inS s (ws.getD i default).t) - bi (inS s (ws.getD i default).f)) else 0) = if i < k then n.getD i 0 * (bi (inS s (ws.getD i default).t) - bi (inS s (ws.getD i default).f)) else 0 := by
        by_cases h4 : i < k
        · rw [if_pos h4, if_pos (by omega)]
        · rw [if_neg h4, if_neg (by omega)]
      rw [h3]
      generalize (if i < k then n.getD i 0 * (bi (inS s (ws.getD i default).t) - bi (inS s (ws.getD i default).f)) else 0) = z at *
      have hne : ((k : Nat) : Int) ≠ (i : Int) := by omega
      generalize ws.getD k default = w at *
      generalize n.getD k 0 = a at *
      unfold lvs ens
      cases inS s w.f <;> cases inS s w.t <;> simp only [Bool.not_false, Bool.not_true, Bool.true_and, Bool.false_and, Bool.and_false, Bool.false_eq_true, if_false, if_true, and_true, and_false, bi, hne, ne_eq, not_false_eq_true, Bool.and_true] <;> omega
theorem says_most {r : Nat} {ws : List W} {n : List Int} {s i : Nat} (hB : BOk (r : Int) ws) (hf : Flow ws n) (hi : i < ws.length) (hl : lvs (ws.getD i default) s = true) : n.getD i 0 ≤ saysV ws s i := by
  have h := says_sum hf.toWithin s i ws.length (Nat.le_refl _)
  rw [cross_flow hB.inR hf, if_pos hi] at h
  rw [saysV, if_pos hl]
  unfold lvs at hl
  have h1 : inS s (ws.getD i default).f = true := by revert hl; cases inS s (ws.getD i default).f <;> simp
  have h2 : inS s (ws.getD i default).t = false := by revert hl; rw [h1]; cases inS s (ws.getD i default).t <;> simp
  rw [h1, h2] at h
  simp only [bi, if_true, Bool.false_eq_true, if_false] at h
  omega
theorem says_least {r : Nat} {ws : List W} {n : List Int} {s i : Nat} (hB : BOk (r : Int) ws) (hf : Flow ws n) (hi : i < ws.length) (hl : ens (ws.getD i default) s = true) : saysV ws s i ≤ n.getD i 0 := by
  have h := says_sum hf.toWithin s i ws.length (Nat.le_refl _)
  rw [cross_flow hB.inR hf, if_pos hi] at h
  unfold ens at hl
  have h1 : inS s (ws.getD i default).f = false := by revert hl; cases inS s (ws.getD i default).f <;> simp
  have h2 : inS s (ws.getD i default).t = true := by revert hl; rw [h1]; cases inS s (ws.getD i default).t <;> simp
  have h3 : lvs (ws.getD i default) s = false := by unfold lvs; rw [h1]; rfl
  rw [h1, h2] at h
  rw [saysV, h3, if_neg (by decide)]
  simp only [bi, if_true, Bool.false_eq_true, if_false] at h
  omega
theorem and_bi {s : Nat} {x : Int} (hs : s < 64) (h0 : 0 ≤ x) (h1 : x < 6) : bits .and .i64 ((s : Int).fdiv (2 ^ Min.min x.toNat (IntKind.bits .i64))) 1 = bi (inS s x) := by
  have := and64 s hs x.toNat (by omega)
  rw [show ((x.toNat : Nat) : Int).toNat = x.toNat by omega] at this
  rw [this]
  unfold inS bi
  rfl
theorem cross_bi {ws : List W} {s i : Nat} : crosses ws s i = true ↔ bi (inS s (ws.getD i default).f) ≠ bi (inS s (ws.getD i default).t) := by
  unfold crosses lvs ens
  cases inS s (ws.getD i default).f <;> cases inS s (ws.getD i default).t <;> decide
theorem lvs_bi {ws : List W} {s i : Nat} (hc : crosses ws s i = true) (h : bi (inS s (ws.getD i default).f) = 1) : lvs (ws.getD i default) s = true := by
  revert hc h
  unfold crosses lvs ens
  cases inS s (ws.getD i default).f <;> cases inS s (ws.getD i default).t <;> decide
theorem ens_bi {ws : List W} {s i : Nat} (hc : crosses ws s i = true) (h : bi (inS s (ws.getD i default).t) = 1) : ens (ws.getD i default) s = true := by
  revert hc h
  unfold crosses lvs ens
  cases inS s (ws.getD i default).f <;> cases inS s (ws.getD i default).t <;> decide
theorem lvs_ens_no {w : W} {s : Nat} (h : lvs w s = true) (h2 : ens w s = true) : False := by
  revert h h2
  unfold lvs ens
  cases inS s w.f <;> cases inS s w.t <;> decide
theorem lvs_to {w : W} {s : Nat} (h : lvs w s = true) : bi (inS s w.f) = 1 := by
  revert h
  unfold lvs
  cases inS s w.f <;> cases inS s w.t <;> decide
theorem ens_to {w : W} {s : Nat} (h : ens w s = true) : bi (inS s w.t) = 1 := by
  revert h
  unfold ens
  cases inS s w.f <;> cases inS s w.t <;> decide
theorem says_lv {ws : List W} {s i : Nat} (h : lvs (ws.getD i default) s = true) : saysV ws s i = mstTo ws s i ws.length - lstTo ws s i ws.length := by rw [saysV, if_pos h]
theorem says_en {ws : List W} {s i : Nat} (h : ens (ws.getD i default) s = true) : saysV ws s i = lstTo ws s i ws.length - mstTo ws s i ws.length := by
  have : lvs (ws.getD i default) s = false := by
    cases hl : lvs (ws.getD i default) s with
    | false => rfl
    | true => exact (lvs_ens_no hl h).elim
  rw [saysV, this, if_neg (by decide)]
theorem lvs_zero (w : W) : lvs w 0 = false ∧ ens w 0 = false := by unfold lvs ens inS; simp
/-- The rooms that say an end, where books agree. -/
noncomputable def pE (e : Int) (ws : List W) (i : Nat) (g : Bool) (s : Nat) : Bool := decide (e = 0) && pB ws i g s
theorem pE_zero (e : Int) (ws : List W) (i : Nat) (g : Bool) : pE e ws i g 0 = false := by
  have h := lvs_zero (ws.getD i default)
  unfold pE pB
  rw [h.1, h.2]
  cases g <;> simp
theorem pE_hi {e : Int} {ws : List W} {i s : Nat} : pE e ws i true s = (decide (e = 0) && (lvs (ws.getD i default) s && decide (saysV ws s i = hiOf ws i))) := rfl
theorem pE_lo {e : Int} {ws : List W} {i s : Nat} : pE e ws i false s = (decide (e = 0) && (ens (ws.getD i default) s && decide (saysV ws s i = loOf ws i))) := rfl
theorem keep_hi {e : Int} {ws : List W} {i s : Nat} (h : ¬ e = 0 ∨ ¬ lvs (ws.getD i default) s = true ∨ ¬ saysV ws s i = hiOf ws i ∨ betterO (bestTo (pE e ws i true) s) s = false) : bestTo (pE e ws i true) (s + 1) = bestTo (pE e ws i true) s := by
  refine best_no ?_
  rw [pE_hi]
  rcases h with h | h | h | h
  · rw [decide_eq_false h]; rfl
  · rw [Bool.eq_false_iff.2 h]; simp
  · rw [decide_eq_false h]; simp
  · rw [h]; simp
theorem keep_lo {e : Int} {ws : List W} {i s : Nat} (h : ¬ e = 0 ∨ ¬ ens (ws.getD i default) s = true ∨ ¬ saysV ws s i = loOf ws i ∨ betterO (bestTo (pE e ws i false) s) s = false) : bestTo (pE e ws i false) (s + 1) = bestTo (pE e ws i false) s := by
  refine best_no ?_
  rw [pE_lo]
  rcases h with h | h | h | h
  · rw [decide_eq_false h]; rfl
  · rw [Bool.eq_false_iff.2 h]; simp
  · rw [decide_eq_false h]; simp
  · rw [h]; simp
theorem put_hi {e : Int} {ws : List W} {i s : Nat} (h1 : e = 0) (h2 : lvs (ws.getD i default) s = true) (h3 : saysV ws s i = hiOf ws i) (h4 : betterO (bestTo (pE e ws i true) s) s = true) : bestTo (pE e ws i true) (s + 1) = some s := best_yes (by rw [pE_hi, decide_eq_true h1, h2, decide_eq_true h3]; rfl) h4
theorem put_lo {e : Int} {ws : List W} {i s : Nat} (h1 : e = 0) (h2 : ens (ws.getD i default) s = true) (h3 : saysV ws s i = loOf ws i) (h4 : betterO (bestTo (pE e ws i false) s) s = true) : bestTo (pE e ws i false) (s + 1) = some s := best_yes (by rw [pE_lo, decide_eq_true h1, h2, decide_eq_true h3]; rfl) h4
theorem pE_B {ws : List W} {i : Nat} {g : Bool} : pE 0 ws i g = pB ws i g := by
  funext s
  unfold pE
  rw [decide_eq_true rfl, Bool.true_and]
theorem bound_is {r : Nat} {ws : List W} {i : Nat} {g : Bool} (ha : askE (r : Int) ws (i : Int) = 0) (hne : endI ws i g ≠ ownI ws i g) : boundL (r : Int) ws (i : Int) g = rowO (bestTo (pE 0 ws i g) (2 ^ r)) := by
  rw [boundL, if_pos ha, Int.toNat_natCast, if_neg hne, Int.toNat_natCast, fewL_is, pE_B]
theorem bound_nil {r : Nat} {ws : List W} {i : Nat} {g : Bool} (ha : askE (r : Int) ws (i : Int) = 0) (he : endI ws i g = ownI ws i g) : boundL (r : Int) ws (i : Int) g = [] := by
  rw [boundL, if_pos ha, Int.toNat_natCast, if_pos he]
theorem bound_has {r : Nat} {ws : List W} (hB : BOk (r : Int) ws) (hx : ∃ n, Flow ws n) {i : Nat} (hi : i < ws.length) {g : Bool} (hne : endI ws i g ≠ ownI ws i g) : rowO (bestTo (pE 0 ws i g) (2 ^ r)) ≠ [] := by
  obtain ⟨s, hs, hp⟩ := bound_some hB hx hi hne
  intro h0
  have hr6 := hB.r6
  have hpw : 2 ^ r ≤ 2 ^ 6 := Nat.pow_le_pow_right (by decide) (by omega)
  have hn := rowO_nil (pE_zero 0 ws i g) hpw h0
  obtain ⟨b, hb⟩ := bestTo_some (p := pE 0 ws i g) (by rw [pE_B]; exact hp) hs
  rw [hb] at hn; cases hn
theorem rooms_say {r : Nat} {ws : List W} (hB : BOk (r : Int) ws) {i s : Nat} (hi : i < ws.length) (hs : s < 2 ^ r) : sayE (r : Int) ws (roomsTo s 6) (i : Int) = (if crosses ws s i = true then 0 else 12) ∧ sayV (r : Int) ws (roomsTo s 6) (i : Int) = (if crosses ws s i = true then saysV ws s i else 0) := by
  have h6 := hB.r6
  have h := rooms_ok r (by omega) s hs
  have hk : askR (r : Int) ws (i : Int) = 0 := by rw [askR, if_pos (chk_of_B hB), if_pos (by omega)]
  have hse : setE (r : Int) (roomsTo s 6) = s := by rw [setE, if_pos h.1, h.2]
  have e1 : sayE (r : Int) ws (roomsTo s 6) (i : Int) = (if crosses ws s i = true then 0 else 12) := by
    rw [sayE, if_pos hk, if_pos h.1, hse, Int.toNat_natCast]
  refine ⟨e1, ?_⟩
  rw [sayV, e1, hse, Int.toNat_natCast]
  cases crosses ws s i <;> rfl
end Go.Am
