/-
  Layer 01: rooms that prove, lists of rooms, lists compared: contracts.
  Conditions: none.
-/
import Derived.Test.YtildfacbjdhbnaaDoorCu
namespace Go.Am

theorem proof_c {h : AHeap} {rm : Int} {vW : AV} {ws : List W} {s : Nat} (hv : Rd h vW 4 (flr wc ws)) (hB : BOk rm ws) (hs : s < 64) : ACalls Go.Proofs.Tryd.prog 72 [.agg [.int .i64 rm, vW], .int .u8 (s : Int)] h (fun q h' => q = .bool (proofB ws s) ∧ Keeps h h') := by
  refine KA.fn 16 [.tmp 4] Go.Proofs.Tryd.func72 rfl (by decide) rfl rfl (Nat.le_of_ble_eq_true rfl) ?_
  have hS := St.refl h
  have hvo : vW.one = true := hv.one
  show KA _ 16 _ _ [(0, .agg [.int .i64 rm, vW]), (1, .int .u8 (s : Int))] _
  refine KA.seq ?_
  refine KA.region rfl ?_
  refine KOps.boxAll hS (by first | rfl | (simp [AV.one]; done) | (simp [AV.one]; assumption) | (simp [AV.one, *]; done)) ?_
  intro p2 h' hp2 hS
  refine KOps.assign ?_
  refine KOps.done ?_
  refine sqQ.normal ?_
  refine KA.sub (Sub.cons (t := 1) Look.eq (Sub.cons (t := 2) Look.eq (Sub.nil _))) ?_
  refine KA.seq ?_
  refine KA.region rfl ?_
  refine KOps.loadAll hS (i := 0) rfl hp2 (by rfl) (by decide) ?_
  refine KOps.move ?_
  refine KOps.call rfl (sums_c (Rd.ext hS.keeps hv) hB hs) ?_
  rintro _ h5 ⟨rfl, hK⟩
  refine KOps.move ?_
  refine KOps.extract ?_
  refine KOps.extract ?_
  refine KOps.assign ?_
  refine KOps.assign ?_
  refine KOps.done ?_
  refine sqQ.normal ?_
  refine KA.sub (Sub.cons (t := 5) Look.eq (Sub.cons (t := 6) Look.eq (Sub.nil _))) ?_
  refine KA.seq ?_
  refine KA.region rfl ?_
  refine KOps.move ?_
  refine KOps.move ?_
  refine KOps.gtr ?_
  refine KOps.assign ?_
  refine KOps.done ?_
  refine sqQ.normal ?_
  refine KA.sub (Sub.cons (t := 4) Look.eq (Sub.nil _)) ?_
  refine KA.ret ?_
  refine fnQ.ret1 ?_
  exact ⟨by rw [proof_sums], hS.keeps.trans hK⟩

theorem list_c {h : AHeap} {s : Nat} (hs : s < 64) : ACalls Go.Proofs.Tryd.prog 95 [.int .u8 (s : Int)] h (fun q h' => St h h' [⟨q, 1, ints (roomsTo s 6), true⟩]) := by
  refine KA.fn 17 [.tmp 2] Go.Proofs.Tryd.func95 rfl (by decide) rfl rfl (Nat.le_of_ble_eq_true rfl) ?_
  have hS := St.refl h
  show KA _ 17 _ _ [(0, .int .u8 (s : Int))] _
  refine KA.seq ?_
  refine KA.region rfl ?_
  refine KOps.assign ?_
  refine KOps.done ?_
  refine sqQ.normal ?_
  refine KA.sub (Sub.cons (t := 0) Look.eq (Sub.nil _)) ?_
  refine KA.seq ?_
  refine KA.region rfl ?_
  refine KOps.assign ?_
  refine KOps.done ?_
  refine sqQ.normal ?_
  refine KA.seq ?_
  refine KA.seq ?_
  refine KA.region rfl ?_
  refine KOps.move ?_
  refine KOps.done ?_
  refine sqQ.normal ?_
  refine KA.block ?_
  refine KA.loop (X := Nat × AV) (fun x => [(0, .int .u8 (s : Int)), (3, x.2), (5, .int .i64 (x.1 : Int))]) (fun x h' => x.1 ≤ 6 ∧ St h h' [⟨x.2, 1, ints (roomsTo s x.1), true⟩]) (fun x => 6 - x.1) (0, .nils) (by repeat (first | exact Sub.nil _ | refine Sub.cons Look.eq ?_ | refine Sub.cons (Eq.trans Look.eq (congrArg (AV.int _) (by first | omega | (dsimp only; omega)))) ?_)) ?_ ?_
  · exact ⟨Nat.zero_le _, St.nil hS 1⟩
  rintro ⟨i, vo⟩ h2 ⟨hi, hS⟩
  dsimp only at hi hS ⊢
  have hrl := roomsTo_len s i
  refine KA.seq ?_
  refine KA.region rfl ?_
  refine KOps.lss ?_
  refine KOps.done ?_
  refine sqQ.normal ?_
  refine KA.seq ?_
  refine KA.condD ?_ ?_
  · intro c6
    refine KA.skip ?_
    refine sqQ.normal ?_
    refine KA.sub (Sub.cons (t := 0) Look.eq (Sub.cons (t := 3) Look.eq (Sub.cons (t := 5) Look.eq (Sub.nil _)))) ?_
    refine KA.seq ?_
    refine KA.block ?_
    refine KA.seq ?_
    refine KA.region rfl ?_
    refine KOps.move ?_
    refine KOps.assign ?_
    refine KOps.done ?_
    refine sqQ.normal ?_
    refine KA.sub (Sub.cons (t := 0) Look.eq (Sub.cons (t := 3) Look.eq (Sub.cons (t := 4) Look.eq (Sub.cons (t := 5) Look.eq (Sub.nil _))))) ?_
    refine KA.seq ?_
    refine KA.region rfl ?_
    refine KOps.move ?_
    refine KOps.move ?_
    refine KOps.call rfl (has8_c (by first | omega | (simp; omega)) (by first | omega | (simp; omega)) (by first | omega | (simp; omega))) ?_
    rintro _ _ ⟨rfl, rfl⟩
    refine KOps.done ?_
    refine sqQ.normal ?_
    refine KA.sub (Sub.cons (t := 0) Look.eq (Sub.cons (t := 3) Look.eq (Sub.cons (t := 4) Look.eq (Sub.cons (t := 5) Look.eq (Sub.cons (t := 10) Look.eq (Sub.nil _)))))) ?_
    refine KA.condB ?_ ?_
    · intro c10
      have hb : s.testBit i = true := by unfold inS at c10; simpa using c10
      refine KA.region rfl ?_
      refine KOps.move ?_
      refine KOps.move ?_
      refine KOps.buildSlice hS rfl (by decide) rfl ?_
      intro v13 h' hS
      refine KOps.appendI hS (fun _ => rfl) (i := 0) rfl (by first | omega | (simp; omega)) ?_
      intro r14 h' hr14 hS
      refine KOps.assign ?_
      refine KOps.done ?_
      refine blQ.normal ?_
      refine sqQ.normal ?_
      refine KA.sub (Sub.cons (t := 0) Look.eq (Sub.cons (t := 3) Look.eq (Sub.cons (t := 5) Look.eq (Sub.nil _)))) ?_
      refine KA.region rfl ?_
      refine KOps.add (by first | omega | (simp; omega)) (by first | omega | (simp; omega)) ?_
      refine KOps.move ?_
      refine KOps.done ?_
      rw [show roomsTo s i ++ [(i : Int)] = roomsTo s (i + 1) by rw [roomsTo_succ, if_pos hb]] at hS
      exact lpQ.normal (i + 1, r14) (by repeat (first | exact Sub.nil _ | refine Sub.cons Look.eq ?_ | refine Sub.cons (Eq.trans Look.eq (congrArg (AV.int _) (by first | omega | (dsimp only; omega)))) ?_)) ⟨by dsimp only; omega, hS⟩ (by dsimp only; omega)
    · intro c10
      have hb : ¬ s.testBit i = true := by unfold inS at c10; simpa using c10
      refine KA.skip ?_
      refine blQ.normal ?_
      refine sqQ.normal ?_
      refine KA.sub (Sub.cons (t := 0) Look.eq (Sub.cons (t := 3) Look.eq (Sub.cons (t := 5) Look.eq (Sub.nil _)))) ?_
      refine KA.region rfl ?_
      refine KOps.add (by first | omega | (simp; omega)) (by first | omega | (simp; omega)) ?_
      refine KOps.move ?_
      refine KOps.done ?_
      rw [show roomsTo s i = roomsTo s (i + 1) by rw [roomsTo_succ, if_neg hb]] at hS
      exact lpQ.normal (i + 1, vo) (by repeat (first | exact Sub.nil _ | refine Sub.cons Look.eq ?_ | refine Sub.cons (Eq.trans Look.eq (congrArg (AV.int _) (by first | omega | (dsimp only; omega)))) ?_)) ⟨by dsimp only; omega, hS⟩ (by dsimp only; omega)
  · intro c6
    refine KA.exit ?_
    refine sqQ.exit ?_
    refine lpQ.exit ?_
    refine blQ.here ?_
    refine sqQ.normal ?_
    refine KA.sub (Sub.cons (t := 3) Look.eq (Sub.nil _)) ?_
    refine KA.seq ?_
    refine KA.region rfl ?_
    refine KOps.move ?_
    refine KOps.assign ?_
    refine KOps.done ?_
    refine sqQ.normal ?_
    refine KA.sub (Sub.cons (t := 2) Look.eq (Sub.nil _)) ?_
    refine KA.ret ?_
    refine fnQ.ret1 ?_
    rw [show i = 6 by omega] at hS
    exact hS

theorem isNaN_c {h : AHeap} {a : Int} : ACalls Go.Proofs.Tryd.prog 104 [.int .i64 a] h (fun q h' => q = .bool false ∧ h = h') := by
  refine KA.fn 6 [.tmp 2] Go.Proofs.Tryd.func104 rfl (by decide) rfl rfl (Nat.le_of_ble_eq_true rfl) ?_
  show KA _ 6 _ _ [(0, .int .i64 a)] _
  refine KA.seq ?_
  refine KA.region rfl ?_
  refine KOps.assign ?_
  refine KOps.done ?_
  refine sqQ.normal ?_
  refine KA.sub (Sub.cons (t := 0) Look.eq (Sub.nil _)) ?_
  refine KA.seq ?_
  refine KA.region rfl ?_
  refine KOps.move ?_
  refine KOps.move ?_
  refine KOps.neq ?_
  refine KOps.assign ?_
  refine KOps.done ?_
  refine sqQ.normal ?_
  refine KA.sub (Sub.cons (t := 2) Look.eq (Sub.nil _)) ?_
  refine KA.ret ?_
  refine fnQ.ret1 ?_
  exact ⟨by simp, rfl⟩

theorem compare_c {h : AHeap} {a b : Int} : ACalls Go.Proofs.Tryd.prog 102 [.int .i64 a, .int .i64 b] h (fun q h' => q = .int .i64 (if a < b then -1 else if b < a then 1 else 0) ∧ h = h') := by
  refine KA.fn 20 [.tmp 4] Go.Proofs.Tryd.func102 rfl (by decide) rfl rfl (Nat.le_of_ble_eq_true rfl) ?_
  show KA _ 20 _ _ [(0, .int .i64 a), (1, .int .i64 b)] _
  refine KA.seq ?_
  refine KA.region rfl ?_
  refine KOps.assign ?_
  refine KOps.done ?_
  refine sqQ.normal ?_
  refine KA.sub (Sub.cons (t := 0) Look.eq (Sub.cons (t := 1) Look.eq (Sub.nil _))) ?_
  refine KA.seq ?_
  refine KA.region rfl ?_
  refine KOps.move ?_
  refine KOps.call rfl (isNaN_c) ?_
  rintro _ _ ⟨rfl, rfl⟩
  refine KOps.assign ?_
  refine KOps.done ?_
  refine sqQ.normal ?_
  refine KA.sub (Sub.cons (t := 0) Look.eq (Sub.cons (t := 1) Look.eq (Sub.cons (t := 5) Look.eq (Sub.nil _)))) ?_
  refine KA.seq ?_
  refine KA.region rfl ?_
  refine KOps.move ?_
  refine KOps.call rfl (isNaN_c) ?_
  rintro _ _ ⟨rfl, rfl⟩
  refine KOps.assign ?_
  refine KOps.done ?_
  refine sqQ.normal ?_
  refine KA.sub (Sub.cons (t := 0) Look.eq (Sub.cons (t := 1) Look.eq (Sub.cons (t := 5) Look.eq (Sub.cons (t := 6) Look.eq (Sub.nil _))))) ?_
  refine KA.seq ?_
  refine KA.seq ?_
  refine KA.region rfl ?_
  refine KOps.move ?_
  refine KOps.done ?_
  refine sqQ.normal ?_
  refine KA.sub (Sub.cons (t := 0) Look.eq (Sub.cons (t := 1) Look.eq (Sub.cons (t := 6) Look.eq (Sub.cons (t := 11) Look.eq (Sub.nil _))))) ?_
  refine KA.condF ?_
  refine KA.skip ?_
  refine sqQ.normal ?_
  refine KA.sub (Sub.cons (t := 0) Look.eq (Sub.cons (t := 1) Look.eq (Sub.cons (t := 6) Look.eq (Sub.nil _)))) ?_
  refine KA.seq ?_
  refine KA.seq ?_
  refine KA.region rfl ?_
  refine KOps.move ?_
  refine KOps.done ?_
  refine sqQ.normal ?_
  refine KA.sub (Sub.cons (t := 0) Look.eq (Sub.cons (t := 1) Look.eq (Sub.cons (t := 13) Look.eq (Sub.nil _)))) ?_
  refine KA.condF ?_
  refine KA.skip ?_
  refine sqQ.normal ?_
  refine KA.sub (Sub.cons (t := 0) Look.eq (Sub.cons (t := 1) Look.eq (Sub.nil _))) ?_
  refine KA.seq ?_
  refine KA.seq ?_
  refine KA.region rfl ?_
  refine KOps.move ?_
  refine KOps.move ?_
  refine KOps.lss ?_
  refine KOps.done ?_
  refine sqQ.normal ?_
  refine KA.sub (Sub.cons (t := 0) Look.eq (Sub.cons (t := 1) Look.eq (Sub.cons (t := 16) Look.eq (Sub.nil _)))) ?_
  refine KA.condD ?_ ?_
  · intro c16
    refine KA.seq ?_
    refine KA.region rfl ?_
    refine KOps.assign ?_
    refine KOps.done ?_
    refine sqQ.normal ?_
    refine KA.sub (Sub.cons (t := 4) Look.eq (Sub.nil _)) ?_
    refine KA.ret ?_
    refine sqQ.ret ?_
    refine fnQ.ret1 ?_
    exact ⟨by rw [if_pos (by omega)], rfl⟩
  · intro c16
    refine KA.skip ?_
    refine sqQ.normal ?_
    refine KA.sub (Sub.cons (t := 0) Look.eq (Sub.cons (t := 1) Look.eq (Sub.nil _))) ?_
    refine KA.seq ?_
    refine KA.seq ?_
    refine KA.region rfl ?_
    refine KOps.move ?_
    refine KOps.move ?_
    refine KOps.gtr ?_
    refine KOps.done ?_
    refine sqQ.normal ?_
    refine KA.sub (Sub.cons (t := 19) Look.eq (Sub.nil _)) ?_
    refine KA.condD ?_ ?_
    · intro c19
      refine KA.seq ?_
      refine KA.region rfl ?_
      refine KOps.assign ?_
      refine KOps.done ?_
      refine sqQ.normal ?_
      refine KA.sub (Sub.cons (t := 4) Look.eq (Sub.nil _)) ?_
      refine KA.ret ?_
      refine sqQ.ret ?_
      refine fnQ.ret1 ?_
      exact ⟨by rw [if_neg (by omega), if_pos (by omega)], rfl⟩
    · intro c19
      refine KA.skip ?_
      refine sqQ.normal ?_
      refine KA.sub (Sub.nil _) ?_
      refine KA.seq ?_
      refine KA.region rfl ?_
      refine KOps.assign ?_
      refine KOps.done ?_
      refine sqQ.normal ?_
      refine KA.ret ?_
      refine fnQ.ret1 ?_
      exact ⟨by rw [if_neg (by omega), if_neg (by omega)], rfl⟩

theorem compares_c {h : AHeap} {v u : AV} {a b : List Int} (hv : Row h v a) (hu : Row h u b) (hla : a.length ≤ 1000000) (hlab : a.length = b.length) : ACalls Go.Proofs.Tryd.prog 96 [v, u] h (fun q h' => (∃ c : Int, q = .int .i64 c ∧ (c < 0 ↔ befB a b = true)) ∧ h = h') := by
  refine KA.fn 36 [.tmp 4] Go.Proofs.Tryd.func96 rfl (by decide) rfl rfl (Nat.le_of_ble_eq_true rfl) ?_
  show KA _ 36 _ _ [(0, v), (1, u)] _
  refine KA.seq ?_
  refine KA.region rfl ?_
  refine KOps.assign ?_
  refine KOps.done ?_
  refine sqQ.normal ?_
  refine KA.sub (Sub.cons (t := 0) Look.eq (Sub.cons (t := 1) Look.eq (Sub.nil _))) ?_
  refine KA.seq ?_
  refine KA.seq ?_
  refine KA.region rfl ?_
  refine KOps.move ?_
  refine KOps.lenI hv ?_
  refine KOps.move ?_
  refine KOps.done ?_
  refine sqQ.normal ?_
  refine KA.block ?_
  refine KA.loop (X := Nat) (fun i => [(1, u), (0, v), (9, v), (10, .int .i64 (a.length : Int)), (11, .int .i64 (i : Int))]) (fun i h' => h = h' ∧ i ≤ a.length ∧ ∀ j, j < i → a.getD j 0 = b.getD j 0) (fun i => a.length - i) 0 (by repeat (first | exact Sub.nil _ | refine Sub.cons Look.eq ?_ | refine Sub.cons (Eq.trans Look.eq (congrArg (AV.int _) (by first | omega | (dsimp only; omega)))) ?_)) ?_ ?_
  · exact ⟨rfl, Nat.zero_le _, fun j hj => by omega⟩
  rintro i _ ⟨rfl, hi, hj⟩
  refine KA.seq ?_
  refine KA.region rfl ?_
  refine KOps.lss ?_
  refine KOps.done ?_
  refine sqQ.normal ?_
  refine KA.seq ?_
  refine KA.condD ?_ ?_
  · intro c12
    refine KA.skip ?_
    refine sqQ.normal ?_
    refine KA.sub (Sub.cons (t := 0) Look.eq (Sub.cons (t := 1) Look.eq (Sub.cons (t := 9) Look.eq (Sub.cons (t := 10) Look.eq (Sub.cons (t := 11) Look.eq (Sub.nil _)))))) ?_
    refine KA.seq ?_
    refine KA.block ?_
    refine KA.seq ?_
    refine KA.region rfl ?_
    refine KOps.move ?_
    refine KOps.indexIJ hv (j := i) rfl (by first | omega | (simp; omega)) ?_
    intro p14 hp14
    refine KOps.loadI hp14 hv (by first | omega | (simp; omega)) ?_
    refine KOps.assign ?_
    refine KOps.assign ?_
    refine KOps.done ?_
    refine sqQ.normal ?_
    refine KA.sub (Sub.cons (t := 0) Look.eq (Sub.cons (t := 1) Look.eq (Sub.cons (t := 5) Look.eq (Sub.cons (t := 6) Look.eq (Sub.cons (t := 9) Look.eq (Sub.cons (t := 10) Look.eq (Sub.cons (t := 11) Look.eq (Sub.nil _)))))))) ?_
    refine KA.seq ?_
    refine KA.seq ?_
    refine KA.region rfl ?_
    refine KOps.move ?_
    refine KOps.move ?_
    refine KOps.lenI hu ?_
    refine KOps.geq ?_
    refine KOps.done ?_
    refine sqQ.normal ?_
    refine KA.sub (Sub.cons (t := 0) Look.eq (Sub.cons (t := 1) Look.eq (Sub.cons (t := 5) Look.eq (Sub.cons (t := 6) Look.eq (Sub.cons (t := 9) Look.eq (Sub.cons (t := 10) Look.eq (Sub.cons (t := 11) Look.eq (Sub.cons (t := 19) Look.eq (Sub.nil _))))))))) ?_
    refine KA.condD ?_ ?_
    · intro c19
      refine KA.seq ?_
      refine KA.region rfl ?_
      refine KOps.assign ?_
      refine KOps.done ?_
      refine sqQ.normal ?_
      refine KA.sub (Sub.cons (t := 4) Look.eq (Sub.nil _)) ?_
      refine KA.ret ?_
      refine sqQ.ret ?_
      refine blQ.ret ?_
      refine sqQ.ret ?_
      refine lpQ.ret ?_
      refine blQ.ret ?_
      refine sqQ.ret ?_
      refine fnQ.ret1 ?_
      exact absurd c19 (by omega)
    · intro c19
      refine KA.skip ?_
      refine sqQ.normal ?_
      refine KA.sub (Sub.cons (t := 0) Look.eq (Sub.cons (t := 1) Look.eq (Sub.cons (t := 5) Look.eq (Sub.cons (t := 6) Look.eq (Sub.cons (t := 9) Look.eq (Sub.cons (t := 10) Look.eq (Sub.cons (t := 11) Look.eq (Sub.nil _)))))))) ?_
      refine KA.seq ?_
      refine KA.region rfl ?_
      refine KOps.move ?_
      refine KOps.move ?_
      refine KOps.indexIJ hu (j := i) rfl (by first | omega | (simp; omega)) ?_
      intro p22 hp22
      refine KOps.loadI hp22 hu (by first | omega | (simp; omega)) ?_
      refine KOps.assign ?_
      refine KOps.done ?_
      refine sqQ.normal ?_
      refine KA.sub (Sub.cons (t := 0) Look.eq (Sub.cons (t := 1) Look.eq (Sub.cons (t := 6) Look.eq (Sub.cons (t := 7) Look.eq (Sub.cons (t := 9) Look.eq (Sub.cons (t := 10) Look.eq (Sub.cons (t := 11) Look.eq (Sub.nil _)))))))) ?_
      refine KA.seq ?_
      refine KA.region rfl ?_
      refine KOps.move ?_
      refine KOps.move ?_
      refine KOps.call rfl (compare_c) ?_
      rintro _ _ ⟨rfl, rfl⟩
      refine KOps.assign ?_
      refine KOps.done ?_
      refine sqQ.normal ?_
      refine KA.sub (Sub.cons (t := 0) Look.eq (Sub.cons (t := 1) Look.eq (Sub.cons (t := 8) Look.eq (Sub.cons (t := 9) Look.eq (Sub.cons (t := 10) Look.eq (Sub.cons (t := 11) Look.eq (Sub.nil _))))))) ?_
      refine KA.seq ?_
      refine KA.region rfl ?_
      refine KOps.move ?_
      refine KOps.neq ?_
      refine KOps.done ?_
      refine sqQ.normal ?_
      refine KA.sub (Sub.cons (t := 0) Look.eq (Sub.cons (t := 1) Look.eq (Sub.cons (t := 8) Look.eq (Sub.cons (t := 9) Look.eq (Sub.cons (t := 10) Look.eq (Sub.cons (t := 11) Look.eq (Sub.cons (t := 28) Look.eq (Sub.nil _)))))))) ?_
      refine KA.condN ?_ ?_
      · intro c28
        refine KA.seq ?_
        refine KA.region rfl ?_
        refine KOps.move ?_
        refine KOps.assign ?_
        refine KOps.done ?_
        refine sqQ.normal ?_
        refine KA.sub (Sub.cons (t := 4) Look.eq (Sub.nil _)) ?_
        refine KA.ret ?_
        refine blQ.ret ?_
        refine sqQ.ret ?_
        refine lpQ.ret ?_
        refine blQ.ret ?_
        refine sqQ.ret ?_
        refine fnQ.ret1 ?_
        refine ⟨⟨_, rfl, ?_⟩, rfl⟩
        rw [befB_at hlab (i := i) (by omega) hj (by intro h0; rw [h0] at c28; simp at c28), decide_eq_true_iff]
        split
        · omega
        · split <;> omega
      · intro c28
        refine KA.skip ?_
        refine blQ.normal ?_
        refine sqQ.normal ?_
        refine KA.sub (Sub.cons (t := 0) Look.eq (Sub.cons (t := 1) Look.eq (Sub.cons (t := 9) Look.eq (Sub.cons (t := 10) Look.eq (Sub.cons (t := 11) Look.eq (Sub.nil _)))))) ?_
        refine KA.region rfl ?_
        refine KOps.add (by first | omega | (simp; omega)) (by first | omega | (simp; omega)) ?_
        refine KOps.move ?_
        refine KOps.done ?_
        refine lpQ.normal (i + 1) (by repeat (first | exact Sub.nil _ | refine Sub.cons Look.eq ?_ | refine Sub.cons (Eq.trans Look.eq (congrArg (AV.int _) (by first | omega | (dsimp only; omega)))) ?_)) ⟨rfl, by omega, ?_⟩ (by omega)
        intro j hj2
        rcases Nat.lt_succ_iff_lt_or_eq.1 hj2 with h3 | rfl
        · exact hj j h3
        · split at c28 <;> (try split at c28) <;> omega
  · intro c12
    refine KA.exit ?_
    refine sqQ.exit ?_
    refine lpQ.exit ?_
    refine blQ.here ?_
    refine sqQ.normal ?_
    refine KA.sub (Sub.cons (t := 0) Look.eq (Sub.cons (t := 1) Look.eq (Sub.nil _))) ?_
    refine KA.seq ?_
    refine KA.seq ?_
    refine KA.region rfl ?_
    refine KOps.move ?_
    refine KOps.lenI hv ?_
    refine KOps.move ?_
    refine KOps.lenI hu ?_
    refine KOps.lss ?_
    refine KOps.done ?_
    refine sqQ.normal ?_
    refine KA.sub (Sub.cons (t := 35) Look.eq (Sub.nil _)) ?_
    refine KA.condD ?_ ?_
    · intro c35
      refine KA.seq ?_
      refine KA.region rfl ?_
      refine KOps.assign ?_
      refine KOps.done ?_
      refine sqQ.normal ?_
      refine KA.sub (Sub.cons (t := 4) Look.eq (Sub.nil _)) ?_
      refine KA.ret ?_
      refine sqQ.ret ?_
      refine fnQ.ret1 ?_
      exact absurd c35 (by omega)
    · intro c35
      refine KA.skip ?_
      refine sqQ.normal ?_
      refine KA.sub (Sub.nil _) ?_
      refine KA.seq ?_
      refine KA.region rfl ?_
      refine KOps.assign ?_
      refine KOps.done ?_
      refine sqQ.normal ?_
      refine KA.ret ?_
      refine fnQ.ret1 ?_
      refine ⟨⟨_, rfl, ?_⟩, rfl⟩
      rw [befB_same hlab (fun j h3 => hj j (by omega))]
      simp

theorem before_c {h : AHeap} {v u : AV} {a b : List Int} (hv : Row h v a) (hu : Row h u b) (hla : a.length ≤ 1000000) : ACalls Go.Proofs.Tryd.prog 75 [v, u] h (fun q h' => q = .bool (befB a b) ∧ h = h') := by
  refine KA.fn 40 [.tmp 4] Go.Proofs.Tryd.func75 rfl (by decide) rfl rfl (Nat.le_of_ble_eq_true rfl) ?_
  show KA _ 40 _ _ [(0, v), (1, u)] _
  refine KA.seq ?_
  refine KA.region rfl ?_
  refine KOps.assign ?_
  refine KOps.done ?_
  refine sqQ.normal ?_
  refine KA.sub (Sub.cons (t := 0) Look.eq (Sub.cons (t := 1) Look.eq (Sub.nil _))) ?_
  refine KA.seq ?_
  refine KA.seq ?_
  refine KA.region rfl ?_
  refine KOps.move ?_
  refine KOps.lenI hv ?_
  refine KOps.move ?_
  refine KOps.lenI hu ?_
  refine KOps.neq ?_
  refine KOps.done ?_
  refine sqQ.normal ?_
  refine KA.sub (Sub.cons (t := 0) Look.eq (Sub.cons (t := 1) Look.eq (Sub.cons (t := 10) Look.eq (Sub.nil _)))) ?_
  refine KA.condN ?_ ?_
  · intro c10
    refine KA.seq ?_
    refine KA.region rfl ?_
    refine KOps.move ?_
    refine KOps.lenI hv ?_
    refine KOps.move ?_
    refine KOps.lenI hu ?_
    refine KOps.lss ?_
    refine KOps.assign ?_
    refine KOps.done ?_
    refine sqQ.normal ?_
    refine KA.sub (Sub.cons (t := 4) Look.eq (Sub.nil _)) ?_
    refine KA.ret ?_
    refine sqQ.ret ?_
    refine fnQ.ret1 ?_
    refine ⟨congrArg AV.bool ?_, rfl⟩
    rw [befB_len (by omega)]
    exact decide_eq_decide.2 (by omega)
  · intro c10
    have hlab : a.length = b.length := by omega
    refine KA.skip ?_
    refine sqQ.normal ?_
    refine KA.sub (Sub.cons (t := 0) Look.eq (Sub.cons (t := 1) Look.eq (Sub.nil _))) ?_
    refine KA.seq ?_
    refine KA.seq ?_
    refine KA.region rfl ?_
    refine KOps.assign ?_
    refine KOps.done ?_
    refine sqQ.normal ?_
    refine KA.block ?_
    refine KA.loop (X := Nat) (fun i => [(0, v), (1, u), (5, .int .i64 (i : Int))]) (fun i h' => h = h' ∧ i ≤ a.length ∧ ∀ j, j < i → a.getD j 0 = b.getD j 0) (fun i => a.length - i) 0 (by repeat (first | exact Sub.nil _ | refine Sub.cons Look.eq ?_ | refine Sub.cons (Eq.trans Look.eq (congrArg (AV.int _) (by first | omega | (dsimp only; omega)))) ?_)) ?_ ?_
    · exact ⟨rfl, Nat.zero_le _, fun j hj => by omega⟩
    rintro i _ ⟨rfl, hi, hj⟩
    refine KA.seq ?_
    refine KA.seq ?_
    refine KA.region rfl ?_
    refine KOps.move ?_
    refine KOps.move ?_
    refine KOps.lenI hv ?_
    refine KOps.lss ?_
    refine KOps.done ?_
    refine sqQ.normal ?_
    refine KA.sub (Sub.cons (t := 0) Look.eq (Sub.cons (t := 1) Look.eq (Sub.cons (t := 5) Look.eq (Sub.cons (t := 19) Look.eq (Sub.nil _))))) ?_
    refine KA.condD ?_ ?_
    · intro c19
      refine KA.skip ?_
      refine sqQ.normal ?_
      refine KA.sub (Sub.cons (t := 0) Look.eq (Sub.cons (t := 1) Look.eq (Sub.cons (t := 5) Look.eq (Sub.nil _)))) ?_
      refine KA.seq ?_
      refine KA.block ?_
      refine KA.seq ?_
      refine KA.draw [] mixed rfl (by kernel_rfl) ?_
      refine KOps.move ?_
      refine KOps.move ?_
      refine KOps.indexIJ hv (j := i) rfl (by first | omega | (simp; omega)) ?_
      intro p24 hp24
      refine KOps.loadI hp24 hv (by first | omega | (simp; omega)) ?_
      refine KOps.move ?_
      refine KOps.move ?_
      refine KOps.indexIJ hu (j := i) rfl (by first | omega | (simp; omega)) ?_
      intro p28 hp28
      refine KOps.loadI hp28 hu (by first | omega | (simp; omega)) ?_
      refine KOps.neq ?_
      refine KOps.done ?_
      refine sqQ.normal ?_
      refine KA.sub (Sub.cons (t := 0) Look.eq (Sub.cons (t := 1) Look.eq (Sub.cons (t := 5) Look.eq (Sub.cons (t := 30) Look.eq (Sub.nil _))))) ?_
      refine KA.condN ?_ ?_
      · intro c30
        refine KA.seq ?_
        refine KA.draw [] mixed rfl (by kernel_rfl) ?_
        refine KOps.move ?_
        refine KOps.move ?_
        refine KOps.indexIJ hv (j := i) rfl (by first | omega | (simp; omega)) ?_
        intro p33 hp33
        refine KOps.loadI hp33 hv (by first | omega | (simp; omega)) ?_
        refine KOps.move ?_
        refine KOps.move ?_
        refine KOps.indexIJ hu (j := i) rfl (by first | omega | (simp; omega)) ?_
        intro p37 hp37
        refine KOps.loadI hp37 hu (by first | omega | (simp; omega)) ?_
        refine KOps.lss ?_
        refine KOps.assign ?_
        refine KOps.done ?_
        refine sqQ.normal ?_
        refine KA.sub (Sub.cons (t := 4) Look.eq (Sub.nil _)) ?_
        refine KA.ret ?_
        refine blQ.ret ?_
        refine sqQ.ret ?_
        refine lpQ.ret ?_
        refine blQ.ret ?_
        refine sqQ.ret ?_
        refine fnQ.ret1 ?_
        exact ⟨congrArg AV.bool (befB_at hlab (i := i) (by omega) hj (by omega)).symm, rfl⟩
      · intro c30
        refine KA.skip ?_
        refine blQ.normal ?_
        refine sqQ.normal ?_
        refine KA.sub (Sub.cons (t := 0) Look.eq (Sub.cons (t := 1) Look.eq (Sub.cons (t := 5) Look.eq (Sub.nil _)))) ?_
        refine KA.region rfl ?_
        refine KOps.move ?_
        refine KOps.add (by first | omega | (simp; omega)) (by first | omega | (simp; omega)) ?_
        refine KOps.assign ?_
        refine KOps.done ?_
        refine lpQ.normal (i + 1) (by repeat (first | exact Sub.nil _ | refine Sub.cons Look.eq ?_ | refine Sub.cons (Eq.trans Look.eq (congrArg (AV.int _) (by first | omega | (dsimp only; omega)))) ?_)) ⟨rfl, by omega, ?_⟩ (by omega)
        intro j hj2
        rcases Nat.lt_succ_iff_lt_or_eq.1 hj2 with h3 | rfl
        · exact hj j h3
        · exact c30
    · intro c19
      refine KA.exit ?_
      refine sqQ.exit ?_
      refine lpQ.exit ?_
      refine blQ.here ?_
      refine sqQ.normal ?_
      refine KA.sub (Sub.nil _) ?_
      refine KA.seq ?_
      refine KA.region rfl ?_
      refine KOps.assign ?_
      refine KOps.done ?_
      refine sqQ.normal ?_
      refine KA.ret ?_
      refine fnQ.ret1 ?_
      exact ⟨congrArg AV.bool (befB_same hlab (fun j h3 => hj j (by omega))).symm, rfl⟩

def lastI (l : List Int) (i : Nat) : Int := if i = 0 then -1 else l.getD (i - 1) 0
theorem lastI_succ (l : List Int) (i : Nat) : lastI l (i + 1) = l.getD i 0 := by rw [lastI, if_neg (by omega)]; rfl
theorem roomE_in {rm : Int} {l : List Int} {i : Nat} (h : ¬ (0 ≤ l.getD i 0 ∧ l.getD i 0 ≤ rm - 1)) : roomE rm l i = 2 := by rw [roomE, if_pos h]
theorem roomE_ord {rm : Int} {l : List Int} {i : Nat} (h : 0 ≤ l.getD i 0 ∧ l.getD i 0 ≤ rm - 1) (h2 : 0 < i ∧ l.getD i 0 ≤ l.getD (i - 1) 0) : roomE rm l i = 7 := by rw [roomE, if_neg (fun h3 => h3 h), if_pos h2]
theorem roomE_ok {rm : Int} {l : List Int} {i : Nat} (h : 0 ≤ l.getD i 0 ∧ l.getD i 0 ≤ rm - 1) (h2 : ¬ (0 < i ∧ l.getD i 0 ≤ l.getD (i - 1) 0)) : roomE rm l i = 0 := by rw [roomE, if_neg (fun h3 => h3 h), if_neg h2]
abbrev setE (rm : Int) (l : List Int) : Nat := if roomsE rm l l.length = 0 then setTo l l.length else 0
theorem set_next {l : List Int} {i : Nat} {rm : Int} (hs : setTo l i < 64) (h : 0 ≤ l.getD i 0 ∧ l.getD i 0 ≤ rm - 1) (hr : rm ≤ 6) : setTo l (i + 1) < 64 := or64 _ hs _ (by omega)
theorem set_or8 {l : List Int} {i : Nat} {rm : Int} (hs : setTo l i < 64) (h : 0 ≤ l.getD i 0 ∧ l.getD i 0 ≤ rm - 1) (hr : rm ≤ 6) : bits .or .u8 (setTo l i : Int) (IntKind.wrap .u8 (1 * 2 ^ Min.min (l.getD i 0).toNat (IntKind.bits .u8))) = (setTo l (i + 1) : Int) := by
  have := or8 _ hs (l.getD i 0).toNat (by omega)
  rwa [show (((l.getD i 0).toNat : Nat) : Int).toNat = (l.getD i 0).toNat by omega] at this
theorem set_or64 {l : List Int} {i : Nat} {rm : Int} (hs : setTo l i < 64) (h : 0 ≤ l.getD i 0 ∧ l.getD i 0 ≤ rm - 1) (hr : rm ≤ 6) : bits .or .i64 (setTo l i : Int) (IntKind.wrap .i64 (1 * 2 ^ Min.min (l.getD i 0).toNat (IntKind.bits .i64))) = (setTo l (i + 1) : Int) := by
  have := or64' _ hs (l.getD i 0).toNat (by omega)
  rwa [show (((l.getD i 0).toNat : Nat) : Int).toNat = (l.getD i 0).toNat by omega] at this

theorem rooms_c {h : AHeap} {rm : Int} {vW vn : AV} {ws : List W} {l : List Int} (hv : Rd h vW 4 (flr wc ws)) (hn : Row h vn l) (hB : BOk rm ws) (hll : l.length ≤ 1000000) : ACalls Go.Proofs.Tryd.prog 76 [.agg [.int .i64 rm, vW], vn] h (fun q h' => q = .tup [.int .u8 (setE rm l : Int), .int .i64 (roomsE rm l l.length)] ∧ Keeps h h') := by
  refine KA.fn 33 [.tmp 4, .tmp 5] Go.Proofs.Tryd.func76 rfl (by decide) rfl rfl (Nat.le_of_ble_eq_true rfl) ?_
  have hS := St.refl h
  have hvo : vW.one = true := hv.one
  have hr6 := hB.r6
  have hr2 := hB.r2
  show KA _ 33 _ _ [(0, .agg [.int .i64 rm, vW]), (1, vn)] _
  refine KA.seq ?_
  refine KA.region rfl ?_
  refine KOps.boxAll hS (by first | rfl | (simp [AV.one]; done) | (simp [AV.one]; assumption) | (simp [AV.one, *]; done)) ?_
  intro p2 h' hp2 hS
  refine KOps.assign ?_
  refine KOps.assign ?_
  refine KOps.done ?_
  refine sqQ.normal ?_
  refine KA.sub (Sub.cons (t := 1) Look.eq (Sub.cons (t := 2) Look.eq (Sub.cons (t := 4) Look.eq (Sub.nil _)))) ?_
  refine KA.seq ?_
  refine KA.region rfl ?_
  refine KOps.assign ?_
  refine KOps.done ?_
  refine sqQ.normal ?_
  refine KA.seq ?_
  refine KA.seq ?_
  refine KA.region rfl ?_
  refine KOps.move ?_
  refine KOps.lenI (Row.ext hS.keeps hn) ?_
  refine KOps.move ?_
  refine KOps.done ?_
  refine sqQ.normal ?_
  refine KA.sub (Sub.cons (t := 2) Look.eq (Sub.cons (t := 4) Look.eq (Sub.cons (t := 6) Look.eq (Sub.cons (t := 9) Look.eq (Sub.cons (t := 10) Look.eq (Sub.cons (t := 11) Look.eq (Sub.nil _))))))) ?_
  refine KA.block ?_
  refine KA.loop (X := Nat) (fun i => [(2, p2), (4, .int .u8 (setTo l i : Int)), (6, .int .i64 (lastI l i)), (9, vn), (10, .int .i64 (l.length : Int)), (11, .int .i64 (i : Int))]) (fun i h' => i ≤ l.length ∧ roomsE rm l i = 0 ∧ setTo l i < 64 ∧ St h h' [⟨p2, 0, [.int .i64 rm, vW], true⟩]) (fun i => l.length - i) 0 (by repeat (first | exact Sub.nil _ | refine Sub.cons Look.eq ?_ | refine Sub.cons (Eq.trans Look.eq (congrArg (AV.int _) (by first | omega | (dsimp only; omega)))) ?_)) ?_ ?_
  · exact ⟨Nat.zero_le _, rfl, (show 0 < 64 by decide), hS⟩
  rintro i h9 ⟨hi, h0, hset, hS⟩
  refine KA.seq ?_
  refine KA.region rfl ?_
  refine KOps.lss ?_
  refine KOps.done ?_
  refine sqQ.normal ?_
  refine KA.seq ?_
  refine KA.condD ?_ ?_
  · intro c12
    refine KA.skip ?_
    refine sqQ.normal ?_
    refine KA.sub (Sub.cons (t := 2) Look.eq (Sub.cons (t := 4) Look.eq (Sub.cons (t := 6) Look.eq (Sub.cons (t := 9) Look.eq (Sub.cons (t := 10) Look.eq (Sub.cons (t := 11) Look.eq (Sub.nil _))))))) ?_
    refine KA.seq ?_
    refine KA.block ?_
    refine KA.seq ?_
    refine KA.region rfl ?_
    refine KOps.indexIJ (Row.ext hS.keeps hn) (j := i) rfl (by first | omega | (simp; omega)) ?_
    intro p13 hp13
    refine KOps.loadI hp13 (Row.ext hS.keeps hn) (by first | omega | (simp; omega)) ?_
    refine KOps.assign ?_
    refine KOps.done ?_
    refine sqQ.normal ?_
    refine KA.sub (Sub.cons (t := 2) Look.eq (Sub.cons (t := 4) Look.eq (Sub.cons (t := 6) Look.eq (Sub.cons (t := 8) Look.eq (Sub.cons (t := 9) Look.eq (Sub.cons (t := 10) Look.eq (Sub.cons (t := 11) Look.eq (Sub.nil _)))))))) ?_
    refine KA.seq ?_
    refine KA.block ?_
    refine KA.seq ?_
    refine KA.region rfl ?_
    refine KOps.move ?_
    refine KOps.fieldAddr hp2 ?_
    intro p17 hp17
    refine KOps.load hp17 (hS.rd 0 rfl) rfl ?_
    refine KOps.sub (by first | omega | (simp; omega)) (by first | omega | (simp; omega)) ?_
    refine KOps.call rfl (between_c) ?_
    rintro _ _ ⟨rfl, rfl⟩
    refine KOps.not ?_
    refine KOps.assign ?_
    refine KOps.done ?_
    refine sqQ.normal ?_
    refine KA.sub (Sub.cons (t := 2) Look.eq (Sub.cons (t := 4) Look.eq (Sub.cons (t := 6) Look.eq (Sub.cons (t := 8) Look.eq (Sub.cons (t := 9) Look.eq (Sub.cons (t := 10) Look.eq (Sub.cons (t := 11) Look.eq (Sub.cons (t := 15) Look.eq (Sub.nil _))))))))) ?_
    refine KA.condN ?_ ?_
    · intro c15
      refine KA.seq ?_
      refine KA.region rfl ?_
      refine KOps.assign ?_
      refine KOps.assign ?_
      refine KOps.done ?_
      refine sqQ.normal ?_
      refine KA.sub (Sub.cons (t := 4) Look.eq (Sub.cons (t := 5) Look.eq (Sub.nil _))) ?_
      refine KA.ret ?_
      refine blQ.ret ?_
      refine sqQ.ret ?_
      refine blQ.ret ?_
      refine sqQ.ret ?_
      refine lpQ.ret ?_
      refine blQ.ret ?_
      refine sqQ.ret ?_
      refine fnQ.retN ?_
      have e0 : roomsE rm l l.length = 2 := by rw [roomsE_stop (i := i) h0 (by rw [roomE_in c15]; decide) (by omega), roomE_in c15]
      rw [setE, if_neg (by rw [e0]; decide), e0]
      exact ⟨rfl, hS.keeps⟩
    · intro c15
      have hin : 0 ≤ l.getD i 0 ∧ l.getD i 0 ≤ rm - 1 := c15
      refine KA.seq ?_
      refine KA.region rfl ?_
      refine KOps.move ?_
      refine KOps.move ?_
      refine KOps.leq ?_
      refine KOps.assign ?_
      refine KOps.done ?_
      refine sqQ.normal ?_
      refine KA.sub (Sub.cons (t := 2) Look.eq (Sub.cons (t := 4) Look.eq (Sub.cons (t := 8) Look.eq (Sub.cons (t := 9) Look.eq (Sub.cons (t := 10) Look.eq (Sub.cons (t := 11) Look.eq (Sub.cons (t := 22) Look.eq (Sub.nil _)))))))) ?_
      refine KA.condD ?_ ?_
      · intro c22
        refine KA.seq ?_
        refine KA.region rfl ?_
        refine KOps.assign ?_
        refine KOps.assign ?_
        refine KOps.done ?_
        refine sqQ.normal ?_
        refine KA.sub (Sub.cons (t := 4) Look.eq (Sub.cons (t := 5) Look.eq (Sub.nil _))) ?_
        refine KA.ret ?_
        refine blQ.ret ?_
        refine sqQ.ret ?_
        refine blQ.ret ?_
        refine sqQ.ret ?_
        refine lpQ.ret ?_
        refine blQ.ret ?_
        refine sqQ.ret ?_
        refine fnQ.retN ?_
        have hle : 0 < i ∧ l.getD i 0 ≤ l.getD (i - 1) 0 := by
          by_cases h1 : i = 0
          · rw [lastI, if_pos h1] at c22; omega
          · rw [lastI, if_neg h1] at c22; exact ⟨by omega, c22⟩
        have e0 : roomsE rm l l.length = 7 := by rw [roomsE_stop (i := i) h0 (by rw [roomE_ord hin hle]; decide) (by omega), roomE_ord hin hle]
        rw [setE, if_neg (by rw [e0]; decide), e0]
        exact ⟨rfl, hS.keeps⟩
      · intro c22
        have hnl : ¬ (0 < i ∧ l.getD i 0 ≤ l.getD (i - 1) 0) := by
          rintro ⟨h1, h2⟩
          rw [lastI, if_neg (by omega)] at c22
          exact c22 h2
        refine KA.skip ?_
        refine blQ.normal ?_
        refine sqQ.normal ?_
        refine KA.sub (Sub.cons (t := 2) Look.eq (Sub.cons (t := 4) Look.eq (Sub.cons (t := 8) Look.eq (Sub.cons (t := 9) Look.eq (Sub.cons (t := 10) Look.eq (Sub.cons (t := 11) Look.eq (Sub.nil _))))))) ?_
        refine KA.seq ?_
        refine KA.region rfl ?_
        refine KOps.move ?_
        refine KOps.assign ?_
        refine KOps.done ?_
        refine sqQ.normal ?_
        refine KA.sub (Sub.cons (t := 2) Look.eq (Sub.cons (t := 4) Look.eq (Sub.cons (t := 6) Look.eq (Sub.cons (t := 8) Look.eq (Sub.cons (t := 9) Look.eq (Sub.cons (t := 10) Look.eq (Sub.cons (t := 11) Look.eq (Sub.nil _)))))))) ?_
        refine KA.region rfl ?_
        refine KOps.move ?_
        refine KOps.move ?_
        refine KOps.shl (by omega) ?_
        refine KOps.bits (by simp) ?_
        rw [set_or8 (rm := rm) hset hin hr6]
        refine KOps.assign ?_
        refine KOps.done ?_
        refine blQ.normal ?_
        refine sqQ.normal ?_
        refine KA.sub (Sub.cons (t := 2) Look.eq (Sub.cons (t := 4) Look.eq (Sub.cons (t := 6) Look.eq (Sub.cons (t := 9) Look.eq (Sub.cons (t := 10) Look.eq (Sub.cons (t := 11) Look.eq (Sub.nil _))))))) ?_
        refine KA.region rfl ?_
        refine KOps.add (by first | omega | (simp; omega)) (by first | omega | (simp; omega)) ?_
        refine KOps.move ?_
        refine KOps.done ?_
        exact lpQ.normal (i + 1) (by repeat (first | exact Sub.nil _ | refine Sub.cons Look.eq ?_ | refine Sub.cons (Eq.trans Look.eq (congrArg (AV.int _) (by first | omega | (dsimp only; omega)))) ?_ | refine Sub.cons (Eq.trans Look.eq (by rw [lastI_succ])) ?_)) ⟨by omega, roomsE_next h0 (roomE_ok hin hnl), set_next (rm := rm) hset hin hr6, hS⟩ (by omega)
  · intro c12
    refine KA.exit ?_
    refine sqQ.exit ?_
    refine lpQ.exit ?_
    refine blQ.here ?_
    refine sqQ.normal ?_
    refine KA.sub (Sub.cons (t := 4) Look.eq (Sub.nil _)) ?_
    refine KA.seq ?_
    refine KA.region rfl ?_
    refine KOps.move ?_
    refine KOps.assign ?_
    refine KOps.assign ?_
    refine KOps.done ?_
    refine sqQ.normal ?_
    refine KA.sub (Sub.cons (t := 4) Look.eq (Sub.cons (t := 5) Look.eq (Sub.nil _))) ?_
    refine KA.ret ?_
    refine fnQ.retN ?_
    have hie : i = l.length := by omega
    subst hie
    rw [setE, if_pos h0, h0]
    exact ⟨rfl, hS.keeps⟩

theorem refRooms_c {h : AHeap} {rm : Int} {vW vn : AV} {ws : List W} {l : List Int} (hv : Rd h vW 4 (flr wc ws)) (hn : Row h vn l) (hB : BOk rm ws) (hll : l.length ≤ 1000000) : ACalls Go.Proofs.Tryd.prog 77 [.agg [.int .i64 rm, vW], vn] h (fun q h' => q = .tup [.int .i64 (setE rm l : Int), .int .i64 (roomsE rm l l.length)] ∧ Keeps h h') := by
  refine KA.fn 45 [.tmp 4, .tmp 5] Go.Proofs.Tryd.func77 rfl (by decide) rfl rfl (Nat.le_of_ble_eq_true rfl) ?_
  have hS := St.refl h
  have hvo : vW.one = true := hv.one
  have hr6 := hB.r6
  have hr2 := hB.r2
  show KA _ 45 _ _ [(0, .agg [.int .i64 rm, vW]), (1, vn)] _
  refine KA.seq ?_
  refine KA.region rfl ?_
  refine KOps.boxAll hS (by first | rfl | (simp [AV.one]; done) | (simp [AV.one]; assumption) | (simp [AV.one, *]; done)) ?_
  intro p2 h' hp2 hS
  refine KOps.assign ?_
  refine KOps.assign ?_
  refine KOps.done ?_
  refine sqQ.normal ?_
  refine KA.sub (Sub.cons (t := 1) Look.eq (Sub.cons (t := 2) Look.eq (Sub.nil _))) ?_
  refine KA.seq ?_
  refine KA.region rfl ?_
  refine KOps.assign ?_
  refine KOps.done ?_
  refine sqQ.normal ?_
  refine KA.seq ?_
  refine KA.seq ?_
  refine KA.region rfl ?_
  refine KOps.assign ?_
  refine KOps.done ?_
  refine sqQ.normal ?_
  refine KA.block ?_
  refine KA.loop (X := Nat) (fun i => [(1, vn), (2, p2), (6, .int .i64 (setTo l i : Int)), (7, .int .i64 (i : Int))]) (fun i h' => i ≤ l.length ∧ roomsE rm l i = 0 ∧ setTo l i < 64 ∧ St h h' [⟨p2, 0, [.int .i64 rm, vW], true⟩]) (fun i => l.length - i) 0 (by repeat (first | exact Sub.nil _ | refine Sub.cons Look.eq ?_ | refine Sub.cons (Eq.trans Look.eq (congrArg (AV.int _) (by first | omega | (dsimp only; omega)))) ?_)) ?_ ?_
  · exact ⟨Nat.zero_le _, rfl, (show 0 < 64 by decide), hS⟩
  rintro i h9 ⟨hi, h0, hset, hS⟩
  refine KA.seq ?_
  refine KA.seq ?_
  refine KA.region rfl ?_
  refine KOps.move ?_
  refine KOps.move ?_
  refine KOps.lenI (Row.ext hS.keeps hn) ?_
  refine KOps.lss ?_
  refine KOps.done ?_
  refine sqQ.normal ?_
  refine KA.sub (Sub.cons (t := 1) Look.eq (Sub.cons (t := 2) Look.eq (Sub.cons (t := 6) Look.eq (Sub.cons (t := 7) Look.eq (Sub.cons (t := 11) Look.eq (Sub.nil _)))))) ?_
  refine KA.condD ?_ ?_
  · intro c11
    refine KA.skip ?_
    refine sqQ.normal ?_
    refine KA.sub (Sub.cons (t := 1) Look.eq (Sub.cons (t := 2) Look.eq (Sub.cons (t := 6) Look.eq (Sub.cons (t := 7) Look.eq (Sub.nil _))))) ?_
    refine KA.seq ?_
    refine KA.block ?_
    refine KA.seq ?_
    refine KA.seq ?_
    refine KA.draw [] mixed rfl (by kernel_rfl) ?_
    refine KOps.move ?_
    refine KOps.move ?_
    refine KOps.indexIJ (Row.ext hS.keeps hn) (j := i) rfl (by first | omega | (simp; omega)) ?_
    intro p16 hp16
    refine KOps.loadI hp16 (Row.ext hS.keeps hn) (by first | omega | (simp; omega)) ?_
    refine KOps.fieldAddr hp2 ?_
    intro p18 hp18
    refine KOps.load hp18 (hS.rd 0 rfl) rfl ?_
    refine KOps.sub (by first | omega | (simp; omega)) (by first | omega | (simp; omega)) ?_
    refine KOps.call rfl (in_c) ?_
    rintro _ _ ⟨rfl, rfl⟩
    refine KOps.not ?_
    refine KOps.done ?_
    refine sqQ.normal ?_
    refine KA.sub (Sub.cons (t := 1) Look.eq (Sub.cons (t := 2) Look.eq (Sub.cons (t := 6) Look.eq (Sub.cons (t := 7) Look.eq (Sub.cons (t := 22) Look.eq (Sub.nil _)))))) ?_
    refine KA.condN ?_ ?_
    · intro c22
      refine KA.seq ?_
      refine KA.region rfl ?_
      refine KOps.assign ?_
      refine KOps.assign ?_
      refine KOps.done ?_
      refine sqQ.normal ?_
      refine KA.sub (Sub.cons (t := 4) Look.eq (Sub.cons (t := 5) Look.eq (Sub.nil _))) ?_
      refine KA.ret ?_
      refine sqQ.ret ?_
      refine blQ.ret ?_
      refine sqQ.ret ?_
      refine lpQ.ret ?_
      refine blQ.ret ?_
      refine sqQ.ret ?_
      refine fnQ.retN ?_
      have e0 : roomsE rm l l.length = 2 := by rw [roomsE_stop (i := i) h0 (by rw [roomE_in c22]; decide) (by omega), roomE_in c22]
      rw [setE, if_neg (by rw [e0]; decide), e0]
      exact ⟨rfl, hS.keeps⟩
    · intro c22
      have hin : 0 ≤ l.getD i 0 ∧ l.getD i 0 ≤ rm - 1 := c22
      refine KA.skip ?_
      refine sqQ.normal ?_
      refine KA.sub (Sub.cons (t := 1) Look.eq (Sub.cons (t := 2) Look.eq (Sub.cons (t := 6) Look.eq (Sub.cons (t := 7) Look.eq (Sub.nil _))))) ?_
      refine KA.seq ?_
      refine KA.seq ?_
      refine KA.draw [] mixed rfl (by kernel_rfl) ?_
      refine KOps.move ?_
      refine KOps.gtr ?_
      refine KOps.move ?_
      refine KOps.guardB (dj := 25) rfl rfl true false rfl ?_ ?_
      · intro g25
        have g25 := of_decide_eq_true g25
        refine KOps.move ?_
        refine KOps.guardYes (dj := 25) rfl rfl ?_
        refine KOps.move ?_
        refine KOps.guardYes (dj := 25) rfl rfl ?_
        refine KOps.indexIJ (Row.ext hS.keeps hn) (j := i) rfl (by first | omega | (simp; omega)) ?_
        intro p28 hp28
        refine KOps.guardYes (dj := 25) rfl rfl ?_
        refine KOps.loadI hp28 (Row.ext hS.keeps hn) (by first | omega | (simp; omega)) ?_
        refine KOps.guardYes (dj := 25) rfl rfl ?_
        refine KOps.move ?_
        refine KOps.guardYes (dj := 25) rfl rfl ?_
        refine KOps.move ?_
        refine KOps.guardYes (dj := 25) rfl rfl ?_
        refine KOps.sub (by first | omega | (simp; omega)) (by first | omega | (simp; omega)) ?_
        refine KOps.guardYes (dj := 25) rfl rfl ?_
        refine KOps.indexIJ (Row.ext hS.keeps hn) (j := (i - 1)) (by first | omega | (simp; omega)) (by first | omega | (simp; omega)) ?_
        intro p33 hp33
        refine KOps.guardYes (dj := 25) rfl rfl ?_
        refine KOps.loadI hp33 (Row.ext hS.keeps hn) (by first | omega | (simp; omega)) ?_
        refine KOps.guardYes (dj := 25) rfl rfl ?_
        refine KOps.leq ?_
        refine KOps.pickT ?_
        refine KOps.done ?_
        refine sqQ.normal ?_
        refine KA.sub (Sub.cons (t := 1) Look.eq (Sub.cons (t := 2) Look.eq (Sub.cons (t := 6) Look.eq (Sub.cons (t := 7) Look.eq (Sub.cons (t := 26) Look.eq (Sub.cons (t := 27) Look.eq (Sub.cons (t := 28) Look.eq (Sub.cons (t := 29) Look.eq (Sub.cons (t := 30) Look.eq (Sub.cons (t := 31) Look.eq (Sub.cons (t := 32) Look.eq (Sub.cons (t := 33) Look.eq (Sub.cons (t := 34) Look.eq (Sub.cons (t := 35) Look.eq (Sub.cons (t := 36) Look.eq (Sub.nil _)))))))))))))))) ?_
        refine KA.condD ?_ ?_
        · intro c36
          refine KA.seq ?_
          refine KA.region rfl ?_
          refine KOps.assign ?_
          refine KOps.assign ?_
          refine KOps.done ?_
          refine sqQ.normal ?_
          refine KA.sub (Sub.cons (t := 4) Look.eq (Sub.cons (t := 5) Look.eq (Sub.nil _))) ?_
          refine KA.ret ?_
          refine sqQ.ret ?_
          refine blQ.ret ?_
          refine sqQ.ret ?_
          refine lpQ.ret ?_
          refine blQ.ret ?_
          refine sqQ.ret ?_
          refine fnQ.retN ?_
          have e0 : roomsE rm l l.length = 7 := by rw [roomsE_stop (i := i) h0 (by rw [roomE_ord hin ⟨by omega, c36⟩]; decide) (by omega), roomE_ord hin ⟨by omega, c36⟩]
          rw [setE, if_neg (by rw [e0]; decide), e0]
          exact ⟨rfl, hS.keeps⟩
        · intro c36
          refine KA.skip ?_
          refine sqQ.normal ?_
          refine KA.sub (Sub.cons (t := 1) Look.eq (Sub.cons (t := 2) Look.eq (Sub.cons (t := 6) Look.eq (Sub.cons (t := 7) Look.eq (Sub.cons (t := 26) Look.eq (Sub.cons (t := 27) Look.eq (Sub.cons (t := 28) Look.eq (Sub.cons (t := 29) Look.eq (Sub.cons (t := 30) Look.eq (Sub.cons (t := 31) Look.eq (Sub.cons (t := 32) Look.eq (Sub.cons (t := 33) Look.eq (Sub.cons (t := 34) Look.eq (Sub.cons (t := 35) Look.eq (Sub.nil _))))))))))))))) ?_
          refine KA.region rfl ?_
          refine KOps.move ?_
          refine KOps.move ?_
          refine KOps.move ?_
          refine KOps.indexIJ (Row.ext hS.keeps hn) (j := i) rfl (by first | omega | (simp; omega)) ?_
          intro p40 hp40
          refine KOps.loadI hp40 (Row.ext hS.keeps hn) (by first | omega | (simp; omega)) ?_
          refine KOps.shl (by omega) ?_
          refine KOps.bits (by simp) ?_
          rw [set_or64 (rm := rm) hset hin hr6]
          refine KOps.assign ?_
          refine KOps.done ?_
          refine blQ.normal ?_
          refine sqQ.normal ?_
          refine KA.sub (Sub.cons (t := 1) Look.eq (Sub.cons (t := 2) Look.eq (Sub.cons (t := 6) Look.eq (Sub.cons (t := 7) Look.eq (Sub.cons (t := 26) Look.eq (Sub.cons (t := 27) Look.eq (Sub.cons (t := 28) Look.eq (Sub.cons (t := 29) Look.eq (Sub.cons (t := 30) Look.eq (Sub.cons (t := 31) Look.eq (Sub.cons (t := 32) Look.eq (Sub.cons (t := 33) Look.eq (Sub.cons (t := 34) Look.eq (Sub.cons (t := 35) Look.eq (Sub.nil _))))))))))))))) ?_
          refine KA.region rfl ?_
          refine KOps.move ?_
          refine KOps.add (by first | omega | (simp; omega)) (by first | omega | (simp; omega)) ?_
          refine KOps.assign ?_
          refine KOps.done ?_
          exact lpQ.normal (i + 1) (by repeat (first | exact Sub.nil _ | refine Sub.cons Look.eq ?_ | refine Sub.cons (Eq.trans Look.eq (congrArg (AV.int _) (by first | omega | (dsimp only; omega)))) ?_)) ⟨by omega, roomsE_next h0 (roomE_ok hin (fun h1 => c36 h1.2)), set_next (rm := rm) hset hin hr6, hS⟩ (by omega)
      · intro g25
        have g25 := of_decide_eq_false g25
        refine KOps.guardNo (dj := 25) rfl rfl rfl ?_
        refine KOps.guardNo (dj := 25) rfl rfl rfl ?_
        refine KOps.guardNo (dj := 25) rfl rfl rfl ?_
        refine KOps.guardNo (dj := 25) rfl rfl rfl ?_
        refine KOps.guardNo (dj := 25) rfl rfl rfl ?_
        refine KOps.guardNo (dj := 25) rfl rfl rfl ?_
        refine KOps.guardNo (dj := 25) rfl rfl rfl ?_
        refine KOps.guardNo (dj := 25) rfl rfl rfl ?_
        refine KOps.guardNo (dj := 25) rfl rfl rfl ?_
        refine KOps.pickF ?_
        refine KOps.done ?_
        refine sqQ.normal ?_
        refine KA.sub (Sub.cons (t := 1) Look.eq (Sub.cons (t := 2) Look.eq (Sub.cons (t := 6) Look.eq (Sub.cons (t := 7) Look.eq (Sub.cons (t := 26) Look.eq (Sub.cons (t := 27) Look.eq (Sub.cons (t := 28) Look.eq (Sub.cons (t := 29) Look.eq (Sub.cons (t := 30) Look.eq (Sub.cons (t := 31) Look.eq (Sub.cons (t := 32) Look.eq (Sub.cons (t := 33) Look.eq (Sub.cons (t := 34) Look.eq (Sub.cons (t := 35) Look.eq (Sub.cons (t := 36) Look.eq (Sub.nil _)))))))))))))))) ?_
        refine KA.condF ?_
        refine KA.skip ?_
        refine sqQ.normal ?_
        refine KA.sub (Sub.cons (t := 1) Look.eq (Sub.cons (t := 2) Look.eq (Sub.cons (t := 6) Look.eq (Sub.cons (t := 7) Look.eq (Sub.cons (t := 26) Look.eq (Sub.cons (t := 27) Look.eq (Sub.cons (t := 28) Look.eq (Sub.cons (t := 29) Look.eq (Sub.cons (t := 30) Look.eq (Sub.cons (t := 31) Look.eq (Sub.cons (t := 32) Look.eq (Sub.cons (t := 33) Look.eq (Sub.cons (t := 34) Look.eq (Sub.cons (t := 35) Look.eq (Sub.nil _))))))))))))))) ?_
        refine KA.region rfl ?_
        refine KOps.move ?_
        refine KOps.move ?_
        refine KOps.move ?_
        refine KOps.indexIJ (Row.ext hS.keeps hn) (j := i) rfl (by first | omega | (simp; omega)) ?_
        intro p40 hp40
        refine KOps.loadI hp40 (Row.ext hS.keeps hn) (by first | omega | (simp; omega)) ?_
        refine KOps.shl (by omega) ?_
        refine KOps.bits (by simp) ?_
        rw [set_or64 (rm := rm) hset hin hr6]
        refine KOps.assign ?_
        refine KOps.done ?_
        refine blQ.normal ?_
        refine sqQ.normal ?_
        refine KA.sub (Sub.cons (t := 1) Look.eq (Sub.cons (t := 2) Look.eq (Sub.cons (t := 6) Look.eq (Sub.cons (t := 7) Look.eq (Sub.cons (t := 26) Look.eq (Sub.cons (t := 27) Look.eq (Sub.cons (t := 28) Look.eq (Sub.cons (t := 29) Look.eq (Sub.cons (t := 30) Look.eq (Sub.cons (t := 31) Look.eq (Sub.cons (t := 32) Look.eq (Sub.cons (t := 33) Look.eq (Sub.cons (t := 34) Look.eq (Sub.cons (t := 35) Look.eq (Sub.nil _))))))))))))))) ?_
        refine KA.region rfl ?_
        refine KOps.move ?_
        refine KOps.add (by first | omega | (simp; omega)) (by first | omega | (simp; omega)) ?_
        refine KOps.assign ?_
        refine KOps.done ?_
        exact lpQ.normal (i + 1) (by repeat (first | exact Sub.nil _ | refine Sub.cons Look.eq ?_ | refine Sub.cons (Eq.trans Look.eq (congrArg (AV.int _) (by first | omega | (dsimp only; omega)))) ?_)) ⟨by omega, roomsE_next h0 (roomE_ok hin (fun h1 => by omega)), set_next (rm := rm) hset hin hr6, hS⟩ (by omega)
  · intro c11
    refine KA.exit ?_
    refine sqQ.exit ?_
    refine lpQ.exit ?_
    refine blQ.here ?_
    refine sqQ.normal ?_
    refine KA.sub (Sub.cons (t := 6) Look.eq (Sub.nil _)) ?_
    refine KA.seq ?_
    refine KA.region rfl ?_
    refine KOps.move ?_
    refine KOps.assign ?_
    refine KOps.assign ?_
    refine KOps.done ?_
    refine sqQ.normal ?_
    refine KA.sub (Sub.cons (t := 4) Look.eq (Sub.cons (t := 5) Look.eq (Sub.nil _))) ?_
    refine KA.ret ?_
    refine fnQ.retN ?_
    have hie : i = l.length := by omega
    subst hie
    rw [setE, if_pos h0, h0]
    exact ⟨rfl, hS.keeps⟩

end Go.Am

namespace Go.Am
section
variable {P : Program} {n : Nat} {ops : Array Oper} {ex : List Nat} {Q : KF → AHeap → Prop} {k : Nat} {os : List Oper} {K : KF} {h : AHeap} {d : Nat} {ty : TypeId} {pos : String} {after : Array Edge}
theorem KOps.addK {t t' : TypeId} {x y : Operand} {kd : IntKind} {a b : Int} [hx : EvK h.globs n K x (.int kd a)] [hy : EvK h.globs n K y (.int kd b)] (hw : kd.wrap (a + b) = a + b) (hk : KOps P n ops ex Q (k + 1) os ((d, .int kd (a + b)) :: K) h) : KOps P n ops ex Q k (⟨some d, .binOp .add t x y t', ty, pos, after, none⟩ :: os) K h :=
  KOps.int (.inr (.inr rfl)) (by rw [← hw]; rfl) hk
end
theorem add8 : ∀ k : Nat, k < 64 → IntKind.wrap .u8 ((k : Int) + 1) = (k : Int) + 1 := by decide +kernel
theorem shl8 : ∀ i : Nat, i ≤ 6 → IntKind.wrap .u8 (1 * 2 ^ Min.min (i : Int).toNat (IntKind.bits .u8)) = ((2 ^ i : Nat) : Int) := by decide +kernel
/-- How many rooms sets have, for each set of rooms. -/
def sizesC : List AV := (List.range 64).map fun s => .int .i8 ((roomsTo s 6).length : Int)
def Sizes (h : AHeap) : Prop := h.globs.contains 0 = true ∧ Rd h (.ptr 0 0) 0 sizesC
theorem Sizes.ext {h h' : AHeap} (z : Sizes h) (k : Keeps h h') : Sizes h' := ⟨by rw [k.globs]; exact z.1, Rd.ext k z.2⟩
theorem Sizes.ev {h : AHeap} (z : Sizes h) (n : Nat) (K : KF) : EvK h.globs n K (.global 0) (.ptr 0 0) := ⟨by simp only [evalK]; rw [if_pos z.1]⟩
theorem sizes_get {k : Nat} (hk : k < 64) : sizesC[0 + k]? = some (.int .i8 ((roomsTo k 6).length : Int)) := by
  rw [Nat.zero_add, sizesC, List.getElem?_map, List.getElem?_range hk]; rfl
theorem addr0 : AddrOf (.ptr 0 0) (.ptr 0 0) 0 0 := ⟨0, 0, .inr ⟨rfl, rfl⟩, rfl⟩
def szO (o : Option Nat) : Nat := match o with | none => 7 | some b => (roomsTo b 6).length
def rowO (o : Option Nat) : List Int := match o with | none => [] | some b => roomsTo b 6
theorem fewL_is (p : Nat → Bool) (k : Nat) : fewL p k = rowO (bestTo p k) := by unfold fewL rowO; cases bestTo p k <;> rfl
theorem better_lt {o : Option Nat} {k : Nat} (h : (roomsTo k 6).length < szO o) : betterO o k = true := by
  cases o with
  | none => rfl
  | some b =>
    have h : (roomsTo k 6).length < (roomsTo b 6).length := h
    show befB _ _ = true
    rw [befB_len (by omega), decide_eq_true h]
theorem better_gt {o : Option Nat} {k : Nat} (h : szO o < (roomsTo k 6).length) : betterO o k = false := by
  cases o with
  | none =>
    have h : 7 < (roomsTo k 6).length := h
    have := roomsTo_len k 6
    omega
  | some b =>
    have h : (roomsTo b 6).length < (roomsTo k 6).length := h
    show befB _ _ = false
    rw [befB_len (by omega), decide_eq_false (by omega)]
theorem better_eq {o : Option Nat} {k : Nat} (h : (roomsTo k 6).length = szO o) : betterO o k = befB (roomsTo k 6) (rowO o) ∧ (roomsTo k 6).length = (rowO o).length := by
  cases o with
  | none =>
    have h : (roomsTo k 6).length = 7 := h
    have := roomsTo_len k 6
    omega
  | some b => exact ⟨rfl, h⟩
theorem best_no {p : Nat → Bool} {k : Nat} (h : (p k && betterO (bestTo p k) k) = false) : bestTo p (k + 1) = bestTo p k := by rw [bestTo, if_neg (by rw [h]; decide)]
theorem best_yes {p : Nat → Bool} {k : Nat} (h : p k = true) (h2 : betterO (bestTo p k) k = true) : bestTo p (k + 1) = some k := by rw [bestTo, if_pos (by rw [h, h2]; rfl)]

theorem fewest_c {h : AHeap} {r : Nat} {vW vi : AV} {ws : List W} {p : Nat → Bool} (hv : Rd h vW 4 (flr wc ws)) (hr : r ≤ 6) (hSz : Sizes h) (hone : vi.one = true)
    (hP : ∀ (h' : AHeap) (s : Nat), Keeps h h' → s < 2 ^ r → CallsV Go.Proofs.Tryd.prog vi [.int .u8 (s : Int)] h' (fun q h2 => q = .bool (p s) ∧ Keeps h' h2)) : ACalls Go.Proofs.Tryd.prog 71 [.agg [.int .i64 (r : Int), vW], vi] h (fun q h' => St h h' [⟨q, 1, ints (fewL p (2 ^ r)), true⟩]) := by
  refine KA.fn 45 [.tmp 4] Go.Proofs.Tryd.func71 rfl (by decide) rfl rfl (Nat.le_of_ble_eq_true rfl) ?_
  have hS := St.refl h
  have hvo : vW.one = true := hv.one
  have hpw : 2 ^ r ≤ 2 ^ 6 := Nat.pow_le_pow_right (by decide) hr
  have hsh := shl8 r hr
  show KA _ 45 _ _ [(0, .agg [.int .i64 (r : Int), vW]), (1, vi)] _
  refine KA.seq ?_
  refine KA.region rfl ?_
  refine KOps.boxAll hS (by first | rfl | (simp [AV.one]; done) | (simp [AV.one]; assumption) | (simp [AV.one, *]; done)) ?_
  intro p2 h' hp2 hS
  refine KOps.assign ?_
  refine KOps.done ?_
  refine sqQ.normal ?_
  refine KA.sub (Sub.cons (t := 1) Look.eq (Sub.cons (t := 2) Look.eq (Sub.nil _))) ?_
  refine KA.seq ?_
  refine KA.region rfl ?_
  refine KOps.assign ?_
  refine KOps.done ?_
  refine sqQ.normal ?_
  refine KA.seq ?_
  refine KA.region rfl ?_
  refine KOps.assign ?_
  refine KOps.done ?_
  refine sqQ.normal ?_
  refine KA.seq ?_
  refine KA.seq ?_
  refine KA.region rfl ?_
  refine KOps.fieldAddr hp2 ?_
  intro p9 hp9
  refine KOps.load hp9 (hS.rd 0 rfl) rfl ?_
  refine KOps.shl (by omega) ?_
  rw [hsh]
  refine KOps.move ?_
  refine KOps.done ?_
  refine sqQ.normal ?_
  refine KA.sub (Sub.cons (t := 1) Look.eq (Sub.cons (t := 5) Look.eq (Sub.cons (t := 6) Look.eq (Sub.cons (t := 11) Look.eq (Sub.cons (t := 12) Look.eq (Sub.nil _)))))) ?_
  refine KA.block ?_
  refine KA.loop (X := Nat × AV) (fun x => [(1, vi), (5, x.2), (6, .int .i8 (szO (bestTo p x.1) : Int)), (11, .int .u8 ((2 ^ r : Nat) : Int)), (12, .int .u8 (x.1 : Int))]) (fun x h' => x.1 ≤ 2 ^ r ∧ St h h' [⟨p2, 0, [.int .i64 (r : Int), vW], true⟩, ⟨x.2, 1, ints (rowO (bestTo p x.1)), true⟩]) (fun x => 2 ^ r - x.1) (0, .nils) (by repeat (first | exact Sub.nil _ | refine Sub.cons Look.eq ?_ | refine Sub.cons (Eq.trans Look.eq (congrArg (AV.int _) (by first | omega | (dsimp only; omega)))) ?_)) ?_ ?_
  · exact ⟨Nat.zero_le _, St.addNil 1 true hS⟩
  rintro ⟨k, vo⟩ h4 ⟨hk, hS⟩
  dsimp only at hk hS ⊢
  have hkl := roomsTo_len k 6
  refine KA.seq ?_
  refine KA.region rfl ?_
  refine KOps.lss ?_
  refine KOps.done ?_
  refine sqQ.normal ?_
  refine KA.seq ?_
  refine KA.condD ?_ ?_
  · intro c13
    refine KA.skip ?_
    refine sqQ.normal ?_
    refine KA.sub (Sub.cons (t := 1) Look.eq (Sub.cons (t := 5) Look.eq (Sub.cons (t := 6) Look.eq (Sub.cons (t := 11) Look.eq (Sub.cons (t := 12) Look.eq (Sub.nil _)))))) ?_
    refine KA.seq ?_
    refine KA.block ?_
    refine KA.seq ?_
    refine KA.region rfl ?_
    refine KOps.move ?_
    refine KOps.assign ?_
    refine KOps.done ?_
    refine sqQ.normal ?_
    refine KA.sub (Sub.cons (t := 1) Look.eq (Sub.cons (t := 5) Look.eq (Sub.cons (t := 6) Look.eq (Sub.cons (t := 7) Look.eq (Sub.cons (t := 11) Look.eq (Sub.cons (t := 12) Look.eq (Sub.nil _))))))) ?_
    refine KA.seq ?_
    refine KA.seq ?_
    refine KA.region rfl ?_
    refine KOps.move ?_
    have hz := hSz.ext hS.keeps
    haveI hzi := hz.ev
    refine KOps.indexAt (v := .ptr 0 0) addr0 (j := k) rfl (by omega) ?_
    intro p16 hp16
    refine KOps.load hp16 hz.2 (sizes_get (by omega)) ?_
    refine KOps.move ?_
    refine KOps.gtr ?_
    refine KOps.move ?_
    refine KOps.guardB (dj := 20) rfl rfl false true rfl ?_ ?_
    · intro g20
      have g20 := of_decide_eq_false g20
      refine KOps.move ?_
      refine KOps.guardYes (dj := 20) rfl rfl ?_
      refine KOps.move ?_
      refine KOps.guardYes (dj := 20) rfl rfl ?_
      refine KOps.callV rfl (hP _ k hS.keeps (by omega)) ?_
      rintro _ h5 ⟨rfl, hK⟩
      have hS0 : St _ _ (_ :: _) := St.trans hS (St.ofK hK)
      clear hS
      have hS := hS0
      clear hS0
      refine KOps.guardYes (dj := 20) rfl rfl ?_
      refine KOps.not ?_
      refine KOps.pickF ?_
      refine KOps.done ?_
      refine sqQ.normal ?_
      refine KA.sub (Sub.cons (t := 1) Look.eq (Sub.cons (t := 5) Look.eq (Sub.cons (t := 6) Look.eq (Sub.cons (t := 7) Look.eq (Sub.cons (t := 11) Look.eq (Sub.cons (t := 12) Look.eq (Sub.cons (t := 21) Look.eq (Sub.cons (t := 22) Look.eq (Sub.cons (t := 23) Look.eq (Sub.cons (t := 24) Look.eq (Sub.cons (t := 25) Look.eq (Sub.nil _)))))))))))) ?_
      refine KA.condB ?_ ?_
      · intro c25
        refine KA.exit ?_
        refine sqQ.exit ?_
        refine blQ.here ?_
        refine sqQ.normal ?_
        refine KA.sub (Sub.cons (t := 1) Look.eq (Sub.cons (t := 5) Look.eq (Sub.cons (t := 6) Look.eq (Sub.cons (t := 11) Look.eq (Sub.cons (t := 12) Look.eq (Sub.cons (t := 21) Look.eq (Sub.cons (t := 22) Look.eq (Sub.cons (t := 23) Look.eq (Sub.cons (t := 24) Look.eq (Sub.nil _)))))))))) ?_
        refine KA.region rfl ?_
        refine KOps.addK (add8 k (by omega)) ?_
        refine KOps.move ?_
        refine KOps.done ?_
        have hb := best_no (p := p) (k := k) (by rw [show p k = false by simpa using c25, Bool.false_and])
        refine lpQ.normal (k + 1, vo) (by repeat (first | exact Sub.nil _ | refine Sub.cons Look.eq ?_ | refine Sub.cons (Eq.trans Look.eq (congrArg (AV.int _) (by first | omega | (dsimp only; omega)))) ?_ | refine Sub.cons (Eq.trans Look.eq (by rw [hb])) ?_)) ⟨by dsimp only; omega, ?_⟩ (by dsimp only; omega)
        dsimp only
        rw [hb]
        exact hS
      · intro c25
        refine KA.skip ?_
        refine sqQ.normal ?_
        refine KA.sub (Sub.cons (t := 1) Look.eq (Sub.cons (t := 5) Look.eq (Sub.cons (t := 6) Look.eq (Sub.cons (t := 7) Look.eq (Sub.cons (t := 11) Look.eq (Sub.cons (t := 12) Look.eq (Sub.cons (t := 21) Look.eq (Sub.cons (t := 22) Look.eq (Sub.cons (t := 23) Look.eq (Sub.cons (t := 24) Look.eq (Sub.nil _))))))))))) ?_
        refine KA.seq ?_
        refine KA.region rfl ?_
        refine KOps.move ?_
        refine KOps.call rfl (list_c (by omega)) ?_
        rintro vl h6 hL
        have hS0 : St _ _ (_ :: _) := St.trans hS hL
        clear hS
        have hS := hS0
        clear hS0
        refine KOps.assign ?_
        refine KOps.done ?_
        refine sqQ.normal ?_
        refine KA.sub (Sub.cons (t := 1) Look.eq (Sub.cons (t := 5) Look.eq (Sub.cons (t := 6) Look.eq (Sub.cons (t := 7) Look.eq (Sub.cons (t := 8) Look.eq (Sub.cons (t := 11) Look.eq (Sub.cons (t := 12) Look.eq (Sub.cons (t := 21) Look.eq (Sub.cons (t := 22) Look.eq (Sub.cons (t := 23) Look.eq (Sub.cons (t := 24) Look.eq (Sub.nil _)))))))))))) ?_
        refine KA.seq ?_
        refine KA.region rfl ?_
        refine KOps.move ?_
        have hz := hSz.ext hS.keeps
        haveI hzi := hz.ev
        refine KOps.indexAt (v := .ptr 0 0) addr0 (j := k) rfl (by omega) ?_
        intro p29 hp29
        refine KOps.load hp29 hz.2 (sizes_get (by omega)) ?_
        refine KOps.move ?_
        refine KOps.lss ?_
        refine KOps.move ?_
        refine KOps.guardB (dj := 33) rfl rfl false true rfl ?_ ?_
        · intro g33
          have g33 := of_decide_eq_false g33
          refine KOps.move ?_
          refine KOps.guardYes (dj := 33) rfl rfl ?_
          refine KOps.move ?_
          refine KOps.guardYes (dj := 33) rfl rfl ?_
          refine KOps.call rfl (compares_c (hS.rd 0 rfl) (hS.rd 2 rfl) (by omega) (better_eq (by omega)).2) ?_
          rintro _ _ ⟨⟨c, rfl, hc⟩, rfl⟩
          refine KOps.guardYes (dj := 33) rfl rfl ?_
          refine KOps.lss ?_
          refine KOps.pickF ?_
          refine KOps.done ?_
          refine sqQ.normal ?_
          refine KA.sub (Sub.cons (t := 1) Look.eq (Sub.cons (t := 5) Look.eq (Sub.cons (t := 6) Look.eq (Sub.cons (t := 7) Look.eq (Sub.cons (t := 8) Look.eq (Sub.cons (t := 11) Look.eq (Sub.cons (t := 12) Look.eq (Sub.cons (t := 21) Look.eq (Sub.cons (t := 22) Look.eq (Sub.cons (t := 23) Look.eq (Sub.cons (t := 24) Look.eq (Sub.cons (t := 34) Look.eq (Sub.cons (t := 35) Look.eq (Sub.cons (t := 36) Look.eq (Sub.cons (t := 37) Look.eq (Sub.cons (t := 38) Look.eq (Sub.nil _))))))))))))))))) ?_
          refine KA.condD ?_ ?_
          · intro c38
            refine KA.draw [] mixed rfl (by kernel_rfl) ?_
            refine KOps.move ?_
            refine KOps.move ?_
            have hz := hSz.ext hS.keeps
            haveI hzi := hz.ev
            refine KOps.indexAt (v := .ptr 0 0) addr0 (j := k) rfl (by omega) ?_
            intro p41 hp41
            refine KOps.load hp41 hz.2 (sizes_get (by omega)) ?_
            refine KOps.assign ?_
            refine KOps.assign ?_
            refine KOps.done ?_
            refine blQ.normal ?_
            refine sqQ.normal ?_
            refine KA.sub (Sub.cons (t := 1) Look.eq (Sub.cons (t := 5) Look.eq (Sub.cons (t := 6) Look.eq (Sub.cons (t := 11) Look.eq (Sub.cons (t := 12) Look.eq (Sub.cons (t := 21) Look.eq (Sub.cons (t := 22) Look.eq (Sub.cons (t := 23) Look.eq (Sub.cons (t := 24) Look.eq (Sub.cons (t := 34) Look.eq (Sub.cons (t := 35) Look.eq (Sub.cons (t := 36) Look.eq (Sub.cons (t := 37) Look.eq (Sub.nil _)))))))))))))) ?_
            refine KA.region rfl ?_
            refine KOps.addK (add8 k (by omega)) ?_
            refine KOps.move ?_
            refine KOps.done ?_
            have hb := best_yes (p := p) (k := k) (by simpa using c25) (by rw [(better_eq (by omega)).1]; exact hc.1 (by omega))
            refine lpQ.normal (k + 1, vl) (by repeat (first | exact Sub.nil _ | refine Sub.cons Look.eq ?_ | refine Sub.cons (Eq.trans Look.eq (congrArg (AV.int _) (by first | omega | (dsimp only; omega)))) ?_ | refine Sub.cons (Eq.trans Look.eq (by rw [hb]; rfl)) ?_)) ⟨by dsimp only; omega, ?_⟩ (by dsimp only; omega)
            dsimp only
            rw [hb]
            exact St.pick [1, 0] (by decide) rfl hS
          · intro c38
            refine KA.skip ?_
            refine blQ.normal ?_
            refine sqQ.normal ?_
            refine KA.sub (Sub.cons (t := 1) Look.eq (Sub.cons (t := 5) Look.eq (Sub.cons (t := 6) Look.eq (Sub.cons (t := 11) Look.eq (Sub.cons (t := 12) Look.eq (Sub.cons (t := 21) Look.eq (Sub.cons (t := 22) Look.eq (Sub.cons (t := 23) Look.eq (Sub.cons (t := 24) Look.eq (Sub.cons (t := 34) Look.eq (Sub.cons (t := 35) Look.eq (Sub.cons (t := 36) Look.eq (Sub.cons (t := 37) Look.eq (Sub.nil _)))))))))))))) ?_
            refine KA.region rfl ?_
            refine KOps.addK (add8 k (by omega)) ?_
            refine KOps.move ?_
            refine KOps.done ?_
            have hb := best_no (p := p) (k := k) (by rw [(better_eq (by omega)).1, show befB (roomsTo k 6) (rowO (bestTo p k)) = false from Bool.eq_false_iff.2 (fun h0 => by have := hc.2 h0; omega), Bool.and_false])
            refine lpQ.normal (k + 1, vo) (by repeat (first | exact Sub.nil _ | refine Sub.cons Look.eq ?_ | refine Sub.cons (Eq.trans Look.eq (congrArg (AV.int _) (by first | omega | (dsimp only; omega)))) ?_ | refine Sub.cons (Eq.trans Look.eq (by rw [hb])) ?_)) ⟨by dsimp only; omega, ?_⟩ (by dsimp only; omega)
            dsimp only
            rw [hb]
            exact St.tail hS
        · intro g33
          have g33 := of_decide_eq_true g33
          refine KOps.guardNo (dj := 33) rfl rfl rfl ?_
          refine KOps.guardNo (dj := 33) rfl rfl rfl ?_
          refine KOps.guardNo (dj := 33) rfl rfl rfl ?_
          refine KOps.pickT ?_
          refine KOps.done ?_
          refine sqQ.normal ?_
          refine KA.sub (Sub.cons (t := 1) Look.eq (Sub.cons (t := 5) Look.eq (Sub.cons (t := 6) Look.eq (Sub.cons (t := 7) Look.eq (Sub.cons (t := 8) Look.eq (Sub.cons (t := 11) Look.eq (Sub.cons (t := 12) Look.eq (Sub.cons (t := 21) Look.eq (Sub.cons (t := 22) Look.eq (Sub.cons (t := 23) Look.eq (Sub.cons (t := 24) Look.eq (Sub.cons (t := 34) Look.eq (Sub.cons (t := 35) Look.eq (Sub.cons (t := 36) Look.eq (Sub.cons (t := 37) Look.eq (Sub.cons (t := 38) Look.eq (Sub.nil _))))))))))))))))) ?_
          refine KA.condT ?_
          refine KA.draw [] mixed rfl (by kernel_rfl) ?_
          refine KOps.move ?_
          refine KOps.move ?_
          have hz := hSz.ext hS.keeps
          haveI hzi := hz.ev
          refine KOps.indexAt (v := .ptr 0 0) addr0 (j := k) rfl (by omega) ?_
          intro p41 hp41
          refine KOps.load hp41 hz.2 (sizes_get (by omega)) ?_
          refine KOps.assign ?_
          refine KOps.assign ?_
          refine KOps.done ?_
          refine blQ.normal ?_
          refine sqQ.normal ?_
          refine KA.sub (Sub.cons (t := 1) Look.eq (Sub.cons (t := 5) Look.eq (Sub.cons (t := 6) Look.eq (Sub.cons (t := 11) Look.eq (Sub.cons (t := 12) Look.eq (Sub.cons (t := 21) Look.eq (Sub.cons (t := 22) Look.eq (Sub.cons (t := 23) Look.eq (Sub.cons (t := 24) Look.eq (Sub.cons (t := 34) Look.eq (Sub.cons (t := 35) Look.eq (Sub.cons (t := 36) Look.eq (Sub.cons (t := 37) Look.eq (Sub.nil _)))))))))))))) ?_
          refine KA.region rfl ?_
          refine KOps.addK (add8 k (by omega)) ?_
          refine KOps.move ?_
          refine KOps.done ?_
          have hb := best_yes (p := p) (k := k) (by simpa using c25) (better_lt (by omega))
          refine lpQ.normal (k + 1, vl) (by repeat (first | exact Sub.nil _ | refine Sub.cons Look.eq ?_ | refine Sub.cons (Eq.trans Look.eq (congrArg (AV.int _) (by first | omega | (dsimp only; omega)))) ?_ | refine Sub.cons (Eq.trans Look.eq (by rw [hb]; rfl)) ?_)) ⟨by dsimp only; omega, ?_⟩ (by dsimp only; omega)
          dsimp only
          rw [hb]
          exact St.pick [1, 0] (by decide) rfl hS
    · intro g20
      have g20 := of_decide_eq_true g20
      refine KOps.guardNo (dj := 20) rfl rfl rfl ?_
      refine KOps.guardNo (dj := 20) rfl rfl rfl ?_
      refine KOps.guardNo (dj := 20) rfl rfl rfl ?_
      refine KOps.pickT ?_
      refine KOps.done ?_
      refine sqQ.normal ?_
      refine KA.sub (Sub.cons (t := 1) Look.eq (Sub.cons (t := 5) Look.eq (Sub.cons (t := 6) Look.eq (Sub.cons (t := 7) Look.eq (Sub.cons (t := 11) Look.eq (Sub.cons (t := 12) Look.eq (Sub.cons (t := 21) Look.eq (Sub.cons (t := 22) Look.eq (Sub.cons (t := 23) Look.eq (Sub.cons (t := 24) Look.eq (Sub.cons (t := 25) Look.eq (Sub.nil _)))))))))))) ?_
      refine KA.condT ?_
      refine KA.exit ?_
      refine sqQ.exit ?_
      refine blQ.here ?_
      refine sqQ.normal ?_
      refine KA.sub (Sub.cons (t := 1) Look.eq (Sub.cons (t := 5) Look.eq (Sub.cons (t := 6) Look.eq (Sub.cons (t := 11) Look.eq (Sub.cons (t := 12) Look.eq (Sub.cons (t := 21) Look.eq (Sub.cons (t := 22) Look.eq (Sub.cons (t := 23) Look.eq (Sub.cons (t := 24) Look.eq (Sub.nil _)))))))))) ?_
      refine KA.region rfl ?_
      refine KOps.addK (add8 k (by omega)) ?_
      refine KOps.move ?_
      refine KOps.done ?_
      have hb := best_no (p := p) (k := k) (by rw [better_gt (by omega), Bool.and_false])
      refine lpQ.normal (k + 1, vo) (by repeat (first | exact Sub.nil _ | refine Sub.cons Look.eq ?_ | refine Sub.cons (Eq.trans Look.eq (congrArg (AV.int _) (by first | omega | (dsimp only; omega)))) ?_ | refine Sub.cons (Eq.trans Look.eq (by rw [hb])) ?_)) ⟨by dsimp only; omega, ?_⟩ (by dsimp only; omega)
      dsimp only
      rw [hb]
      exact hS
  · intro c13
    refine KA.exit ?_
    refine sqQ.exit ?_
    refine lpQ.exit ?_
    refine blQ.here ?_
    refine sqQ.normal ?_
    refine KA.sub (Sub.cons (t := 5) Look.eq (Sub.nil _)) ?_
    refine KA.seq ?_
    refine KA.region rfl ?_
    refine KOps.move ?_
    refine KOps.assign ?_
    refine KOps.done ?_
    refine sqQ.normal ?_
    refine KA.sub (Sub.cons (t := 4) Look.eq (Sub.nil _)) ?_
    refine KA.ret ?_
    refine fnQ.ret1 ?_
    rw [fewL_is, show 2 ^ r = k by omega]
    exact St.pick [1] (by decide) rfl hS

end Go.Am

namespace Go.Am
theorem inS_full {r : Nat} {x : Int} (h0 : 0 ≤ x) (h1 : x < r) : inS (2 ^ r - 1) x = true := by
  unfold inS
  rw [Nat.testBit_two_pow_sub_one]
  exact decide_eq_true (by omega)
theorem lvs_full {r : Nat} {w : W} (h : WOk (r : Int) w) : lvs w (2 ^ r - 1) = false ∧ ens w (2 ^ r - 1) = false := by
  unfold lvs ens
  rw [inS_full h.f0 h.f1, inS_full h.t0 h.t1]
  exact ⟨rfl, rfl⟩
theorem proof_full {r : Nat} {ws : List W} (hB : BOk (r : Int) ws) : proofB ws (2 ^ r - 1) = false := by
  have key : ∀ k, k ≤ ws.length → netTo ws (2 ^ r - 1) k = 0 := by
    intro k
    induction k with
    | zero => intro _; rfl
    | succ k ih =>
      intro hk
      have h := lvs_full (hB.way k (by omega))
      rw [netTo, ih (by omega), h.1, h.2]
      rfl
  rw [proofB, key _ (Nat.le_refl _)]
  rfl
theorem can_no {r : Nat} {ws : List W} (h : canB r ws = false) : ∃ s, s < 2 ^ r ∧ proofB ws s = true := by
  unfold canB at h
  rw [List.all_eq_false] at h
  obtain ⟨s, hs, hp⟩ := h
  exact ⟨s, List.mem_range.1 hs, by simpa using hp⟩
def againE (rm : Int) (ws : List W) : Int := if chkB rm ws = 0 then (if canP rm ws = true then 13 else 0) else chkB rm ws
theorem again_ok {rm : Int} {ws : List W} (h : againE rm ws = 0) : chkB rm ws = 0 ∧ canP rm ws = false := by
  unfold againE at h
  by_cases h1 : chkB rm ws = 0
  · rw [if_pos h1] at h
    cases hc : canP rm ws with
    | true => rw [hc] at h; exact absurd h (by decide)
    | false => exact ⟨h1, rfl⟩
  · rw [if_neg h1] at h; exact absurd h h1
theorem again_some {r : Nat} {ws : List W} (h : chkB (r : Int) ws = 0) (h2 : canP (r : Int) ws = false) : ∃ s, s < 2 ^ r ∧ proofB ws s = true := by
  unfold canP at h2
  rw [decide_eq_true h, Bool.true_and, Int.toNat_natCast] at h2
  exact can_no h2
def provE (rm : Int) (ws : List W) (l : List Int) : Int := if chkB rm ws = 0 then (if roomsE rm l l.length = 0 then (if proofB ws (setE rm l) = true then 0 else 14) else roomsE rm l l.length) else chkB rm ws
theorem setTo_lt {rm : Int} {l : List Int} (hr : rm ≤ 6) : ∀ i, roomsE rm l i = 0 → setTo l i < 64 := by
  intro i
  induction i with
  | zero => intro _; exact (show 0 < 64 by decide)
  | succ i ih =>
    intro h
    rw [roomsE] at h
    by_cases h1 : roomsE rm l i = 0
    · rw [if_pos h1] at h
      refine set_next (rm := rm) (ih h1) ?_ hr
      refine Classical.byContradiction fun h2 => ?_
      rw [roomE_in h2] at h
      cases h
    · rw [if_neg h1] at h; exact absurd h h1
theorem setE_lt {rm : Int} {l : List Int} (hr : rm ≤ 6) : setE rm l < 64 := by
  unfold setE
  split
  · rename_i h; exact setTo_lt hr _ h
  · decide

theorem against_c {h : AHeap} {rm : Int} {vW : AV} {ws : List W} (hv : Rd h vW 4 (flr wc ws)) (hSz : Sizes h) : ACalls Go.Proofs.Tryd.prog 29 [.agg [.int .i64 rm, vW]] h (fun q h' => ∃ vo, q = .tup [vo, .int .i64 (againE rm ws)] ∧ St h h' [⟨vo, 1, ints (if againE rm ws = 0 then fewL (proofB ws) (2 ^ rm.toNat) else []), true⟩]) := by
  refine KA.fn 21 [.tmp 2, .tmp 3] Go.Proofs.Tryd.func29 rfl (by decide) rfl rfl (Nat.le_of_ble_eq_true rfl) ?_
  have hS := St.refl h
  have hvo : vW.one = true := hv.one
  show KA _ 21 _ _ [(0, .agg [.int .i64 rm, vW])] _
  refine KA.seq ?_
  refine KA.region rfl ?_
  refine KOps.boxAll hS (by first | rfl | (simp [AV.one]; done) | (simp [AV.one]; assumption) | (simp [AV.one, *]; done)) ?_
  intro p1 h' hp1 hS
  refine KOps.assign ?_
  refine KOps.assign ?_
  refine KOps.done ?_
  refine sqQ.normal ?_
  refine KA.sub (Sub.cons (t := 1) Look.eq (Sub.nil _)) ?_
  refine KA.seq ?_
  refine KA.region rfl ?_
  refine KOps.loadAll hS (i := 0) rfl hp1 (by rfl) (by decide) ?_
  refine KOps.call rfl (stCan_c (Rd.ext hS.keeps hv)) ?_
  rintro _ h5 ⟨rfl, hK⟩
  have hS0 : St _ _ (_ :: _) := St.trans hS (St.ofK hK)
  clear hS
  have hS := hS0
  clear hS0
  refine KOps.move ?_
  refine KOps.extract ?_
  refine KOps.extract ?_
  refine KOps.assign ?_
  refine KOps.assign ?_
  refine KOps.done ?_
  refine sqQ.normal ?_
  refine KA.sub (Sub.cons (t := 1) Look.eq (Sub.cons (t := 4) Look.eq (Sub.cons (t := 5) Look.eq (Sub.nil _)))) ?_
  refine KA.seq ?_
  refine KA.block ?_
  refine KA.seq ?_
  refine KA.region rfl ?_
  refine KOps.move ?_
  refine KOps.neq ?_
  refine KOps.assign ?_
  refine KOps.done ?_
  refine sqQ.normal ?_
  refine KA.sub (Sub.cons (t := 1) Look.eq (Sub.cons (t := 4) Look.eq (Sub.cons (t := 5) Look.eq (Sub.cons (t := 11) Look.eq (Sub.nil _))))) ?_
  refine KA.condN ?_ ?_
  · intro c11
    refine KA.seq ?_
    refine KA.region rfl ?_
    refine KOps.move ?_
    refine KOps.assign ?_
    refine KOps.assign ?_
    refine KOps.done ?_
    refine sqQ.normal ?_
    refine KA.sub (Sub.cons (t := 2) Look.eq (Sub.cons (t := 3) Look.eq (Sub.nil _))) ?_
    refine KA.ret ?_
    refine blQ.ret ?_
    refine sqQ.ret ?_
    refine fnQ.retN ?_
    have e0 : againE rm ws = chkB rm ws := by rw [againE, if_neg (by omega)]
    rw [if_neg (by rw [e0]; omega), e0]
    exact ⟨_, rfl, St.pick [1] (by decide) rfl (St.addNil 1 true hS)⟩
  · intro c11
    refine KA.seq ?_
    refine KA.region rfl ?_
    refine KOps.move ?_
    refine KOps.assign ?_
    refine KOps.done ?_
    refine sqQ.normal ?_
    refine KA.sub (Sub.cons (t := 1) Look.eq (Sub.cons (t := 15) Look.eq (Sub.nil _))) ?_
    refine KA.condB ?_ ?_
    · intro c15
      refine KA.seq ?_
      refine KA.region rfl ?_
      refine KOps.assign ?_
      refine KOps.assign ?_
      refine KOps.done ?_
      refine sqQ.normal ?_
      refine KA.sub (Sub.cons (t := 2) Look.eq (Sub.cons (t := 3) Look.eq (Sub.nil _))) ?_
      refine KA.ret ?_
      refine blQ.ret ?_
      refine sqQ.ret ?_
      refine fnQ.retN ?_
      have e0 : againE rm ws = 13 := by rw [againE, if_pos (by omega), if_pos c15]
      rw [if_neg (by rw [e0]; decide), e0]
      exact ⟨_, rfl, St.pick [1] (by decide) rfl (St.addNil 1 true hS)⟩
    · intro c15
      have hc0 : chkB rm ws = 0 := by omega
      have hB := BOk.of hc0
      obtain ⟨r, rfl⟩ : ∃ r : Nat, rm = (r : Int) := ⟨rm.toNat, by have := hB.r2; omega⟩
      have hr6 := hB.r6
      have hpw : 2 ^ r ≤ 2 ^ 6 := Nat.pow_le_pow_right (by decide) (by omega)
      refine KA.skip ?_
      refine blQ.normal ?_
      refine sqQ.normal ?_
      refine KA.sub (Sub.cons (t := 1) Look.eq (Sub.nil _)) ?_
      refine KA.seq ?_
      refine KA.region rfl ?_
      refine KOps.loadAll hS (i := 0) rfl hp1 (by rfl) (by decide) ?_
      refine KOps.loadAll hS (i := 0) rfl hp1 (by rfl) (by decide) ?_
      refine KOps.makeMeth ?_
      refine KOps.call rfl (fewest_c (r := r) (p := proofB ws) (vi := .fnm 72 [.agg [.int .i64 (r : Int), vW]] []) (Rd.ext hS.keeps hv) (by omega) (hSz.ext hS.keeps) rfl (fun h' s hK hs => ACalls.mono (proof_c (s := s) (Rd.ext (hS.keeps.trans hK) hv) hB (by omega)) (fun _ _ hx => hx))) ?_
      rintro vo h6 hF
      refine KOps.assign ?_
      refine KOps.assign ?_
      refine KOps.done ?_
      refine sqQ.normal ?_
      refine KA.sub (Sub.cons (t := 2) Look.eq (Sub.cons (t := 3) Look.eq (Sub.nil _))) ?_
      refine KA.ret ?_
      refine fnQ.retN ?_
      have e0 : againE (r : Int) ws = 0 := by rw [againE, if_pos hc0, if_neg (by rw [c15]; decide)]
      rw [if_pos e0, e0, Int.toNat_natCast]
      exact ⟨_, rfl, St.pick [0] (by decide) rfl (St.trans hS hF)⟩

theorem refAgainst_c {h : AHeap} {rm : Int} {vW : AV} {ws : List W} (hv : Rd h vW 4 (flr wc ws)) : ACalls Go.Proofs.Tryd.prog 30 [.agg [.int .i64 rm, vW]] h (fun q h' => ∃ vo, q = .tup [vo, .int .i64 (againE rm ws)] ∧ St h h' [⟨vo, 1, ints (if againE rm ws = 0 then fewL (proofB ws) (2 ^ rm.toNat) else []), true⟩]) := by
  refine KA.fn 45 [.tmp 2, .tmp 3] Go.Proofs.Tryd.func30 rfl (by decide) rfl rfl (Nat.le_of_ble_eq_true rfl) ?_
  have hS := St.refl h
  have hvo : vW.one = true := hv.one
  show KA _ 45 _ _ [(0, .agg [.int .i64 rm, vW])] _
  refine KA.seq ?_
  refine KA.region rfl ?_
  refine KOps.boxAll hS (by first | rfl | (simp [AV.one]; done) | (simp [AV.one]; assumption) | (simp [AV.one, *]; done)) ?_
  intro p1 h' hp1 hS
  refine KOps.assign ?_
  refine KOps.assign ?_
  refine KOps.done ?_
  refine sqQ.normal ?_
  refine KA.sub (Sub.cons (t := 1) Look.eq (Sub.nil _)) ?_
  refine KA.seq ?_
  refine KA.region rfl ?_
  refine KOps.loadAll hS (i := 0) rfl hp1 (by rfl) (by decide) ?_
  refine KOps.call rfl (refCan_c (Rd.ext hS.keeps hv)) ?_
  rintro _ h5 ⟨rfl, hK⟩
  have hS0 : St _ _ (_ :: _) := St.trans hS (St.ofK hK)
  clear hS
  have hS := hS0
  clear hS0
  refine KOps.move ?_
  refine KOps.extract ?_
  refine KOps.extract ?_
  refine KOps.assign ?_
  refine KOps.assign ?_
  refine KOps.done ?_
  refine sqQ.normal ?_
  refine KA.sub (Sub.cons (t := 1) Look.eq (Sub.cons (t := 4) Look.eq (Sub.cons (t := 5) Look.eq (Sub.nil _)))) ?_
  refine KA.meet (X := Unit) (fun _ => [(1, p1), (5, .int .i64 (againE rm ws))]) (fun _ h' => St h h' [⟨p1, 0, [.int .i64 rm, vW], true⟩]) ?_ ?_
  ·
    refine KA.seq ?_
    refine KA.region rfl ?_
    refine KOps.move ?_
    refine KOps.eql ?_
    refine KOps.move ?_
    refine KOps.guardB (dj := 15) rfl rfl true false rfl ?_ ?_
    · intro g15
      have g15 := of_decide_eq_true g15
      refine KOps.move ?_
      refine KOps.pickT ?_
      refine KOps.done ?_
      refine sqQ.normal ?_
      refine KA.sub (Sub.cons (t := 1) Look.eq (Sub.cons (t := 5) Look.eq (Sub.cons (t := 17) Look.eq (Sub.nil _)))) ?_
      refine KA.condB ?_ ?_
      · intro c17
        refine KA.region rfl ?_
        refine KOps.assign ?_
        refine KOps.done ?_
        exact mtQ.normal () (by repeat (first | exact Sub.nil _ | refine Sub.cons Look.eq ?_ | refine Sub.cons (Eq.trans Look.eq (congrArg (AV.int _) (by first | omega | (dsimp only; omega)))) ?_ | refine Sub.cons (Eq.trans Look.eq (by rw [againE, if_pos g15, if_pos c17])) ?_)) hS
      · intro c17
        refine KA.skip ?_
        exact mtQ.normal () (by repeat (first | exact Sub.nil _ | refine Sub.cons Look.eq ?_ | refine Sub.cons (Eq.trans Look.eq (congrArg (AV.int _) (by first | omega | (dsimp only; omega)))) ?_ | refine Sub.cons (Eq.trans Look.eq (by rw [againE, if_pos g15, if_neg (by rw [c17]; decide), g15])) ?_)) hS
    · intro g15
      have g15 := of_decide_eq_false g15
      refine KOps.pickF ?_
      refine KOps.done ?_
      refine sqQ.normal ?_
      refine KA.sub (Sub.cons (t := 1) Look.eq (Sub.cons (t := 5) Look.eq (Sub.cons (t := 17) Look.eq (Sub.nil _)))) ?_
      refine KA.condF ?_
      refine KA.skip ?_
      exact mtQ.normal () (by repeat (first | exact Sub.nil _ | refine Sub.cons Look.eq ?_ | refine Sub.cons (Eq.trans Look.eq (congrArg (AV.int _) (by first | omega | (dsimp only; omega)))) ?_ | refine Sub.cons (Eq.trans Look.eq (by rw [againE, if_neg g15])) ?_)) hS
  ·
    rintro _ h8 hS
    refine KA.seq ?_
    refine KA.seq ?_
    refine KA.region rfl ?_
    refine KOps.move ?_
    refine KOps.neq ?_
    refine KOps.done ?_
    refine sqQ.normal ?_
    refine KA.sub (Sub.cons (t := 1) Look.eq (Sub.cons (t := 5) Look.eq (Sub.cons (t := 19) Look.eq (Sub.nil _)))) ?_
    refine KA.condN ?_ ?_
    · intro c19
      refine KA.seq ?_
      refine KA.region rfl ?_
      refine KOps.move ?_
      refine KOps.assign ?_
      refine KOps.assign ?_
      refine KOps.done ?_
      refine sqQ.normal ?_
      refine KA.sub (Sub.cons (t := 2) Look.eq (Sub.cons (t := 3) Look.eq (Sub.nil _))) ?_
      refine KA.ret ?_
      refine sqQ.ret ?_
      refine fnQ.retN ?_
      rw [if_neg c19]
      exact ⟨_, rfl, St.pick [1] (by decide) rfl (St.addNil 1 true hS)⟩
    · intro c19
      obtain ⟨hc0, hcp⟩ := again_ok c19
      have hB := BOk.of hc0
      obtain ⟨r, rfl⟩ : ∃ r : Nat, rm = (r : Int) := ⟨rm.toNat, by have := hB.r2; omega⟩
      have hr6 := hB.r6
      have hpw : 2 ^ r ≤ 2 ^ 6 := Nat.pow_le_pow_right (by decide) (by omega)
      have hsh := shl64 r (by omega)
      have h1p : 1 ≤ 2 ^ r := Nat.one_le_two_pow
      refine KA.skip ?_
      refine sqQ.normal ?_
      refine KA.sub (Sub.cons (t := 1) Look.eq (Sub.nil _)) ?_
      refine KA.seq ?_
      refine KA.region rfl ?_
      refine KOps.fieldAddr hp1 ?_
      intro p21 hp21
      refine KOps.load hp21 (hS.rd 0 rfl) rfl ?_
      refine KOps.shl (by omega) ?_
      rw [hsh]
      refine KOps.sub (by omega) (by omega) ?_
      rw [show ((2 ^ r : Nat) : Int) - 1 = ((2 ^ r - 1 : Nat) : Int) by omega]
      refine KOps.call rfl (listed_c (s := 2 ^ r - 1) (by omega)) ?_
      rintro vf h6 hL
      have hS0 : St _ _ (_ :: _) := St.trans hS hL
      clear hS
      have hS := hS0
      clear hS0
      refine KOps.assign ?_
      refine KOps.done ?_
      refine sqQ.normal ?_
      refine KA.sub (Sub.cons (t := 1) Look.eq (Sub.cons (t := 6) Look.eq (Sub.nil _))) ?_
      refine KA.seq ?_
      refine KA.seq ?_
      refine KA.region rfl ?_
      refine KOps.assign ?_
      refine KOps.done ?_
      refine sqQ.normal ?_
      refine KA.block ?_
      refine KA.loop (X := Nat × AV) (fun x => [(1, p1), (6, x.2), (7, .int .i64 (x.1 : Int))]) (fun x h' => x.1 ≤ 2 ^ r ∧ St h h' [⟨x.2, 1, ints (fewF (proofB ws) (2 ^ r - 1) x.1), true⟩, ⟨p1, 0, [.int .i64 (r : Int), vW], true⟩]) (fun x => 2 ^ r - x.1) (0, vf) (by repeat (first | exact Sub.nil _ | refine Sub.cons Look.eq ?_ | refine Sub.cons (Eq.trans Look.eq (congrArg (AV.int _) (by first | omega | (dsimp only; omega)))) ?_)) ?_ ?_
      · exact ⟨Nat.zero_le _, hS⟩
      rintro ⟨k, vb⟩ h10 ⟨hk, hS⟩
      dsimp only at hk hS ⊢
      refine KA.seq ?_
      refine KA.seq ?_
      refine KA.region rfl ?_
      refine KOps.move ?_
      refine KOps.fieldAddr hp1 ?_
      intro p27 hp27
      refine KOps.load hp27 (hS.rd 1 rfl) rfl ?_
      refine KOps.shl (by omega) ?_
      rw [hsh]
      refine KOps.lss ?_
      refine KOps.done ?_
      refine sqQ.normal ?_
      refine KA.sub (Sub.cons (t := 1) Look.eq (Sub.cons (t := 6) Look.eq (Sub.cons (t := 7) Look.eq (Sub.cons (t := 30) Look.eq (Sub.nil _))))) ?_
      refine KA.condD ?_ ?_
      · intro c30
        refine KA.skip ?_
        refine sqQ.normal ?_
        refine KA.sub (Sub.cons (t := 1) Look.eq (Sub.cons (t := 6) Look.eq (Sub.cons (t := 7) Look.eq (Sub.nil _)))) ?_
        refine KA.seq ?_
        refine KA.block ?_
        refine KA.seq ?_
        refine KA.region rfl ?_
        refine KOps.loadAll hS (i := 1) rfl hp1 (by rfl) (by decide) ?_
        refine KOps.move ?_
        refine KOps.call rfl (refProof_c (Rd.ext hS.keeps hv) hB (by omega)) ?_
        rintro _ h7 ⟨rfl, hK⟩
        have hS0 : St _ _ (_ :: _) := St.trans hS (St.ofK hK)
        clear hS
        have hS := hS0
        clear hS0
        refine KOps.move ?_
        refine KOps.guardB (dj := 36) rfl rfl true false rfl ?_ ?_
        · intro g36
          refine KOps.move ?_
          refine KOps.guardYes (dj := 36) rfl rfl ?_
          refine KOps.call rfl (listed_c (s := k) (by omega)) ?_
          rintro vl h8 hL
          have hS0 : St _ _ (_ :: _) := St.trans hS hL
          clear hS
          have hS := hS0
          clear hS0
          refine KOps.guardYes (dj := 36) rfl rfl ?_
          refine KOps.move ?_
          refine KOps.guardYes (dj := 36) rfl rfl ?_
          refine KOps.call rfl (before_c (hS.rd 0 rfl) (hS.rd 1 rfl) (by have := roomsTo_len k 6; omega)) ?_
          rintro _ _ ⟨rfl, rfl⟩
          refine KOps.pickT ?_
          refine KOps.done ?_
          refine sqQ.normal ?_
          refine KA.sub (Sub.cons (t := 1) Look.eq (Sub.cons (t := 6) Look.eq (Sub.cons (t := 7) Look.eq (Sub.cons (t := 37) Look.eq (Sub.cons (t := 38) Look.eq (Sub.cons (t := 39) Look.eq (Sub.cons (t := 40) Look.eq (Sub.cons (t := 41) Look.eq (Sub.nil _))))))))) ?_
          refine KA.condB ?_ ?_
          · intro c41
            refine KA.region rfl ?_
            refine KOps.move ?_
            refine KOps.call rfl (listed_c (s := k) (by omega)) ?_
            rintro vm h9 hL
            have hS0 : St _ _ (_ :: _) := St.trans hS hL
            clear hS
            have hS := hS0
            clear hS0
            refine KOps.assign ?_
            refine KOps.done ?_
            refine blQ.normal ?_
            refine sqQ.normal ?_
            refine KA.sub (Sub.cons (t := 1) Look.eq (Sub.cons (t := 6) Look.eq (Sub.cons (t := 7) Look.eq (Sub.cons (t := 37) Look.eq (Sub.cons (t := 38) Look.eq (Sub.cons (t := 39) Look.eq (Sub.cons (t := 40) Look.eq (Sub.nil _)))))))) ?_
            refine KA.region rfl ?_
            refine KOps.move ?_
            refine KOps.add (by first | omega | (simp; omega)) (by first | omega | (simp; omega)) ?_
            refine KOps.assign ?_
            refine KOps.done ?_
            have hfs := fewF_succ (p := proofB ws) (r := r) (by omega) (proof_full hB) (k := k) (by omega)
            rw [g36, c41, Bool.and_self, if_pos rfl] at hfs
            exact lpQ.normal (k + 1, vm) (by repeat (first | exact Sub.nil _ | refine Sub.cons Look.eq ?_ | refine Sub.cons (Eq.trans Look.eq (congrArg (AV.int _) (by first | omega | (dsimp only; omega)))) ?_)) ⟨by dsimp only; omega, by dsimp only; rw [hfs]; exact St.pick [0, 3] (by decide) rfl hS⟩ (by dsimp only; omega)
          · intro c41
            refine KA.skip ?_
            refine blQ.normal ?_
            refine sqQ.normal ?_
            refine KA.sub (Sub.cons (t := 1) Look.eq (Sub.cons (t := 6) Look.eq (Sub.cons (t := 7) Look.eq (Sub.cons (t := 37) Look.eq (Sub.cons (t := 38) Look.eq (Sub.cons (t := 39) Look.eq (Sub.cons (t := 40) Look.eq (Sub.nil _)))))))) ?_
            refine KA.region rfl ?_
            refine KOps.move ?_
            refine KOps.add (by first | omega | (simp; omega)) (by first | omega | (simp; omega)) ?_
            refine KOps.assign ?_
            refine KOps.done ?_
            have hfs := fewF_succ (p := proofB ws) (r := r) (by omega) (proof_full hB) (k := k) (by omega)
            rw [c41, Bool.and_false, if_neg (by decide)] at hfs
            exact lpQ.normal (k + 1, vb) (by repeat (first | exact Sub.nil _ | refine Sub.cons Look.eq ?_ | refine Sub.cons (Eq.trans Look.eq (congrArg (AV.int _) (by first | omega | (dsimp only; omega)))) ?_)) ⟨by dsimp only; omega, by dsimp only; rw [hfs]; exact St.pick [1, 2] (by decide) rfl hS⟩ (by dsimp only; omega)
        · intro g36
          refine KOps.guardNo (dj := 36) rfl rfl rfl ?_
          refine KOps.guardNo (dj := 36) rfl rfl rfl ?_
          refine KOps.guardNo (dj := 36) rfl rfl rfl ?_
          refine KOps.pickF ?_
          refine KOps.done ?_
          refine sqQ.normal ?_
          refine KA.sub (Sub.cons (t := 1) Look.eq (Sub.cons (t := 6) Look.eq (Sub.cons (t := 7) Look.eq (Sub.cons (t := 37) Look.eq (Sub.cons (t := 38) Look.eq (Sub.cons (t := 39) Look.eq (Sub.cons (t := 40) Look.eq (Sub.cons (t := 41) Look.eq (Sub.nil _))))))))) ?_
          refine KA.condF ?_
          refine KA.skip ?_
          refine blQ.normal ?_
          refine sqQ.normal ?_
          refine KA.sub (Sub.cons (t := 1) Look.eq (Sub.cons (t := 6) Look.eq (Sub.cons (t := 7) Look.eq (Sub.cons (t := 37) Look.eq (Sub.cons (t := 38) Look.eq (Sub.cons (t := 39) Look.eq (Sub.cons (t := 40) Look.eq (Sub.nil _)))))))) ?_
          refine KA.region rfl ?_
          refine KOps.move ?_
          refine KOps.add (by first | omega | (simp; omega)) (by first | omega | (simp; omega)) ?_
          refine KOps.assign ?_
          refine KOps.done ?_
          have hfs := fewF_succ (p := proofB ws) (r := r) (by omega) (proof_full hB) (k := k) (by omega)
          rw [g36, Bool.false_and, if_neg (by decide)] at hfs
          exact lpQ.normal (k + 1, vb) (by repeat (first | exact Sub.nil _ | refine Sub.cons Look.eq ?_ | refine Sub.cons (Eq.trans Look.eq (congrArg (AV.int _) (by first | omega | (dsimp only; omega)))) ?_)) ⟨by dsimp only; omega, by dsimp only; rw [hfs]; exact hS⟩ (by dsimp only; omega)
      · intro c30
        refine KA.exit ?_
        refine sqQ.exit ?_
        refine lpQ.exit ?_
        refine blQ.here ?_
        refine sqQ.normal ?_
        refine KA.sub (Sub.cons (t := 6) Look.eq (Sub.nil _)) ?_
        refine KA.seq ?_
        refine KA.region rfl ?_
        refine KOps.move ?_
        refine KOps.assign ?_
        refine KOps.assign ?_
        refine KOps.done ?_
        refine sqQ.normal ?_
        refine KA.sub (Sub.cons (t := 2) Look.eq (Sub.cons (t := 3) Look.eq (Sub.nil _))) ?_
        refine KA.ret ?_
        refine fnQ.retN ?_
        obtain ⟨s, hs, hp⟩ := again_some hc0 hcp
        rw [if_pos c19, c19, Int.toNat_natCast]
        rw [show k = 2 ^ r by omega, fewF_few hp hs] at hS
        exact ⟨_, rfl, St.pick [0] (by decide) rfl hS⟩

theorem proves_c {h : AHeap} {rm : Int} {vW vn : AV} {ws : List W} {l : List Int} (hv : Rd h vW 4 (flr wc ws)) (hn : Row h vn l) (hll : l.length ≤ 1000000) : ACalls Go.Proofs.Tryd.prog 31 [.agg [.int .i64 rm, vW], vn] h (fun q h' => q = .int .i64 (provE rm ws l) ∧ Keeps h h') := by
  refine KA.fn 28 [.tmp 4] Go.Proofs.Tryd.func31 rfl (by decide) rfl rfl (Nat.le_of_ble_eq_true rfl) ?_
  have hS := St.refl h
  have hvo : vW.one = true := hv.one
  show KA _ 28 _ _ [(0, .agg [.int .i64 rm, vW]), (1, vn)] _
  refine KA.seq ?_
  refine KA.region rfl ?_
  refine KOps.boxAll hS (by first | rfl | (simp [AV.one]; done) | (simp [AV.one]; assumption) | (simp [AV.one, *]; done)) ?_
  intro p2 h' hp2 hS
  refine KOps.assign ?_
  refine KOps.done ?_
  refine sqQ.normal ?_
  refine KA.sub (Sub.cons (t := 1) Look.eq (Sub.cons (t := 2) Look.eq (Sub.nil _))) ?_
  refine KA.seq ?_
  refine KA.seq ?_
  refine KA.region rfl ?_
  refine KOps.loadAll hS (i := 0) rfl hp2 (by rfl) (by decide) ?_
  refine KOps.call rfl (check_c (Rd.ext hS.keeps hv)) ?_
  rintro _ h5 ⟨rfl, hK⟩
  have hS0 : St _ _ (_ :: _) := St.trans hS (St.ofK hK)
  clear hS
  have hS := hS0
  clear hS0
  refine KOps.assign ?_
  refine KOps.done ?_
  refine sqQ.normal ?_
  refine KA.sub (Sub.cons (t := 1) Look.eq (Sub.cons (t := 2) Look.eq (Sub.cons (t := 5) Look.eq (Sub.nil _)))) ?_
  refine KA.seq ?_
  refine KA.region rfl ?_
  refine KOps.move ?_
  refine KOps.neq ?_
  refine KOps.done ?_
  refine sqQ.normal ?_
  refine KA.sub (Sub.cons (t := 1) Look.eq (Sub.cons (t := 2) Look.eq (Sub.cons (t := 5) Look.eq (Sub.cons (t := 11) Look.eq (Sub.nil _))))) ?_
  refine KA.condN ?_ ?_
  · intro c11
    refine KA.seq ?_
    refine KA.region rfl ?_
    refine KOps.move ?_
    refine KOps.assign ?_
    refine KOps.done ?_
    refine sqQ.normal ?_
    refine KA.sub (Sub.cons (t := 4) Look.eq (Sub.nil _)) ?_
    refine KA.ret ?_
    refine sqQ.ret ?_
    refine fnQ.ret1 ?_
    rw [provE, if_neg c11]
    exact ⟨rfl, hS.keeps⟩
  · intro c11
    have hB := BOk.of c11
    refine KA.skip ?_
    refine sqQ.normal ?_
    refine KA.sub (Sub.cons (t := 1) Look.eq (Sub.cons (t := 2) Look.eq (Sub.nil _))) ?_
    refine KA.seq ?_
    refine KA.region rfl ?_
    refine KOps.loadAll hS (i := 0) rfl hp2 (by rfl) (by decide) ?_
    refine KOps.move ?_
    refine KOps.call rfl (rooms_c (Rd.ext hS.keeps hv) (Row.ext hS.keeps hn) hB hll) ?_
    rintro _ h6 ⟨rfl, hK⟩
    have hS0 : St _ _ (_ :: _) := St.trans hS (St.ofK hK)
    clear hS
    have hS := hS0
    clear hS0
    refine KOps.move ?_
    refine KOps.extract ?_
    refine KOps.extract ?_
    refine KOps.assign ?_
    refine KOps.assign ?_
    refine KOps.done ?_
    refine sqQ.normal ?_
    refine KA.sub (Sub.cons (t := 2) Look.eq (Sub.cons (t := 6) Look.eq (Sub.cons (t := 7) Look.eq (Sub.nil _)))) ?_
    refine KA.seq ?_
    refine KA.seq ?_
    refine KA.region rfl ?_
    refine KOps.move ?_
    refine KOps.eql ?_
    refine KOps.move ?_
    refine KOps.guardB (dj := 21) rfl rfl true false rfl ?_ ?_
    · intro g21
      have g21 := of_decide_eq_true g21
      refine KOps.loadAll hS (i := 0) rfl hp2 (by rfl) (by decide) ?_
      refine KOps.guardYes (dj := 21) rfl rfl ?_
      refine KOps.move ?_
      refine KOps.guardYes (dj := 21) rfl rfl ?_
      refine KOps.call rfl (proof_c (Rd.ext hS.keeps hv) hB (setE_lt hB.r6)) ?_
      rintro _ h7 ⟨rfl, hK⟩
      have hS0 : St _ _ (_ :: _) := St.trans hS (St.ofK hK)
      clear hS
      have hS := hS0
      clear hS0
      refine KOps.guardYes (dj := 21) rfl rfl ?_
      refine KOps.not ?_
      refine KOps.pickT ?_
      refine KOps.done ?_
      refine sqQ.normal ?_
      refine KA.sub (Sub.cons (t := 7) Look.eq (Sub.cons (t := 26) Look.eq (Sub.nil _))) ?_
      refine KA.condB ?_ ?_
      · intro c26
        refine KA.seq ?_
        refine KA.region rfl ?_
        refine KOps.assign ?_
        refine KOps.done ?_
        refine sqQ.normal ?_
        refine KA.sub (Sub.cons (t := 4) Look.eq (Sub.nil _)) ?_
        refine KA.ret ?_
        refine sqQ.ret ?_
        refine fnQ.ret1 ?_
        rw [provE, if_pos c11, if_pos g21, if_neg (by simpa using c26)]
        exact ⟨rfl, hS.keeps⟩
      · intro c26
        refine KA.skip ?_
        refine sqQ.normal ?_
        refine KA.sub (Sub.cons (t := 7) Look.eq (Sub.nil _)) ?_
        refine KA.seq ?_
        refine KA.region rfl ?_
        refine KOps.move ?_
        refine KOps.assign ?_
        refine KOps.done ?_
        refine sqQ.normal ?_
        refine KA.sub (Sub.cons (t := 4) Look.eq (Sub.nil _)) ?_
        refine KA.ret ?_
        refine fnQ.ret1 ?_
        rw [provE, if_pos c11, if_pos g21, if_pos (by simpa using c26), g21]
        exact ⟨rfl, hS.keeps⟩
    · intro g21
      have g21 := of_decide_eq_false g21
      refine KOps.guardNo (dj := 21) rfl rfl rfl ?_
      refine KOps.guardNo (dj := 21) rfl rfl rfl ?_
      refine KOps.guardNo (dj := 21) rfl rfl rfl ?_
      refine KOps.pickF ?_
      refine KOps.done ?_
      refine sqQ.normal ?_
      refine KA.sub (Sub.cons (t := 7) Look.eq (Sub.cons (t := 26) Look.eq (Sub.nil _))) ?_
      refine KA.condF ?_
      refine KA.skip ?_
      refine sqQ.normal ?_
      refine KA.sub (Sub.cons (t := 7) Look.eq (Sub.nil _)) ?_
      refine KA.seq ?_
      refine KA.region rfl ?_
      refine KOps.move ?_
      refine KOps.assign ?_
      refine KOps.done ?_
      refine sqQ.normal ?_
      refine KA.sub (Sub.cons (t := 4) Look.eq (Sub.nil _)) ?_
      refine KA.ret ?_
      refine fnQ.ret1 ?_
      rw [provE, if_pos c11, if_neg g21]
      exact ⟨rfl, hS.keeps⟩

theorem refProves_c {h : AHeap} {rm : Int} {vW vn : AV} {ws : List W} {l : List Int} (hv : Rd h vW 4 (flr wc ws)) (hn : Row h vn l) (hll : l.length ≤ 1000000) : ACalls Go.Proofs.Tryd.prog 32 [.agg [.int .i64 rm, vW], vn] h (fun q h' => q = .int .i64 (provE rm ws l) ∧ Keeps h h') := by
  refine KA.fn 27 [.tmp 4] Go.Proofs.Tryd.func32 rfl (by decide) rfl rfl (Nat.le_of_ble_eq_true rfl) ?_
  have hS := St.refl h
  have hvo : vW.one = true := hv.one
  show KA _ 27 _ _ [(0, .agg [.int .i64 rm, vW]), (1, vn)] _
  refine KA.seq ?_
  refine KA.region rfl ?_
  refine KOps.boxAll hS (by first | rfl | (simp [AV.one]; done) | (simp [AV.one]; assumption) | (simp [AV.one, *]; done)) ?_
  intro p2 h' hp2 hS
  refine KOps.assign ?_
  refine KOps.done ?_
  refine sqQ.normal ?_
  refine KA.sub (Sub.cons (t := 1) Look.eq (Sub.cons (t := 2) Look.eq (Sub.nil _))) ?_
  refine KA.seq ?_
  refine KA.region rfl ?_
  refine KOps.loadAll hS (i := 0) rfl hp2 (by rfl) (by decide) ?_
  refine KOps.call rfl (refCheck_c (Rd.ext hS.keeps hv)) ?_
  rintro _ h5 ⟨rfl, hK⟩
  have hS0 : St _ _ (_ :: _) := St.trans hS (St.ofK hK)
  clear hS
  have hS := hS0
  clear hS0
  refine KOps.assign ?_
  refine KOps.done ?_
  refine sqQ.normal ?_
  refine KA.sub (Sub.cons (t := 1) Look.eq (Sub.cons (t := 2) Look.eq (Sub.cons (t := 5) Look.eq (Sub.nil _)))) ?_
  refine KA.seq ?_
  refine KA.seq ?_
  refine KA.region rfl ?_
  refine KOps.move ?_
  refine KOps.neq ?_
  refine KOps.done ?_
  refine sqQ.normal ?_
  refine KA.sub (Sub.cons (t := 1) Look.eq (Sub.cons (t := 2) Look.eq (Sub.cons (t := 5) Look.eq (Sub.cons (t := 10) Look.eq (Sub.nil _))))) ?_
  refine KA.condN ?_ ?_
  · intro c10
    refine KA.seq ?_
    refine KA.region rfl ?_
    refine KOps.move ?_
    refine KOps.assign ?_
    refine KOps.done ?_
    refine sqQ.normal ?_
    refine KA.sub (Sub.cons (t := 4) Look.eq (Sub.nil _)) ?_
    refine KA.ret ?_
    refine sqQ.ret ?_
    refine fnQ.ret1 ?_
    rw [provE, if_neg c10]
    exact ⟨rfl, hS.keeps⟩
  · intro c10
    have hB := BOk.of c10
    refine KA.skip ?_
    refine sqQ.normal ?_
    refine KA.sub (Sub.cons (t := 1) Look.eq (Sub.cons (t := 2) Look.eq (Sub.nil _))) ?_
    refine KA.seq ?_
    refine KA.region rfl ?_
    refine KOps.loadAll hS (i := 0) rfl hp2 (by rfl) (by decide) ?_
    refine KOps.move ?_
    refine KOps.call rfl (refRooms_c (Rd.ext hS.keeps hv) (Row.ext hS.keeps hn) hB hll) ?_
    rintro _ h6 ⟨rfl, hK⟩
    have hS0 : St _ _ (_ :: _) := St.trans hS (St.ofK hK)
    clear hS
    have hS := hS0
    clear hS0
    refine KOps.move ?_
    refine KOps.extract ?_
    refine KOps.extract ?_
    refine KOps.assign ?_
    refine KOps.assign ?_
    refine KOps.done ?_
    refine sqQ.normal ?_
    refine KA.sub (Sub.cons (t := 2) Look.eq (Sub.cons (t := 5) Look.eq (Sub.cons (t := 6) Look.eq (Sub.nil _)))) ?_
    refine KA.seq ?_
    refine KA.seq ?_
    refine KA.region rfl ?_
    refine KOps.move ?_
    refine KOps.eql ?_
    refine KOps.move ?_
    refine KOps.guardB (dj := 20) rfl rfl true false rfl ?_ ?_
    · intro g20
      have g20 := of_decide_eq_true g20
      refine KOps.loadAll hS (i := 0) rfl hp2 (by rfl) (by decide) ?_
      refine KOps.guardYes (dj := 20) rfl rfl ?_
      refine KOps.move ?_
      refine KOps.guardYes (dj := 20) rfl rfl ?_
      refine KOps.call rfl (refProof_c (Rd.ext hS.keeps hv) hB (setE_lt hB.r6)) ?_
      rintro _ h7 ⟨rfl, hK⟩
      have hS0 : St _ _ (_ :: _) := St.trans hS (St.ofK hK)
      clear hS
      have hS := hS0
      clear hS0
      refine KOps.guardYes (dj := 20) rfl rfl ?_
      refine KOps.not ?_
      refine KOps.pickT ?_
      refine KOps.done ?_
      refine sqQ.normal ?_
      refine KA.sub (Sub.cons (t := 5) Look.eq (Sub.cons (t := 25) Look.eq (Sub.nil _))) ?_
      refine KA.condB ?_ ?_
      · intro c25
        refine KA.region rfl ?_
        refine KOps.assign ?_
        refine KOps.done ?_
        refine sqQ.normal ?_
        refine KA.sub (Sub.cons (t := 5) Look.eq (Sub.nil _)) ?_
        refine KA.seq ?_
        refine KA.region rfl ?_
        refine KOps.move ?_
        refine KOps.assign ?_
        refine KOps.done ?_
        refine sqQ.normal ?_
        refine KA.sub (Sub.cons (t := 4) Look.eq (Sub.nil _)) ?_
        refine KA.ret ?_
        refine fnQ.ret1 ?_
        rw [provE, if_pos c10, if_pos g20, if_neg (by simpa using c25)]
        exact ⟨rfl, hS.keeps⟩
      · intro c25
        refine KA.skip ?_
        refine sqQ.normal ?_
        refine KA.sub (Sub.cons (t := 5) Look.eq (Sub.nil _)) ?_
        refine KA.seq ?_
        refine KA.region rfl ?_
        refine KOps.move ?_
        refine KOps.assign ?_
        refine KOps.done ?_
        refine sqQ.normal ?_
        refine KA.sub (Sub.cons (t := 4) Look.eq (Sub.nil _)) ?_
        refine KA.ret ?_
        refine fnQ.ret1 ?_
        rw [provE, if_pos c10, if_pos g20, if_pos (by simpa using c25), g20]
        exact ⟨rfl, hS.keeps⟩
    · intro g20
      have g20 := of_decide_eq_false g20
      refine KOps.guardNo (dj := 20) rfl rfl rfl ?_
      refine KOps.guardNo (dj := 20) rfl rfl rfl ?_
      refine KOps.guardNo (dj := 20) rfl rfl rfl ?_
      refine KOps.pickF ?_
      refine KOps.done ?_
      refine sqQ.normal ?_
      refine KA.sub (Sub.cons (t := 5) Look.eq (Sub.cons (t := 25) Look.eq (Sub.nil _))) ?_
      refine KA.condF ?_
      refine KA.skip ?_
      refine sqQ.normal ?_
      refine KA.sub (Sub.cons (t := 5) Look.eq (Sub.nil _)) ?_
      refine KA.seq ?_
      refine KA.region rfl ?_
      refine KOps.move ?_
      refine KOps.assign ?_
      refine KOps.done ?_
      refine sqQ.normal ?_
      refine KA.sub (Sub.cons (t := 4) Look.eq (Sub.nil _)) ?_
      refine KA.ret ?_
      refine fnQ.ret1 ?_
      rw [provE, if_pos c10, if_neg g20]
      exact ⟨rfl, hS.keeps⟩

end Go.Am
