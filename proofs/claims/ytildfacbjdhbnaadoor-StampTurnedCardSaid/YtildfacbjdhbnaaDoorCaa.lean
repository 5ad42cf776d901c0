/-
  Layer 01: rooms that prove, lists of rooms, lists compared: contracts.
  Conditions: none.
-/
import Derived.Test.YtildfacbjdhbnaaDoorCu
import Derived.Test.YtildfacbjdhbnaaDoorSa
namespace Go.Am

theorem proof_c {h : AHeap} {rm : Int} {vW : AV} {ws : List W} {s : Nat} (hv : Rd h vW 4 (flr wc ws)) (hB : BOk rm ws) (hs : s < 64) : ACalls Go.Proofs.Tryd.prog 72 [.agg [.int .i64 rm, vW], .int .u8 (s : Int)] h (fun q h' => q = .bool (proofB ws s) ∧ Keeps h h') := by
  refine KA.fn 16 [.tmp 4] Go.Proofs.Tryd.func72 rfl (by decide) rfl rfl (Nat.le_of_ble_eq_true rfl) ?_
  have hS := St.refl h
  have hvo : vW.one = true := hv.one
  show KA _ 16 _ _ [(0, .agg [.int .i64 rm, vW]), (1, .int .u8 (s : Int))] _
  refine KA.seq ?_
  refine KA.region rfl ?_
  refine KOps.boxAll hS (by first | rfl | (simp [AV.one]; done) | (simp [AV.one]; assumption) | (simp [AV.one, *]; done)) ?_
  intro p2 h' hp2 hS
  refine KOps.assign ?_
  refine KOps.done ?_
  refine sqQ.normal ?_
  refine KA.sub (Sub.cons (t := 1) Look.eq (Sub.cons (t := 2) Look.eq (Sub.nil _))) ?_
  refine KA.seq ?_
  refine KA.region rfl ?_
  refine KOps.loadAll hS (i := 0) rfl hp2 (by rfl) (by decide) ?_
  refine KOps.move ?_
  refine KOps.call rfl (sums_c (Rd.ext hS.keeps hv) hB hs) ?_
  rintro _ h5 ⟨rfl, hK⟩
  refine KOps.move ?_
  refine KOps.extract ?_
  refine KOps.extract ?_
  refine KOps.assign ?_
  refine KOps.assign ?_
  refine KOps.done ?_
  refine sqQ.normal ?_
  refine KA.sub (Sub.cons (t := 5) Look.eq (Sub.cons (t := 6) Look.eq (Sub.nil _))) ?_
  refine KA.seq ?_
  refine KA.region rfl ?_
  refine KOps.move ?_
  refine KOps.move ?_
  refine KOps.gtr ?_
  refine KOps.assign ?_
  refine KOps.done ?_
  refine sqQ.normal ?_
  refine KA.sub (Sub.cons (t := 4) Look.eq (Sub.nil _)) ?_
  refine KA.ret ?_
  refine fnQ.ret1 ?_
  exact ⟨by rw [proof_sums], hS.keeps.trans hK⟩

theorem list_c {h : AHeap} {s : Nat} (hs : s < 64) : ACalls Go.Proofs.Tryd.prog 95 [.int .u8 (s : Int)] h (fun q h' => St h h' [⟨q, 1, ints (roomsTo s 6), true⟩]) := by
  refine KA.fn 17 [.tmp 2] Go.Proofs.Tryd.func95 rfl (by decide) rfl rfl (Nat.le_of_ble_eq_true rfl) ?_
  have hS := St.refl h
  show KA _ 17 _ _ [(0, .int .u8 (s : Int))] _
  refine KA.seq ?_
  refine KA.region rfl ?_
  refine KOps.assign ?_
  refine KOps.done ?_
  refine sqQ.normal ?_
  refine KA.sub (Sub.cons (t := 0) Look.eq (Sub.nil _)) ?_
  refine KA.seq ?_
  refine KA.region rfl ?_
  refine KOps.assign ?_
  refine KOps.done ?_
  refine sqQ.normal ?_
  refine KA.seq ?_
  refine KA.seq ?_
  refine KA.region rfl ?_
  refine KOps.move ?_
  refine KOps.done ?_
  refine sqQ.normal ?_
  refine KA.block ?_
  refine KA.loop (X := Nat × AV) (fun x => [(0, .int .u8 (s : Int)), (3, x.2), (5, .int .i64 (x.1 : Int))]) (fun x h' => x.1 ≤ 6 ∧ St h h' [⟨x.2, 1, ints (roomsTo s x.1), true⟩]) (fun x => 6 - x.1) (0, .nils) (by repeat (first | exact Sub.nil _ | refine Sub.cons Look.eq ?_ | refine Sub.cons (Eq.trans Look.eq (congrArg (AV.int _) (by first | omega | (dsimp only; omega)))) ?_)) ?_ ?_
  · exact ⟨Nat.zero_le _, St.nil hS 1⟩
  rintro ⟨i, vo⟩ h2 ⟨hi, hS⟩
  dsimp only at hi hS ⊢
  have hrl := roomsTo_len s i
  refine KA.seq ?_
  refine KA.region rfl ?_
  refine KOps.lss ?_
  refine KOps.done ?_
  refine sqQ.normal ?_
  refine KA.seq ?_
  refine KA.condD ?_ ?_
  · intro c6
    refine KA.skip ?_
    refine sqQ.normal ?_
    refine KA.sub (Sub.cons (t := 0) Look.eq (Sub.cons (t := 3) Look.eq (Sub.cons (t := 5) Look.eq (Sub.nil _)))) ?_
    refine KA.seq ?_
    refine KA.block ?_
    refine KA.seq ?_
    refine KA.region rfl ?_
    refine KOps.move ?_
    refine KOps.assign ?_
    refine KOps.done ?_
    refine sqQ.normal ?_
    refine KA.sub (Sub.cons (t := 0) Look.eq (Sub.cons (t := 3) Look.eq (Sub.cons (t := 4) Look.eq (Sub.cons (t := 5) Look.eq (Sub.nil _))))) ?_
    refine KA.seq ?_
    refine KA.region rfl ?_
    refine KOps.move ?_
    refine KOps.move ?_
    refine KOps.call rfl (has8_c (by first | omega | (simp; omega)) (by first | omega | (simp; omega)) (by first | omega | (simp; omega))) ?_
    rintro _ _ ⟨rfl, rfl⟩
    refine KOps.done ?_
    refine sqQ.normal ?_
    refine KA.sub (Sub.cons (t := 0) Look.eq (Sub.cons (t := 3) Look.eq (Sub.cons (t := 4) Look.eq (Sub.cons (t := 5) Look.eq (Sub.cons (t := 10) Look.eq (Sub.nil _)))))) ?_
    refine KA.condB ?_ ?_
    · intro c10
      have hb : s.testBit i = true := by unfold inS at c10; simpa using c10
      refine KA.region rfl ?_
      refine KOps.move ?_
      refine KOps.move ?_
      refine KOps.buildSlice hS rfl (by decide) rfl ?_
      intro v13 h' hS
      refine KOps.appendI hS (fun _ => rfl) (i := 0) rfl (by first | omega | (simp; omega)) ?_
      intro r14 h' hr14 hS
      refine KOps.assign ?_
      refine KOps.done ?_
      refine blQ.normal ?_
      refine sqQ.normal ?_
      refine KA.sub (Sub.cons (t := 0) Look.eq (Sub.cons (t := 3) Look.eq (Sub.cons (t := 5) Look.eq (Sub.nil _)))) ?_
      refine KA.region rfl ?_
      refine KOps.add (by first | omega | (simp; omega)) (by first | omega | (simp; omega)) ?_
      refine KOps.move ?_
      refine KOps.done ?_
      rw [show roomsTo s i ++ [(i : Int)] = roomsTo s (i + 1) by rw [roomsTo_succ, if_pos hb]] at hS
      exact lpQ.normal (i + 1, r14) (by repeat (first | exact Sub.nil _ | refine Sub.cons Look.eq ?_ | refine Sub.cons (Eq.trans Look.eq (congrArg (AV.int _) (by first | omega | (dsimp only; omega)))) ?_)) ⟨by dsimp only; omega, hS⟩ (by dsimp only; omega)
    · intro c10
      have hb : ¬ s.testBit i = true := by unfold inS at c10; simpa using c10
      refine KA.skip ?_
      refine blQ.normal ?_
      refine sqQ.normal ?_
      refine KA.sub (Sub.cons (t := 0) Look.eq (Sub.cons (t := 3) Look.eq (Sub.cons (t := 5) Look.eq (Sub.nil _)))) ?_
      refine KA.region rfl ?_
      refine KOps.add (by first | omega | (simp; omega)) (by first | omega | (simp; omega)) ?_
      refine KOps.move ?_
      refine KOps.done ?_
      rw [show roomsTo s i = roomsTo s (i + 1) by rw [roomsTo_succ, if_neg hb]] at hS
      exact lpQ.normal (i + 1, vo) (by repeat (first | exact Sub.nil _ | refine Sub.cons Look.eq ?_ | refine Sub.cons (Eq.trans Look.eq (congrArg (AV.int _) (by first | omega | (dsimp only; omega)))) ?_)) ⟨by dsimp only; omega, hS⟩ (by dsimp only; omega)
  · intro c6
    refine KA.exit ?_
    refine sqQ.exit ?_
    refine lpQ.exit ?_
    refine blQ.here ?_
    refine sqQ.normal ?_
    refine KA.sub (Sub.cons (t := 3) Look.eq (Sub.nil _)) ?_
    refine KA.seq ?_
    refine KA.region rfl ?_
    refine KOps.move ?_
    refine KOps.assign ?_
    refine KOps.done ?_
    refine sqQ.normal ?_
    refine KA.sub (Sub.cons (t := 2) Look.eq (Sub.nil _)) ?_
    refine KA.ret ?_
    refine fnQ.ret1 ?_
    rw [show i = 6 by omega] at hS
    exact hS

theorem isNaN_c {h : AHeap} {a : Int} : ACalls Go.Proofs.Tryd.prog 104 [.int .i64 a] h (fun q h' => q = .bool false ∧ h = h') := by
  refine KA.fn 6 [.tmp 2] Go.Proofs.Tryd.func104 rfl (by decide) rfl rfl (Nat.le_of_ble_eq_true rfl) ?_
  show KA _ 6 _ _ [(0, .int .i64 a)] _
  refine KA.seq ?_
  refine KA.region rfl ?_
  refine KOps.assign ?_
  refine KOps.done ?_
  refine sqQ.normal ?_
  refine KA.sub (Sub.cons (t := 0) Look.eq (Sub.nil _)) ?_
  refine KA.seq ?_
  refine KA.region rfl ?_
  refine KOps.move ?_
  refine KOps.move ?_
  refine KOps.neq ?_
  refine KOps.assign ?_
  refine KOps.done ?_
  refine sqQ.normal ?_
  refine KA.sub (Sub.cons (t := 2) Look.eq (Sub.nil _)) ?_
  refine KA.ret ?_
  refine fnQ.ret1 ?_
  exact ⟨by simp, rfl⟩

theorem compare_c {h : AHeap} {a b : Int} : ACalls Go.Proofs.Tryd.prog 102 [.int .i64 a, .int .i64 b] h (fun q h' => q = .int .i64 (if a < b then -1 else if b < a then 1 else 0) ∧ h = h') := by
  refine KA.fn 20 [.tmp 4] Go.Proofs.Tryd.func102 rfl (by decide) rfl rfl (Nat.le_of_ble_eq_true rfl) ?_
  show KA _ 20 _ _ [(0, .int .i64 a), (1, .int .i64 b)] _
  refine KA.seq ?_
  refine KA.region rfl ?_
  refine KOps.assign ?_
  refine KOps.done ?_
  refine sqQ.normal ?_
  refine KA.sub (Sub.cons (t := 0) Look.eq (Sub.cons (t := 1) Look.eq (Sub.nil _))) ?_
  refine KA.seq ?_
  refine KA.region rfl ?_
  refine KOps.move ?_
  refine KOps.call rfl (isNaN_c) ?_
  rintro _ _ ⟨rfl, rfl⟩
  refine KOps.assign ?_
  refine KOps.done ?_
  refine sqQ.normal ?_
  refine KA.sub (Sub.cons (t := 0) Look.eq (Sub.cons (t := 1) Look.eq (Sub.cons (t := 5) Look.eq (Sub.nil _)))) ?_
  refine KA.seq ?_
  refine KA.region rfl ?_
  refine KOps.move ?_
  refine KOps.call rfl (isNaN_c) ?_
  rintro _ _ ⟨rfl, rfl⟩
  refine KOps.assign ?_
  refine KOps.done ?_
  refine sqQ.normal ?_
  refine KA.sub (Sub.cons (t := 0) Look.eq (Sub.cons (t := 1) Look.eq (Sub.cons (t := 5) Look.eq (Sub.cons (t := 6) Look.eq (Sub.nil _))))) ?_
  refine KA.seq ?_
  refine KA.seq ?_
  refine KA.region rfl ?_
  refine KOps.move ?_
  refine KOps.done ?_
  refine sqQ.normal ?_
  refine KA.sub (Sub.cons (t := 0) Look.eq (Sub.cons (t := 1) Look.eq (Sub.cons (t := 6) Look.eq (Sub.cons (t := 11) Look.eq (Sub.nil _))))) ?_
  refine KA.condF ?_
  refine KA.skip ?_
  refine sqQ.normal ?_
  refine KA.sub (Sub.cons (t := 0) Look.eq (Sub.cons (t := 1) Look.eq (Sub.cons (t := 6) Look.eq (Sub.nil _)))) ?_
  refine KA.seq ?_
  refine KA.seq ?_
  refine KA.region rfl ?_
  refine KOps.move ?_
  refine KOps.done ?_
  refine sqQ.normal ?_
  refine KA.sub (Sub.cons (t := 0) Look.eq (Sub.cons (t := 1) Look.eq (Sub.cons (t := 13) Look.eq (Sub.nil _)))) ?_
  refine KA.condF ?_
  refine KA.skip ?_
  refine sqQ.normal ?_
  refine KA.sub (Sub.cons (t := 0) Look.eq (Sub.cons (t := 1) Look.eq (Sub.nil _))) ?_
  refine KA.seq ?_
  refine KA.seq ?_
  refine KA.region rfl ?_
  refine KOps.move ?_
  refine KOps.move ?_
  refine KOps.lss ?_
  refine KOps.done ?_
  refine sqQ.normal ?_
  refine KA.sub (Sub.cons (t := 0) Look.eq (Sub.cons (t := 1) Look.eq (Sub.cons (t := 16) Look.eq (Sub.nil _)))) ?_
  refine KA.condD ?_ ?_
  · intro c16
    refine KA.seq ?_
    refine KA.region rfl ?_
    refine KOps.assign ?_
    refine KOps.done ?_
    refine sqQ.normal ?_
    refine KA.sub (Sub.cons (t := 4) Look.eq (Sub.nil _)) ?_
    refine KA.ret ?_
    refine sqQ.ret ?_
    refine fnQ.ret1 ?_
    exact ⟨by rw [if_pos (by omega)], rfl⟩
  · intro c16
    refine KA.skip ?_
    refine sqQ.normal ?_
    refine KA.sub (Sub.cons (t := 0) Look.eq (Sub.cons (t := 1) Look.eq (Sub.nil _))) ?_
    refine KA.seq ?_
    refine KA.seq ?_
    refine KA.region rfl ?_
    refine KOps.move ?_
    refine KOps.move ?_
    refine KOps.gtr ?_
    refine KOps.done ?_
    refine sqQ.normal ?_
    refine KA.sub (Sub.cons (t := 19) Look.eq (Sub.nil _)) ?_
    refine KA.condD ?_ ?_
    · intro c19
      refine KA.seq ?_
      refine KA.region rfl ?_
      refine KOps.assign ?_
      refine KOps.done ?_
      refine sqQ.normal ?_
      refine KA.sub (Sub.cons (t := 4) Look.eq (Sub.nil _)) ?_
      refine KA.ret ?_
      refine sqQ.ret ?_
      refine fnQ.ret1 ?_
      exact ⟨by rw [if_neg (by omega), if_pos (by omega)], rfl⟩
    · intro c19
      refine KA.skip ?_
      refine sqQ.normal ?_
      refine KA.sub (Sub.nil _) ?_
      refine KA.seq ?_
      refine KA.region rfl ?_
      refine KOps.assign ?_
      refine KOps.done ?_
      refine sqQ.normal ?_
      refine KA.ret ?_
      refine fnQ.ret1 ?_
      exact ⟨by rw [if_neg (by omega), if_neg (by omega)], rfl⟩

theorem compares_c {h : AHeap} {v u : AV} {a b : List Int} (hv : Row h v a) (hu : Row h u b) (hla : a.length ≤ 1000000) (hlab : a.length = b.length) : ACalls Go.Proofs.Tryd.prog 96 [v, u] h (fun q h' => (∃ c : Int, q = .int .i64 c ∧ (c < 0 ↔ befB a b = true)) ∧ h = h') := by
  refine KA.fn 36 [.tmp 4] Go.Proofs.Tryd.func96 rfl (by decide) rfl rfl (Nat.le_of_ble_eq_true rfl) ?_
  show KA _ 36 _ _ [(0, v), (1, u)] _
  refine KA.seq ?_
  refine KA.region rfl ?_
  refine KOps.assign ?_
  refine KOps.done ?_
  refine sqQ.normal ?_
  refine KA.sub (Sub.cons (t := 0) Look.eq (Sub.cons (t := 1) Look.eq (Sub.nil _))) ?_
  refine KA.seq ?_
  refine KA.seq ?_
  refine KA.region rfl ?_
  refine KOps.move ?_
  refine KOps.lenI hv ?_
  refine KOps.move ?_
  refine KOps.done ?_
  refine sqQ.normal ?_
  refine KA.block ?_
  refine KA.loop (X := Nat) (fun i => [(1, u), (0, v), (9, v), (10, .int .i64 (a.length : Int)), (11, .int .i64 (i : Int))]) (fun i h' => h = h' ∧ i ≤ a.length ∧ ∀ j, j < i → a.getD j 0 = b.getD j 0) (fun i => a.length - i) 0 (by repeat (first | exact Sub.nil _ | refine Sub.cons Look.eq ?_ | refine Sub.cons (Eq.trans Look.eq (congrArg (AV.int _) (by first | omega | (dsimp only; omega)))) ?_)) ?_ ?_
  · exact ⟨rfl, Nat.zero_le _, fun j hj => by omega⟩
  rintro i _ ⟨rfl, hi, hj⟩
  refine KA.seq ?_
  refine KA.region rfl ?_
  refine KOps.lss ?_
  refine KOps.done ?_
  refine sqQ.normal ?_
  refine KA.seq ?_
  refine KA.condD ?_ ?_
  · intro c12
    refine KA.skip ?_
    refine sqQ.normal ?_
    refine KA.sub (Sub.cons (t := 0) Look.eq (Sub.cons (t := 1) Look.eq (Sub.cons (t := 9) Look.eq (Sub.cons (t := 10) Look.eq (Sub.cons (t := 11) Look.eq (Sub.nil _)))))) ?_
    refine KA.seq ?_
    refine KA.block ?_
    refine KA.seq ?_
    refine KA.region rfl ?_
    refine KOps.move ?_
    refine KOps.indexIJ hv (j := i) rfl (by first | omega | (simp; omega)) ?_
    intro p14 hp14
    refine KOps.loadI hp14 hv (by first | omega | (simp; omega)) ?_
    refine KOps.assign ?_
    refine KOps.assign ?_
    refine KOps.done ?_
    refine sqQ.normal ?_
    refine KA.sub (Sub.cons (t := 0) Look.eq (Sub.cons (t := 1) Look.eq (Sub.cons (t := 5) Look.eq (Sub.cons (t := 6) Look.eq (Sub.cons (t := 9) Look.eq (Sub.cons (t := 10) Look.eq (Sub.cons (t := 11) Look.eq (Sub.nil _)))))))) ?_
    refine KA.seq ?_
    refine KA.seq ?_
    refine KA.region rfl ?_
    refine KOps.move ?_
    refine KOps.move ?_
    refine KOps.lenI hu ?_
    refine KOps.geq ?_
    refine KOps.done ?_
    refine sqQ.normal ?_
    refine KA.sub (Sub.cons (t := 0) Look.eq (Sub.cons (t := 1) Look.eq (Sub.cons (t := 5) Look.eq (Sub.cons (t := 6) Look.eq (Sub.cons (t := 9) Look.eq (Sub.cons (t := 10) Look.eq (Sub.cons (t := 11) Look.eq (Sub.cons (t := 19) Look.eq (Sub.nil _))))))))) ?_
    refine KA.condD ?_ ?_
    · intro c19
      refine KA.seq ?_
      refine KA.region rfl ?_
      refine KOps.assign ?_
      refine KOps.done ?_
      refine sqQ.normal ?_
      refine KA.sub (Sub.cons (t := 4) Look.eq (Sub.nil _)) ?_
      refine KA.ret ?_
      refine sqQ.ret ?_
      refine blQ.ret ?_
      refine sqQ.ret ?_
      refine lpQ.ret ?_
      refine blQ.ret ?_
      refine sqQ.ret ?_
      refine fnQ.ret1 ?_
      exact absurd c19 (by omega)
    · intro c19
      refine KA.skip ?_
      refine sqQ.normal ?_
      refine KA.sub (Sub.cons (t := 0) Look.eq (Sub.cons (t := 1) Look.eq (Sub.cons (t := 5) Look.eq (Sub.cons (t := 6) Look.eq (Sub.cons (t := 9) Look.eq (Sub.cons (t := 10) Look.eq (Sub.cons (t := 11) Look.eq (Sub.nil _)))))))) ?_
      refine KA.seq ?_
      refine KA.region rfl ?_
      refine KOps.move ?_
      refine KOps.move ?_
      refine KOps.indexIJ hu (j := i) rfl (by first | omega | (simp; omega)) ?_
      intro p22 hp22
      refine KOps.loadI hp22 hu (by first | omega | (simp; omega)) ?_
      refine KOps.assign ?_
      refine KOps.done ?_
      refine sqQ.normal ?_
      refine KA.sub (Sub.cons (t := 0) Look.eq (Sub.cons (t := 1) Look.eq (Sub.cons (t := 6) Look.eq (Sub.cons (t := 7) Look.eq (Sub.cons (t := 9) Look.eq (Sub.cons (t := 10) Look.eq (Sub.cons (t := 11) Look.eq (Sub.nil _)))))))) ?_
      refine KA.seq ?_
      refine KA.region rfl ?_
      refine KOps.move ?_
      refine KOps.move ?_
      refine KOps.call rfl (compare_c) ?_
      rintro _ _ ⟨rfl, rfl⟩
      refine KOps.assign ?_
      refine KOps.done ?_
      refine sqQ.normal ?_
      refine KA.sub (Sub.cons (t := 0) Look.eq (Sub.cons (t := 1) Look.eq (Sub.cons (t := 8) Look.eq (Sub.cons (t := 9) Look.eq (Sub.cons (t := 10) Look.eq (Sub.cons (t := 11) Look.eq (Sub.nil _))))))) ?_
      refine KA.seq ?_
      refine KA.region rfl ?_
      refine KOps.move ?_
      refine KOps.neq ?_
      refine KOps.done ?_
      refine sqQ.normal ?_
      refine KA.sub (Sub.cons (t := 0) Look.eq (Sub.cons (t := 1) Look.eq (Sub.cons (t := 8) Look.eq (Sub.cons (t := 9) Look.eq (Sub.cons (t := 10) Look.eq (Sub.cons (t := 11) Look.eq (Sub.cons (t := 28) Look.eq (Sub.nil _)))))))) ?_
      refine KA.condN ?_ ?_
      · intro c28
        refine KA.seq ?_
        refine KA.region rfl ?_
        refine KOps.move ?_
        refine KOps.assign ?_
        refine KOps.done ?_
        refine sqQ.normal ?_
        refine KA.sub (Sub.cons (t := 4) Look.eq (Sub.nil _)) ?_
        refine KA.ret ?_
        refine blQ.ret ?_
        refine sqQ.ret ?_
        refine lpQ.ret ?_
        refine blQ.ret ?_
        refine sqQ.ret ?_
        refine fnQ.ret1 ?_
        refine ⟨⟨_, rfl, ?_⟩, rfl⟩
        rw [befB_at hlab (i := i) (by omega) hj (by intro h0; rw [h0] at c28; simp at c28), decide_eq_true_iff]
        split
        · omega
        · split <;> omega
      · intro c28
        refine KA.skip ?_
        refine blQ.normal ?_
        refine sqQ.normal ?_
        refine KA.sub (Sub.cons (t := 0) Look.eq (Sub.cons (t := 1) Look.eq (Sub.cons (t := 9) Look.eq (Sub.cons (t := 10) Look.eq (Sub.cons (t := 11) Look.eq (Sub.nil _)))))) ?_
        refine KA.region rfl ?_
        refine KOps.add (by first | omega | (simp; omega)) (by first | omega | (simp; omega)) ?_
        refine KOps.move ?_
        refine KOps.done ?_
        refine lpQ.normal (i + 1) (by repeat (first | exact Sub.nil _ | refine Sub.cons Look.eq ?_ | refine Sub.cons (Eq.trans Look.eq (congrArg (AV.int _) (by first | omega | (dsimp only; omega)))) ?_)) ⟨rfl, by omega, ?_⟩ (by omega)
        intro j hj2
        rcases Nat.lt_succ_iff_lt_or_eq.1 hj2 with h3 | rfl
        · exact hj j h3
        · split at c28 <;> (try split at c28) <;> omega
  · intro c12
    refine KA.exit ?_
    refine sqQ.exit ?_
    refine lpQ.exit ?_
    refine blQ.here ?_
    refine sqQ.normal ?_
    refine KA.sub (Sub.cons (t := 0) Look.eq (Sub.cons (t := 1) Look.eq (Sub.nil _))) ?_
    refine KA.seq ?_
    refine KA.seq ?_
    refine KA.region rfl ?_
    refine KOps.move ?_
    refine KOps.lenI hv ?_
    refine KOps.move ?_
    refine KOps.lenI hu ?_
    refine KOps.lss ?_
    refine KOps.done ?_
    refine sqQ.normal ?_
    refine KA.sub (Sub.cons (t := 35) Look.eq (Sub.nil _)) ?_
    refine KA.condD ?_ ?_
    · intro c35
      refine KA.seq ?_
      refine KA.region rfl ?_
      refine KOps.assign ?_
      refine KOps.done ?_
      refine sqQ.normal ?_
      refine KA.sub (Sub.cons (t := 4) Look.eq (Sub.nil _)) ?_
      refine KA.ret ?_
      refine sqQ.ret ?_
      refine fnQ.ret1 ?_
      exact absurd c35 (by omega)
    · intro c35
      refine KA.skip ?_
      refine sqQ.normal ?_
      refine KA.sub (Sub.nil _) ?_
      refine KA.seq ?_
      refine KA.region rfl ?_
      refine KOps.assign ?_
      refine KOps.done ?_
      refine sqQ.normal ?_
      refine KA.ret ?_
      refine fnQ.ret1 ?_
      refine ⟨⟨_, rfl, ?_⟩, rfl⟩
      rw [befB_same hlab (fun j h3 => hj j (by omega))]
      simp

def lastI (l : List Int) (i : Nat) : Int := if i = 0 then -1 else l.getD (i - 1) 0
theorem lastI_succ (l : List Int) (i : Nat) : lastI l (i + 1) = l.getD i 0 := by rw [lastI, if_neg (by omega)]; rfl
theorem roomE_in {rm : Int} {l : List Int} {i : Nat} (h : ¬ (0 ≤ l.getD i 0 ∧ l.getD i 0 ≤ rm - 1)) : roomE rm l i = 2 := by rw [roomE, if_pos h]
theorem roomE_ord {rm : Int} {l : List Int} {i : Nat} (h : 0 ≤ l.getD i 0 ∧ l.getD i 0 ≤ rm - 1) (h2 : 0 < i ∧ l.getD i 0 ≤ l.getD (i - 1) 0) : roomE rm l i = 7 := by rw [roomE, if_neg (fun h3 => h3 h), if_pos h2]
theorem roomE_ok {rm : Int} {l : List Int} {i : Nat} (h : 0 ≤ l.getD i 0 ∧ l.getD i 0 ≤ rm - 1) (h2 : ¬ (0 < i ∧ l.getD i 0 ≤ l.getD (i - 1) 0)) : roomE rm l i = 0 := by rw [roomE, if_neg (fun h3 => h3 h), if_neg h2]
abbrev setE (rm : Int) (l : List Int) : Nat := if roomsE rm l l.length = 0 then setTo l l.length else 0
theorem set_next {l : List Int} {i : Nat} {rm : Int} (hs : setTo l i < 64) (h : 0 ≤ l.getD i 0 ∧ l.getD i 0 ≤ rm - 1) (hr : rm ≤ 6) : setTo l (i + 1) < 64 := or64 _ hs _ (by omega)
theorem set_or8 {l : List Int} {i : Nat} {rm : Int} (hs : setTo l i < 64) (h : 0 ≤ l.getD i 0 ∧ l.getD i 0 ≤ rm - 1) (hr : rm ≤ 6) : bits .or .u8 (setTo l i : Int) (IntKind.wrap .u8 (1 * 2 ^ Min.min (l.getD i 0).toNat (IntKind.bits .u8))) = (setTo l (i + 1) : Int) := by
  have := or8 _ hs (l.getD i 0).toNat (by omega)
  rwa [show (((l.getD i 0).toNat : Nat) : Int).toNat = (l.getD i 0).toNat by omega] at this

theorem rooms_c {h : AHeap} {rm : Int} {vW vn : AV} {ws : List W} {l : List Int} (hv : Rd h vW 4 (flr wc ws)) (hn : Row h vn l) (hB : BOk rm ws) (hll : l.length ≤ 1000000) : ACalls Go.Proofs.Tryd.prog 76 [.agg [.int .i64 rm, vW], vn] h (fun q h' => q = .tup [.int .u8 (setE rm l : Int), .int .i64 (roomsE rm l l.length)] ∧ Keeps h h') := by
  refine KA.fn 33 [.tmp 4, .tmp 5] Go.Proofs.Tryd.func76 rfl (by decide) rfl rfl (Nat.le_of_ble_eq_true rfl) ?_
  have hS := St.refl h
  have hvo : vW.one = true := hv.one
  have hr6 := hB.r6
  have hr2 := hB.r2
  show KA _ 33 _ _ [(0, .agg [.int .i64 rm, vW]), (1, vn)] _
  refine KA.seq ?_
  refine KA.region rfl ?_
  refine KOps.boxAll hS (by first | rfl | (simp [AV.one]; done) | (simp [AV.one]; assumption) | (simp [AV.one, *]; done)) ?_
  intro p2 h' hp2 hS
  refine KOps.assign ?_
  refine KOps.assign ?_
  refine KOps.done ?_
  refine sqQ.normal ?_
  refine KA.sub (Sub.cons (t := 1) Look.eq (Sub.cons (t := 2) Look.eq (Sub.cons (t := 4) Look.eq (Sub.nil _)))) ?_
  refine KA.seq ?_
  refine KA.region rfl ?_
  refine KOps.assign ?_
  refine KOps.done ?_
  refine sqQ.normal ?_
  refine KA.seq ?_
  refine KA.seq ?_
  refine KA.region rfl ?_
  refine KOps.move ?_
  refine KOps.lenI (Row.ext hS.keeps hn) ?_
  refine KOps.move ?_
  refine KOps.done ?_
  refine sqQ.normal ?_
  refine KA.sub (Sub.cons (t := 2) Look.eq (Sub.cons (t := 4) Look.eq (Sub.cons (t := 6) Look.eq (Sub.cons (t := 9) Look.eq (Sub.cons (t := 10) Look.eq (Sub.cons (t := 11) Look.eq (Sub.nil _))))))) ?_
  refine KA.block ?_
  refine KA.loop (X := Nat) (fun i => [(2, p2), (4, .int .u8 (setTo l i : Int)), (6, .int .i64 (lastI l i)), (9, vn), (10, .int .i64 (l.length : Int)), (11, .int .i64 (i : Int))]) (fun i h' => i ≤ l.length ∧ roomsE rm l i = 0 ∧ setTo l i < 64 ∧ St h h' [⟨p2, 0, [.int .i64 rm, vW], true⟩]) (fun i => l.length - i) 0 (by repeat (first | exact Sub.nil _ | refine Sub.cons Look.eq ?_ | refine Sub.cons (Eq.trans Look.eq (congrArg (AV.int _) (by first | omega | (dsimp only; omega)))) ?_)) ?_ ?_
  · exact ⟨Nat.zero_le _, rfl, (show 0 < 64 by decide), hS⟩
  rintro i h9 ⟨hi, h0, hset, hS⟩
  refine KA.seq ?_
  refine KA.region rfl ?_
  refine KOps.lss ?_
  refine KOps.done ?_
  refine sqQ.normal ?_
  refine KA.seq ?_
  refine KA.condD ?_ ?_
  · intro c12
    refine KA.skip ?_
    refine sqQ.normal ?_
    refine KA.sub (Sub.cons (t := 2) Look.eq (Sub.cons (t := 4) Look.eq (Sub.cons (t := 6) Look.eq (Sub.cons (t := 9) Look.eq (Sub.cons (t := 10) Look.eq (Sub.cons (t := 11) Look.eq (Sub.nil _))))))) ?_
    refine KA.seq ?_
    refine KA.block ?_
    refine KA.seq ?_
    refine KA.region rfl ?_
    refine KOps.indexIJ (Row.ext hS.keeps hn) (j := i) rfl (by first | omega | (simp; omega)) ?_
    intro p13 hp13
    refine KOps.loadI hp13 (Row.ext hS.keeps hn) (by first | omega | (simp; omega)) ?_
    refine KOps.assign ?_
    refine KOps.done ?_
    refine sqQ.normal ?_
    refine KA.sub (Sub.cons (t := 2) Look.eq (Sub.cons (t := 4) Look.eq (Sub.cons (t := 6) Look.eq (Sub.cons (t := 8) Look.eq (Sub.cons (t := 9) Look.eq (Sub.cons (t := 10) Look.eq (Sub.cons (t := 11) Look.eq (Sub.nil _)))))))) ?_
    refine KA.seq ?_
    refine KA.block ?_
    refine KA.seq ?_
    refine KA.region rfl ?_
    refine KOps.move ?_
    refine KOps.fieldAddr hp2 ?_
    intro p17 hp17
    refine KOps.load hp17 (hS.rd 0 rfl) rfl ?_
    refine KOps.sub (by first | omega | (simp; omega)) (by first | omega | (simp; omega)) ?_
    refine KOps.call rfl (between_c) ?_
    rintro _ _ ⟨rfl, rfl⟩
    refine KOps.not ?_
    refine KOps.assign ?_
    refine KOps.done ?_
    refine sqQ.normal ?_
    refine KA.sub (Sub.cons (t := 2) Look.eq (Sub.cons (t := 4) Look.eq (Sub.cons (t := 6) Look.eq (Sub.cons (t := 8) Look.eq (Sub.cons (t := 9) Look.eq (Sub.cons (t := 10) Look.eq (Sub.cons (t := 11) Look.eq (Sub.cons (t := 15) Look.eq (Sub.nil _))))))))) ?_
    refine KA.condN ?_ ?_
    · intro c15
      refine KA.seq ?_
      refine KA.region rfl ?_
      refine KOps.assign ?_
      refine KOps.assign ?_
      refine KOps.done ?_
      refine sqQ.normal ?_
      refine KA.sub (Sub.cons (t := 4) Look.eq (Sub.cons (t := 5) Look.eq (Sub.nil _))) ?_
      refine KA.ret ?_
      refine blQ.ret ?_
      refine sqQ.ret ?_
      refine blQ.ret ?_
      refine sqQ.ret ?_
      refine lpQ.ret ?_
      refine blQ.ret ?_
      refine sqQ.ret ?_
      refine fnQ.retN ?_
      have e0 : roomsE rm l l.length = 2 := by rw [roomsE_stop (i := i) h0 (by rw [roomE_in c15]; decide) (by omega), roomE_in c15]
      rw [setE, if_neg (by rw [e0]; decide), e0]
      exact ⟨rfl, hS.keeps⟩
    · intro c15
      have hin : 0 ≤ l.getD i 0 ∧ l.getD i 0 ≤ rm - 1 := c15
      refine KA.seq ?_
      refine KA.region rfl ?_
      refine KOps.move ?_
      refine KOps.move ?_
      refine KOps.leq ?_
      refine KOps.assign ?_
      refine KOps.done ?_
      refine sqQ.normal ?_
      refine KA.sub (Sub.cons (t := 2) Look.eq (Sub.cons (t := 4) Look.eq (Sub.cons (t := 8) Look.eq (Sub.cons (t := 9) Look.eq (Sub.cons (t := 10) Look.eq (Sub.cons (t := 11) Look.eq (Sub.cons (t := 22) Look.eq (Sub.nil _)))))))) ?_
      refine KA.condD ?_ ?_
      · intro c22
        refine KA.seq ?_
        refine KA.region rfl ?_
        refine KOps.assign ?_
        refine KOps.assign ?_
        refine KOps.done ?_
        refine sqQ.normal ?_
        refine KA.sub (Sub.cons (t := 4) Look.eq (Sub.cons (t := 5) Look.eq (Sub.nil _))) ?_
        refine KA.ret ?_
        refine blQ.ret ?_
        refine sqQ.ret ?_
        refine blQ.ret ?_
        refine sqQ.ret ?_
        refine lpQ.ret ?_
        refine blQ.ret ?_
        refine sqQ.ret ?_
        refine fnQ.retN ?_
        have hle : 0 < i ∧ l.getD i 0 ≤ l.getD (i - 1) 0 := by
          by_cases h1 : i = 0
          · rw [lastI, if_pos h1] at c22; omega
          · rw [lastI, if_neg h1] at c22; exact ⟨by omega, c22⟩
        have e0 : roomsE rm l l.length = 7 := by rw [roomsE_stop (i := i) h0 (by rw [roomE_ord hin hle]; decide) (by omega), roomE_ord hin hle]
        rw [setE, if_neg (by rw [e0]; decide), e0]
        exact ⟨rfl, hS.keeps⟩
      · intro c22
        have hnl : ¬ (0 < i ∧ l.getD i 0 ≤ l.getD (i - 1) 0) := by
          rintro ⟨h1, h2⟩
          rw [lastI, if_neg (by omega)] at c22
          exact c22 h2
        refine KA.skip ?_
        refine blQ.normal ?_
        refine sqQ.normal ?_
        refine KA.sub (Sub.cons (t := 2) Look.eq (Sub.cons (t := 4) Look.eq (Sub.cons (t := 8) Look.eq (Sub.cons (t := 9) Look.eq (Sub.cons (t := 10) Look.eq (Sub.cons (t := 11) Look.eq (Sub.nil _))))))) ?_
        refine KA.seq ?_
        refine KA.region rfl ?_
        refine KOps.move ?_
        refine KOps.assign ?_
        refine KOps.done ?_
        refine sqQ.normal ?_
        refine KA.sub (Sub.cons (t := 2) Look.eq (Sub.cons (t := 4) Look.eq (Sub.cons (t := 6) Look.eq (Sub.cons (t := 8) Look.eq (Sub.cons (t := 9) Look.eq (Sub.cons (t := 10) Look.eq (Sub.cons (t := 11) Look.eq (Sub.nil _)))))))) ?_
        refine KA.region rfl ?_
        refine KOps.move ?_
        refine KOps.move ?_
        refine KOps.shl (by omega) ?_
        refine KOps.bits (by simp) ?_
        rw [set_or8 (rm := rm) hset hin hr6]
        refine KOps.assign ?_
        refine KOps.done ?_
        refine blQ.normal ?_
        refine sqQ.normal ?_
        refine KA.sub (Sub.cons (t := 2) Look.eq (Sub.cons (t := 4) Look.eq (Sub.cons (t := 6) Look.eq (Sub.cons (t := 9) Look.eq (Sub.cons (t := 10) Look.eq (Sub.cons (t := 11) Look.eq (Sub.nil _))))))) ?_
        refine KA.region rfl ?_
        refine KOps.add (by first | omega | (simp; omega)) (by first | omega | (simp; omega)) ?_
        refine KOps.move ?_
        refine KOps.done ?_
        exact lpQ.normal (i + 1) (by repeat (first | exact Sub.nil _ | refine Sub.cons Look.eq ?_ | refine Sub.cons (Eq.trans Look.eq (congrArg (AV.int _) (by first | omega | (dsimp only; omega)))) ?_ | refine Sub.cons (Eq.trans Look.eq (by rw [lastI_succ])) ?_)) ⟨by omega, roomsE_next h0 (roomE_ok hin hnl), set_next (rm := rm) hset hin hr6, hS⟩ (by omega)
  · intro c12
    refine KA.exit ?_
    refine sqQ.exit ?_
    refine lpQ.exit ?_
    refine blQ.here ?_
    refine sqQ.normal ?_
    refine KA.sub (Sub.cons (t := 4) Look.eq (Sub.nil _)) ?_
    refine KA.seq ?_
    refine KA.region rfl ?_
    refine KOps.move ?_
    refine KOps.assign ?_
    refine KOps.assign ?_
    refine KOps.done ?_
    refine sqQ.normal ?_
    refine KA.sub (Sub.cons (t := 4) Look.eq (Sub.cons (t := 5) Look.eq (Sub.nil _))) ?_
    refine KA.ret ?_
    refine fnQ.retN ?_
    have hie : i = l.length := by omega
    subst hie
    rw [setE, if_pos h0, h0]
    exact ⟨rfl, hS.keeps⟩

end Go.Am

namespace Go.Am
section
variable {P : Program} {n : Nat} {ops : Array Oper} {ex : List Nat} {Q : KF → AHeap → Prop} {k : Nat} {os : List Oper} {K : KF} {h : AHeap} {d : Nat} {ty : TypeId} {pos : String} {after : Array Edge}
theorem KOps.addK {t t' : TypeId} {x y : Operand} {kd : IntKind} {a b : Int} [hx : EvK h.globs n K x (.int kd a)] [hy : EvK h.globs n K y (.int kd b)] (hw : kd.wrap (a + b) = a + b) (hk : KOps P n ops ex Q (k + 1) os ((d, .int kd (a + b)) :: K) h) : KOps P n ops ex Q k (⟨some d, .binOp .add t x y t', ty, pos, after, none⟩ :: os) K h :=
  KOps.int (.inr (.inr rfl)) (by rw [← hw]; rfl) hk
end
theorem add8 : ∀ k : Nat, k < 64 → IntKind.wrap .u8 ((k : Int) + 1) = (k : Int) + 1 := by decide +kernel
theorem shl8 : ∀ i : Nat, i ≤ 6 → IntKind.wrap .u8 (1 * 2 ^ Min.min (i : Int).toNat (IntKind.bits .u8)) = ((2 ^ i : Nat) : Int) := by decide +kernel
/-- How many rooms sets have, for each set of rooms. -/
def sizesC : List AV := (List.range 64).map fun s => .int .i8 ((roomsTo s 6).length : Int)
def Sizes (h : AHeap) : Prop := h.globs.contains 0 = true ∧ Rd h (.ptr 0 0) 0 sizesC
theorem Sizes.ext {h h' : AHeap} (z : Sizes h) (k : Keeps h h') : Sizes h' := ⟨by rw [k.globs]; exact z.1, Rd.ext k z.2⟩
theorem Sizes.ev {h : AHeap} (z : Sizes h) (n : Nat) (K : KF) : EvK h.globs n K (.global 0) (.ptr 0 0) := ⟨by simp only [evalK]; rw [if_pos z.1]⟩
theorem sizes_get {k : Nat} (hk : k < 64) : sizesC[0 + k]? = some (.int .i8 ((roomsTo k 6).length : Int)) := by
  rw [Nat.zero_add, sizesC, List.getElem?_map, List.getElem?_range hk]; rfl
theorem addr0 : AddrOf (.ptr 0 0) (.ptr 0 0) 0 0 := ⟨0, 0, .inr ⟨rfl, rfl⟩, rfl⟩
def szO (o : Option Nat) : Nat := match o with | none => 7 | some b => (roomsTo b 6).length
def rowO (o : Option Nat) : List Int := match o with | none => [] | some b => roomsTo b 6
theorem fewL_is (p : Nat → Bool) (k : Nat) : fewL p k = rowO (bestTo p k) := by unfold fewL rowO; cases bestTo p k <;> rfl
theorem better_lt {o : Option Nat} {k : Nat} (h : (roomsTo k 6).length < szO o) : betterO o k = true := by
  cases o with
  | none => rfl
  | some b =>
    have h : (roomsTo k 6).length < (roomsTo b 6).length := h
    show befB _ _ = true
    rw [befB_len (by omega), decide_eq_true h]
theorem better_gt {o : Option Nat} {k : Nat} (h : szO o < (roomsTo k 6).length) : betterO o k = false := by
  cases o with
  | none =>
    have h : 7 < (roomsTo k 6).length := h
    have := roomsTo_len k 6
    omega
  | some b =>
    have h : (roomsTo b 6).length < (roomsTo k 6).length := h
    show befB _ _ = false
    rw [befB_len (by omega), decide_eq_false (by omega)]
theorem better_eq {o : Option Nat} {k : Nat} (h : (roomsTo k 6).length = szO o) : betterO o k = befB (roomsTo k 6) (rowO o) ∧ (roomsTo k 6).length = (rowO o).length := by
  cases o with
  | none =>
    have h : (roomsTo k 6).length = 7 := h
    have := roomsTo_len k 6
    omega
  | some b => exact ⟨rfl, h⟩
theorem best_no {p : Nat → Bool} {k : Nat} (h : (p k && betterO (bestTo p k) k) = false) : bestTo p (k + 1) = bestTo p k := by rw [bestTo, if_neg (by rw [h]; decide)]
theorem best_yes {p : Nat → Bool} {k : Nat} (h : p k = true) (h2 : betterO (bestTo p k) k = true) : bestTo p (k + 1) = some k := by rw [bestTo, if_pos (by rw [h, h2]; rfl)]

theorem fewest_c {h : AHeap} {r : Nat} {vW vi : AV} {ws : List W} {p : Nat → Bool} (hv : Rd h vW 4 (flr wc ws)) (hr : r ≤ 6) (hSz : Sizes h) (hone : vi.one = true)
    (hP : ∀ (h' : AHeap) (s : Nat), Keeps h h' → s < 2 ^ r → CallsV Go.Proofs.Tryd.prog vi [.int .u8 (s : Int)] h' (fun q h2 => q = .bool (p s) ∧ Keeps h' h2)) : ACalls Go.Proofs.Tryd.prog 71 [.agg [.int .i64 (r : Int), vW], vi] h (fun q h' => St h h' [⟨q, 1, ints (fewL p (2 ^ r)), true⟩]) := by
  refine KA.fn 45 [.tmp 4] Go.Proofs.Tryd.func71 rfl (by decide) rfl rfl (Nat.le_of_ble_eq_true rfl) ?_
  have hS := St.refl h
  have hvo : vW.one = true := hv.one
  have hpw : 2 ^ r ≤ 2 ^ 6 := Nat.pow_le_pow_right (by decide) hr
  have hsh := shl8 r hr
  show KA _ 45 _ _ [(0, .agg [.int .i64 (r : Int), vW]), (1, vi)] _
  refine KA.seq ?_
  refine KA.region rfl ?_
  refine KOps.boxAll hS (by first | rfl | (simp [AV.one]; done) | (simp [AV.one]; assumption) | (simp [AV.one, *]; done)) ?_
  intro p2 h' hp2 hS
  refine KOps.assign ?_
  refine KOps.done ?_
  refine sqQ.normal ?_
  refine KA.sub (Sub.cons (t := 1) Look.eq (Sub.cons (t := 2) Look.eq (Sub.nil _))) ?_
  refine KA.seq ?_
  refine KA.region rfl ?_
  refine KOps.assign ?_
  refine KOps.done ?_
  refine sqQ.normal ?_
  refine KA.seq ?_
  refine KA.region rfl ?_
  refine KOps.assign ?_
  refine KOps.done ?_
  refine sqQ.normal ?_
  refine KA.seq ?_
  refine KA.seq ?_
  refine KA.region rfl ?_
  refine KOps.fieldAddr hp2 ?_
  intro p9 hp9
  refine KOps.load hp9 (hS.rd 0 rfl) rfl ?_
  refine KOps.shl (by omega) ?_
  rw [hsh]
  refine KOps.move ?_
  refine KOps.done ?_
  refine sqQ.normal ?_
  refine KA.sub (Sub.cons (t := 1) Look.eq (Sub.cons (t := 5) Look.eq (Sub.cons (t := 6) Look.eq (Sub.cons (t := 11) Look.eq (Sub.cons (t := 12) Look.eq (Sub.nil _)))))) ?_
  refine KA.block ?_
  refine KA.loop (X := Nat × AV) (fun x => [(1, vi), (5, x.2), (6, .int .i8 (szO (bestTo p x.1) : Int)), (11, .int .u8 ((2 ^ r : Nat) : Int)), (12, .int .u8 (x.1 : Int))]) (fun x h' => x.1 ≤ 2 ^ r ∧ St h h' [⟨p2, 0, [.int .i64 (r : Int), vW], true⟩, ⟨x.2, 1, ints (rowO (bestTo p x.1)), true⟩]) (fun x => 2 ^ r - x.1) (0, .nils) (by repeat (first | exact Sub.nil _ | refine Sub.cons Look.eq ?_ | refine Sub.cons (Eq.trans Look.eq (congrArg (AV.int _) (by first | omega | (dsimp only; omega)))) ?_)) ?_ ?_
  · exact ⟨Nat.zero_le _, St.addNil 1 true hS⟩
  rintro ⟨k, vo⟩ h4 ⟨hk, hS⟩
  dsimp only at hk hS ⊢
  have hkl := roomsTo_len k 6
  refine KA.seq ?_
  refine KA.region rfl ?_
  refine KOps.lss ?_
  refine KOps.done ?_
  refine sqQ.normal ?_
  refine KA.seq ?_
  refine KA.condD ?_ ?_
  · intro c13
    refine KA.skip ?_
    refine sqQ.normal ?_
    refine KA.sub (Sub.cons (t := 1) Look.eq (Sub.cons (t := 5) Look.eq (Sub.cons (t := 6) Look.eq (Sub.cons (t := 11) Look.eq (Sub.cons (t := 12) Look.eq (Sub.nil _)))))) ?_
    refine KA.seq ?_
    refine KA.block ?_
    refine KA.seq ?_
    refine KA.region rfl ?_
    refine KOps.move ?_
    refine KOps.assign ?_
    refine KOps.done ?_
    refine sqQ.normal ?_
    refine KA.sub (Sub.cons (t := 1) Look.eq (Sub.cons (t := 5) Look.eq (Sub.cons (t := 6) Look.eq (Sub.cons (t := 7) Look.eq (Sub.cons (t := 11) Look.eq (Sub.cons (t := 12) Look.eq (Sub.nil _))))))) ?_
    refine KA.seq ?_
    refine KA.seq ?_
    refine KA.region rfl ?_
    refine KOps.move ?_
    have hz := hSz.ext hS.keeps
    haveI hzi := hz.ev
    refine KOps.indexAt (v := .ptr 0 0) addr0 (j := k) rfl (by omega) ?_
    intro p16 hp16
    refine KOps.load hp16 hz.2 (sizes_get (by omega)) ?_
    refine KOps.move ?_
    refine KOps.gtr ?_
    refine KOps.move ?_
    refine KOps.guardB (dj := 20) rfl rfl false true rfl ?_ ?_
    · intro g20
      have g20 := of_decide_eq_false g20
      refine KOps.move ?_
      refine KOps.guardYes (dj := 20) rfl rfl ?_
      refine KOps.move ?_
      refine KOps.guardYes (dj := 20) rfl rfl ?_
      refine KOps.callV rfl (hP _ k hS.keeps (by omega)) ?_
      rintro _ h5 ⟨rfl, hK⟩
      have hS0 : St _ _ (_ :: _) := St.trans hS (St.ofK hK)
      clear hS
      have hS := hS0
      clear hS0
      refine KOps.guardYes (dj := 20) rfl rfl ?_
      refine KOps.not ?_
      refine KOps.pickF ?_
      refine KOps.done ?_
      refine sqQ.normal ?_
      refine KA.sub (Sub.cons (t := 1) Look.eq (Sub.cons (t := 5) Look.eq (Sub.cons (t := 6) Look.eq (Sub.cons (t := 7) Look.eq (Sub.cons (t := 11) Look.eq (Sub.cons (t := 12) Look.eq (Sub.cons (t := 21) Look.eq (Sub.cons (t := 22) Look.eq (Sub.cons (t := 23) Look.eq (Sub.cons (t := 24) Look.eq (Sub.cons (t := 25) Look.eq (Sub.nil _)))))))))))) ?_
      refine KA.condB ?_ ?_
      · intro c25
        refine KA.exit ?_
        refine sqQ.exit ?_
        refine blQ.here ?_
        refine sqQ.normal ?_
        refine KA.sub (Sub.cons (t := 1) Look.eq (Sub.cons (t := 5) Look.eq (Sub.cons (t := 6) Look.eq (Sub.cons (t := 11) Look.eq (Sub.cons (t := 12) Look.eq (Sub.cons (t := 21) Look.eq (Sub.cons (t := 22) Look.eq (Sub.cons (t := 23) Look.eq (Sub.cons (t := 24) Look.eq (Sub.nil _)))))))))) ?_
        refine KA.region rfl ?_
        refine KOps.addK (add8 k (by omega)) ?_
        refine KOps.move ?_
        refine KOps.done ?_
        have hb := best_no (p := p) (k := k) (by rw [show p k = false by simpa using c25, Bool.false_and])
        refine lpQ.normal (k + 1, vo) (by repeat (first | exact Sub.nil _ | refine Sub.cons Look.eq ?_ | refine Sub.cons (Eq.trans Look.eq (congrArg (AV.int _) (by first | omega | (dsimp only; omega)))) ?_ | refine Sub.cons (Eq.trans Look.eq (by rw [hb])) ?_)) ⟨by dsimp only; omega, ?_⟩ (by dsimp only; omega)
        dsimp only
        rw [hb]
        exact hS
      · intro c25
        refine KA.skip ?_
        refine sqQ.normal ?_
        refine KA.sub (Sub.cons (t := 1) Look.eq (Sub.cons (t := 5) Look.eq (Sub.cons (t := 6) Look.eq (Sub.cons (t := 7) Look.eq (Sub.cons (t := 11) Look.eq (Sub.cons (t := 12) Look.eq (Sub.cons (t := 21) Look.eq (Sub.cons (t := 22) Look.eq (Sub.cons (t := 23) Look.eq (Sub.cons (t := 24) Look.eq (Sub.nil _))))))))))) ?_
        refine KA.seq ?_
        refine KA.region rfl ?_
        refine KOps.move ?_
        refine KOps.call rfl (list_c (by omega)) ?_
        rintro vl h6 hL
        have hS0 : St _ _ (_ :: _) := St.trans hS hL
        clear hS
        have hS := hS0
        clear hS0
        refine KOps.assign ?_
        refine KOps.done ?_
        refine sqQ.normal ?_
        refine KA.sub (Sub.cons (t := 1) Look.eq (Sub.cons (t := 5) Look.eq (Sub.cons (t := 6) Look.eq (Sub.cons (t := 7) Look.eq (Sub.cons (t := 8) Look.eq (Sub.cons (t := 11) Look.eq (Sub.cons (t := 12) Look.eq (Sub.cons (t := 21) Look.eq (Sub.cons (t := 22) Look.eq (Sub.cons (t := 23) Look.eq (Sub.cons (t := 24) Look.eq (Sub.nil _)))))))))))) ?_
        refine KA.seq ?_
        refine KA.region rfl ?_
        refine KOps.move ?_
        have hz := hSz.ext hS.keeps
        haveI hzi := hz.ev
        refine KOps.indexAt (v := .ptr 0 0) addr0 (j := k) rfl (by omega) ?_
        intro p29 hp29
        refine KOps.load hp29 hz.2 (sizes_get (by omega)) ?_
        refine KOps.move ?_
        refine KOps.lss ?_
        refine KOps.move ?_
        refine KOps.guardB (dj := 33) rfl rfl false true rfl ?_ ?_
        · intro g33
          have g33 := of_decide_eq_false g33
          refine KOps.move ?_
          refine KOps.guardYes (dj := 33) rfl rfl ?_
          refine KOps.move ?_
          refine KOps.guardYes (dj := 33) rfl rfl ?_
          refine KOps.call rfl (compares_c (hS.rd 0 rfl) (hS.rd 2 rfl) (by omega) (better_eq (by omega)).2) ?_
          rintro _ _ ⟨⟨c, rfl, hc⟩, rfl⟩
          refine KOps.guardYes (dj := 33) rfl rfl ?_
          refine KOps.lss ?_
          refine KOps.pickF ?_
          refine KOps.done ?_
          refine sqQ.normal ?_
          refine KA.sub (Sub.cons (t := 1) Look.eq (Sub.cons (t := 5) Look.eq (Sub.cons (t := 6) Look.eq (Sub.cons (t := 7) Look.eq (Sub.cons (t := 8) Look.eq (Sub.cons (t := 11) Look.eq (Sub.cons (t := 12) Look.eq (Sub.cons (t := 21) Look.eq (Sub.cons (t := 22) Look.eq (Sub.cons (t := 23) Look.eq (Sub.cons (t := 24) Look.eq (Sub.cons (t := 34) Look.eq (Sub.cons (t := 35) Look.eq (Sub.cons (t := 36) Look.eq (Sub.cons (t := 37) Look.eq (Sub.cons (t := 38) Look.eq (Sub.nil _))))))))))))))))) ?_
          refine KA.condD ?_ ?_
          · intro c38
            refine KA.draw [] mixed rfl (by kernel_rfl) ?_
            refine KOps.move ?_
            refine KOps.move ?_
            have hz := hSz.ext hS.keeps
            haveI hzi := hz.ev
            refine KOps.indexAt (v := .ptr 0 0) addr0 (j := k) rfl (by omega) ?_
            intro p41 hp41
            refine KOps.load hp41 hz.2 (sizes_get (by omega)) ?_
            refine KOps.assign ?_
            refine KOps.assign ?_
            refine KOps.done ?_
            refine blQ.normal ?_
            refine sqQ.normal ?_
            refine KA.sub (Sub.cons (t := 1) Look.eq (Sub.cons (t := 5) Look.eq (Sub.cons (t := 6) Look.eq (Sub.cons (t := 11) Look.eq (Sub.cons (t := 12) Look.eq (Sub.cons (t := 21) Look.eq (Sub.cons (t := 22) Look.eq (Sub.cons (t := 23) Look.eq (Sub.cons (t := 24) Look.eq (Sub.cons (t := 34) Look.eq (Sub.cons (t := 35) Look.eq (Sub.cons (t := 36) Look.eq (Sub.cons (t := 37) Look.eq (Sub.nil _)))))))))))))) ?_
            refine KA.region rfl ?_
            refine KOps.addK (add8 k (by omega)) ?_
            refine KOps.move ?_
            refine KOps.done ?_
            have hb := best_yes (p := p) (k := k) (by simpa using c25) (by rw [(better_eq (by omega)).1]; exact hc.1 (by omega))
            refine lpQ.normal (k + 1, vl) (by repeat (first | exact Sub.nil _ | refine Sub.cons Look.eq ?_ | refine Sub.cons (Eq.trans Look.eq (congrArg (AV.int _) (by first | omega | (dsimp only; omega)))) ?_ | refine Sub.cons (Eq.trans Look.eq (by rw [hb]; rfl)) ?_)) ⟨by dsimp only; omega, ?_⟩ (by dsimp only; omega)
            dsimp only
            rw [hb]
            exact St.pick [1, 0] (by decide) rfl hS
          · intro c38
            refine KA.skip ?_
            refine blQ.normal ?_
            refine sqQ.normal ?_
            refine KA.sub (Sub.cons (t := 1) Look.eq (Sub.cons (t := 5) Look.eq (Sub.cons (t := 6) Look.eq (Sub.cons (t := 11) Look.eq (Sub.cons (t := 12) Look.eq (Sub.cons (t := 21) Look.eq (Sub.cons (t := 22) Look.eq (Sub.cons (t := 23) Look.eq (Sub.cons (t := 24) Look.eq (Sub.cons (t := 34) Look.eq (Sub.cons (t := 35) Look.eq (Sub.cons (t := 36) Look.eq (Sub.cons (t := 37) Look.eq (Sub.nil _)))))))))))))) ?_
            refine KA.region rfl ?_
            refine KOps.addK (add8 k (by omega)) ?_
            refine KOps.move ?_
            refine KOps.done ?_
            have hb := best_no (p := p) (k := k) (by rw [(better_eq (by omega)).1, show befB (roomsTo k 6) (rowO (bestTo p k)) = false from Bool.eq_false_iff.2 (fun h0 => by have := hc.2 h0; omega), Bool.and_false])
            refine lpQ.normal (k + 1, vo) (by repeat (first | exact Sub.nil _ | refine Sub.cons Look.eq ?_ | refine Sub.cons (Eq.trans Look.eq (congrArg (AV.int _) (by first | omega | (dsimp only; omega)))) ?_ | refine Sub.cons (Eq.trans Look.eq (by rw [hb])) ?_)) ⟨by dsimp only; omega, ?_⟩ (by dsimp only; omega)
            dsimp only
            rw [hb]
            exact St.tail hS
        · intro g33
          have g33 := of_decide_eq_true g33
          refine KOps.guardNo (dj := 33) rfl rfl rfl ?_
          refine KOps.guardNo (dj := 33) rfl rfl rfl ?_
          refine KOps.guardNo (dj := 33) rfl rfl rfl ?_
          refine KOps.pickT ?_
          refine KOps.done ?_
          refine sqQ.normal ?_
          refine KA.sub (Sub.cons (t := 1) Look.eq (Sub.cons (t := 5) Look.eq (Sub.cons (t := 6) Look.eq (Sub.cons (t := 7) Look.eq (Sub.cons (t := 8) Look.eq (Sub.cons (t := 11) Look.eq (Sub.cons (t := 12) Look.eq (Sub.cons (t := 21) Look.eq (Sub.cons (t := 22) Look.eq (Sub.cons (t := 23) Look.eq (Sub.cons (t := 24) Look.eq (Sub.cons (t := 34) Look.eq (Sub.cons (t := 35) Look.eq (Sub.cons (t := 36) Look.eq (Sub.cons (t := 37) Look.eq (Sub.cons (t := 38) Look.eq (Sub.nil _))))))))))))))))) ?_
          refine KA.condT ?_
          refine KA.draw [] mixed rfl (by kernel_rfl) ?_
          refine KOps.move ?_
          refine KOps.move ?_
          have hz := hSz.ext hS.keeps
          haveI hzi := hz.ev
          refine KOps.indexAt (v := .ptr 0 0) addr0 (j := k) rfl (by omega) ?_
          intro p41 hp41
          refine KOps.load hp41 hz.2 (sizes_get (by omega)) ?_
          refine KOps.assign ?_
          refine KOps.assign ?_
          refine KOps.done ?_
          refine blQ.normal ?_
          refine sqQ.normal ?_
          refine KA.sub (Sub.cons (t := 1) Look.eq (Sub.cons (t := 5) Look.eq (Sub.cons (t := 6) Look.eq (Sub.cons (t := 11) Look.eq (Sub.cons (t := 12) Look.eq (Sub.cons (t := 21) Look.eq (Sub.cons (t := 22) Look.eq (Sub.cons (t := 23) Look.eq (Sub.cons (t := 24) Look.eq (Sub.cons (t := 34) Look.eq (Sub.cons (t := 35) Look.eq (Sub.cons (t := 36) Look.eq (Sub.cons (t := 37) Look.eq (Sub.nil _)))))))))))))) ?_
          refine KA.region rfl ?_
          refine KOps.addK (add8 k (by omega)) ?_
          refine KOps.move ?_
          refine KOps.done ?_
          have hb := best_yes (p := p) (k := k) (by simpa using c25) (better_lt (by omega))
          refine lpQ.normal (k + 1, vl) (by repeat (first | exact Sub.nil _ | refine Sub.cons Look.eq ?_ | refine Sub.cons (Eq.trans Look.eq (congrArg (AV.int _) (by first | omega | (dsimp only; omega)))) ?_ | refine Sub.cons (Eq.trans Look.eq (by rw [hb]; rfl)) ?_)) ⟨by dsimp only; omega, ?_⟩ (by dsimp only; omega)
          dsimp only
          rw [hb]
          exact St.pick [1, 0] (by decide) rfl hS
    · intro g20
      have g20 := of_decide_eq_true g20
      refine KOps.guardNo (dj := 20) rfl rfl rfl ?_
      refine KOps.guardNo (dj := 20) rfl rfl rfl ?_
      refine KOps.guardNo (dj := 20) rfl rfl rfl ?_
      refine KOps.pickT ?_
      refine KOps.done ?_
      refine sqQ.normal ?_
      refine KA.sub (Sub.cons (t := 1) Look.eq (Sub.cons (t := 5) Look.eq (Sub.cons (t := 6) Look.eq (Sub.cons (t := 7) Look.eq (Sub.cons (t := 11) Look.eq (Sub.cons (t := 12) Look.eq (Sub.cons (t := 21) Look.eq (Sub.cons (t := 22) Look.eq (Sub.cons (t := 23) Look.eq (Sub.cons (t := 24) Look.eq (Sub.cons (t := 25) Look.eq (Sub.nil _)))))))))))) ?_
      refine KA.condT ?_
      refine KA.exit ?_
      refine sqQ.exit ?_
      refine blQ.here ?_
      refine sqQ.normal ?_
      refine KA.sub (Sub.cons (t := 1) Look.eq (Sub.cons (t := 5) Look.eq (Sub.cons (t := 6) Look.eq (Sub.cons (t := 11) Look.eq (Sub.cons (t := 12) Look.eq (Sub.cons (t := 21) Look.eq (Sub.cons (t := 22) Look.eq (Sub.cons (t := 23) Look.eq (Sub.cons (t := 24) Look.eq (Sub.nil _)))))))))) ?_
      refine KA.region rfl ?_
      refine KOps.addK (add8 k (by omega)) ?_
      refine KOps.move ?_
      refine KOps.done ?_
      have hb := best_no (p := p) (k := k) (by rw [better_gt (by omega), Bool.and_false])
      refine lpQ.normal (k + 1, vo) (by repeat (first | exact Sub.nil _ | refine Sub.cons Look.eq ?_ | refine Sub.cons (Eq.trans Look.eq (congrArg (AV.int _) (by first | omega | (dsimp only; omega)))) ?_ | refine Sub.cons (Eq.trans Look.eq (by rw [hb])) ?_)) ⟨by dsimp only; omega, ?_⟩ (by dsimp only; omega)
      dsimp only
      rw [hb]
      exact hS
  · intro c13
    refine KA.exit ?_
    refine sqQ.exit ?_
    refine lpQ.exit ?_
    refine blQ.here ?_
    refine sqQ.normal ?_
    refine KA.sub (Sub.cons (t := 5) Look.eq (Sub.nil _)) ?_
    refine KA.seq ?_
    refine KA.region rfl ?_
    refine KOps.move ?_
    refine KOps.assign ?_
    refine KOps.done ?_
    refine sqQ.normal ?_
    refine KA.sub (Sub.cons (t := 4) Look.eq (Sub.nil _)) ?_
    refine KA.ret ?_
    refine fnQ.ret1 ?_
    rw [fewL_is, show 2 ^ r = k by omega]
    exact St.pick [1] (by decide) rfl hS

end Go.Am

namespace Go.Am
def againE (rm : Int) (ws : List W) : Int := if chkB rm ws = 0 then (if canP rm ws = true then 13 else 0) else chkB rm ws
def provE (rm : Int) (ws : List W) (l : List Int) : Int := if chkB rm ws = 0 then (if roomsE rm l l.length = 0 then (if proofB ws (setE rm l) = true then 0 else 14) else roomsE rm l l.length) else chkB rm ws
theorem setTo_lt {rm : Int} {l : List Int} (hr : rm ≤ 6) : ∀ i, roomsE rm l i = 0 → setTo l i < 64 := by
  intro i
  induction i with
  | zero => intro _; exact (show 0 < 64 by decide)
  | succ i ih =>
    intro h
    rw [roomsE] at h
    by_cases h1 : roomsE rm l i = 0
    · rw [if_pos h1] at h
      refine set_next (rm := rm) (ih h1) ?_ hr
      refine Classical.byContradiction fun h2 => ?_
      rw [roomE_in h2] at h
      cases h
    · rw [if_neg h1] at h; exact absurd h h1
theorem setE_lt {rm : Int} {l : List Int} (hr : rm ≤ 6) : setE rm l < 64 := by
  unfold setE
  split
  · rename_i h; exact setTo_lt hr _ h
  · decide

theorem against_c {h : AHeap} {rm : Int} {vW : AV} {ws : List W} (hv : Rd h vW 4 (flr wc ws)) (hSz : Sizes h) : ACalls Go.Proofs.Tryd.prog 29 [.agg [.int .i64 rm, vW]] h (fun q h' => ∃ vo, q = .tup [vo, .int .i64 (againE rm ws)] ∧ St h h' [⟨vo, 1, ints (if againE rm ws = 0 then fewL (proofB ws) (2 ^ rm.toNat) else []), true⟩]) := by
  refine KA.fn 21 [.tmp 2, .tmp 3] Go.Proofs.Tryd.func29 rfl (by decide) rfl rfl (Nat.le_of_ble_eq_true rfl) ?_
  have hS := St.refl h
  have hvo : vW.one = true := hv.one
  show KA _ 21 _ _ [(0, .agg [.int .i64 rm, vW])] _
  refine KA.seq ?_
  refine KA.region rfl ?_
  refine KOps.boxAll hS (by first | rfl | (simp [AV.one]; done) | (simp [AV.one]; assumption) | (simp [AV.one, *]; done)) ?_
  intro p1 h' hp1 hS
  refine KOps.assign ?_
  refine KOps.assign ?_
  refine KOps.done ?_
  refine sqQ.normal ?_
  refine KA.sub (Sub.cons (t := 1) Look.eq (Sub.nil _)) ?_
  refine KA.seq ?_
  refine KA.region rfl ?_
  refine KOps.loadAll hS (i := 0) rfl hp1 (by rfl) (by decide) ?_
  refine KOps.call rfl (stCan_c (Rd.ext hS.keeps hv)) ?_
  rintro _ h5 ⟨rfl, hK⟩
  have hS0 : St _ _ (_ :: _) := St.trans hS (St.ofK hK)
  clear hS
  have hS := hS0
  clear hS0
  refine KOps.move ?_
  refine KOps.extract ?_
  refine KOps.extract ?_
  refine KOps.assign ?_
  refine KOps.assign ?_
  refine KOps.done ?_
  refine sqQ.normal ?_
  refine KA.sub (Sub.cons (t := 1) Look.eq (Sub.cons (t := 4) Look.eq (Sub.cons (t := 5) Look.eq (Sub.nil _)))) ?_
  refine KA.seq ?_
  refine KA.block ?_
  refine KA.seq ?_
  refine KA.region rfl ?_
  refine KOps.move ?_
  refine KOps.neq ?_
  refine KOps.assign ?_
  refine KOps.done ?_
  refine sqQ.normal ?_
  refine KA.sub (Sub.cons (t := 1) Look.eq (Sub.cons (t := 4) Look.eq (Sub.cons (t := 5) Look.eq (Sub.cons (t := 11) Look.eq (Sub.nil _))))) ?_
  refine KA.condN ?_ ?_
  · intro c11
    refine KA.seq ?_
    refine KA.region rfl ?_
    refine KOps.move ?_
    refine KOps.assign ?_
    refine KOps.assign ?_
    refine KOps.done ?_
    refine sqQ.normal ?_
    refine KA.sub (Sub.cons (t := 2) Look.eq (Sub.cons (t := 3) Look.eq (Sub.nil _))) ?_
    refine KA.ret ?_
    refine blQ.ret ?_
    refine sqQ.ret ?_
    refine fnQ.retN ?_
    have e0 : againE rm ws = chkB rm ws := by rw [againE, if_neg (by omega)]
    rw [if_neg (by rw [e0]; omega), e0]
    exact ⟨_, rfl, St.pick [1] (by decide) rfl (St.addNil 1 true hS)⟩
  · intro c11
    refine KA.seq ?_
    refine KA.region rfl ?_
    refine KOps.move ?_
    refine KOps.assign ?_
    refine KOps.done ?_
    refine sqQ.normal ?_
    refine KA.sub (Sub.cons (t := 1) Look.eq (Sub.cons (t := 15) Look.eq (Sub.nil _))) ?_
    refine KA.condB ?_ ?_
    · intro c15
      refine KA.seq ?_
      refine KA.region rfl ?_
      refine KOps.assign ?_
      refine KOps.assign ?_
      refine KOps.done ?_
      refine sqQ.normal ?_
      refine KA.sub (Sub.cons (t := 2) Look.eq (Sub.cons (t := 3) Look.eq (Sub.nil _))) ?_
      refine KA.ret ?_
      refine blQ.ret ?_
      refine sqQ.ret ?_
      refine fnQ.retN ?_
      have e0 : againE rm ws = 13 := by rw [againE, if_pos (by omega), if_pos c15]
      rw [if_neg (by rw [e0]; decide), e0]
      exact ⟨_, rfl, St.pick [1] (by decide) rfl (St.addNil 1 true hS)⟩
    · intro c15
      have hc0 : chkB rm ws = 0 := by omega
      have hB := BOk.of hc0
      obtain ⟨r, rfl⟩ : ∃ r : Nat, rm = (r : Int) := ⟨rm.toNat, by have := hB.r2; omega⟩
      have hr6 := hB.r6
      have hpw : 2 ^ r ≤ 2 ^ 6 := Nat.pow_le_pow_right (by decide) (by omega)
      refine KA.skip ?_
      refine blQ.normal ?_
      refine sqQ.normal ?_
      refine KA.sub (Sub.cons (t := 1) Look.eq (Sub.nil _)) ?_
      refine KA.seq ?_
      refine KA.region rfl ?_
      refine KOps.loadAll hS (i := 0) rfl hp1 (by rfl) (by decide) ?_
      refine KOps.loadAll hS (i := 0) rfl hp1 (by rfl) (by decide) ?_
      refine KOps.makeMeth ?_
      refine KOps.call rfl (fewest_c (r := r) (p := proofB ws) (vi := .fnm 72 [.agg [.int .i64 (r : Int), vW]] []) (Rd.ext hS.keeps hv) (by omega) (hSz.ext hS.keeps) rfl (fun h' s hK hs => ACalls.mono (proof_c (s := s) (Rd.ext (hS.keeps.trans hK) hv) hB (by omega)) (fun _ _ hx => hx))) ?_
      rintro vo h6 hF
      refine KOps.assign ?_
      refine KOps.assign ?_
      refine KOps.done ?_
      refine sqQ.normal ?_
      refine KA.sub (Sub.cons (t := 2) Look.eq (Sub.cons (t := 3) Look.eq (Sub.nil _))) ?_
      refine KA.ret ?_
      refine fnQ.retN ?_
      have e0 : againE (r : Int) ws = 0 := by rw [againE, if_pos hc0, if_neg (by rw [c15]; decide)]
      rw [if_pos e0, e0, Int.toNat_natCast]
      exact ⟨_, rfl, St.pick [0] (by decide) rfl (St.trans hS hF)⟩

theorem proves_c {h : AHeap} {rm : Int} {vW vn : AV} {ws : List W} {l : List Int} (hv : Rd h vW 4 (flr wc ws)) (hn : Row h vn l) (hll : l.length ≤ 1000000) : ACalls Go.Proofs.Tryd.prog 31 [.agg [.int .i64 rm, vW], vn] h (fun q h' => q = .int .i64 (provE rm ws l) ∧ Keeps h h') := by
  refine KA.fn 28 [.tmp 4] Go.Proofs.Tryd.func31 rfl (by decide) rfl rfl (Nat.le_of_ble_eq_true rfl) ?_
  have hS := St.refl h
  have hvo : vW.one = true := hv.one
  show KA _ 28 _ _ [(0, .agg [.int .i64 rm, vW]), (1, vn)] _
  refine KA.seq ?_
  refine KA.region rfl ?_
  refine KOps.boxAll hS (by first | rfl | (simp [AV.one]; done) | (simp [AV.one]; assumption) | (simp [AV.one, *]; done)) ?_
  intro p2 h' hp2 hS
  refine KOps.assign ?_
  refine KOps.done ?_
  refine sqQ.normal ?_
  refine KA.sub (Sub.cons (t := 1) Look.eq (Sub.cons (t := 2) Look.eq (Sub.nil _))) ?_
  refine KA.seq ?_
  refine KA.seq ?_
  refine KA.region rfl ?_
  refine KOps.loadAll hS (i := 0) rfl hp2 (by rfl) (by decide) ?_
  refine KOps.call rfl (check_c (Rd.ext hS.keeps hv)) ?_
  rintro _ h5 ⟨rfl, hK⟩
  have hS0 : St _ _ (_ :: _) := St.trans hS (St.ofK hK)
  clear hS
  have hS := hS0
  clear hS0
  refine KOps.assign ?_
  refine KOps.done ?_
  refine sqQ.normal ?_
  refine KA.sub (Sub.cons (t := 1) Look.eq (Sub.cons (t := 2) Look.eq (Sub.cons (t := 5) Look.eq (Sub.nil _)))) ?_
  refine KA.seq ?_
  refine KA.region rfl ?_
  refine KOps.move ?_
  refine KOps.neq ?_
  refine KOps.done ?_
  refine sqQ.normal ?_
  refine KA.sub (Sub.cons (t := 1) Look.eq (Sub.cons (t := 2) Look.eq (Sub.cons (t := 5) Look.eq (Sub.cons (t := 11) Look.eq (Sub.nil _))))) ?_
  refine KA.condN ?_ ?_
  · intro c11
    refine KA.seq ?_
    refine KA.region rfl ?_
    refine KOps.move ?_
    refine KOps.assign ?_
    refine KOps.done ?_
    refine sqQ.normal ?_
    refine KA.sub (Sub.cons (t := 4) Look.eq (Sub.nil _)) ?_
    refine KA.ret ?_
    refine sqQ.ret ?_
    refine fnQ.ret1 ?_
    rw [provE, if_neg c11]
    exact ⟨rfl, hS.keeps⟩
  · intro c11
    have hB := BOk.of c11
    refine KA.skip ?_
    refine sqQ.normal ?_
    refine KA.sub (Sub.cons (t := 1) Look.eq (Sub.cons (t := 2) Look.eq (Sub.nil _))) ?_
    refine KA.seq ?_
    refine KA.region rfl ?_
    refine KOps.loadAll hS (i := 0) rfl hp2 (by rfl) (by decide) ?_
    refine KOps.move ?_
    refine KOps.call rfl (rooms_c (Rd.ext hS.keeps hv) (Row.ext hS.keeps hn) hB hll) ?_
    rintro _ h6 ⟨rfl, hK⟩
    have hS0 : St _ _ (_ :: _) := St.trans hS (St.ofK hK)
    clear hS
    have hS := hS0
    clear hS0
    refine KOps.move ?_
    refine KOps.extract ?_
    refine KOps.extract ?_
    refine KOps.assign ?_
    refine KOps.assign ?_
    refine KOps.done ?_
    refine sqQ.normal ?_
    refine KA.sub (Sub.cons (t := 2) Look.eq (Sub.cons (t := 6) Look.eq (Sub.cons (t := 7) Look.eq (Sub.nil _)))) ?_
    refine KA.seq ?_
    refine KA.seq ?_
    refine KA.region rfl ?_
    refine KOps.move ?_
    refine KOps.eql ?_
    refine KOps.move ?_
    refine KOps.guardB (dj := 21) rfl rfl true false rfl ?_ ?_
    · intro g21
      have g21 := of_decide_eq_true g21
      refine KOps.loadAll hS (i := 0) rfl hp2 (by rfl) (by decide) ?_
      refine KOps.guardYes (dj := 21) rfl rfl ?_
      refine KOps.move ?_
      refine KOps.guardYes (dj := 21) rfl rfl ?_
      refine KOps.call rfl (proof_c (Rd.ext hS.keeps hv) hB (setE_lt hB.r6)) ?_
      rintro _ h7 ⟨rfl, hK⟩
      have hS0 : St _ _ (_ :: _) := St.trans hS (St.ofK hK)
      clear hS
      have hS := hS0
      clear hS0
      refine KOps.guardYes (dj := 21) rfl rfl ?_
      refine KOps.not ?_
      refine KOps.pickT ?_
      refine KOps.done ?_
      refine sqQ.normal ?_
      refine KA.sub (Sub.cons (t := 7) Look.eq (Sub.cons (t := 26) Look.eq (Sub.nil _))) ?_
      refine KA.condB ?_ ?_
      · intro c26
        refine KA.seq ?_
        refine KA.region rfl ?_
        refine KOps.assign ?_
        refine KOps.done ?_
        refine sqQ.normal ?_
        refine KA.sub (Sub.cons (t := 4) Look.eq (Sub.nil _)) ?_
        refine KA.ret ?_
        refine sqQ.ret ?_
        refine fnQ.ret1 ?_
        rw [provE, if_pos c11, if_pos g21, if_neg (by simpa using c26)]
        exact ⟨rfl, hS.keeps⟩
      · intro c26
        refine KA.skip ?_
        refine sqQ.normal ?_
        refine KA.sub (Sub.cons (t := 7) Look.eq (Sub.nil _)) ?_
        refine KA.seq ?_
        refine KA.region rfl ?_
        refine KOps.move ?_
        refine KOps.assign ?_
        refine KOps.done ?_
        refine sqQ.normal ?_
        refine KA.sub (Sub.cons (t := 4) Look.eq (Sub.nil _)) ?_
        refine KA.ret ?_
        refine fnQ.ret1 ?_
        rw [provE, if_pos c11, if_pos g21, if_pos (by simpa using c26), g21]
        exact ⟨rfl, hS.keeps⟩
    · intro g21
      have g21 := of_decide_eq_false g21
      refine KOps.guardNo (dj := 21) rfl rfl rfl ?_
      refine KOps.guardNo (dj := 21) rfl rfl rfl ?_
      refine KOps.guardNo (dj := 21) rfl rfl rfl ?_
      refine KOps.pickF ?_
      refine KOps.done ?_
      refine sqQ.normal ?_
      refine KA.sub (Sub.cons (t := 7) Look.eq (Sub.cons (t := 26) Look.eq (Sub.nil _))) ?_
      refine KA.condF ?_
      refine KA.skip ?_
      refine sqQ.normal ?_
      refine KA.sub (Sub.cons (t := 7) Look.eq (Sub.nil _)) ?_
      refine KA.seq ?_
      refine KA.region rfl ?_
      refine KOps.move ?_
      refine KOps.assign ?_
      refine KOps.done ?_
      refine sqQ.normal ?_
      refine KA.sub (Sub.cons (t := 4) Look.eq (Sub.nil _)) ?_
      refine KA.ret ?_
      refine fnQ.ret1 ?_
      rw [provE, if_pos c11, if_neg g21]
      exact ⟨rfl, hS.keeps⟩

end Go.Am

namespace Go.Am
def crosses (ws : List W) (s i : Nat) : Bool := lvs (ws.getD i default) s || ens (ws.getD i default) s
theorem cross_no {ws : List W} {s i : Nat} : (inS s (ws.getD i default).f == inS s (ws.getD i default).t) = !crosses ws s i := by
  rw [lvs_ens, crosses, Bool.not_or]
def sayE (rm : Int) (ws : List W) (l : List Int) (i : Int) : Int := if askR rm ws i = 0 then (if roomsE rm l l.length = 0 then (if crosses ws (setE rm l) i.toNat = true then 0 else 12) else roomsE rm l l.length) else askR rm ws i
def sayV (rm : Int) (ws : List W) (l : List Int) (i : Int) : Int := if sayE rm ws l i = 0 then saysV ws (setE rm l) i.toNat else 0
theorem askR_B {rm : Int} {ws : List W} {i : Int} (h : askR rm ws i = 0) : BOk rm ws ∧ chkB rm ws = 0 := by
  unfold askR at h
  by_cases h1 : chkB rm ws = 0
  · exact ⟨BOk.of h1, h1⟩
  · rw [if_neg h1] at h; exact absurd h h1

theorem says_c {h : AHeap} {rm : Int} {vW : AV} {ws : List W} {s i : Nat} (hv : Rd h vW 4 (flr wc ws)) (hB : BOk rm ws) (hs : s < 64) (hi : i < ws.length) : ACalls Go.Proofs.Tryd.prog 82 [.agg [.int .i64 rm, vW], .int .u8 (s : Int), .int .i64 (i : Int)] h (fun q h' => q = .tup [.int .i64 (if crosses ws s i = true then saysV ws s i else 0), .bool (crosses ws s i)] ∧ Keeps h h') := by
  refine KA.fn 44 [.tmp 6, .tmp 7] Go.Proofs.Tryd.func82 rfl (by decide) rfl rfl (Nat.le_of_ble_eq_true rfl) ?_
  have hS := St.refl h
  have hvo : vW.one = true := hv.one
  have hwl := hB.len
  have hr6 := hB.r6
  have hsb := sums_bound hB s (i : Int) ws.length (Nat.le_refl _)
  have hwi := hB.way i (by omega)
  have hwf0 := hwi.f0
  have hwf1 := hwi.f1
  have hwt0 := hwi.t0
  have hwt1 := hwi.t1
  have hwl0 := hwi.l0
  have hwm1 := hwi.m1
  have hwlm := hwi.lm
  have hcr := cross_no (ws := ws) (s := s) (i := i)
  show KA _ 44 _ _ [(0, .agg [.int .i64 rm, vW]), (1, .int .u8 (s : Int)), (2, .int .i64 (i : Int))] _
  refine KA.seq ?_
  refine KA.region rfl ?_
  refine KOps.boxAll hS (by first | rfl | (simp [AV.one]; done) | (simp [AV.one]; assumption) | (simp [AV.one, *]; done)) ?_
  intro p3 h' hp3 hS
  refine KOps.assign ?_
  refine KOps.assign ?_
  refine KOps.done ?_
  refine sqQ.normal ?_
  refine KA.sub (Sub.cons (t := 1) Look.eq (Sub.cons (t := 2) Look.eq (Sub.cons (t := 3) Look.eq (Sub.nil _)))) ?_
  refine KA.seq ?_
  refine KA.region rfl ?_
  refine KOps.loadAll hS (i := 0) rfl hp3 (by rfl) (by decide) ?_
  refine KOps.move ?_
  refine KOps.move ?_
  refine KOps.call rfl (sums_c (Rd.ext hS.keeps hv) hB hs) ?_
  rintro _ h5 ⟨rfl, hK⟩
  have hS0 : St _ _ (_ :: _) := St.trans hS (St.ofK hK)
  clear hS
  have hS := hS0
  clear hS0
  refine KOps.move ?_
  refine KOps.extract ?_
  refine KOps.extract ?_
  refine KOps.assign ?_
  refine KOps.assign ?_
  refine KOps.done ?_
  refine sqQ.normal ?_
  refine KA.sub (Sub.cons (t := 1) Look.eq (Sub.cons (t := 2) Look.eq (Sub.cons (t := 3) Look.eq (Sub.cons (t := 8) Look.eq (Sub.cons (t := 9) Look.eq (Sub.nil _)))))) ?_
  refine KA.seq ?_
  refine KA.seq ?_
  refine KA.region rfl ?_
  refine KOps.fieldAddr hp3 ?_
  intro p18 hp18
  refine KOps.load hp18 (hS.rd 0 rfl) rfl ?_
  refine KOps.move ?_
  refine KOps.indexF wc_len (Rd.ext hS.keeps hv) (j := i) (by first | omega | (simp; omega)) (by first | omega | (simp; omega)) ?_
  intro p21 hp21
  refine KOps.loadFl wc_len (by decide) hp21 (Rd.ext hS.keeps hv) (by first | omega | (simp; omega)) ?_
  refine KOps.alloc hS ?_
  intro p10 h' hp10 hS
  refine KOps.storeAll hS rfl (i := 0) rfl hp10 (by first | rfl | (simp [AV.one]; done) | (simp [AV.one]; assumption) | (simp [AV.one, *]; done)) (by rfl) (by rfl) (by decide) ?_
  intro h' hS
  simp only [List.set_cons_zero, List.set_cons_succ, Nat.zero_add] at hS
  refine KOps.done ?_
  refine sqQ.normal ?_
  refine KA.sub (Sub.cons (t := 1) Look.eq (Sub.cons (t := 8) Look.eq (Sub.cons (t := 9) Look.eq (Sub.cons (t := 10) Look.eq (Sub.nil _))))) ?_
  refine KA.block ?_
  refine KA.seq ?_
  refine KA.draw [3, 7] mixed rfl (by kernel_rfl) ?_
  refine KOps.move ?_
  refine KOps.fieldAddr hp10 ?_
  intro p25 hp25
  refine KOps.load hp25 (hS.rd 0 rfl) rfl ?_
  refine KOps.callK (by intro _ _ hr; exact hr.2 ▸ Keeps.refl _) (has8_c (by first | omega | (simp; omega)) (by first | omega | (simp; omega)) (by first | omega | (simp; omega))) ?_
  rintro _ _ ⟨rfl, rfl⟩
  refine KOps.move ?_
  refine KOps.fieldAddr hp10 ?_
  intro p29 hp29
  refine KOps.load hp29 (hS.rd 0 rfl) rfl ?_
  refine KOps.callK (by intro _ _ hr; exact hr.2 ▸ Keeps.refl _) (has8_c (by first | omega | (simp; omega)) (by first | omega | (simp; omega)) (by first | omega | (simp; omega))) ?_
  rintro _ _ ⟨rfl, rfl⟩
  refine KOps.eqlB (by kernel_rfl) ?_
  rw [hcr]
  refine KOps.assign ?_
  refine KOps.done ?_
  refine sqQ.normal ?_
  refine KA.sub (Sub.cons (t := 1) Look.eq (Sub.cons (t := 8) Look.eq (Sub.cons (t := 9) Look.eq (Sub.cons (t := 10) Look.eq (Sub.cons (t := 23) Look.eq (Sub.nil _)))))) ?_
  refine KA.condB ?_ ?_
  · intro c23
    refine KA.seq ?_
    refine KA.region rfl ?_
    refine KOps.assign ?_
    refine KOps.assign ?_
    refine KOps.done ?_
    refine sqQ.normal ?_
    refine KA.sub (Sub.cons (t := 6) Look.eq (Sub.cons (t := 7) Look.eq (Sub.nil _))) ?_
    refine KA.ret ?_
    refine blQ.ret ?_
    refine sqQ.ret ?_
    refine fnQ.retN ?_
    rw [show crosses ws s i = false by simpa using c23]
    exact ⟨rfl, hS.keeps⟩
  · intro c23
    refine KA.seq ?_
    refine KA.region rfl ?_
    refine KOps.move ?_
    refine KOps.fieldAddr hp10 ?_
    intro p35 hp35
    refine KOps.load hp35 (hS.rd 0 rfl) rfl ?_
    refine KOps.call rfl (has8_c (by first | omega | (simp; omega)) (by first | omega | (simp; omega)) (by first | omega | (simp; omega))) ?_
    rintro _ _ ⟨rfl, rfl⟩
    refine KOps.assign ?_
    refine KOps.done ?_
    refine sqQ.normal ?_
    refine KA.sub (Sub.cons (t := 8) Look.eq (Sub.cons (t := 9) Look.eq (Sub.cons (t := 33) Look.eq (Sub.nil _)))) ?_
    refine KA.condB ?_ ?_
    · intro c33
      refine KA.seq ?_
      refine KA.region rfl ?_
      refine KOps.move ?_
      refine KOps.move ?_
      refine KOps.sub (by first | omega | (simp; omega)) (by first | omega | (simp; omega)) ?_
      refine KOps.assign ?_
      refine KOps.assign ?_
      refine KOps.done ?_
      refine sqQ.normal ?_
      refine KA.sub (Sub.cons (t := 6) Look.eq (Sub.cons (t := 7) Look.eq (Sub.nil _))) ?_
      refine KA.ret ?_
      refine blQ.ret ?_
      refine sqQ.ret ?_
      refine fnQ.retN ?_
      have hc : crosses ws s i = true := by simpa using c23
      have hl : lvs (ws.getD i default) s = true := by
        unfold crosses lvs ens at hc
        unfold lvs
        rw [c33] at hc ⊢
        simpa using hc
      rw [hc, if_pos rfl, saysV, if_pos hl]
      exact ⟨rfl, hS.keeps⟩
    · intro c33
      refine KA.skip ?_
      refine blQ.normal ?_
      refine sqQ.normal ?_
      refine KA.sub (Sub.cons (t := 8) Look.eq (Sub.cons (t := 9) Look.eq (Sub.nil _))) ?_
      refine KA.seq ?_
      refine KA.region rfl ?_
      refine KOps.move ?_
      refine KOps.move ?_
      refine KOps.sub (by first | omega | (simp; omega)) (by first | omega | (simp; omega)) ?_
      refine KOps.assign ?_
      refine KOps.assign ?_
      refine KOps.done ?_
      refine sqQ.normal ?_
      refine KA.sub (Sub.cons (t := 6) Look.eq (Sub.cons (t := 7) Look.eq (Sub.nil _))) ?_
      refine KA.ret ?_
      refine fnQ.retN ?_
      have hc : crosses ws s i = true := by simpa using c23
      have hl : lvs (ws.getD i default) s = false := by
        unfold lvs
        rw [c33]; rfl
      rw [hc, if_pos rfl, saysV, if_neg (by rw [hl]; decide)]
      exact ⟨rfl, hS.keeps⟩

end Go.Am

namespace Go.Am
theorem say_ask {rm : Int} {ws : List W} {l : List Int} {i : Int} (h : askR rm ws i ≠ 0) : sayE rm ws l i = askR rm ws i ∧ sayV rm ws l i = 0 := by
  have e : sayE rm ws l i = askR rm ws i := by rw [sayE, if_neg h]
  exact ⟨e, by rw [sayV, if_neg (by rw [e]; exact h)]⟩
theorem say_rooms {rm : Int} {ws : List W} {l : List Int} {i : Int} (h : askR rm ws i = 0) (h2 : roomsE rm l l.length ≠ 0) : sayE rm ws l i = roomsE rm l l.length ∧ sayV rm ws l i = 0 := by
  have e : sayE rm ws l i = roomsE rm l l.length := by rw [sayE, if_pos h, if_neg h2]
  exact ⟨e, by rw [sayV, if_neg (by rw [e]; exact h2)]⟩
theorem say_lost {rm : Int} {ws : List W} {l : List Int} {i : Int} (h : askR rm ws i = 0) (h2 : roomsE rm l l.length = 0) (h3 : crosses ws (setE rm l) i.toNat = false) : sayE rm ws l i = 12 ∧ sayV rm ws l i = 0 := by
  have e : sayE rm ws l i = 12 := by rw [sayE, if_pos h, if_pos h2, if_neg (by rw [h3]; decide)]
  exact ⟨e, by rw [sayV, if_neg (by rw [e]; decide)]⟩
theorem say_ok {rm : Int} {ws : List W} {l : List Int} {i : Int} (h : askR rm ws i = 0) (h2 : roomsE rm l l.length = 0) (h3 : crosses ws (setE rm l) i.toNat = true) : sayE rm ws l i = 0 ∧ sayV rm ws l i = saysV ws (setE rm l) i.toNat := by
  have e : sayE rm ws l i = 0 := by rw [sayE, if_pos h, if_pos h2, if_pos h3]
  exact ⟨e, by rw [sayV, if_pos e]⟩

theorem stSays_c {h : AHeap} {rm i : Int} {vW vn : AV} {ws : List W} {l : List Int} (hv : Rd h vW 4 (flr wc ws)) (hn : Row h vn l) (hll : l.length ≤ 1000000) : ACalls Go.Proofs.Tryd.prog 40 [.agg [.int .i64 rm, vW], vn, .int .i64 i] h (fun q h' => q = .tup [.int .i64 (sayV rm ws l i), .int .i64 (sayE rm ws l i)] ∧ Keeps h h') := by
  refine KA.fn 45 [.tmp 6, .tmp 7] Go.Proofs.Tryd.func40 rfl (by decide) rfl rfl (Nat.le_of_ble_eq_true rfl) ?_
  have hS := St.refl h
  have hvo : vW.one = true := hv.one
  show KA _ 45 _ _ [(0, .agg [.int .i64 rm, vW]), (1, vn), (2, .int .i64 i)] _
  refine KA.seq ?_
  refine KA.region rfl ?_
  refine KOps.boxAll hS (by first | rfl | (simp [AV.one]; done) | (simp [AV.one]; assumption) | (simp [AV.one, *]; done)) ?_
  intro p3 h' hp3 hS
  refine KOps.assign ?_
  refine KOps.assign ?_
  refine KOps.done ?_
  refine sqQ.normal ?_
  refine KA.sub (Sub.cons (t := 1) Look.eq (Sub.cons (t := 2) Look.eq (Sub.cons (t := 3) Look.eq (Sub.nil _)))) ?_
  refine KA.seq ?_
  refine KA.region rfl ?_
  refine KOps.loadAll hS (i := 0) rfl hp3 (by rfl) (by decide) ?_
  refine KOps.call rfl (check_c (Rd.ext hS.keeps hv)) ?_
  rintro _ h5 ⟨rfl, hK⟩
  have hS0 : St _ _ (_ :: _) := St.trans hS (St.ofK hK)
  clear hS
  have hS := hS0
  clear hS0
  refine KOps.assign ?_
  refine KOps.done ?_
  refine sqQ.normal ?_
  refine KA.sub (Sub.cons (t := 1) Look.eq (Sub.cons (t := 2) Look.eq (Sub.cons (t := 3) Look.eq (Sub.cons (t := 8) Look.eq (Sub.nil _))))) ?_
  refine KA.seq ?_
  refine KA.block ?_
  refine KA.seq ?_
  refine KA.region rfl ?_
  refine KOps.move ?_
  refine KOps.neq ?_
  refine KOps.assign ?_
  refine KOps.done ?_
  refine sqQ.normal ?_
  refine KA.sub (Sub.cons (t := 1) Look.eq (Sub.cons (t := 2) Look.eq (Sub.cons (t := 3) Look.eq (Sub.cons (t := 8) Look.eq (Sub.cons (t := 14) Look.eq (Sub.nil _)))))) ?_
  refine KA.condN ?_ ?_
  · intro c14
    refine KA.seq ?_
    refine KA.region rfl ?_
    refine KOps.move ?_
    refine KOps.assign ?_
    refine KOps.assign ?_
    refine KOps.done ?_
    refine sqQ.normal ?_
    refine KA.sub (Sub.cons (t := 6) Look.eq (Sub.cons (t := 7) Look.eq (Sub.nil _))) ?_
    refine KA.ret ?_
    refine blQ.ret ?_
    refine sqQ.ret ?_
    refine fnQ.retN ?_
    have e8 : askR rm ws i = chkB rm ws := by rw [askR, if_neg c14]
    have e9 := say_ask (l := l) (by rw [e8]; exact c14)
    rw [e9.1, e9.2, e8]
    exact ⟨rfl, hS.keeps⟩
  · intro c14
    have hwl := (BOk.of c14).len
    refine KA.seq ?_
    refine KA.region rfl ?_
    refine KOps.move ?_
    refine KOps.fieldAddr hp3 ?_
    intro p20 hp20
    refine KOps.load hp20 (hS.rd 0 rfl) rfl ?_
    refine KOps.lenF wc_len (Rd.ext hS.keeps hv) ?_
    refine KOps.sub (by first | omega | (simp; omega)) (by first | omega | (simp; omega)) ?_
    refine KOps.call rfl (between_c) ?_
    rintro _ _ ⟨rfl, rfl⟩
    refine KOps.not ?_
    refine KOps.assign ?_
    refine KOps.done ?_
    refine sqQ.normal ?_
    refine KA.sub (Sub.cons (t := 1) Look.eq (Sub.cons (t := 2) Look.eq (Sub.cons (t := 3) Look.eq (Sub.cons (t := 18) Look.eq (Sub.nil _))))) ?_
    refine KA.condN ?_ ?_
    · intro c18
      refine KA.seq ?_
      refine KA.region rfl ?_
      refine KOps.assign ?_
      refine KOps.assign ?_
      refine KOps.done ?_
      refine sqQ.normal ?_
      refine KA.sub (Sub.cons (t := 6) Look.eq (Sub.cons (t := 7) Look.eq (Sub.nil _))) ?_
      refine KA.ret ?_
      refine blQ.ret ?_
      refine sqQ.ret ?_
      refine fnQ.retN ?_
      have e8 : askR rm ws i = 2 := by rw [askR, if_pos c14, if_neg c18]
      have e9 := say_ask (l := l) (by rw [e8]; decide)
      rw [e9.1, e9.2, e8]
      exact ⟨rfl, hS.keeps⟩
    · intro c18
      have h0 : askR rm ws i = 0 := by rw [askR, if_pos c14, if_pos c18]
      obtain ⟨hB, hc0⟩ := askR_B h0
      have hii := (askR_yes h0).2
      have hwl := hB.len
      have hr6 := hB.r6
      obtain ⟨j, rfl⟩ : ∃ j : Nat, i = (j : Int) := ⟨i.toNat, by omega⟩
      have hse := setE_lt (rm := rm) (l := l) hr6

      refine KA.skip ?_
      refine blQ.normal ?_
      refine sqQ.normal ?_
      refine KA.sub (Sub.cons (t := 1) Look.eq (Sub.cons (t := 2) Look.eq (Sub.cons (t := 3) Look.eq (Sub.nil _)))) ?_
      refine KA.seq ?_
      refine KA.region rfl ?_
      refine KOps.loadAll hS (i := 0) rfl hp3 (by rfl) (by decide) ?_
      refine KOps.move ?_
      refine KOps.call rfl (rooms_c (Rd.ext hS.keeps hv) (Row.ext hS.keeps hn) hB hll) ?_
      rintro _ h6 ⟨rfl, hK⟩
      have hS0 : St _ _ (_ :: _) := St.trans hS (St.ofK hK)
      clear hS
      have hS := hS0
      clear hS0
      refine KOps.move ?_
      refine KOps.extract ?_
      refine KOps.extract ?_
      refine KOps.assign ?_
      refine KOps.assign ?_
      refine KOps.done ?_
      refine sqQ.normal ?_
      refine KA.sub (Sub.cons (t := 2) Look.eq (Sub.cons (t := 3) Look.eq (Sub.cons (t := 8) Look.eq (Sub.cons (t := 9) Look.eq (Sub.nil _))))) ?_
      refine KA.seq ?_
      refine KA.seq ?_
      refine KA.region rfl ?_
      refine KOps.move ?_
      refine KOps.neq ?_
      refine KOps.done ?_
      refine sqQ.normal ?_
      refine KA.sub (Sub.cons (t := 2) Look.eq (Sub.cons (t := 3) Look.eq (Sub.cons (t := 8) Look.eq (Sub.cons (t := 9) Look.eq (Sub.cons (t := 33) Look.eq (Sub.nil _)))))) ?_
      refine KA.condN ?_ ?_
      · intro c33
        refine KA.seq ?_
        refine KA.region rfl ?_
        refine KOps.move ?_
        refine KOps.assign ?_
        refine KOps.assign ?_
        refine KOps.done ?_
        refine sqQ.normal ?_
        refine KA.sub (Sub.cons (t := 6) Look.eq (Sub.cons (t := 7) Look.eq (Sub.nil _))) ?_
        refine KA.ret ?_
        refine sqQ.ret ?_
        refine fnQ.retN ?_
        have e9 := say_rooms h0 c33
        rw [e9.1, e9.2]
        exact ⟨rfl, hS.keeps⟩
      · intro c33
        refine KA.skip ?_
        refine sqQ.normal ?_
        refine KA.sub (Sub.cons (t := 2) Look.eq (Sub.cons (t := 3) Look.eq (Sub.cons (t := 9) Look.eq (Sub.nil _)))) ?_
        refine KA.seq ?_
        refine KA.region rfl ?_
        refine KOps.loadAll hS (i := 0) rfl hp3 (by rfl) (by decide) ?_
        refine KOps.move ?_
        refine KOps.move ?_
        refine KOps.call rfl (says_c (i := j) (Rd.ext hS.keeps hv) hB hse (by omega)) ?_
        rintro _ h7 ⟨rfl, hK⟩
        have hS0 : St _ _ (_ :: _) := St.trans hS (St.ofK hK)
        clear hS
        have hS := hS0
        clear hS0
        refine KOps.move ?_
        refine KOps.extract ?_
        refine KOps.extract ?_
        refine KOps.assign ?_
        refine KOps.assign ?_
        refine KOps.done ?_
        refine sqQ.normal ?_
        refine KA.sub (Sub.cons (t := 10) Look.eq (Sub.cons (t := 11) Look.eq (Sub.nil _))) ?_
        refine KA.seq ?_
        refine KA.seq ?_
        refine KA.region rfl ?_
        refine KOps.move ?_
        refine KOps.not ?_
        refine KOps.done ?_
        refine sqQ.normal ?_
        refine KA.sub (Sub.cons (t := 10) Look.eq (Sub.cons (t := 43) Look.eq (Sub.nil _))) ?_
        refine KA.condB ?_ ?_
        · intro c43
          refine KA.seq ?_
          refine KA.region rfl ?_
          refine KOps.assign ?_
          refine KOps.assign ?_
          refine KOps.done ?_
          refine sqQ.normal ?_
          refine KA.sub (Sub.cons (t := 6) Look.eq (Sub.cons (t := 7) Look.eq (Sub.nil _))) ?_
          refine KA.ret ?_
          refine sqQ.ret ?_
          refine fnQ.retN ?_
          have e9 := say_lost h0 c33 (by simpa using c43)
          rw [e9.1, e9.2]
          exact ⟨rfl, hS.keeps⟩
        · intro c43
          refine KA.skip ?_
          refine sqQ.normal ?_
          refine KA.sub (Sub.cons (t := 10) Look.eq (Sub.nil _)) ?_
          refine KA.seq ?_
          refine KA.region rfl ?_
          refine KOps.move ?_
          refine KOps.assign ?_
          refine KOps.assign ?_
          refine KOps.done ?_
          refine sqQ.normal ?_
          refine KA.sub (Sub.cons (t := 6) Look.eq (Sub.cons (t := 7) Look.eq (Sub.nil _))) ?_
          refine KA.ret ?_
          refine fnQ.retN ?_
          have hc : crosses ws (setE rm l) ((j : Int)).toNat = true := by simpa using c43
          have e9 := say_ok h0 c33 hc
          rw [Int.toNat_natCast] at hc e9
          rw [e9.1, e9.2, if_pos hc]
          exact ⟨rfl, hS.keeps⟩

end Go.Am

namespace Go.Am
theorem AW.region_drawS2 {P : Program} {id c r t a d : Nat} {ops : Array Oper} {l1 l2 : List Oper} {oc : Oper} {ex : List Nat} {sz : Nat} {o : Oper} {Q : Ex → List AV → AHeap → Prop} {fr : List AV} {h : AHeap} (hm : P.follows .mixedOrders = true) (hl : ops.toList = l1 ++ oc :: l2) (hc : l1.length = c + 1)
    (hok : RgOk sz ops ex [(c, r), (c + 1, r)]) (hsz : fr.length = sz) (hrc : r < c) (ho : ops[r]? = some o) (hop : o.op = .load t (.tmp a)) (hod : o.dst = some d) (hdz : d < sz) (hno : ∀ j (oj : Oper), r ≤ j → j ≤ c + 1 → ops[j]? = some oj → oj.dst ≠ some a ∧ (r < j → oj.dst ≠ some d))
    (hw : AOps P ops ex (fun fr1 h1 => aload P h1 t (fr1.getD a .bot) = some (fr1.getD d .bot) ∧ AOps P ops ex (fun fr2 h2 => aload P h2 t (fr2.getD a .bot) = some (fr2.getD d .bot) ∧ AOps P ops ex (Q .normal) (c + 2) l2 fr2 h2) (c + 1) [oc] fr1 h1) 0 l1 fr h) : AW P (.region id ops true) Q fr h := by
  have hsize : ops.size = l1.length + (l2.length + 1) := by rw [← Array.length_toList, hl, List.length_append, List.length_cons]
  have g1 : ∀ i, i < l1.length → l1[i]? = ops[0 + i]? := by
    intro i hi
    rw [Nat.zero_add, ← Array.getElem?_toList, hl, List.getElem?_append_left hi]
  have g3 : ∀ i, i < [oc].length → [oc][i]? = ops[c + 1 + i]? := by
    intro i hi
    simp only [List.length_singleton] at hi
    rw [← Array.getElem?_toList, hl, List.getElem?_append_right (by omega), hc, Nat.add_sub_cancel_left, show i = 0 by omega]
    rfl
  have g2 : ∀ i, l2[i]? = ops[c + 2 + i]? := by
    intro i
    rw [← Array.getElem?_toList, hl, List.getElem?_append_right (by omega), hc, show c + 2 + i - (c + 1) = i + 1 by omega]
    rfl
  obtain ⟨ws1, fs1, ks1, a1, a2, ⟨hchkA, hKA⟩, hallA⟩ := aops_textP hok.ntx l1 0 fr h g1 hw
  simp only [Nat.zero_add, hc] at hchkA hKA hallA
  obtain ⟨ws2, fs2, ks2, b1, b2, ⟨hchkB, hKB⟩, hallB⟩ := aops_textP hok.ntx [oc] (c + 1) _ _ g3 hKA
  simp only [List.length_singleton] at hchkB hKB hallB
  obtain ⟨vs1, frs1, hs1, e1, e2, hchk1, hchk, hK1, hall1⟩ : ∃ (vs : Nat → AV) (frs : Nat → List AV) (hs : Nat → AHeap), frs 0 = fr ∧ hs 0 = h ∧ aload P (hs (c + 1)) t ((frs (c + 1)).getD a .bot) = some ((frs (c + 1)).getD d .bot) ∧ aload P (hs (c + 2)) t ((frs (c + 2)).getD a .bot) = some ((frs (c + 2)).getD d .bot) ∧ AOps P ops ex (Q .normal) (c + 2) l2 (frs (c + 2)) (hs (c + 2)) ∧ ∀ i o, 0 ≤ i → i < c + 2 → ops[i]? = some o → TS P ops ex i o (frs i) (hs i) (vs i) (frs (i + 1)) (hs (i + 1)) := by
    refine ⟨fun i => if i ≤ c then ws1 i else ws2 i, fun i => if i ≤ c then fs1 i else fs2 i, fun i => if i ≤ c then ks1 i else ks2 i, by simp [a1], by simp [a2], ?_, ?_, ?_, ?_⟩
    · simp only [if_neg (show ¬ c + 1 ≤ c by omega), b1, b2]; exact hchkA
    · simp only [if_neg (show ¬ c + 2 ≤ c by omega)]; exact hchkB
    · simp only [if_neg (show ¬ c + 2 ≤ c by omega)]; exact hKB
    · intro i oi _ hi hoi
      by_cases h1 : i ≤ c
      · have ht := hallA i oi (Nat.zero_le _) (by omega) hoi
        by_cases h2 : i + 1 ≤ c
        · simp only [if_pos h1, if_pos h2]; exact ht
        · have h3 : i = c := by omega
          subst h3
          simp only [if_pos h1, if_neg h2, b1, b2]
          exact ht
      · simp only [if_neg h1, if_neg (show ¬ i + 1 ≤ c by omega)]
        exact hallB i oi (by omega) (by omega) hoi
  obtain ⟨vs2, frs2, hs2, e3, e4, hK2, hall2⟩ := aops_text hok.ntx l2 (c + 2) _ _ g2 hK1
  have hlen : ∀ i, i ≤ c + 2 → (frs1 i).length = sz := by
    intro i
    induction i with
    | zero => intro _; rw [e1]; exact hsz
    | succ i ih =>
      intro hi
      have ht := hall1 i _ (Nat.zero_le _) (by omega) (Array.getElem?_eq_getElem (by omega))
      rw [ht.1]
      unfold setF
      split
      · rw [List.length_set]; exact ih (by omega)
      · exact ih (by omega)
  have hget : ∀ (l : List AV) (dst : Option Tmp) (v : AV) (x : Nat), dst ≠ some x → (setF l dst v).getD x .bot = l.getD x .bot := by
    intro l dst v x hx
    unfold setF
    split
    · rename_i y
      rw [List.getD_eq_getElem?_getD, List.getD_eq_getElem?_getD, List.getElem?_set_ne (by rintro rfl; exact hx rfl)]
    · rfl
  have ha : ∀ j, r ≤ j → j ≤ c + 2 → (frs1 j).getD a .bot = (frs1 r).getD a .bot := by
    intro j h1
    induction j with
    | zero => intro _; rw [show r = 0 by omega]
    | succ j ih =>
      intro h2
      rcases Nat.lt_or_eq_of_le h1 with h3 | h3
      · have ho2 := Array.getElem?_eq_getElem (xs := ops) (i := j) (by omega)
        have ht := hall1 j _ (Nat.zero_le _) (by omega) ho2
        rw [ht.1, hget _ _ _ _ (hno j _ (by omega) (by omega) ho2).1, ih (by omega) (by omega)]
      · rw [← h3]
  have hd : ∀ j, r < j → j ≤ c + 2 → (frs1 j).getD d .bot = vs1 r := by
    intro j h1
    induction j with
    | zero => omega
    | succ j ih =>
      intro h2
      have ho2 := Array.getElem?_eq_getElem (xs := ops) (i := j) (by omega)
      have ht := hall1 j _ (Nat.zero_le _) (by omega) ho2
      rw [ht.1]
      by_cases hj : j = r
      · subst hj
        rw [ho2] at ho
        cases ho
        rw [hod]
        simp only [setF]
        rw [List.getD_eq_getElem?_getD, List.getElem?_set_self (by rw [hlen j (by omega)]; exact hdz)]
        rfl
      · rw [hget _ _ _ _ ((hno j _ (by omega) (by omega) ho2).2 (by omega))]
        exact ih (by omega) (by omega)
  refine AW.region_run hm hok hsz (vs := fun i => if i ≤ c + 1 then vs1 i else vs2 i) (frs := fun i => if i ≤ c + 1 then frs1 i else frs2 i) (hs := fun i => if i ≤ c + 1 then hs1 i else hs2 i) (by simp [e1]) (by simp [e2]) ?_ ?_ ?_
  · simp only [if_neg (show ¬ ops.size ≤ c + 1 by omega)]
    rw [show ops.size = c + 2 + l2.length by omega]
    exact hK2
  · intro i oi hi hoi
    by_cases h1 : i ≤ c + 1
    · have ht := hall1 i oi (Nat.zero_le _) (by omega) hoi
      by_cases h2 : i + 1 ≤ c + 1
      · simp only [if_pos h1, if_pos h2]; exact ht
      · have h3 : i = c + 1 := by omega
        subst h3
        simp only [if_pos h1, if_neg h2, e3, e4]
        exact ht
    · simp only [if_neg h1, if_neg (show ¬ i + 1 ≤ c + 1 by omega)]
      exact hall2 i oi (by omega) (by omega) hoi
  · intro c' r' o' hcr _ ho'
    have hcr' : (c' = c ∧ r' = r) ∨ (c' = c + 1 ∧ r' = r) := by simpa using hcr
    rcases hcr' with ⟨rfl, rfl⟩ | ⟨rfl, rfl⟩
    · rw [ho] at ho'
      cases ho'
      simp only [if_pos (show c' + 1 ≤ c' + 1 by omega), if_pos (show r' ≤ c' + 1 by omega)]
      rw [hop]
      show aload P _ t ((frs1 r').getD a .bot) = _
      rw [← ha (c' + 1) (by omega) (by omega), ← hd (c' + 1) (by omega) (by omega)]
      exact hchk1
    · rw [ho] at ho'
      cases ho'
      simp only [if_neg (show ¬ c + 1 + 1 ≤ c + 1 by omega), if_pos (show r' ≤ c + 1 by omega), e4]
      rw [hop]
      show aload P _ t ((frs1 r').getD a .bot) = _
      rw [← ha (c + 2) (by omega) (Nat.le_refl _), ← hd (c + 2) (by omega) (Nat.le_refl _)]
      exact hchk

section drawS
variable {P : Program} {n : Nat} {Q : Ex → KF → AHeap → Prop} {K : KF} {h : AHeap}
theorem KA.drawS2 {id c r t a d : Nat} {ops : Array Oper} {l1 l2 : List Oper} {oc o : Oper} (ex : List Nat) (hm : P.follows .mixedOrders = true) (hl1 : ops.toList.take (c + 1) = l1) (hl2 : ops.toList.drop (c + 1) = oc :: l2) (hc : l1.length = c + 1) (hok : rgOk n ops.toList ex [(c, r), (c + 1, r)] = true) (ho : ops[r]? = some o) (hop : o.op = .load t (.tmp a)) (hod : o.dst = some d) (hdz : d < n) (hrc : r < c)
    (hno : ((List.range' r (c + 2 - r)).all fun j => match ops[j]? with | some oj => oj.dst != some a && (j == r || oj.dst != some d) | none => true) = true)
    (hw : KOps P n ops ex (fun K1 h1 => aload P h1 t ((toFr n K1).getD a .bot) = some ((toFr n K1).getD d .bot) ∧ KOps P n ops ex (fun K2 h2 => aload P h2 t ((toFr n K2).getD a .bot) = some ((toFr n K2).getD d .bot) ∧ KOps P n ops ex (Q .normal) (c + 2) l2 K2 h2) (c + 1) [oc] K1 h1) 0 l1 K h) : KA P n (.region id ops true) Q K h := by
  refine AW.region_drawS2 (c := c) (r := r) (t := t) (a := a) (d := d) (l1 := l1) (oc := oc) (l2 := l2) hm (by rw [← hl1, ← hl2, List.take_append_drop]) hc (rgOk_sound rfl hok) (toFr_length n K) hrc ho hop hod hdz ?_ ?_
  · intro j oj h1 h2 hj
    have := List.all_eq_true.1 hno j (List.mem_range'_1.2 ⟨h1, by omega⟩)
    simp only [hj, Bool.and_eq_true, bne_iff_ne, Bool.or_eq_true, beq_iff_eq] at this
    exact ⟨this.1, fun h3 => this.2.resolve_left (by omega)⟩
  · refine aops_mono ?_ _ _ _ _ hw
    rintro fr1 h1 ⟨K1, rfl, hchk, hrest⟩
    refine ⟨hchk, aops_mono ?_ _ _ _ _ hrest⟩
    rintro fr2 h2 ⟨K2, rfl, hchk2, hrest2⟩
    exact ⟨hchk2, hrest2⟩
end drawS
section drawS2
variable {P : Program} {n : Nat} {ops : Array Oper} {ex : List Nat} {k : Nat} {K : KF} {h : AHeap}
theorem KOps.doneS2 {t a d s j : Nat} {R : KF → AHeap → Prop} {p v y : AV} {xs : List AV} [hla : Look K a p] [hld : Look K d y] [ht : ScT P t] (hna : Nat.ble n a = false) (hnd : Nat.ble n d = false) (ha : AddrOf p v s j) (hr : Rd h v s xs) (hy : xs[j]? = some y) (hrest : R K h) :
    KOps P n ops ex (fun K1 h1 => aload P h1 t ((toFr n K1).getD a .bot) = some ((toFr n K1).getD d .bot) ∧ R K1 h1) k [] K h := by
  refine KOps.done ⟨?_, hrest⟩
  rw [toFr_getD, toFr_getD, hna, hnd, cond_false, cond_false, hla.eq, hld.eq]
  exact hr.load ha hy
end drawS2
end Go.Am

namespace Go.Am
/-- Rooms that say an end of a span. -/
noncomputable def pB (ws : List W) (i : Nat) (g : Bool) (s : Nat) : Bool := if g then lvs (ws.getD i default) s && decide (saysV ws s i = hiOf ws i) else ens (ws.getD i default) s && decide (saysV ws s i = loOf ws i)
noncomputable def endI (ws : List W) (i : Nat) (g : Bool) : Int := if g then hiOf ws i else loOf ws i
def insI (ws : List W) (i : Nat) (g : Bool) : Int := if g then (ws.getD i default).f else (ws.getD i default).t
def ownI (ws : List W) (i : Nat) (g : Bool) : Int := if g then (ws.getD i default).m else (ws.getD i default).l
theorem cross_in (ws : List W) (s i : Nat) (g : Bool) : (crosses ws s i && inS s (insI ws i g)) = if g then lvs (ws.getD i default) s else ens (ws.getD i default) s := by
  unfold crosses insI lvs ens
  cases g <;> simp only [if_true, if_false, Bool.false_eq_true] <;> cases inS s (ws.getD i default).f <;> cases inS s (ws.getD i default).t <;> rfl
theorem pB_is {ws : List W} {s i : Nat} {g : Bool} : pB ws i g s = (crosses ws s i && inS s (insI ws i g) && decide (saysV ws s i = endI ws i g)) := by
  rw [cross_in]
  unfold pB endI
  cases g <;> rfl
noncomputable def boundL (rm : Int) (ws : List W) (i : Int) (g : Bool) : List Int := if askE rm ws i = 0 then (if endI ws i.toNat g = ownI ws i.toNat g then [] else fewL (pB ws i.toNat g) (2 ^ rm.toNat)) else []
end Go.Am

namespace Go.Am

theorem bound1_c {h : AHeap} {rm : Int} {vW p3 p4 p12 p13 : AV} {ws : List W} {s i : Nat} {g : Bool} (hv : Rd h vW 4 (flr wc ws)) (hB : BOk rm ws) (hs : s < 64) (hi : i < ws.length) (hp3 : AddrOf p3 p3 0 0) (hp4 : AddrOf p4 p4 0 0) (hp12 : AddrOf p12 p12 0 0) (hp13 : AddrOf p13 p13 0 0) (h3 : Rd h p3 0 [.int .i64 rm, vW]) (h4 : Rd h p4 0 [.int .i64 (i : Int)]) (h12 : Rd h p12 0 [.int .i64 (insI ws i g)]) (h13 : Rd h p13 0 [.int .i64 (endI ws i g)]) : ACalls Go.Proofs.Tryd.prog 86 [.int .u8 (s : Int), p3, p4, p12, p13] h (fun q h' => q = .bool (pB ws i g s) ∧ Keeps h h') := by
  refine KA.fn 27 [.tmp 6] Go.Proofs.Tryd.func86 rfl (by decide) rfl rfl (Nat.le_of_ble_eq_true rfl) ?_
  have hS := St.refl h
  have hr6 := hB.r6
  have hwi := hB.way i hi
  have hwf0 := hwi.f0
  have hwf1 := hwi.f1
  have hwt0 := hwi.t0
  have hwt1 := hwi.t1
  have hin : 0 ≤ insI ws i g ∧ insI ws i g < 6 := by
    unfold insI; cases g <;> simp only [if_true, if_false, Bool.false_eq_true] <;> omega
  show KA _ 27 _ _ [(0, .int .u8 (s : Int)), (1, p3), (2, p4), (3, p12), (4, p13)] _
  refine KA.seq ?_
  refine KA.region rfl ?_
  refine KOps.assign ?_
  refine KOps.done ?_
  refine sqQ.normal ?_
  refine KA.sub (Sub.cons (t := 0) Look.eq (Sub.cons (t := 1) Look.eq (Sub.cons (t := 2) Look.eq (Sub.cons (t := 3) Look.eq (Sub.cons (t := 4) Look.eq (Sub.nil _)))))) ?_
  refine KA.seq ?_
  refine KA.region rfl ?_
  refine KOps.loadAgg (z := 2) hp3 (Rd.ext hS.keeps h3) (by decide) (by simp) ?_
  refine KOps.move ?_
  refine KOps.load hp4 (Rd.ext hS.keeps h4) rfl ?_
  refine KOps.call rfl (says_c (i := i) (Rd.ext hS.keeps hv) hB hs hi) ?_
  rintro _ h5 ⟨rfl, hK⟩
  have hS0 := St.trans hS (St.ofK hK)
  clear hS
  have hS := hS0
  clear hS0
  refine KOps.move ?_
  refine KOps.extract ?_
  refine KOps.extract ?_
  refine KOps.assign ?_
  refine KOps.assign ?_
  refine KOps.done ?_
  refine sqQ.normal ?_
  refine KA.sub (Sub.cons (t := 0) Look.eq (Sub.cons (t := 3) Look.eq (Sub.cons (t := 4) Look.eq (Sub.cons (t := 7) Look.eq (Sub.cons (t := 8) Look.eq (Sub.nil _)))))) ?_
  refine KA.seq ?_
  refine KA.region rfl ?_
  refine KOps.move ?_
  refine KOps.move ?_
  refine KOps.guardB (dj := 17) rfl rfl true false rfl ?_ ?_
  · intro g17
    refine KOps.move ?_
    refine KOps.guardYes (dj := 17) rfl rfl ?_
    refine KOps.load hp12 (Rd.ext hS.keeps h12) rfl ?_
    refine KOps.guardYes (dj := 17) rfl rfl ?_
    refine KOps.call rfl (has8_c (by first | omega | (simp; omega)) (by first | omega | (simp; omega)) (by first | omega | (simp; omega))) ?_
    rintro _ _ ⟨rfl, rfl⟩
    refine KOps.pickT ?_
    refine KOps.move ?_
    refine KOps.guardB (dj := 22) rfl rfl true false rfl ?_ ?_
    · intro g22
      refine KOps.move ?_
      refine KOps.guardYes (dj := 22) rfl rfl ?_
      refine KOps.load hp13 (Rd.ext hS.keeps h13) rfl ?_
      refine KOps.guardYes (dj := 22) rfl rfl ?_
      refine KOps.eql ?_
      refine KOps.pickT ?_
      refine KOps.assign ?_
      refine KOps.done ?_
      refine sqQ.normal ?_
      refine KA.sub (Sub.cons (t := 6) Look.eq (Sub.nil _)) ?_
      refine KA.ret ?_
      refine fnQ.ret1 ?_
      refine ⟨congrArg AV.bool ?_, hS.keeps⟩
      rw [pB_is, g17, g22, if_pos rfl]; rfl
    · intro g22
      refine KOps.guardNo (dj := 22) rfl rfl rfl ?_
      refine KOps.guardNo (dj := 22) rfl rfl rfl ?_
      refine KOps.pickF ?_
      refine KOps.assign ?_
      refine KOps.done ?_
      refine sqQ.normal ?_
      refine KA.sub (Sub.cons (t := 6) Look.eq (Sub.nil _)) ?_
      refine KA.ret ?_
      refine fnQ.ret1 ?_
      refine ⟨congrArg AV.bool ?_, hS.keeps⟩
      rw [pB_is, g17, g22]; rfl
  · intro g17
    refine KOps.guardNo (dj := 17) rfl rfl rfl ?_
    refine KOps.guardNo (dj := 17) rfl rfl rfl ?_
    refine KOps.pickF ?_
    refine KOps.move ?_
    refine KOps.guardNo (dj := 22) rfl rfl rfl ?_
    refine KOps.guardNo (dj := 22) rfl rfl rfl ?_
    refine KOps.guardNo (dj := 22) rfl rfl rfl ?_
    refine KOps.pickF ?_
    refine KOps.assign ?_
    refine KOps.done ?_
    refine sqQ.normal ?_
    refine KA.sub (Sub.cons (t := 6) Look.eq (Sub.nil _)) ?_
    refine KA.ret ?_
    refine fnQ.ret1 ?_
    refine ⟨congrArg AV.bool ?_, hS.keeps⟩
    rw [pB_is, g17]; rfl

theorem bound_true_c {h : AHeap} {rm i : Int} {vW : AV} {ws : List W} (hv : Rd h vW 4 (flr wc ws)) (hSz : Sizes h) : ACalls Go.Proofs.Tryd.prog 42 [.agg [.int .i64 rm, vW], .int .i64 i, .bool true] h (fun q h' => ∃ vo, q = .tup [vo, .int .i64 (askE rm ws i)] ∧ St h h' [⟨vo, 1, ints (boundL rm ws i true), true⟩]) := by
  refine KA.fn 47 [.tmp 6, .tmp 7] Go.Proofs.Tryd.func42 rfl (by decide) rfl rfl (Nat.le_of_ble_eq_true rfl) ?_
  have hS := St.refl h
  have hvo : vW.one = true := hv.one
  show KA _ 47 _ _ [(0, .agg [.int .i64 rm, vW]), (1, .int .i64 i), (2, .bool true)] _
  refine KA.seq ?_
  refine KA.region rfl ?_
  refine KOps.boxAll hS (by first | rfl | (simp [AV.one]; done) | (simp [AV.one]; assumption) | (simp [AV.one, *]; done)) ?_
  intro p3 h' hp3 hS
  refine KOps.box hS (l := [_]) rfl ?_
  intro p4 h' hp4 hS
  refine KOps.assign ?_
  refine KOps.assign ?_
  refine KOps.done ?_
  refine sqQ.normal ?_
  refine KA.sub (Sub.cons (t := 2) Look.eq (Sub.cons (t := 3) Look.eq (Sub.cons (t := 4) Look.eq (Sub.nil _)))) ?_
  refine KA.seq ?_
  refine KA.region rfl ?_
  refine KOps.loadAll hS (i := 1) rfl hp3 (by rfl) (by decide) ?_
  refine KOps.loadBox hS (i := 0) rfl hp4 ?_
  refine KOps.call rfl (stSpan_c (Rd.ext hS.keeps hv)) ?_
  rintro _ h5 ⟨rfl, hK⟩
  have hS0 : St _ _ (_ :: _ :: _) := St.trans hS (St.ofK hK)
  clear hS
  have hS := hS0
  clear hS0
  refine KOps.move ?_
  refine KOps.extract ?_
  refine KOps.extract ?_
  refine KOps.extract ?_
  refine KOps.assign ?_
  refine KOps.assign ?_
  refine KOps.assign ?_
  refine KOps.done ?_
  refine sqQ.normal ?_
  refine KA.sub (Sub.cons (t := 2) Look.eq (Sub.cons (t := 3) Look.eq (Sub.cons (t := 4) Look.eq (Sub.cons (t := 8) Look.eq (Sub.cons (t := 9) Look.eq (Sub.cons (t := 10) Look.eq (Sub.nil _))))))) ?_
  refine KA.seq ?_
  refine KA.seq ?_
  refine KA.region rfl ?_
  refine KOps.move ?_
  refine KOps.neq ?_
  refine KOps.done ?_
  refine sqQ.normal ?_
  refine KA.sub (Sub.cons (t := 2) Look.eq (Sub.cons (t := 3) Look.eq (Sub.cons (t := 4) Look.eq (Sub.cons (t := 8) Look.eq (Sub.cons (t := 9) Look.eq (Sub.cons (t := 10) Look.eq (Sub.cons (t := 23) Look.eq (Sub.nil _)))))))) ?_
  refine KA.condN ?_ ?_
  · intro c23
    refine KA.seq ?_
    refine KA.region rfl ?_
    refine KOps.move ?_
    refine KOps.assign ?_
    refine KOps.assign ?_
    refine KOps.done ?_
    refine sqQ.normal ?_
    refine KA.sub (Sub.cons (t := 6) Look.eq (Sub.cons (t := 7) Look.eq (Sub.nil _))) ?_
    refine KA.ret ?_
    refine sqQ.ret ?_
    refine fnQ.retN ?_
    rw [boundL, if_neg c23]
    exact ⟨_, rfl, St.pick [2] (by decide) rfl (St.addNil 1 true hS)⟩
  · intro c23
    obtain ⟨he, hi0, hi1⟩ := ask_ok c23
    have hB := (agree_ok he).1
    have hx := (agree_ok he).2
    obtain ⟨r, rfl⟩ : ∃ r : Nat, rm = (r : Int) := ⟨rm.toNat, by have := hB.r2; omega⟩
    obtain ⟨j, rfl⟩ : ∃ j : Nat, i = (j : Int) := ⟨i.toNat, by omega⟩
    rw [if_pos c23, if_pos c23, Int.toNat_natCast]
    have hr6 := hB.r6
    have hwl := hB.len
    have hpw : 2 ^ r ≤ 2 ^ 6 := Nat.pow_le_pow_right (by decide) (by omega)
    have h1p : 1 ≤ 2 ^ r := Nat.one_le_two_pow
    have hsh := shl64 r (by omega)
    have hj : j < ws.length := by omega
    refine KA.skip ?_
    refine sqQ.normal ?_
    refine KA.sub (Sub.cons (t := 2) Look.eq (Sub.cons (t := 3) Look.eq (Sub.cons (t := 4) Look.eq (Sub.cons (t := 8) Look.eq (Sub.cons (t := 9) Look.eq (Sub.nil _)))))) ?_
    refine KA.seq ?_
    refine KA.region rfl ?_
    refine KOps.fieldAddr hp3 ?_
    intro p25 hp25
    refine KOps.load hp25 (hS.rd 1 rfl) rfl ?_
    refine KOps.loadBox hS (i := 0) rfl hp4 ?_
    refine KOps.indexF wc_len (Rd.ext hS.keeps hv) (j := j) (by first | omega | (simp; omega)) (by first | omega | (simp; omega)) ?_
    intro p28 hp28
    refine KOps.loadFl wc_len (by decide) hp28 (Rd.ext hS.keeps hv) (by first | omega | (simp; omega)) ?_
    refine KOps.alloc hS ?_
    intro p11 h' hp11 hS
    refine KOps.storeAll hS rfl (i := 0) rfl hp11 (by first | rfl | (simp [AV.one]; done) | (simp [AV.one]; assumption) | (simp [AV.one, *]; done)) (by rfl) (by rfl) (by decide) ?_
    intro h' hS
    simp only [List.set_cons_zero, List.set_cons_succ, Nat.zero_add] at hS
    refine KOps.done ?_
    refine sqQ.normal ?_
    refine KA.sub (Sub.cons (t := 2) Look.eq (Sub.cons (t := 3) Look.eq (Sub.cons (t := 4) Look.eq (Sub.cons (t := 8) Look.eq (Sub.cons (t := 9) Look.eq (Sub.cons (t := 11) Look.eq (Sub.nil _))))))) ?_
    refine KA.seq ?_
    refine KA.drawS2 (c := 7) (r := 4) (t := 3) (a := 33) (d := 34) [] mixed rfl rfl rfl (by kernel_rfl) rfl rfl rfl (by decide) (by decide) (by kernel_rfl) ?_
    refine KOps.fieldAddr hp11 ?_
    intro p30 hp30
    refine KOps.load hp30 (hS.rd 0 rfl) rfl ?_
    refine KOps.move ?_
    refine KOps.fieldAddr hp11 ?_
    intro p33 hp33
    refine KOps.load hp33 (hS.rd 0 rfl) rfl ?_
    refine KOps.alloc hS ?_
    intro p12 h' hp12 hS
    refine KOps.alloc hS ?_
    intro p13 h' hp13 hS
    refine KOps.storeBox hS rfl (i := 1) rfl hp12 (by first | rfl | assumption) ?_
    intro h' hS
    simp only [List.set_cons_zero, List.set_cons_succ, Nat.zero_add] at hS
    refine KOps.doneS2 rfl rfl hp33 (hS.rd 2 rfl) rfl ?_
    refine KOps.storeBox hS rfl (i := 0) rfl hp13 (by first | rfl | assumption) ?_
    intro h' hS
    simp only [List.set_cons_zero, List.set_cons_succ, Nat.zero_add] at hS
    refine KOps.doneS2 rfl rfl hp33 (hS.rd 2 rfl) rfl ?_
    refine KOps.assign ?_
    refine KOps.done ?_
    refine sqQ.normal ?_
    refine KA.sub (Sub.cons (t := 2) Look.eq (Sub.cons (t := 3) Look.eq (Sub.cons (t := 4) Look.eq (Sub.cons (t := 9) Look.eq (Sub.cons (t := 11) Look.eq (Sub.cons (t := 12) Look.eq (Sub.cons (t := 13) Look.eq (Sub.cons (t := 14) Look.eq (Sub.nil _))))))))) ?_
    refine KA.seq ?_
    refine KA.seq ?_
    refine KA.region rfl ?_
    refine KOps.move ?_
    refine KOps.done ?_
    refine sqQ.normal ?_
    refine KA.sub (Sub.cons (t := 3) Look.eq (Sub.cons (t := 4) Look.eq (Sub.cons (t := 9) Look.eq (Sub.cons (t := 11) Look.eq (Sub.cons (t := 12) Look.eq (Sub.cons (t := 13) Look.eq (Sub.cons (t := 14) Look.eq (Sub.cons (t := 35) Look.eq (Sub.nil _))))))))) ?_
    refine KA.condT ?_
    refine KA.drawS2 (c := 5) (r := 4) (t := 3) (a := 39) (d := 40) [] mixed rfl rfl rfl (by kernel_rfl) rfl rfl rfl (by decide) (by decide) (by kernel_rfl) ?_
    refine KOps.fieldAddr hp11 ?_
    intro p36 hp36
    refine KOps.load hp36 (hS.rd 2 rfl) rfl ?_
    refine KOps.move ?_
    refine KOps.fieldAddr hp11 ?_
    intro p39 hp39
    refine KOps.load hp39 (hS.rd 2 rfl) rfl ?_
    refine KOps.storeBox hS rfl (i := 1) rfl hp12 (by first | rfl | assumption) ?_
    intro h' hS
    simp only [List.set_cons_zero, List.set_cons_succ, Nat.zero_add] at hS
    refine KOps.doneS2 rfl rfl hp39 (hS.rd 2 rfl) rfl ?_
    refine KOps.storeBox hS rfl (i := 0) rfl hp13 (by first | rfl | assumption) ?_
    intro h' hS
    simp only [List.set_cons_zero, List.set_cons_succ, Nat.zero_add] at hS
    refine KOps.doneS2 rfl rfl hp39 (hS.rd 2 rfl) rfl ?_
    refine KOps.assign ?_
    refine KOps.done ?_
    refine sqQ.normal ?_
    refine KA.sub (Sub.cons (t := 3) Look.eq (Sub.cons (t := 4) Look.eq (Sub.cons (t := 12) Look.eq (Sub.cons (t := 13) Look.eq (Sub.cons (t := 14) Look.eq (Sub.nil _)))))) ?_
    refine KA.seq ?_
    refine KA.seq ?_
    refine KA.region rfl ?_
    refine KOps.loadBox hS (i := 0) rfl hp13 ?_
    refine KOps.move ?_
    refine KOps.eql ?_
    refine KOps.done ?_
    refine sqQ.normal ?_
    refine KA.sub (Sub.cons (t := 3) Look.eq (Sub.cons (t := 4) Look.eq (Sub.cons (t := 12) Look.eq (Sub.cons (t := 13) Look.eq (Sub.cons (t := 43) Look.eq (Sub.nil _)))))) ?_
    refine KA.condD ?_ ?_
    · intro c43
      have hend : endI ws j true = ownI ws j true := c43
      refine KA.seq ?_
      refine KA.region rfl ?_
      refine KOps.assign ?_
      refine KOps.assign ?_
      refine KOps.done ?_
      refine sqQ.normal ?_
      refine KA.sub (Sub.cons (t := 6) Look.eq (Sub.cons (t := 7) Look.eq (Sub.nil _))) ?_
      refine KA.ret ?_
      refine sqQ.ret ?_
      refine fnQ.retN ?_
      rw [boundL, if_pos c23, Int.toNat_natCast, if_pos hend, c23]
      exact ⟨_, rfl, St.pick [5] (by decide) rfl (St.addNil 1 true hS)⟩
    · intro c43
      have hend : ¬ endI ws j true = ownI ws j true := c43
      refine KA.skip ?_
      refine sqQ.normal ?_
      refine KA.sub (Sub.cons (t := 3) Look.eq (Sub.cons (t := 4) Look.eq (Sub.cons (t := 12) Look.eq (Sub.cons (t := 13) Look.eq (Sub.nil _))))) ?_
      refine KA.seq ?_
      refine KA.region rfl ?_
      refine KOps.loadAll hS (i := 4) rfl hp3 (by rfl) (by decide) ?_
      refine KOps.makeFunc ?_
      refine KOps.call rfl (fewest_c (r := r) (p := pB ws j true) (vi := .fn 86 [p3, p4, p12, p13]) (Rd.ext hS.keeps hv) (by omega) (hSz.ext hS.keeps) rfl (fun h' s hK hs => ACalls.mono (bound1_c (s := s) (i := j) (g := true) (Rd.ext (hS.keeps.trans hK) hv) hB (by omega) hj hp3 hp4 hp12 hp13 (Rd.ext hK (hS.rd 4 rfl)) (Rd.ext hK (hS.rd 3 rfl)) (Rd.ext hK (hS.rd 1 rfl)) (Rd.ext hK (hS.rd 0 rfl))) (fun _ _ hx => hx))) ?_
      rintro vo h6 hF
      refine KOps.assign ?_
      refine KOps.assign ?_
      refine KOps.done ?_
      refine sqQ.normal ?_
      refine KA.sub (Sub.cons (t := 6) Look.eq (Sub.cons (t := 7) Look.eq (Sub.nil _))) ?_
      refine KA.ret ?_
      refine fnQ.retN ?_
      rw [boundL, if_pos c23, Int.toNat_natCast, if_neg hend, c23, Int.toNat_natCast]
      exact ⟨_, rfl, St.pick [0] (by decide) rfl (St.trans hS hF)⟩

end Go.Am
