/-
  Layer 13: the number of tables of a shape: contracts.
  Conditions: none.
-/
import Derived.Test.YtdfhmdhjeiipfaaGreatDoorHPt11
import Derived.Test.YtdfhmdhjeiipfaaGreatDoorGrA
namespace Go.Am
open Go.Gr
theorem count_take {p : Int → Bool} {l : List Int} {i : Nat} (hi : i < l.length) : (l.take (i + 1)).countP p = (l.take i).countP p + if p (l.getD i 0) then 1 else 0 := by
  rw [take_snoc hi, List.countP_append, List.countP_singleton]
theorem sumE {l : List Int} {i : Nat} (hb : ∀ j, j < i → cntBad l j = none) (hi : i ≤ l.length) : ∀ k, k ≤ i → (k : Int) ≤ (l.take k).sum := by
  intro k
  induction k with
  | zero => intro _; simp
  | succ k ih =>
    intro hk
    rw [take_sum1 (by omega)]
    have := ih (by omega)
    have := cntBad_none (hb k (by omega))
    omega
variable {P : Program} {n : Nat} {ops : Array Oper} {ex : List Nat} {Q : KF → AHeap → Prop} {k : Nat} {os : List Oper} {K : KF} {h h0 : AHeap} {d : Nat} {ty : TypeId} {pos : String} {after : Array Edge} {objs pre rest : List Obj}
theorem count_c {h : AHeap} {v : AV} {l : List Int} (hv : Row h v l) (hlen : l.length ≤ 40) : ACalls Go.Proofs.Tryz.prog 15 [v] h (fun r h' => r = .tup [.int .i64 (if cntE l = 0 then tabS l.sum.toNat l else 0), .int .i64 (cntE l)] ∧ St h h' []) := by
  refine KA.fn 88 [.tmp 2, .tmp 3] Go.Proofs.Tryz.func15 rfl (by decide) rfl rfl (Nat.le_of_ble_eq_true rfl) ?_
  have hS := St.refl h
  show KA _ 88 _ _ [(0, v)] _
  refine KA.seq ?_
  refine KA.region rfl ?_
  refine KOps.assign ?_
  refine KOps.assign ?_
  refine KOps.done ?_
  refine sqQ.normal ?_
  refine KA.sub (Sub.cons (t := 0) Look.eq (Sub.nil _)) ?_
  refine KA.seq ?_
  refine KA.seq ?_
  refine KA.region rfl ?_
  refine KOps.move ?_
  refine KOps.lenI hv ?_
  refine KOps.eql ?_
  refine KOps.done ?_
  refine sqQ.normal ?_
  refine KA.sub (Sub.cons (t := 0) Look.eq (Sub.cons (t := 19) Look.eq (Sub.nil _))) ?_
  refine KA.condD ?_ ?_
  · intro c19
    refine KA.seq ?_
    refine KA.region rfl ?_
    refine KOps.assign ?_
    refine KOps.assign ?_
    refine KOps.done ?_
    refine sqQ.normal ?_
    refine KA.sub (Sub.cons (t := 2) Look.eq (Sub.cons (t := 3) Look.eq (Sub.nil _))) ?_
    refine KA.ret ?_
    refine sqQ.ret ?_
    refine fnQ.retN ?_
    have hce := cntE_4 (l := l) (by omega)
    exact ⟨by rw [hce, if_neg (by decide)], hS⟩
  · intro c19
    refine KA.skip ?_
    refine sqQ.normal ?_
    refine KA.sub (Sub.cons (t := 0) Look.eq (Sub.nil _)) ?_
    refine KA.seq ?_
    refine KA.region rfl ?_
    refine KOps.assign ?_
    refine KOps.assign ?_
    refine KOps.done ?_
    refine sqQ.normal ?_
    refine KA.seq ?_
    refine KA.seq ?_
    refine KA.region rfl ?_
    refine KOps.move ?_
    refine KOps.lenI hv ?_
    refine KOps.move ?_
    refine KOps.done ?_
    refine sqQ.normal ?_
    refine KA.block ?_
    refine KA.loop (X := Nat) (fun i => [(0, v), (4, .int .i64 (Min.min (l.take i).sum 10)), (5, .int .i64 (if i = 0 then 9 else l.getD (i - 1) 0)), (20, v), (21, .int .i64 (l.length : Int)), (22, .int .i64 (i : Int))]) (fun i h' => h = h' ∧ i ≤ l.length ∧ ∀ j, j < i → cntBad l j = none) (fun i => l.length - i) 0 (by repeat (first | exact Sub.nil _ | refine Sub.cons Look.eq ?_ | refine Sub.cons (Eq.trans Look.eq (congrArg (AV.int _) (by first | omega | (dsimp only; omega)))) ?_ | refine Sub.cons (Eq.trans Look.eq (congrArg (AV.int _) (by simp))) ?_ | refine Sub.cons (Eq.trans Look.eq (congrArg (AV.int _) (by rfl))) ?_)) ⟨rfl, by omega, by omega⟩ ?_
    rintro i _ ⟨rfl, hi, hj⟩
    have hS := St.refl h
    have hse := sumE hj hi i (Nat.le_refl _)
    refine KA.seq ?_
    refine KA.region rfl ?_
    refine KOps.lss ?_
    refine KOps.done ?_
    refine sqQ.normal ?_
    refine KA.seq ?_
    refine KA.condD ?_ ?_
    · intro c23
      refine KA.skip ?_
      refine sqQ.normal ?_
      refine KA.sub (Sub.cons (t := 0) Look.eq (Sub.cons (t := 4) Look.eq (Sub.cons (t := 5) Look.eq (Sub.cons (t := 20) Look.eq (Sub.cons (t := 21) Look.eq (Sub.cons (t := 22) Look.eq (Sub.nil _))))))) ?_
      refine KA.seq ?_
      refine KA.block ?_
      refine KA.seq ?_
      refine KA.region rfl ?_
      refine KOps.indexIJ hv (j := i) rfl (by first | omega | (simp; omega)) ?_
      intro p24 hp24
      refine KOps.loadI hp24 hv (by first | omega | (simp; omega)) ?_
      refine KOps.assign ?_
      refine KOps.done ?_
      refine sqQ.normal ?_
      refine KA.sub (Sub.cons (t := 0) Look.eq (Sub.cons (t := 4) Look.eq (Sub.cons (t := 5) Look.eq (Sub.cons (t := 7) Look.eq (Sub.cons (t := 20) Look.eq (Sub.cons (t := 21) Look.eq (Sub.cons (t := 22) Look.eq (Sub.nil _)))))))) ?_
      refine KA.seq ?_
      refine KA.block ?_
      refine KA.seq ?_
      refine KA.region rfl ?_
      refine KOps.move ?_
      refine KOps.call rfl (between_c13) ?_
      rintro _ _ ⟨rfl, rfl⟩
      refine KOps.not ?_
      refine KOps.assign ?_
      refine KOps.done ?_
      refine sqQ.normal ?_
      refine KA.sub (Sub.cons (t := 0) Look.eq (Sub.cons (t := 4) Look.eq (Sub.cons (t := 5) Look.eq (Sub.cons (t := 7) Look.eq (Sub.cons (t := 20) Look.eq (Sub.cons (t := 21) Look.eq (Sub.cons (t := 22) Look.eq (Sub.cons (t := 26) Look.eq (Sub.nil _))))))))) ?_
      refine KA.condN ?_ ?_
      · intro c26
        refine KA.seq ?_
        refine KA.region rfl ?_
        refine KOps.assign ?_
        refine KOps.assign ?_
        refine KOps.done ?_
        refine sqQ.normal ?_
        refine KA.sub (Sub.cons (t := 2) Look.eq (Sub.cons (t := 3) Look.eq (Sub.nil _))) ?_
        refine KA.ret ?_
        refine blQ.ret ?_
        refine sqQ.ret ?_
        refine blQ.ret ?_
        refine sqQ.ret ?_
        refine lpQ.ret ?_
        refine blQ.ret ?_
        refine sqQ.ret ?_
        refine fnQ.retN ?_
        have hbe : badE l = 1 := firstE_at (by omega) hj (by rw [cntBad, if_neg (by omega)])
        have hce := cntE_bad (by omega) hbe (by decide)
        exact ⟨by rw [hce, if_neg (by decide)], hS⟩
      · intro c26
        refine KA.seq ?_
        refine KA.region rfl ?_
        refine KOps.move ?_
        refine KOps.move ?_
        refine KOps.gtr ?_
        refine KOps.assign ?_
        refine KOps.done ?_
        refine sqQ.normal ?_
        refine KA.sub (Sub.cons (t := 0) Look.eq (Sub.cons (t := 4) Look.eq (Sub.cons (t := 7) Look.eq (Sub.cons (t := 20) Look.eq (Sub.cons (t := 21) Look.eq (Sub.cons (t := 22) Look.eq (Sub.cons (t := 30) Look.eq (Sub.nil _)))))))) ?_
        refine KA.condD ?_ ?_
        · intro c30
          refine KA.seq ?_
          refine KA.region rfl ?_
          refine KOps.assign ?_
          refine KOps.assign ?_
          refine KOps.done ?_
          refine sqQ.normal ?_
          refine KA.sub (Sub.cons (t := 2) Look.eq (Sub.cons (t := 3) Look.eq (Sub.nil _))) ?_
          refine KA.ret ?_
          refine blQ.ret ?_
          refine sqQ.ret ?_
          refine blQ.ret ?_
          refine sqQ.ret ?_
          refine lpQ.ret ?_
          refine blQ.ret ?_
          refine sqQ.ret ?_
          refine fnQ.retN ?_
          have h0 : i ≠ 0 := by rintro rfl; rw [if_pos rfl] at c30; omega
          rw [if_neg h0] at c30
          have hbe : badE l = 7 := firstE_at (by omega) hj (by rw [cntBad, if_pos (by omega), if_pos ⟨by omega, by omega⟩])
          have hce := cntE_bad (by omega) hbe (by decide)
          exact ⟨by rw [hce, if_neg (by decide)], hS⟩
        · intro c30
          refine KA.skip ?_
          refine blQ.normal ?_
          refine sqQ.normal ?_
          refine KA.sub (Sub.cons (t := 0) Look.eq (Sub.cons (t := 4) Look.eq (Sub.cons (t := 7) Look.eq (Sub.cons (t := 20) Look.eq (Sub.cons (t := 21) Look.eq (Sub.cons (t := 22) Look.eq (Sub.nil _))))))) ?_
          refine KA.seq ?_
          refine KA.region rfl ?_
          refine KOps.move ?_
          refine KOps.assign ?_
          refine KOps.done ?_
          refine sqQ.normal ?_
          refine KA.sub (Sub.cons (t := 0) Look.eq (Sub.cons (t := 4) Look.eq (Sub.cons (t := 5) Look.eq (Sub.cons (t := 7) Look.eq (Sub.cons (t := 20) Look.eq (Sub.cons (t := 21) Look.eq (Sub.cons (t := 22) Look.eq (Sub.nil _)))))))) ?_
          refine KA.region rfl ?_
          refine KOps.move ?_
          refine KOps.move ?_
          refine KOps.add (by first | omega | (simp only [List.length_append, List.length_singleton, List.length_set]; omega)) (by first | omega | (simp only [List.length_append, List.length_singleton, List.length_set]; omega)) ?_
          refine KOps.min ?_
          refine KOps.assign ?_
          refine KOps.done ?_
          refine blQ.normal ?_
          refine sqQ.normal ?_
          refine KA.sub (Sub.cons (t := 0) Look.eq (Sub.cons (t := 4) Look.eq (Sub.cons (t := 5) Look.eq (Sub.cons (t := 20) Look.eq (Sub.cons (t := 21) Look.eq (Sub.cons (t := 22) Look.eq (Sub.nil _))))))) ?_
          refine KA.region rfl ?_
          refine KOps.add (by first | omega | (simp only [List.length_append, List.length_singleton, List.length_set]; omega)) (by first | omega | (simp only [List.length_append, List.length_singleton, List.length_set]; omega)) ?_
          refine KOps.move ?_
          refine KOps.done ?_
          refine lpQ.normal (i + 1) (by repeat (first | exact Sub.nil _ | refine Sub.cons Look.eq ?_ | refine Sub.cons (Eq.trans Look.eq (congrArg (AV.int _) (by first | omega | (dsimp only; omega)))) ?_ | refine Sub.cons (Eq.trans Look.eq (congrArg (AV.int _) (by rw [if_neg (by omega), Nat.add_sub_cancel]))) ?_ | refine Sub.cons (Eq.trans Look.eq (congrArg (AV.int _) (by rw [take_sum1 (by omega)]; omega))) ?_)) ⟨rfl, by omega, ?_⟩ (by omega)
          intro j hj2; rcases Nat.lt_succ_iff_lt_or_eq.1 hj2 with h1 | rfl
          · exact hj j h1
          · rw [cntBad, if_pos (by omega), if_neg (by rintro ⟨h1, h2⟩; rw [if_neg (by omega)] at c30; omega)]
    · intro c23
      have hil : i = l.length := by omega
      subst hil
      have hbe : badE l = 0 := firstE_none (fun j hj2 => hj j (by omega))
      have hv1 : ∀ j, j < l.length → 1 ≤ l.getD j 0 ∧ l.getD j 0 ≤ 9 := fun j hj2 => by have := cntBad_none (hj j (by omega)); omega
      have hsg := sum_ge (fun j hj2 => (hv1 j hj2).1) l.length (Nat.le_refl _)
      rw [List.take_length] at hsg
      rw [List.take_length]
      refine KA.exit ?_
      refine sqQ.exit ?_
      refine lpQ.exit ?_
      refine blQ.here ?_
      refine sqQ.normal ?_
      refine KA.sub (Sub.cons (t := 0) Look.eq (Sub.cons (t := 4) Look.eq (Sub.nil _))) ?_
      refine KA.seq ?_
      refine KA.seq ?_
      refine KA.region rfl ?_
      refine KOps.move ?_
      refine KOps.gtr ?_
      refine KOps.done ?_
      refine sqQ.normal ?_
      refine KA.sub (Sub.cons (t := 0) Look.eq (Sub.cons (t := 4) Look.eq (Sub.cons (t := 41) Look.eq (Sub.nil _)))) ?_
      refine KA.condD ?_ ?_
      · intro c41
        refine KA.seq ?_
        refine KA.region rfl ?_
        refine KOps.assign ?_
        refine KOps.assign ?_
        refine KOps.done ?_
        refine sqQ.normal ?_
        refine KA.sub (Sub.cons (t := 2) Look.eq (Sub.cons (t := 3) Look.eq (Sub.nil _))) ?_
        refine KA.ret ?_
        refine sqQ.ret ?_
        refine fnQ.retN ?_
        have hce := cntE_3 (l := l) (by omega) hbe (by omega)
        exact ⟨by rw [hce, if_neg (by decide)], hS⟩
      · intro c41
        have hs9 : l.sum ≤ 9 := by omega
        have hce := cntE_0 (l := l) (by omega) hbe (by omega)
        have hmin : Min.min l.sum 10 = l.sum := by omega
        rw [hmin]
        have hq : l.sum = (l.sum.toNat : Int) := by omega
        refine KA.skip ?_
        refine sqQ.normal ?_
        refine KA.sub (Sub.cons (t := 0) Look.eq (Sub.cons (t := 4) Look.eq (Sub.nil _))) ?_
        refine KA.seq ?_
        refine KA.region rfl ?_
        refine KOps.assign ?_
        refine KOps.assign ?_
        refine KOps.done ?_
        refine sqQ.normal ?_
        refine KA.seq ?_
        refine KA.seq ?_
        refine KA.region rfl ?_
        refine KOps.move ?_
        refine KOps.move ?_
        refine KOps.done ?_
        refine sqQ.normal ?_
        refine KA.sub (Sub.cons (t := 0) Look.eq (Sub.cons (t := 8) Look.eq (Sub.cons (t := 9) Look.eq (Sub.cons (t := 42) Look.eq (Sub.cons (t := 43) Look.eq (Sub.nil _)))))) ?_
        refine KA.block ?_
        refine KA.loop (X := Nat) (fun i => [(0, v), (8, .int .i64 (factI i)), (9, .int .i64 1), (42, .int .i64 l.sum), (43, .int .i64 (i : Int))]) (fun i h' => h = h' ∧ i ≤ l.sum.toNat) (fun i => l.sum.toNat - i) 0 (by repeat (first | exact Sub.nil _ | refine Sub.cons Look.eq ?_ | refine Sub.cons (Eq.trans Look.eq (congrArg (AV.int _) (by first | omega | (dsimp only; omega)))) ?_)) ⟨rfl, Nat.zero_le _⟩ ?_
        rintro i _ ⟨rfl, hi⟩
        have hS := St.refl h
        have hf1 := factI_small i (by omega)
        refine KA.seq ?_
        refine KA.region rfl ?_
        refine KOps.lss ?_
        refine KOps.done ?_
        refine sqQ.normal ?_
        refine KA.seq ?_
        refine KA.condD ?_ ?_
        · intro c44
          refine KA.skip ?_
          refine sqQ.normal ?_
          refine KA.sub (Sub.cons (t := 0) Look.eq (Sub.cons (t := 8) Look.eq (Sub.cons (t := 9) Look.eq (Sub.cons (t := 42) Look.eq (Sub.cons (t := 43) Look.eq (Sub.nil _)))))) ?_
          refine KA.seq ?_
          refine KA.block ?_
          refine KA.seq ?_
          refine KA.region rfl ?_
          refine KOps.move ?_
          refine KOps.assign ?_
          refine KOps.done ?_
          refine sqQ.normal ?_
          refine KA.sub (Sub.cons (t := 0) Look.eq (Sub.cons (t := 8) Look.eq (Sub.cons (t := 9) Look.eq (Sub.cons (t := 10) Look.eq (Sub.cons (t := 42) Look.eq (Sub.cons (t := 43) Look.eq (Sub.nil _))))))) ?_
          refine KA.region rfl ?_
          refine KOps.move ?_
          refine KOps.move ?_
          refine KOps.add (by first | omega | (simp only [List.length_append, List.length_singleton, List.length_set]; omega)) (by first | omega | (simp only [List.length_append, List.length_singleton, List.length_set]; omega)) ?_
          refine KOps.mul (by have := factI_small (i + 1) (by omega); rw [factI] at this; omega) (by have := factI_small (i + 1) (by omega); rw [factI] at this; omega) ?_
          refine KOps.assign ?_
          refine KOps.done ?_
          refine blQ.normal ?_
          refine sqQ.normal ?_
          refine KA.sub (Sub.cons (t := 0) Look.eq (Sub.cons (t := 8) Look.eq (Sub.cons (t := 9) Look.eq (Sub.cons (t := 42) Look.eq (Sub.cons (t := 43) Look.eq (Sub.nil _)))))) ?_
          refine KA.region rfl ?_
          refine KOps.add (by first | omega | (simp only [List.length_append, List.length_singleton, List.length_set]; omega)) (by first | omega | (simp only [List.length_append, List.length_singleton, List.length_set]; omega)) ?_
          refine KOps.move ?_
          refine KOps.done ?_
          exact lpQ.normal (i + 1) (by repeat (first | exact Sub.nil _ | refine Sub.cons Look.eq ?_ | refine Sub.cons (Eq.trans Look.eq (congrArg (AV.int _) (by first | omega | (dsimp only; omega)))) ?_)) ⟨rfl, by omega⟩ (by omega)
        · intro c44
          have his : i = l.sum.toNat := by omega
          subst his
          refine KA.exit ?_
          refine sqQ.exit ?_
          refine lpQ.exit ?_
          refine blQ.here ?_
          refine sqQ.normal ?_
          refine KA.sub (Sub.cons (t := 0) Look.eq (Sub.cons (t := 8) Look.eq (Sub.cons (t := 9) Look.eq (Sub.nil _)))) ?_
          refine KA.seq ?_
          refine KA.seq ?_
          refine KA.region rfl ?_
          refine KOps.move ?_
          refine KOps.lenI hv ?_
          refine KOps.move ?_
          refine KOps.done ?_
          refine sqQ.normal ?_
          refine KA.block ?_
          refine KA.loop (X := Nat) (fun i => [(0, v), (8, .int .i64 (factI l.sum.toNat)), (9, .int .i64 (hooksTo l i)), (51, v), (52, .int .i64 (l.length : Int)), (53, .int .i64 (i : Int))]) (fun i h' => h = h' ∧ i ≤ l.length ∧ 1 ≤ hooksTo l i ∧ hooksTo l i ≤ 18 ^ ((l.take i).sum).toNat) (fun i => l.length - i) 0 (by repeat (first | exact Sub.nil _ | refine Sub.cons Look.eq ?_ | refine Sub.cons (Eq.trans Look.eq (congrArg (AV.int _) (by first | omega | (dsimp only; omega)))) ?_)) ?_ ?_
          · exact ⟨rfl, Nat.zero_le _, Int.le_refl 1, Int.le_refl 1⟩
          rintro i _ ⟨rfl, hi, hb1, hb2⟩
          have hS := St.refl h
          refine KA.seq ?_
          refine KA.region rfl ?_
          refine KOps.lss ?_
          refine KOps.done ?_
          refine sqQ.normal ?_
          refine KA.seq ?_
          refine KA.condD ?_ ?_
          · intro c54
            have hvi := hv1 i (by omega)
            have hsi := take_sum1 (l := l) (i := i) (by omega)
            have hsm := sum_mono (fun j hj2 => by have := hv1 j hj2; omega) (i + 1) l.length (by omega) (Nat.le_refl _)
            rw [List.take_length] at hsm
            have hsn : 0 ≤ (l.take i).sum := by have := sum_ge (fun j hj2 => (hv1 j hj2).1) i (by omega); omega
            refine KA.skip ?_
            refine sqQ.normal ?_
            refine KA.sub (Sub.cons (t := 0) Look.eq (Sub.cons (t := 8) Look.eq (Sub.cons (t := 9) Look.eq (Sub.cons (t := 51) Look.eq (Sub.cons (t := 52) Look.eq (Sub.cons (t := 53) Look.eq (Sub.nil _))))))) ?_
            refine KA.seq ?_
            refine KA.block ?_
            refine KA.seq ?_
            refine KA.region rfl ?_
            refine KOps.move ?_
            refine KOps.indexIJ hv (j := i) rfl (by first | omega | (simp; omega)) ?_
            intro p56 hp56
            refine KOps.loadI hp56 hv (by first | omega | (simp; omega)) ?_
            refine KOps.assign ?_
            refine KOps.assign ?_
            refine KOps.done ?_
            refine sqQ.normal ?_
            refine KA.sub (Sub.cons (t := 0) Look.eq (Sub.cons (t := 8) Look.eq (Sub.cons (t := 9) Look.eq (Sub.cons (t := 11) Look.eq (Sub.cons (t := 12) Look.eq (Sub.cons (t := 51) Look.eq (Sub.cons (t := 52) Look.eq (Sub.cons (t := 53) Look.eq (Sub.nil _))))))))) ?_
            refine KA.seq ?_
            refine KA.region rfl ?_
            refine KOps.move ?_
            refine KOps.move ?_
            refine KOps.done ?_
            refine sqQ.normal ?_
            refine KA.block ?_
            refine KA.loop (X := Nat) (fun k => [(0, v), (8, .int .i64 (factI l.sum.toNat)), (9, .int .i64 (hooksTo l i * hookRow l i k)), (11, .int .i64 (i : Int)), (12, .int .i64 (l.getD i 0)), (51, v), (52, .int .i64 (l.length : Int)), (53, .int .i64 (i : Int)), (58, .int .i64 (l.getD i 0)), (59, .int .i64 (k : Int))]) (fun k h' => h = h' ∧ k ≤ (l.getD i 0).toNat ∧ 1 ≤ (hooksTo l i * hookRow l i k) ∧ (hooksTo l i * hookRow l i k) ≤ 18 ^ (((l.take i).sum).toNat + k)) (fun k => (l.getD i 0).toNat - k) 0 (by repeat (first | exact Sub.nil _ | refine Sub.cons Look.eq ?_ | refine Sub.cons (Eq.trans Look.eq (congrArg (AV.int _) (by first | omega | (dsimp only; omega)))) ?_ | refine Sub.cons (Eq.trans Look.eq (congrArg (AV.int _) (by rw [hookRow, Int.mul_one]))) ?_)) ?_ ?_
            · refine ⟨rfl, Nat.zero_le _, ?_, ?_⟩ <;> rw [hookRow, Int.mul_one]
              · exact hb1
              · simpa using hb2
            rintro k _ ⟨rfl, hk, hb1, hb2⟩
            have hS := St.refl h
            refine KA.seq ?_
            refine KA.region rfl ?_
            refine KOps.lss ?_
            refine KOps.done ?_
            refine sqQ.normal ?_
            refine KA.seq ?_
            refine KA.condD ?_ ?_
            · intro c60
              have hk1 : k < (l.getD i 0).toNat := by omega
              refine KA.skip ?_
              refine sqQ.normal ?_
              refine KA.sub (Sub.cons (t := 0) Look.eq (Sub.cons (t := 8) Look.eq (Sub.cons (t := 9) Look.eq (Sub.cons (t := 11) Look.eq (Sub.cons (t := 12) Look.eq (Sub.cons (t := 51) Look.eq (Sub.cons (t := 52) Look.eq (Sub.cons (t := 53) Look.eq (Sub.cons (t := 58) Look.eq (Sub.cons (t := 59) Look.eq (Sub.nil _))))))))))) ?_
              refine KA.seq ?_
              refine KA.block ?_
              refine KA.seq ?_
              refine KA.region rfl ?_
              refine KOps.move ?_
              refine KOps.assign ?_
              refine KOps.done ?_
              refine sqQ.normal ?_
              refine KA.sub (Sub.cons (t := 0) Look.eq (Sub.cons (t := 8) Look.eq (Sub.cons (t := 9) Look.eq (Sub.cons (t := 11) Look.eq (Sub.cons (t := 12) Look.eq (Sub.cons (t := 13) Look.eq (Sub.cons (t := 51) Look.eq (Sub.cons (t := 52) Look.eq (Sub.cons (t := 53) Look.eq (Sub.cons (t := 58) Look.eq (Sub.cons (t := 59) Look.eq (Sub.nil _)))))))))))) ?_
              refine KA.seq ?_
              refine KA.region rfl ?_
              refine KOps.move ?_
              refine KOps.move ?_
              refine KOps.sub (by first | omega | (simp only [List.length_append, List.length_singleton, List.length_set]; omega)) (by first | omega | (simp only [List.length_append, List.length_singleton, List.length_set]; omega)) ?_
              refine KOps.assign ?_
              refine KOps.done ?_
              refine sqQ.normal ?_
              refine KA.sub (Sub.cons (t := 0) Look.eq (Sub.cons (t := 8) Look.eq (Sub.cons (t := 9) Look.eq (Sub.cons (t := 11) Look.eq (Sub.cons (t := 12) Look.eq (Sub.cons (t := 13) Look.eq (Sub.cons (t := 14) Look.eq (Sub.cons (t := 51) Look.eq (Sub.cons (t := 52) Look.eq (Sub.cons (t := 53) Look.eq (Sub.cons (t := 58) Look.eq (Sub.cons (t := 59) Look.eq (Sub.nil _))))))))))))) ?_
              refine KA.seq ?_
              refine KA.seq ?_
              refine KA.region rfl ?_
              refine KOps.move ?_
              refine KOps.move ?_
              refine KOps.add (by first | omega | (simp only [List.length_append, List.length_singleton, List.length_set]; omega)) (by first | omega | (simp only [List.length_append, List.length_singleton, List.length_set]; omega)) ?_
              refine KOps.sliceLo hv (m := l.length) (by simp) (by omega) (by omega) ?_
              intro v68 hp68
              have hv68 : Row h v68 (l.drop (i + 1)) := by
                have := Row.part hv hp68 (by omega)
                have e : ((i : Int) + 1).toNat = i + 1 := by omega
                rw [e, List.take_of_length_le (by rw [List.length_drop]; omega)] at this
                exact this
              refine KOps.lenI hv68 ?_
              refine KOps.move ?_
              refine KOps.done ?_
              refine sqQ.normal ?_
              refine KA.sub (Sub.cons (t := 0) Look.eq (Sub.cons (t := 8) Look.eq (Sub.cons (t := 9) Look.eq (Sub.cons (t := 11) Look.eq (Sub.cons (t := 12) Look.eq (Sub.cons (t := 13) Look.eq (Sub.cons (t := 14) Look.eq (Sub.cons (t := 51) Look.eq (Sub.cons (t := 52) Look.eq (Sub.cons (t := 53) Look.eq (Sub.cons (t := 58) Look.eq (Sub.cons (t := 59) Look.eq (Sub.cons (t := 68) Look.eq (Sub.cons (t := 69) Look.eq (Sub.cons (t := 70) Look.eq (Sub.nil _)))))))))))))))) ?_
              refine KA.block ?_
              refine KA.loop (X := Nat) (fun j => [(0, v), (8, .int .i64 (factI l.sum.toNat)), (9, .int .i64 (hooksTo l i * hookRow l i k)), (11, .int .i64 (i : Int)), (12, .int .i64 (l.getD i 0)), (13, .int .i64 (k : Int)), (14, .int .i64 (l.getD i 0 - k + (((l.drop (i + 1)).take j).countP fun m => decide ((k : Int) < m) : Nat))), (51, v), (52, .int .i64 (l.length : Int)), (53, .int .i64 (i : Int)), (58, .int .i64 (l.getD i 0)), (59, .int .i64 (k : Int)), (68, v68), (69, .int .i64 ((l.drop (i + 1)).length : Int)), (70, .int .i64 (j : Int))]) (fun j h' => h = h' ∧ j ≤ (l.drop (i + 1)).length) (fun j => (l.drop (i + 1)).length - j) 0 (by repeat (first | exact Sub.nil _ | refine Sub.cons Look.eq ?_ | refine Sub.cons (Eq.trans Look.eq (congrArg (AV.int _) (by first | omega | (dsimp only; omega)))) ?_ | refine Sub.cons (Eq.trans Look.eq (congrArg (AV.int _) (by simp))) ?_)) ⟨rfl, Nat.zero_le _⟩ ?_
              rintro j _ ⟨rfl, hj9⟩
              have hS := St.refl h
              have hdl9 : (l.drop (i + 1)).length = l.length - (i + 1) := List.length_drop
              have hcj := List.countP_le_length (p := fun m => decide ((k : Int) < m)) (l := (l.drop (i + 1)).take j)
              rw [List.length_take] at hcj
              refine KA.seq ?_
              refine KA.region rfl ?_
              refine KOps.lss ?_
              refine KOps.done ?_
              refine sqQ.normal ?_
              refine KA.seq ?_
              refine KA.condD ?_ ?_
              · intro c71
                refine KA.skip ?_
                refine sqQ.normal ?_
                refine KA.sub (Sub.cons (t := 0) Look.eq (Sub.cons (t := 8) Look.eq (Sub.cons (t := 9) Look.eq (Sub.cons (t := 11) Look.eq (Sub.cons (t := 12) Look.eq (Sub.cons (t := 13) Look.eq (Sub.cons (t := 14) Look.eq (Sub.cons (t := 51) Look.eq (Sub.cons (t := 52) Look.eq (Sub.cons (t := 53) Look.eq (Sub.cons (t := 58) Look.eq (Sub.cons (t := 59) Look.eq (Sub.cons (t := 68) Look.eq (Sub.cons (t := 69) Look.eq (Sub.cons (t := 70) Look.eq (Sub.nil _)))))))))))))))) ?_
                refine KA.seq ?_
                refine KA.block ?_
                refine KA.seq ?_
                refine KA.region rfl ?_
                refine KOps.indexIJ hv68 (j := j) rfl (by first | omega | (simp; omega)) ?_
                intro p72 hp72
                refine KOps.loadI hp72 hv68 (by first | omega | (simp; omega)) ?_
                refine KOps.assign ?_
                refine KOps.done ?_
                refine sqQ.normal ?_
                refine KA.sub (Sub.cons (t := 0) Look.eq (Sub.cons (t := 8) Look.eq (Sub.cons (t := 9) Look.eq (Sub.cons (t := 11) Look.eq (Sub.cons (t := 12) Look.eq (Sub.cons (t := 13) Look.eq (Sub.cons (t := 14) Look.eq (Sub.cons (t := 16) Look.eq (Sub.cons (t := 51) Look.eq (Sub.cons (t := 52) Look.eq (Sub.cons (t := 53) Look.eq (Sub.cons (t := 58) Look.eq (Sub.cons (t := 59) Look.eq (Sub.cons (t := 68) Look.eq (Sub.cons (t := 69) Look.eq (Sub.cons (t := 70) Look.eq (Sub.nil _))))))))))))))))) ?_
                refine KA.seq ?_
                refine KA.region rfl ?_
                refine KOps.move ?_
                refine KOps.move ?_
                refine KOps.gtr ?_
                refine KOps.done ?_
                refine sqQ.normal ?_
                refine KA.sub (Sub.cons (t := 0) Look.eq (Sub.cons (t := 8) Look.eq (Sub.cons (t := 9) Look.eq (Sub.cons (t := 11) Look.eq (Sub.cons (t := 12) Look.eq (Sub.cons (t := 13) Look.eq (Sub.cons (t := 14) Look.eq (Sub.cons (t := 51) Look.eq (Sub.cons (t := 52) Look.eq (Sub.cons (t := 53) Look.eq (Sub.cons (t := 58) Look.eq (Sub.cons (t := 59) Look.eq (Sub.cons (t := 68) Look.eq (Sub.cons (t := 69) Look.eq (Sub.cons (t := 70) Look.eq (Sub.cons (t := 76) Look.eq (Sub.nil _))))))))))))))))) ?_
                refine KA.condD ?_ ?_
                · intro c76
                  refine KA.region rfl ?_
                  refine KOps.move ?_
                  refine KOps.add (by first | omega | (simp only [List.length_append, List.length_singleton, List.length_set]; omega)) (by first | omega | (simp only [List.length_append, List.length_singleton, List.length_set]; omega)) ?_
                  refine KOps.assign ?_
                  refine KOps.done ?_
                  refine blQ.normal ?_
                  refine sqQ.normal ?_
                  refine KA.sub (Sub.cons (t := 0) Look.eq (Sub.cons (t := 8) Look.eq (Sub.cons (t := 9) Look.eq (Sub.cons (t := 11) Look.eq (Sub.cons (t := 12) Look.eq (Sub.cons (t := 13) Look.eq (Sub.cons (t := 14) Look.eq (Sub.cons (t := 51) Look.eq (Sub.cons (t := 52) Look.eq (Sub.cons (t := 53) Look.eq (Sub.cons (t := 58) Look.eq (Sub.cons (t := 59) Look.eq (Sub.cons (t := 68) Look.eq (Sub.cons (t := 69) Look.eq (Sub.cons (t := 70) Look.eq (Sub.nil _)))))))))))))))) ?_
                  refine KA.region rfl ?_
                  refine KOps.add (by first | omega | (simp only [List.length_append, List.length_singleton, List.length_set]; omega)) (by first | omega | (simp only [List.length_append, List.length_singleton, List.length_set]; omega)) ?_
                  refine KOps.move ?_
                  refine KOps.done ?_
                  have hct := count_take (p := fun m => decide ((k : Int) < m)) (l := l.drop (i + 1)) (i := j) (by omega)
                  rw [if_pos (decide_eq_true c76)] at hct
                  exact lpQ.normal (j + 1) (by repeat (first | exact Sub.nil _ | refine Sub.cons Look.eq ?_ | refine Sub.cons (Eq.trans Look.eq (congrArg (AV.int _) (by first | omega | (dsimp only; omega)))) ?_ | refine Sub.cons (Eq.trans Look.eq (congrArg (AV.int _) (by rw [hct]; omega))) ?_)) ⟨rfl, by omega⟩ (by omega)
                · intro c76
                  refine KA.skip ?_
                  refine blQ.normal ?_
                  refine sqQ.normal ?_
                  refine KA.sub (Sub.cons (t := 0) Look.eq (Sub.cons (t := 8) Look.eq (Sub.cons (t := 9) Look.eq (Sub.cons (t := 11) Look.eq (Sub.cons (t := 12) Look.eq (Sub.cons (t := 13) Look.eq (Sub.cons (t := 14) Look.eq (Sub.cons (t := 51) Look.eq (Sub.cons (t := 52) Look.eq (Sub.cons (t := 53) Look.eq (Sub.cons (t := 58) Look.eq (Sub.cons (t := 59) Look.eq (Sub.cons (t := 68) Look.eq (Sub.cons (t := 69) Look.eq (Sub.cons (t := 70) Look.eq (Sub.nil _)))))))))))))))) ?_
                  refine KA.region rfl ?_
                  refine KOps.add (by first | omega | (simp only [List.length_append, List.length_singleton, List.length_set]; omega)) (by first | omega | (simp only [List.length_append, List.length_singleton, List.length_set]; omega)) ?_
                  refine KOps.move ?_
                  refine KOps.done ?_
                  have hct := count_take (p := fun m => decide ((k : Int) < m)) (l := l.drop (i + 1)) (i := j) (by omega)
                  rw [if_neg (by rw [decide_eq_false c76]; exact Bool.false_ne_true), Nat.add_zero] at hct
                  exact lpQ.normal (j + 1) (by repeat (first | exact Sub.nil _ | refine Sub.cons Look.eq ?_ | refine Sub.cons (Eq.trans Look.eq (congrArg (AV.int _) (by first | omega | (dsimp only; omega)))) ?_ | refine Sub.cons (Eq.trans Look.eq (congrArg (AV.int _) (by rw [hct]))) ?_)) ⟨rfl, by omega⟩ (by omega)
              · intro c71
                have hdl : (l.drop (i + 1)).length = l.length - (i + 1) := List.length_drop
                have hie : j = (l.drop (i + 1)).length := by omega
                subst hie
                rw [List.take_length]
                have hcc : l.getD i 0 - k + (((l.drop (i + 1)).countP fun m => decide ((k : Int) < m) : Nat) : Int) = hookC l i k := rfl
                rw [hcc]
                have hcl := List.countP_le_length (p := fun m => decide ((k : Int) < m)) (l := l.drop (i + 1))
                have hc1 : 1 ≤ hookC l i k ∧ hookC l i k ≤ 18 := by unfold hookC; omega
                have hmb := mulB hb1 hb2 hc1.1 hc1.2
                have hp9 := pow18 (c := ((l.take i).sum).toNat + k + 1) (by omega)
                refine KA.exit ?_
                refine sqQ.exit ?_
                refine lpQ.exit ?_
                refine blQ.here ?_
                refine sqQ.normal ?_
                refine KA.sub (Sub.cons (t := 0) Look.eq (Sub.cons (t := 8) Look.eq (Sub.cons (t := 9) Look.eq (Sub.cons (t := 11) Look.eq (Sub.cons (t := 12) Look.eq (Sub.cons (t := 14) Look.eq (Sub.cons (t := 51) Look.eq (Sub.cons (t := 52) Look.eq (Sub.cons (t := 53) Look.eq (Sub.cons (t := 58) Look.eq (Sub.cons (t := 59) Look.eq (Sub.nil _)))))))))))) ?_
                refine KA.region rfl ?_
                refine KOps.move ?_
                refine KOps.move ?_
                refine KOps.mul (by omega) (by omega) ?_
                refine KOps.assign ?_
                refine KOps.done ?_
                refine blQ.normal ?_
                refine sqQ.normal ?_
                refine KA.sub (Sub.cons (t := 0) Look.eq (Sub.cons (t := 8) Look.eq (Sub.cons (t := 9) Look.eq (Sub.cons (t := 11) Look.eq (Sub.cons (t := 12) Look.eq (Sub.cons (t := 51) Look.eq (Sub.cons (t := 52) Look.eq (Sub.cons (t := 53) Look.eq (Sub.cons (t := 58) Look.eq (Sub.cons (t := 59) Look.eq (Sub.nil _))))))))))) ?_
                refine KA.region rfl ?_
                refine KOps.add (by first | omega | (simp only [List.length_append, List.length_singleton, List.length_set]; omega)) (by first | omega | (simp only [List.length_append, List.length_singleton, List.length_set]; omega)) ?_
                refine KOps.move ?_
                refine KOps.done ?_
                refine lpQ.normal (k + 1) (by repeat (first | exact Sub.nil _ | refine Sub.cons Look.eq ?_ | refine Sub.cons (Eq.trans Look.eq (congrArg (AV.int _) (by first | omega | (dsimp only; omega)))) ?_ | refine Sub.cons (Eq.trans Look.eq (congrArg (AV.int _) (by rw [hookRow, ← Int.mul_assoc]))) ?_)) ⟨rfl, by omega, ?_, ?_⟩ (by omega) <;> rw [hookRow, ← Int.mul_assoc]
                · exact hmb.1
                · exact hmb.2
            · intro c60
              refine KA.exit ?_
              refine sqQ.exit ?_
              refine lpQ.exit ?_
              refine blQ.here ?_
              refine blQ.normal ?_
              refine sqQ.normal ?_
              refine KA.sub (Sub.cons (t := 0) Look.eq (Sub.cons (t := 8) Look.eq (Sub.cons (t := 9) Look.eq (Sub.cons (t := 51) Look.eq (Sub.cons (t := 52) Look.eq (Sub.cons (t := 53) Look.eq (Sub.nil _))))))) ?_
              refine KA.region rfl ?_
              refine KOps.add (by first | omega | (simp only [List.length_append, List.length_singleton, List.length_set]; omega)) (by first | omega | (simp only [List.length_append, List.length_singleton, List.length_set]; omega)) ?_
              refine KOps.move ?_
              refine KOps.done ?_
              have hke : k = (l.getD i 0).toNat := by omega
              subst hke
              refine lpQ.normal (i + 1) (by repeat (first | exact Sub.nil _ | refine Sub.cons Look.eq ?_ | refine Sub.cons (Eq.trans Look.eq (congrArg (AV.int _) (by first | omega | (dsimp only; omega)))) ?_)) ⟨rfl, by omega, hb1, ?_⟩ (by omega)
              have e : ((l.take (i + 1)).sum).toNat = ((l.take i).sum).toNat + (l.getD i 0).toNat := by omega
              rw [e]
              exact hb2
          · intro c54
            have hie : i = l.length := by omega
            subst hie
            have hqb := tabS_le l.sum.toNat l (by omega)
            have hp9 : ∀ d : Nat, d ≤ 9 → (9 : Int) ^ d ≤ 387420489 := by decide
            have hp9 := hp9 l.sum.toNat (by omega)
            rw [hooks_is hce] at hqb
            refine KA.exit ?_
            refine sqQ.exit ?_
            refine lpQ.exit ?_
            refine blQ.here ?_
            refine sqQ.normal ?_
            refine KA.sub (Sub.cons (t := 8) Look.eq (Sub.cons (t := 9) Look.eq (Sub.nil _))) ?_
            refine KA.seq ?_
            refine KA.region rfl ?_
            refine KOps.move ?_
            refine KOps.move ?_
            refine KOps.quo (by omega) (by omega) (by omega) ?_
            refine KOps.assign ?_
            refine KOps.assign ?_
            refine KOps.done ?_
            refine sqQ.normal ?_
            refine KA.sub (Sub.cons (t := 2) Look.eq (Sub.cons (t := 3) Look.eq (Sub.nil _))) ?_
            refine KA.ret ?_
            refine fnQ.retN ?_
            exact ⟨by rw [hce, if_pos rfl, hooks_is hce], hS⟩

end Go.Am


namespace Go.Am
def tab9 : List (Nat × Nat) := [(0, 1), (1, 1), (2, 1), (11, 1), (3, 1), (21, 2), (111, 1), (4, 1), (31, 3), (22, 2), (211, 3), (1111, 1), (5, 1), (41, 4), (32, 5), (311, 6), (221, 5), (2111, 4), (11111, 1), (6, 1), (51, 5), (42, 9), (411, 10), (33, 5), (321, 16), (3111, 10), (222, 5), (2211, 9), (21111, 5), (111111, 1), (7, 1), (61, 6), (52, 14), (511, 15), (43, 14), (421, 35), (4111, 20), (331, 21), (322, 21), (3211, 35), (31111, 15), (2221, 14), (22111, 14), (211111, 6), (1111111, 1), (8, 1), (71, 7), (62, 20), (611, 21), (53, 28), (521, 64), (5111, 35), (44, 14), (431, 70), (422, 56), (4211, 90), (41111, 35), (332, 42), (3311, 56), (3221, 70), (32111, 64), (311111, 21), (2222, 14), (22211, 28), (221111, 20), (2111111, 7), (11111111, 1), (9, 1), (81, 8), (72, 27), (711, 28), (63, 48), (621, 105), (6111, 56), (54, 42), (531, 162), (522, 120), (5211, 189), (51111, 70), (441, 84), (432, 168), (4311, 216), (4221, 216), (42111, 189), (411111, 56), (333, 42), (3321, 168), (33111, 120), (3222, 84), (32211, 162), (321111, 105), (3111111, 28), (22221, 42), (222111, 48), (2211111, 27), (21111111, 8), (111111111, 1)]
def look9 (k : Nat) : List (Nat × Nat) → Nat
  | [] => 0
  | (a, b) :: r => match Nat.beq a k with | true => b | false => look9 k r
def code9 (p : List Nat) : Nat := p.foldl (fun a x => match x with | 0 => a | x + 1 => a * 10 + (x + 1)) 0
def tv9 (p : List Nat) : Nat := look9 (code9 p) tab9
def pad9 : Nat → Nat → Nat → List (List Nat)
  | 0, _, _ => [[]]
  | L + 1, mx, left => (List.range (min mx left + 1)).flatMap fun a => (pad9 L a (left - a)).map (a :: ·)
def term9 (p : List Nat) (j : Nat) : Nat := if 0 < p.getD j 0 ∧ (j + 1 = p.length ∨ p.getD (j + 1) 0 < p.getD j 0) then tv9 (p.set j (p.getD j 0 - 1)) else 0
def chk9 (p : List Nat) : Bool := Nat.beq p.sum 0 || Nat.beq (tv9 p) ((List.range p.length).map (term9 p)).sum
theorem chk9_all : ((List.range 10).all fun L => (pad9 L 9 9).all chk9) = true := by decide +kernel
/-- Never greater than what is ahead. -/
def Ni (p : List Nat) : Prop := ∀ i j, i < j → j < p.length → p.getD j 0 ≤ p.getD i 0
theorem Ni.of {p : List Nat} (h : p.Pairwise (fun a b => b ≤ a)) : Ni p := by
  intro i j hij hj
  have := List.pairwise_iff_getElem.1 h i j (by omega) hj hij
  rw [List.getD_eq_getElem?_getD, List.getD_eq_getElem?_getD, List.getElem?_eq_getElem hj, List.getElem?_eq_getElem (show i < p.length by omega)]
  exact this
theorem Ni.to {p : List Nat} (h : Ni p) : p.Pairwise (fun a b => b ≤ a) := by
  rw [List.pairwise_iff_getElem]
  intro i j hi hj hij
  have := h i j hij hj
  rwa [List.getD_eq_getElem?_getD, List.getD_eq_getElem?_getD, List.getElem?_eq_getElem hj, List.getElem?_eq_getElem hi] at this
theorem pad9_mem : ∀ (p : List Nat) (mx left : Nat), p.Pairwise (fun a b => b ≤ a) → (∀ x ∈ p, x ≤ mx) → p.sum ≤ left → p ∈ pad9 p.length mx left := by
  intro p
  induction p with
  | nil => intro mx left _ _ _; exact List.mem_singleton.2 rfl
  | cons a p ih =>
    intro mx left h1 h2 h3
    rw [List.pairwise_cons] at h1
    rw [List.sum_cons] at h3
    have ha := h2 a List.mem_cons_self
    exact List.mem_flatMap.2 ⟨a, List.mem_range.2 (by omega), List.mem_map.2 ⟨p, ih a (left - a) h1.2 (fun x hx => h1.1 x hx) (by omega), rfl⟩⟩
theorem getD_set9 (p : List Nat) (j i x : Nat) (hj : j < p.length) : (p.set j x).getD i 0 = if j = i then x else p.getD i 0 := by
  rw [List.getD_eq_getElem?_getD, List.getD_eq_getElem?_getD, List.getElem?_set]
  split
  · first | rfl | (rw [if_pos (by omega)]; rfl)
  · rfl
theorem sum_set9 : ∀ (p : List Nat) (j : Nat), 0 < p.getD j 0 → (p.set j (p.getD j 0 - 1)).sum + 1 = p.sum := by
  intro p
  induction p with
  | nil => intro j h; simp at h
  | cons a p ih =>
    intro j h
    cases j with
    | zero => simp only [List.getD_cons_zero] at h ⊢; rw [List.set_cons_zero, List.sum_cons, List.sum_cons]; omega
    | succ j => simp only [List.getD_cons_succ] at h ⊢; rw [List.set_cons_succ, List.sum_cons, List.sum_cons]; have := ih j h; omega
theorem nI_getD (p : List Nat) (j : Nat) : (nI p).getD j 0 = ((p.getD j 0 : Nat) : Int) := by
  rw [nI, List.getD_eq_getElem?_getD, List.getD_eq_getElem?_getD, List.getElem?_map]
  cases p[j]? <;> rfl
theorem code9_0 : ∀ (p : List Nat), p.sum = 0 → code9 p = 0 := by
  intro p h
  unfold code9
  have : ∀ (p : List Nat) (a : Nat), p.sum = 0 → p.foldl (fun a x => match x with | 0 => a | x + 1 => a * 10 + (x + 1)) a = a := by
    intro p
    induction p with
    | nil => intro a _; rfl
    | cons x p ih =>
      intro a h
      rw [List.sum_cons] at h
      obtain rfl : x = 0 := by omega
      rw [List.foldl_cons]
      exact ih a (by omega)
  exact this p 0 h
theorem sum_cast9 (l : List Nat) : ((l.sum : Nat) : Int) = (l.map fun x : Nat => (x : Int)).sum := by
  induction l with
  | nil => rfl
  | cons a l ih => rw [List.sum_cons, List.map_cons, List.sum_cons, Int.natCast_add, ih]
theorem tab_is : ∀ (d : Nat) (p : List Nat), p.sum = d → Ni p → p.length ≤ 9 → d ≤ 9 → tabS d (nI p) = (tv9 p : Int) := by
  intro d
  induction d with
  | zero =>
    intro p hs _ _ _
    rw [tv9, code9_0 p hs]
    rfl
  | succ d ih =>
    intro p hs hn hl hd
    have hc : chk9 p = true := List.all_eq_true.1 (List.all_eq_true.1 chk9_all p.length (List.mem_range.2 (by omega))) p (pad9_mem p 9 9 hn.to (fun x hx => Nat.le_trans (mem_sum p x hx) (by omega)) (by omega))
    unfold chk9 at hc
    rw [Bool.or_eq_true] at hc
    have hc := Nat.eq_of_beq_eq_true (hc.resolve_left (fun e => by have := Nat.eq_of_beq_eq_true e; omega))
    rw [hc, sum_cast9, List.map_map]
    unfold tabS
    have hlen : (nI p).length = p.length := by rw [nI, List.length_map]
    rw [hlen]
    refine congrArg List.sum (List.map_congr_left fun j hj => ?_)
    have hj := List.mem_range.1 hj
    simp only [Function.comp_apply, term9, nI_getD]
    by_cases hcnd : 0 < p.getD j 0 ∧ (j + 1 = p.length ∨ p.getD (j + 1) 0 < p.getD j 0)
    · rw [if_pos hcnd, if_pos ⟨by omega, hcnd.2.imp id (by omega)⟩]
      have e : (nI p).set j (((p.getD j 0 : Nat) : Int) - 1) = nI (p.set j (p.getD j 0 - 1)) := by
        rw [nI, nI, List.map_set]
        congr 1
        omega
      rw [e]
      refine ih _ (by have := sum_set9 p j hcnd.1; omega) ?_ (by rw [List.length_set]; exact hl) (by omega)
      intro a b hab hb
      rw [List.length_set] at hb
      rw [getD_set9 p j b _ hj, getD_set9 p j a _ hj]
      have h1 := hn a b hab hb
      by_cases hja : j = a
      · rw [if_neg (by omega), if_pos hja]
        subst hja
        rcases hcnd.2 with h2 | h2
        · omega
        · by_cases hb1 : b = j + 1
          · subst hb1; omega
          · have := hn (j + 1) b (by omega) hb
            omega
      · rw [if_neg hja]
        split
        · rename_i hjb; subst hjb; omega
        · exact h1
    · rw [if_neg hcnd, if_neg (fun h => hcnd ⟨by omega, h.2.imp id (by omega)⟩)]
      rfl
end Go.Am

namespace Go.Am
open Go.Gr
theorem rowLens_take {T : List (List Int)} {i : Nat} (hi : i < T.length) : rowLens (T.take (i + 1)) = rowLens (T.take i) ++ [((T.getD i []).length : Int)] := by
  unfold rowLens
  rw [List.take_add_one, List.map_append, List.getElem?_eq_getElem hi]
  simp [List.getD_eq_getElem?_getD, List.getElem?_eq_getElem hi]
theorem rowLens_len (T : List (List Int)) : (rowLens T).length = T.length := List.length_map _

end Go.Am


namespace Go.Am
open Go.Gr

theorem IsPack.perm {a b : List Int} (h : IsPack a) (hp : a.Perm b) : IsPack b := ⟨hp.nodup_iff.1 h.1, fun x hx => by rw [← hp.length_eq]; exact h.2 x (hp.mem_iff.2 hx)⟩
theorem word_flat (T : List (List Int)) : (wordT T).Perm T.flatten := by
  unfold wordT
  exact (List.reverse_perm T).flatten
theorem insAll_pack {l : List Int} (hp : IsPack l) : Go.Gr.Tab (insAll l) ∧ IsPack (insAll l).flatten ∧ (insAll l).flatten.length = l.length := by
  have h1 := (insAll_facts hp.1 (Nat.le_refl l.length))
  rw [List.take_length] at h1
  have h2 := (word_flat (insAll l)).symm.trans h1.2.2.2
  exact ⟨h1.1, hp.perm h2.symm, h2.length_eq⟩
end Go.Am


namespace Go.Am
open Go.Gr

def below (m : Nat) (w : List Int) : List Int := w.filter fun x => decide (x < (m : Int))

theorem kn_below {w w' : List Int} (h : Kn w w') (m : Nat) : Kn (below m w) (below m w') := by
  induction h with
  | refl w => exact .refl _
  | @a u v x y z h1 h2 =>
    by_cases hz : z < (m : Int)
    · have := Kn.a (Go.Am.below m u) (Go.Am.below m v) h1 h2
      simpa [Go.Am.below, List.filter_append, List.filter_cons, hz, show x < (m : Int) by omega, show y < (m : Int) by omega] using this
    · have : Go.Am.below m (u ++ [x, z, y] ++ v) = Go.Am.below m (u ++ [z, x, y] ++ v) := by
        simp only [Go.Am.below, List.filter_append, List.filter_cons, hz, decide_false, List.filter_nil]
        simp
      rw [this]; exact .refl _
  | @b u v x y z h1 h2 =>
    by_cases hz : z < (m : Int)
    · have := Kn.b (Go.Am.below m u) (Go.Am.below m v) h1 h2
      simpa [Go.Am.below, List.filter_append, List.filter_cons, hz, show x < (m : Int) by omega, show y < (m : Int) by omega] using this
    · have : Go.Am.below m (u ++ [y, x, z] ++ v) = Go.Am.below m (u ++ [y, z, x] ++ v) := by
        simp only [Go.Am.below, List.filter_append, List.filter_cons, hz, decide_false, List.filter_nil]
        simp
      rw [this]; exact .refl _
  | symm _ ih => exact .symm ih
  | trans _ _ ih1 ih2 => exact .trans ih1 ih2

theorem below_word (m : Nat) (T : List (List Int)) : below m (wordT T) = wordT (T.map (below m)) := by
  simp only [below, wordT, List.filter_flatten, List.map_reverse]
  rfl
theorem rise_below {R : List Int} (h : Rise R) (m : Nat) : Rise (below m R) := h.sublist List.filter_sublist
/-- Of a row that rises, what is below a number stands first. -/
theorem below_take {R : List Int} (h : Rise R) (m : Nat) : below m R = R.take (below m R).length := by
  induction R with
  | nil => rfl
  | cons x R ih =>
    have h2 := List.pairwise_cons.1 h
    by_cases hx : x < (m : Int)
    · have e : below m (x :: R) = x :: below m R := by simp [below, hx]
      rw [e, List.length_cons, List.take_succ_cons, ← ih h2.2]
    · have e : below m (x :: R) = [] := by
        simp only [below, List.filter_eq_nil_iff]
        intro y hy
        rcases List.mem_cons.1 hy with rfl | hy
        · simpa using hx
        · have := h2.1 y hy
          simp; omega
      rw [e]; rfl
theorem below_len (m : Nat) (R : List Int) : (below m R).length = R.countP fun x => decide (x < (m : Int)) := by simp [below, List.countP_eq_length_filter]
theorem over_below {R S : List Int} (hR : Rise R) (hS : Rise S) (h : Over R S) (m : Nat) : Over (below m R) (below m S) := by
  have hlS : (below m S).length ≤ S.length := List.length_filter_le _ _
  have hlR : (below m R).length ≤ R.length := List.length_filter_le _ _
  have hle : (below m S).length ≤ (below m R).length := by
    rw [below_len, below_len]
    apply Nat.le_of_not_lt
    intro hlt
    have hj : (R.countP fun x => decide (x < (m : Int))) < S.length := by rw [below_len] at hlS; omega
    have h1 := h.2 _ hj
    have h2 := (cnt_rise hS (m : Int) _ hj).2 hlt
    have h3 : (R.countP fun x => decide (x < (m : Int))) < R.length := Nat.lt_of_lt_of_le hj h.1
    have h4 := (cnt_rise hR (m : Int) _ h3).1 (by omega)
    omega
  refine ⟨hle, ?_⟩
  intro j hj
  have e1 : (below m R).getD j 0 = R.getD j 0 := by
    rw [below_take hR, List.getD_eq_getElem?_getD, List.getElem?_take, if_pos (by omega), ← List.getD_eq_getElem?_getD]
  have e2 : (below m S).getD j 0 = S.getD j 0 := by
    rw [below_take hS, List.getD_eq_getElem?_getD, List.getElem?_take, if_pos (by omega), ← List.getD_eq_getElem?_getD]
  rw [e1, e2]
  exact h.2 j (by omega)
theorem wtab_below (m : Nat) : ∀ {T : List (List Int)}, Go.Gr.Tab T → WTab (T.map (below m)) := by
  intro T
  induction T with
  | nil => intro _; trivial
  | cons R T ih =>
    intro h
    refine ⟨?_, ih h.2.2.2⟩
    have h1 := h.2.2.1
    cases T with
    | nil => exact ⟨Nat.zero_le _, fun j hj => absurd hj (Nat.not_lt_zero _)⟩
    | cons S T => exact over_below h.2.1 h.2.2.2.2.1 h1 m
/-- Greene's theorem for the numbers below m: the table's rows, as far as they are below m. -/
theorem greene_below {w : List Int} (hnd : w.Nodup) (m k : Nat) : Go.Gr.Fam k (below m w) (rowSum k ((insAll w).map (below m))) ∧ ∀ n, Go.Gr.Fam k (below m w) n → n ≤ rowSum k ((insAll w).map (below m)) := by
  obtain ⟨h1, h2, h3⟩ := insAll_ok hnd
  have h2 := kn_below h2 m
  rw [below_word] at h2
  refine ⟨(h2.fam k _).2 (riseDown k ?_), fun n hn => ?_⟩
  · intro R hR
    obtain ⟨S, hS, rfl⟩ := List.mem_map.1 hR
    exact rise_below (h1 S hS) m
  · obtain ⟨ps, hm, hr, rfl⟩ := (h2.fam k n).1 hn
    obtain ⟨b, hb⟩ := le_of_mem_bound (T := (insAll w).map (below m))
    exact riseUp k b (wtab_below m (insAll_tab hnd)) hb hm hr
/-- So far the rows are those of the table of the numbers below m. -/
theorem rowSum_below {w : List Int} (hnd : w.Nodup) (m k : Nat) : rowSum k ((insAll w).map (below m)) = rowSum k (insAll (below m w)) := by
  have h1 := greene_below hnd m k
  have h2 := greene (hnd.sublist (List.filter_sublist : (below m w).Sublist w)) k
  exact Nat.le_antisymm (h2.2 _ h1.1) (h1.2 _ h2.1)

theorem rowSum_succ (k : Nat) (T : List (List Int)) : rowSum (k + 1) T = rowSum k T + (T.getD k []).length := by
  unfold rowSum
  rw [List.take_add_one, List.map_append, List.sum_append, List.getD_eq_getElem?_getD]
  cases T[k]? <;> simp
theorem getD_map_below (m : Nat) (T : List (List Int)) (r : Nat) : ((T.map (below m)).getD r []).length = cnt T m r := by
  rw [cnt, List.getD_eq_getElem?_getD, List.getElem?_map, List.getD_eq_getElem?_getD]
  cases T[r]? with
  | none => simp
  | some R => simp [below_len]
/-- How many numbers below m stand in a row. -/
theorem cnt_ins {w : List Int} (hnd : w.Nodup) (m r : Nat) : cnt (insAll w) m r = ((insAll (below m w)).getD r []).length := by
  have h1 := rowSum_below hnd m (r + 1)
  have h2 := rowSum_below hnd m r
  rw [rowSum_succ, rowSum_succ, getD_map_below] at h1
  omega

/-- Rows that rise are known by how many numbers below each one they have. -/
theorem rise_ext {R S : List Int} (hR : Rise R) (hS : Rise S) (h : ∀ x, x ∈ R ↔ x ∈ S) : R = S := by
  have hp : R.Perm S := (List.perm_ext_iff_of_nodup (hR.imp (fun h => by omega)) (hS.imp (fun h => by omega))).2 h
  exact hp.eq_of_pairwise (fun a b _ _ h1 h2 => by omega) hR hS
theorem count_at {R : List Int} (hR : Rise R) (x : Int) : x ∈ R ↔ R.countP (fun y => decide (y < x + 1)) = R.countP (fun y => decide (y < x)) + 1 := by
  induction R with
  | nil => simp
  | cons a R ih =>
    have h2 := List.pairwise_cons.1 hR
    rw [List.countP_cons, List.countP_cons, List.mem_cons]
    by_cases hxa : x = a
    · subst hxa
      have h3 : R.countP (fun y => decide (y < x + 1)) = 0 := by rw [List.countP_eq_zero]; intro y hy; have := h2.1 y hy; simp; omega
      have h4 : R.countP (fun y => decide (y < x)) = 0 := by rw [List.countP_eq_zero]; intro y hy; have := h2.1 y hy; simp; omega
      simp [h3, h4]; omega
    · have h5 := ih h2.2
      have h6 : (decide (a < x + 1)) = decide (a < x) := by congr 1; simp; omega
      rw [h6, or_iff_right hxa, h5]
      omega
theorem tab_ext {T S : List (List Int)} {n : Nat} (hT : Go.Gr.Rows T) (hS : Go.Gr.Rows S) (hT0 : ∀ R ∈ T, R ≠ []) (hS0 : ∀ R ∈ S, R ≠ []) (hTn : ∀ x ∈ T.flatten, 0 ≤ x ∧ x < (n : Int)) (hSn : ∀ x ∈ S.flatten, 0 ≤ x ∧ x < (n : Int))
    (h : ∀ m, m ≤ n → ∀ r, cnt T m r = cnt S m r) : T = S := by
  have hrow : ∀ r, T.getD r [] = S.getD r [] := by
    intro r
    refine rise_ext (rowT_rise hT r) (rowT_rise hS r) fun x => ?_
    by_cases hx : 0 ≤ x ∧ x < (n : Int)
    · obtain ⟨m, rfl⟩ : ∃ m : Nat, x = (m : Int) := ⟨x.toNat, by omega⟩
      rw [count_at (rowT_rise hT r), count_at (rowT_rise hS r)]
      have h1 := h m (by omega) r
      have h2 := h (m + 1) (by omega) r
      unfold cnt at h1 h2
      rw [show ((m + 1 : Nat) : Int) = (m : Int) + 1 by omega] at h2
      rw [h1, h2]
    · exact ⟨fun hm => absurd (hTn x (memL_flat hm)) hx, fun hm => absurd (hSn x (memL_flat hm)) hx⟩
  have hlen : ∀ A B : List (List Int), (∀ R ∈ B, R ≠ []) → (∀ r, A.getD r [] = B.getD r []) → B.length ≤ A.length := by
    intro A B hB hr
    apply Nat.le_of_not_lt
    intro hlt
    have h1 := hr A.length
    rw [getDL_out (Nat.le_refl _)] at h1
    exact hB _ (getDL_mem hlt) h1.symm
  have hl : T.length = S.length := Nat.le_antisymm (hlen S T hT0 fun r => (hrow r).symm) (hlen T S hS0 hrow)
  apply List.ext_getElem hl
  intro i h1 h2
  have := hrow i
  rw [List.getD_eq_getElem?_getD, List.getD_eq_getElem?_getD, List.getElem?_eq_getElem h1, List.getElem?_eq_getElem h2] at this
  exact this

/-- The columns of a table. -/
def colsOf (T : List (List Int)) : List (List Int) := (List.range (T.getD 0 []).length).map fun q => colT q T
theorem colSum_succ (k : Nat) (T : List (List Int)) : colSum (k + 1) T = colSum k T + colCnt T k := by
  unfold colSum colCnt
  induction T with
  | nil => rfl
  | cons R T ih =>
    simp only [List.map_cons, List.sum_cons, List.countP_cons, ih]
    by_cases h : k < R.length
    · rw [decide_eq_true h]; simp; omega
    · rw [decide_eq_false h]; simp; omega
theorem count_pad {A B : List Nat} (h : ∀ q, A.getD q 0 = B.getD q 0) (r : Nat) : A.countP (fun x => decide (r < x)) = B.countP (fun x => decide (r < x)) := by
  have key : ∀ (N : Nat) (A : List Nat), A.length ≤ N → A.countP (fun x => decide (r < x)) = (List.range N).countP (fun q => decide (r < A.getD q 0)) := by
    intro N
    induction N with
    | zero =>
      intro A hA
      have : A = [] := List.length_eq_zero_iff.1 (by omega)
      subst this; rfl
    | succ N ih =>
      intro A hA
      cases A with
      | nil => rw [List.countP_nil]; symm; rw [List.countP_eq_zero]; intro q _; simp
      | cons a A =>
        rw [List.range_succ_eq_map, List.countP_cons, List.countP_cons, List.countP_map, ih A (by simpa using hA)]
        rfl
  rw [key (A.length + B.length) A (by omega), key (A.length + B.length) B (by omega)]
  refine List.countP_congr fun q _ => ?_
  rw [h q]
theorem colT_count {T : List (List Int)} (hT : Go.Gr.Rows T) (m q : Nat) : (colT q T).countP (fun x => decide (x < (m : Int))) = (T.map fun R => R.countP fun x => decide (x < (m : Int))).countP (fun x => decide (q < x)) := by
  unfold colT
  induction T with
  | nil => rfl
  | cons R T ih =>
    have h1 := ih (fun S hS => hT S (by simp [hS]))
    rw [List.map_cons, List.countP_cons, ← h1]
    have h2 : R.countP (fun x => decide (x < (m : Int))) ≤ R.length := List.countP_le_length
    by_cases hq : q < R.length
    · have h5 : List.filterMap (fun R => R[q]?) (R :: T) = R[q] :: List.filterMap (fun R => R[q]?) T := List.filterMap_cons_some (List.getElem?_eq_getElem hq)
      rw [h5, List.countP_cons]
      have h2 := cnt_rise (hT R (by simp)) (m : Int) q hq
      rw [List.getD_eq_getElem?_getD, List.getElem?_eq_getElem hq, Option.getD_some] at h2
      by_cases h3 : R[q] < (m : Int)
      · simp only [h3, h2.1 h3, decide_true, if_true]
      · have h4 : ¬ q < R.countP fun x => decide (x < (m : Int)) := fun h => h3 (h2.2 h)
        simp only [h3, h4, decide_false, Bool.false_eq_true, if_false]
    · have h5 : List.filterMap (fun R => R[q]?) (R :: T) = List.filterMap (fun R => R[q]?) T := List.filterMap_cons_none (List.getElem?_eq_none (by omega))
      rw [h5, if_neg (by rw [decide_eq_true_iff]; omega), Nat.add_zero]
theorem colT_mem {q : Nat} {T : List (List Int)} {x : Int} (h : x ∈ colT q T) : x ∈ T.flatten := by
  unfold colT at h
  obtain ⟨R, hR, he⟩ := List.mem_filterMap.1 h
  exact List.mem_flatten.2 ⟨R, hR, List.mem_of_getElem? he⟩
theorem colT_out {q : Nat} {T : List (List Int)} (ht : Go.Gr.Tab T) (h : (T.getD 0 []).length ≤ q) : colT q T = [] := by
  unfold colT
  rw [List.filterMap_eq_nil_iff]
  intro R hR
  exact List.getElem?_eq_none (Nat.le_trans (tab_first ht R hR) h)
theorem colsOf_get {T : List (List Int)} (ht : Go.Gr.Tab T) (q : Nat) : (colsOf T).getD q [] = colT q T := by
  unfold colsOf
  rw [List.getD_eq_getElem?_getD, List.getElem?_map]
  by_cases h : q < (T.getD 0 []).length
  · rw [List.getElem?_range h]; rfl
  · rw [List.getElem?_eq_none (by simp; simpa using h), colT_out ht (by omega)]; rfl
/-- The first table of a pack upside down has the columns of the pack's one for lists. -/
theorem insAll_rev {l : List Int} (hp : IsPack l) : insAll l.reverse = colsOf (insAll l) := by
  have hpr : IsPack l.reverse := hp.perm (List.reverse_perm l).symm
  have ha := insAll_pack hp
  have hb := insAll_pack hpr
  have hmem : ∀ x ∈ (colsOf (insAll l)).flatten, x ∈ (insAll l).flatten := by
    intro x hx
    obtain ⟨C, hC, hxC⟩ := List.mem_flatten.1 hx
    unfold colsOf at hC
    obtain ⟨q, _, rfl⟩ := List.mem_map.1 hC
    exact colT_mem hxC
  refine tab_ext (n := l.length) hb.1.rows ?_ (tab_ne hb.1) ?_ ?_ ?_ ?_
  · intro C hC
    unfold colsOf at hC
    obtain ⟨q, _, rfl⟩ := List.mem_map.1 hC
    exact colT_rise ha.1
  · intro C hC
    unfold colsOf at hC
    obtain ⟨q, hq, rfl⟩ := List.mem_map.1 hC
    have hq := List.mem_range.1 hq
    intro he
    unfold colT at he
    rw [List.filterMap_eq_nil_iff] at he
    cases hT : insAll l with
    | nil => rw [hT] at hq; simp at hq
    | cons R T =>
      rw [hT] at hq he
      have := he R (by simp)
      rw [List.getElem?_eq_none_iff] at this
      simp at hq
      omega
  · intro x hx
    have := hb.2.1.2 x hx
    have := hb.2.2
    rw [List.length_reverse] at this
    omega
  · intro x hx
    have := ha.2.1.2 x (hmem x hx)
    omega
  · intro m hm q
    rw [cnt_ins hpr.1]
    have hrev : below m l.reverse = (below m l).reverse := by simp [below]
    rw [hrev]
    have hv : (below m l).Nodup := hp.1.sublist List.filter_sublist
    have hs : ∀ k, rowSum k (insAll (below m l).reverse) = colSum k (insAll (below m l)) := by
      intro k
      have g1 := greene ((List.reverse_perm (below m l)).nodup_iff.2 hv) k
      have g2 := greeneD hv k
      exact Nat.le_antisymm (g2.2 _ g1.1) (g1.2 _ g2.1)
    have e1 := hs (q + 1)
    have e2 := hs q
    rw [rowSum_succ, colSum_succ] at e1
    have e3 : ((insAll (below m l).reverse).getD q []).length = colCnt (insAll (below m l)) q := by omega
    rw [e3]
    unfold cnt
    rw [colsOf_get ha.1, colT_count ha.1.rows]
    unfold colCnt
    have e4 : (insAll (below m l)).countP (fun R => decide (q < R.length)) = ((insAll (below m l)).map List.length).countP (fun x => decide (q < x)) := by rw [List.countP_map]; rfl
    rw [e4]
    refine count_pad (fun i => ?_) q
    have e5 := cnt_ins hp.1 m i
    unfold cnt at e5
    rw [List.getD_eq_getElem?_getD, List.getElem?_map, List.getD_eq_getElem?_getD, List.getElem?_map]
    rw [List.getD_eq_getElem?_getD, List.getD_eq_getElem?_getD] at e5
    cases h1 : (insAll l)[i]? <;> cases h2 : (insAll (below m l))[i]? <;> rw [h1, h2] at e5
    · rfl
    · exact e5.symm
    · exact e5.symm
    · exact e5.symm
end Go.Am


namespace Go.Am
open Go.Gr (insAll colT)
/-! Heaps put in order. -/
theorem swp_mid (pre post : List Nat) (x n : Nat) : swpI (nI (pre ++ x :: n :: post)) (pre.length + 1) = nI (pre ++ n :: x :: post) := by
  unfold swpI
  have h1 : (nI (pre ++ x :: n :: post)).getD (pre.length + 1) 0 = (n : Int) := by simp [nI, List.getD_eq_getElem?_getD, List.getElem?_append_right]
  have h2 : (nI (pre ++ x :: n :: post)).getD (pre.length + 1 - 1) 0 = (x : Int) := by simp [nI, List.getD_eq_getElem?_getD, List.getElem?_append_right]
  rw [h1, h2]
  refine List.ext_getElem (by simp [nI]) ?_
  intro i hi1 hi2
  simp only [nI, List.getElem_set, List.getElem_map, List.getElem_append, List.length_map, Nat.add_sub_cancel]
  by_cases ha : pre.length = i
  · subst ha; simp
  · by_cases hb : pre.length + 1 = i
    · subst hb
      rw [if_neg ha, if_pos rfl, dif_neg (by omega)]
      simp
    · rw [if_neg ha, if_neg hb]
      by_cases hc : i < pre.length
      · rw [dif_pos hc, dif_pos hc]
      · rw [dif_neg hc, dif_neg hc]
        obtain ⟨k, rfl⟩ : ∃ k, i = pre.length + (k + 2) := ⟨i - pre.length - 2, by omega⟩
        simp [List.getElem_cons]
theorem bub_in : ∀ (i : Nat) (pre post : List Nat) (n : Nat), pre.length = i → (pre ++ post).Pairwise (fun a b => b ≤ a) → (∀ x ∈ post, x < n) → ∃ q, bub (nI (pre ++ n :: post)) i = nI q ∧ q.Pairwise (fun a b => b ≤ a) ∧ q.Perm (pre ++ n :: post) := by
  intro i
  induction i with
  | zero =>
    intro pre post n hl hs hp
    obtain rfl := List.length_eq_zero_iff.1 hl
    refine ⟨n :: post, rfl, List.pairwise_cons.2 ⟨fun x hx => Nat.le_of_lt (hp x hx), ?_⟩, List.Perm.refl _⟩
    simpa using hs
  | succ i ih =>
    intro pre post n hl hs hp
    obtain ⟨pre', x, rfl⟩ : ∃ p x, pre = p ++ [x] := ⟨pre.dropLast, pre.getLast (by intro h; rw [h] at hl; cases hl), (List.dropLast_concat_getLast _).symm⟩
    have hl' : pre'.length = i := by simpa using hl
    have e : pre' ++ [x] ++ n :: post = pre' ++ x :: n :: post := by simp
    have e2 : pre' ++ [x] ++ post = pre' ++ x :: post := by simp
    rw [e2] at hs
    rw [e]
    have h1 : (nI (pre' ++ x :: n :: post)).getD (i + 1) 0 = (n : Int) := by subst hl'; simp [nI, List.getD_eq_getElem?_getD, List.getElem?_append_right]
    have h2 : (nI (pre' ++ x :: n :: post)).getD i 0 = (x : Int) := by subst hl'; simp [nI, List.getD_eq_getElem?_getD, List.getElem?_append_right]
    rw [bub, h1, h2]
    by_cases hx : (x : Int) < (n : Int)
    · rw [if_pos hx]
      have e3 : swpI (nI (pre' ++ x :: n :: post)) (i + 1) = nI (pre' ++ n :: x :: post) := by rw [← hl']; exact swp_mid pre' post x n
      rw [e3]
      obtain ⟨q, h3, h4, h5⟩ := ih pre' (x :: post) n hl' hs (fun y hy => by
        rcases List.mem_cons.1 hy with rfl | hy
        · omega
        · exact hp y hy)
      exact ⟨q, h3, h4, h5.trans (List.Perm.append_left _ (List.Perm.swap _ _ _))⟩
    · rw [if_neg hx]
      refine ⟨_, rfl, ?_, List.Perm.refl _⟩
      rw [List.pairwise_append] at hs ⊢
      obtain ⟨s1, s2, s3⟩ := hs
      rw [List.pairwise_cons] at s2
      refine ⟨s1, List.pairwise_cons.2 ⟨fun y hy => ?_, List.pairwise_cons.2 ⟨fun y hy => Nat.le_of_lt (hp y hy), s2.2⟩⟩, fun a ha y hy => ?_⟩
      · rcases List.mem_cons.1 hy with rfl | hy
        · omega
        · exact s2.1 y hy
      · have hax := s3 a ha x List.mem_cons_self
        rcases List.mem_cons.1 hy with rfl | hy
        · exact hax
        · rcases List.mem_cons.1 hy with rfl | hy
          · omega
          · exact s3 a ha y (List.mem_cons_of_mem _ hy)
theorem bub_hps {p : List Nat} {n : Nat} (hp : Hps p) (hn : 1 ≤ n) : ∃ q, bub (nI (p ++ [n])) p.length = nI q ∧ Hps q ∧ q ≠ [] ∧ q.sum = p.sum + n ∧ q.length = p.length + 1 := by
  obtain ⟨q, h1, h2, h3⟩ := bub_in p.length p [] n rfl (by rw [List.append_nil]; exact hp.1) (fun x hx => by cases hx)
  have hl := h3.length_eq
  refine ⟨q, h1, ⟨h2, fun x hx => ?_⟩, ?_, ?_, ?_⟩
  · rcases List.mem_append.1 (h3.mem_iff.1 hx) with h | h
    · exact hp.2 x h
    · rw [List.mem_singleton.1 h]; exact hn
  · rintro rfl
    simp at hl
  · rw [h3.sum_nat, List.sum_append, List.sum_cons, List.sum_nil, Nat.add_zero]
  · simpa using hl
def cnt9 (p : List Nat) : Bool := decide (cntE (nI p) = 0) && (decide (cntE (nI (turnH p)) = 0) && (Nat.beq (tv9 p) (tv9 (turnH p)) && (Nat.ble 1 (tv9 p) && (Nat.ble p.length 9 && (Nat.ble (turnH p).length 9 && (Nat.beq (turnH p).sum p.sum && decide ((turnH p).Pairwise (fun a b => b ≤ a))))))))
theorem count9_all : parts9.all cnt9 = true := by decide +kernel
theorem nI_sum (p : List Nat) : (nI p).sum.toNat = p.sum := by
  have := sum_cast9 p
  show (p.map fun x : Nat => (x : Int)).sum.toNat = _
  rw [← this]; rfl
theorem count9 {p : List Nat} (hp : p ∈ parts9) (hq : Hps p) (hs : p.sum ≤ 9) : cntE (nI p) = 0 ∧ cntE (nI (turnH p)) = 0 ∧ tabS (nI p).sum.toNat (nI p) = tabS (nI (turnH p)).sum.toNat (nI (turnH p)) ∧ 1 ≤ tabS (nI p).sum.toNat (nI p) ∧ p.length ≤ 9 ∧ (turnH p).length ≤ 9 := by
  have h := List.all_eq_true.1 count9_all p hp
  unfold cnt9 at h
  simp only [Bool.and_eq_true, decide_eq_true_eq, Nat.ble_eq] at h
  obtain ⟨h1, h2, h3, h4, h5, h6, h7, h8⟩ := h
  have h3 := Nat.eq_of_beq_eq_true h3
  have h7 := Nat.eq_of_beq_eq_true h7
  rw [nI_sum, nI_sum, tab_is p.sum p rfl (Ni.of hq.1) h5 hs, tab_is (turnH p).sum (turnH p) rfl (Ni.of h8) h6 (by omega), h3]
  exact ⟨h1, h2, rfl, by omega, h5, h6⟩
theorem count321 : tabS (nI [3, 2, 1]).sum.toNat (nI [3, 2, 1]) = 16 ∧ cntE (nI [3, 2, 1]) = 0 := by
  have h : (decide (tabS (nI [3, 2, 1]).sum.toNat (nI [3, 2, 1]) = 16) && decide (cntE (nI [3, 2, 1]) = 0)) = true := by decide +kernel
  rw [Bool.and_eq_true, decide_eq_true_eq, decide_eq_true_eq] at h
  exact h
/-! Packs. -/
theorem perms_perm : ∀ (k : Nat) (l p : List Nat), l.length = k → p ∈ perms k l → p.Perm l := by
  intro k
  induction k with
  | zero =>
    intro l p hl hp
    rw [List.length_eq_zero_iff.1 hl, List.mem_singleton.1 hp]
  | succ k ih =>
    intro l p hl hp
    obtain ⟨i, hi, hp⟩ := List.mem_flatMap.1 hp
    have hi := List.mem_range.1 hi
    obtain ⟨q, hq, rfl⟩ := List.mem_map.1 hp
    have h1 := ih (l.eraseIdx i) q (by rw [List.length_eraseIdx_of_lt hi]; omega) hq
    refine (List.Perm.cons _ h1).trans ?_
    rw [List.getD_eq_getElem?_getD, List.getElem?_eq_getElem hi, Option.getD_some, List.eraseIdx_eq_take_drop_succ]
    refine (List.perm_middle.symm : (l[i] :: (l.take i ++ l.drop (i + 1))).Perm _).trans ?_
    rw [← List.drop_eq_getElem_cons hi, List.take_append_drop]
theorem nI_pack {n : Nat} {p : List Nat} (hp : p ∈ packs n) : IsPack (nI p) ∧ p.length = n := by
  have h1 := perms_perm n (List.range n) p List.length_range hp
  have hl : p.length = n := by rw [h1.length_eq, List.length_range]
  refine ⟨⟨?_, ?_⟩, hl⟩
  · have h2 : p.Nodup := h1.nodup_iff.2 List.nodup_range
    rw [nI, List.nodup_iff_pairwise_ne, List.pairwise_map]
    exact (List.nodup_iff_pairwise_ne.1 h2).imp fun h e => h (by omega)
  · intro x hx
    obtain ⟨y, hy, rfl⟩ := List.mem_map.1 hx
    have h3 := List.mem_range.1 (h1.mem_iff.1 hy)
    rw [nI, List.length_map]
    omega
/-! Shapes. -/
def shpN (T : List (List Int)) : List Nat := T.map List.length
theorem shpN_lens (T : List (List Int)) : nI (shpN T) = rowLens T := by rw [nI, shpN, List.map_map]; rfl
theorem shp_hps : ∀ {T : List (List Int)}, Go.Gr.Tab T → Hps (shpN T) ∧ ∀ x ∈ shpN T, x ≤ (T.headD []).length := by
  intro T
  induction T with
  | nil => intro _; exact ⟨⟨List.Pairwise.nil, fun x hx => by cases hx⟩, fun x hx => by cases hx⟩
  | cons R T ih =>
    intro h
    obtain ⟨h1, _, h3, h4⟩ := h
    obtain ⟨⟨h5, h6⟩, h7⟩ := ih h4
    have hle : ∀ x ∈ shpN T, x ≤ R.length := fun x hx => Nat.le_trans (h7 x hx) h3.1
    refine ⟨⟨List.pairwise_cons.2 ⟨hle, h5⟩, fun x hx => ?_⟩, fun x hx => ?_⟩
    · rcases List.mem_cons.1 hx with rfl | hx
      · exact List.length_pos_iff.2 h1
      · exact h6 x hx
    · rcases List.mem_cons.1 hx with rfl | hx
      · exact Nat.le_refl _
      · exact hle x hx
theorem shp_sum (T : List (List Int)) : (shpN T).sum = T.flatten.length := by rw [List.length_flatten]; rfl
theorem colT_len (q : Nat) (T : List (List Int)) : (colT q T).length = ((shpN T).filter fun x => decide (q < x)).length := by
  unfold colT shpN
  induction T with
  | nil => rfl
  | cons R T ih =>
    by_cases h : q < R.length
    · have e : List.filterMap (fun R => R[q]?) (R :: T) = R[q] :: List.filterMap (fun R => R[q]?) T := List.filterMap_cons_some (List.getElem?_eq_getElem h)
      rw [e, List.map_cons, List.filter_cons_of_pos (by simpa using h), List.length_cons, List.length_cons, ih]
    · have e : List.filterMap (fun R => R[q]?) (R :: T) = List.filterMap (fun R => R[q]?) T := List.filterMap_cons_none (List.getElem?_eq_none (by omega))
      rw [e, List.map_cons, List.filter_cons_of_neg (by simpa using h), ih]
theorem cols_shape (T : List (List Int)) : shpN (colsOf T) = turnH (shpN T) := by
  have e : (T.getD 0 []).length = (shpN T).headD 0 := by cases T <;> rfl
  unfold colsOf turnH
  rw [shpN, List.map_map, e]
  exact List.map_congr_left fun j _ => colT_len j T
/-- The shape of a pack's tables, and of those of the pack upside down. -/
theorem ins_len {l : List Int} (hp : IsPack l) : (insAll l).length ≤ l.length := by
  obtain ⟨h1, _, h3⟩ := insAll_pack hp
  have h2 := len_sum (shpN (insAll l)) (shp_hps h1).1.2
  rw [shp_sum, h3, shpN, List.length_map] at h2
  exact h2
theorem shape_rev {l : List Int} (hp : IsPack l) (h9 : l.length ≤ 9) (h0 : 0 < l.length) : shpN (insAll l) ∈ parts9 ∧ shpN (insAll l) ≠ [] ∧ shpN (insAll l.reverse) = turnH (shpN (insAll l)) ∧ IsPack l.reverse ∧ checkE l = 0 ∧ checkE l.reverse = 0 ∧ (insAll l).length ≤ 9 ∧ (insAll l.reverse).length ≤ 9 := by
  obtain ⟨h1, _, h3⟩ := insAll_pack hp
  have hs : (shpN (insAll l)).sum = l.length := by rw [shp_sum, h3]
  have hne : shpN (insAll l) ≠ [] := by intro e; rw [e] at hs; simp at hs; omega
  have hr : IsPack l.reverse := hp.perm (List.reverse_perm l).symm
  exact ⟨parts9_mem (shp_hps h1).1 hne (by omega), hne, by rw [insAll_rev hp, cols_shape], hr, checkE_of h0 h9 hp, checkE_of (by rw [List.length_reverse]; exact h0) (by rw [List.length_reverse]; exact h9) hr, by have := ins_len hp; omega, by have := ins_len hr; rw [List.length_reverse] at this; omega⟩
set_option maxRecDepth 2000 in
theorem mixed9_c {h : AHeap} {v : AV} {n : Nat} {bs : List Int} (hn : n ≤ 9) (hv : Rd h v 1 (bs.map (AV.int .u8))) (hbs : ∀ x ∈ bs, 0 ≤ x ∧ x ≤ 255) (hlen : bs.length ≤ 9223372036854775807) : ACalls Go.Proofs.Tryz.prog 16 [.int .i64 (n : Int), v] h (fun q h' => ∃ p, p ∈ packs n ∧ St h h' [⟨q, 1, ints (nI p), true⟩]) := by
  refine KA.fn 54 [.tmp 4] Go.Proofs.Tryz.func16 rfl (by decide) rfl rfl (Nat.le_of_ble_eq_true rfl) ?_
  have hS := St.refl h
  show KA _ 54 _ _ [(0, .int .i64 (n : Int)), (1, v)] _
  refine KA.seq ?_
  refine KA.region rfl ?_
  refine KOps.assign ?_
  refine KOps.done ?_
  refine sqQ.normal ?_
  refine KA.sub (Sub.cons (t := 0) Look.eq (Sub.cons (t := 1) Look.eq (Sub.nil _))) ?_
  refine KA.seq ?_
  refine KA.region rfl ?_
  refine KOps.assign ?_
  refine KOps.assign ?_
  refine KOps.done ?_
  refine sqQ.normal ?_
  refine KA.seq ?_
  refine KA.seq ?_
  refine KA.region rfl ?_
  refine KOps.move ?_
  refine KOps.move ?_
  refine KOps.done ?_
  refine sqQ.normal ?_
  refine KA.sub (Sub.cons (t := 1) Look.eq (Sub.cons (t := 5) Look.eq (Sub.cons (t := 6) Look.eq (Sub.cons (t := 10) Look.eq (Sub.cons (t := 11) Look.eq (Sub.nil _)))))) ?_
  refine KA.block ?_
  refine KA.loop (X := Nat × AV) (fun x => [(1, v), (5, x.2), (6, .nils), (10, .int .i64 (n : Int)), (11, .int .i64 (x.1 : Int))]) (fun x h' => x.1 ≤ n ∧ St h h' [⟨x.2, 1, ints (nI (List.range x.1)), true⟩]) (fun x => n - x.1) (0, .nils) (by repeat (first | exact Sub.nil _ | refine Sub.cons Look.eq ?_ | refine Sub.cons (Eq.trans Look.eq (congrArg (AV.int _) (by first | omega | (dsimp only; omega)))) ?_)) ?_ ?_
  · exact ⟨Nat.zero_le _, hS.nil 1⟩
  rintro ⟨i, vL⟩ h5 ⟨hi, hS⟩
  dsimp only at hi hS ⊢
  refine KA.seq ?_
  refine KA.region rfl ?_
  refine KOps.lss ?_
  refine KOps.done ?_
  refine sqQ.normal ?_
  refine KA.seq ?_
  refine KA.condD ?_ ?_
  · intro c12
    refine KA.skip ?_
    refine sqQ.normal ?_
    refine KA.sub (Sub.cons (t := 1) Look.eq (Sub.cons (t := 5) Look.eq (Sub.cons (t := 6) Look.eq (Sub.cons (t := 10) Look.eq (Sub.cons (t := 11) Look.eq (Sub.nil _)))))) ?_
    refine KA.seq ?_
    refine KA.block ?_
    refine KA.seq ?_
    refine KA.region rfl ?_
    refine KOps.move ?_
    refine KOps.assign ?_
    refine KOps.done ?_
    refine sqQ.normal ?_
    refine KA.sub (Sub.cons (t := 1) Look.eq (Sub.cons (t := 5) Look.eq (Sub.cons (t := 6) Look.eq (Sub.cons (t := 7) Look.eq (Sub.cons (t := 10) Look.eq (Sub.cons (t := 11) Look.eq (Sub.nil _))))))) ?_
    refine KA.region rfl ?_
    refine KOps.move ?_
    refine KOps.move ?_
    refine KOps.buildSlice hS rfl (by decide) rfl ?_
    intro v16 h' hS
    refine KOps.appendI hS (fun _ => rfl) (i := 0) rfl (by first | omega | (simp; done) | (simp; omega)) ?_
    intro r17 h' hr17 hS
    refine KOps.assign ?_
    refine KOps.done ?_
    refine blQ.normal ?_
    refine sqQ.normal ?_
    refine KA.sub (Sub.cons (t := 1) Look.eq (Sub.cons (t := 5) Look.eq (Sub.cons (t := 6) Look.eq (Sub.cons (t := 10) Look.eq (Sub.cons (t := 11) Look.eq (Sub.nil _)))))) ?_
    refine KA.region rfl ?_
    refine KOps.add (by first | omega | (simp; omega)) (by first | omega | (simp; omega)) ?_
    refine KOps.move ?_
    refine KOps.done ?_
    rw [rangeI] at hS
    exact lpQ.normal (i + 1, _) (by repeat (first | exact Sub.nil _ | refine Sub.cons Look.eq ?_ | refine Sub.cons (Eq.trans Look.eq (congrArg (AV.int _) (by first | omega | (dsimp only; omega)))) ?_)) ⟨by dsimp only; omega, hS⟩ (by dsimp only; omega)
  · intro c12
    obtain rfl : n = i := by omega
    refine KA.exit ?_
    refine sqQ.exit ?_
    refine lpQ.exit ?_
    refine blQ.here ?_
    refine sqQ.normal ?_
    refine KA.sub (Sub.cons (t := 1) Look.eq (Sub.cons (t := 5) Look.eq (Sub.cons (t := 6) Look.eq (Sub.nil _)))) ?_
    refine KA.seq ?_
    refine KA.seq ?_
    refine KA.region rfl ?_
    refine KOps.assign ?_
    refine KOps.done ?_
    refine sqQ.normal ?_
    refine KA.block ?_
    refine KA.loop (X := Nat × List Nat × List Nat × AV × AV) (fun x => [(1, v), (5, x.2.2.2.1), (6, x.2.2.2.2), (8, .int .i64 (x.1 : Int))]) (fun x h' => x.1 + x.2.1.length = n ∧ x.2.2.1.length = x.1 ∧ (∀ q ∈ perms x.2.1.length x.2.1, x.2.2.1 ++ q ∈ packs n) ∧ St h h' [⟨x.2.2.2.2, 1, ints (nI x.2.2.1), true⟩, ⟨x.2.2.2.1, 1, ints (nI x.2.1), true⟩]) (fun x => x.2.1.length) (0, List.range n, [], vL, .nils) (by repeat (first | exact Sub.nil _ | refine Sub.cons Look.eq ?_ | refine Sub.cons (Eq.trans Look.eq (congrArg (AV.int _) (by first | omega | (dsimp only; omega)))) ?_)) ?_ ?_
    · exact ⟨by dsimp only; rw [List.length_range]; omega, rfl, fun q hq => by dsimp only at hq; rwa [List.length_range] at hq, hS.nil 1⟩
    rintro ⟨i, lf, ou, vL, vO⟩ h5 ⟨hi, ho, hp, hS⟩
    dsimp only at hi ho hp hS ⊢
    have hnl : (nI lf).length = lf.length := List.length_map ..
    refine KA.seq ?_
    refine KA.seq ?_
    refine KA.region rfl ?_
    refine KOps.move ?_
    refine KOps.lenI (hS.rd 1 rfl) ?_
    refine KOps.gtr ?_
    refine KOps.done ?_
    refine sqQ.normal ?_
    refine KA.sub (Sub.cons (t := 1) Look.eq (Sub.cons (t := 5) Look.eq (Sub.cons (t := 6) Look.eq (Sub.cons (t := 8) Look.eq (Sub.cons (t := 21) Look.eq (Sub.nil _)))))) ?_
    refine KA.condD ?_ ?_
    · intro c21
      have hl0 : 0 < lf.length := by omega
      refine KA.skip ?_
      refine sqQ.normal ?_
      refine KA.sub (Sub.cons (t := 1) Look.eq (Sub.cons (t := 5) Look.eq (Sub.cons (t := 6) Look.eq (Sub.cons (t := 8) Look.eq (Sub.nil _))))) ?_
      refine KA.seq ?_
      refine KA.block ?_
      refine KA.seq ?_
      refine KA.region rfl ?_
      obtain ⟨k, hk0⟩ : ∃ k : Nat, k = 0 := ⟨0, rfl⟩
      have hkL : k < lf.length := by omega
      refine KOps.assign (v := .int .i64 (k : Int)) (hx := ⟨by rw [hk0]; rfl⟩) ?_
      refine KOps.done ?_
      refine sqQ.normal ?_
      refine KA.seq ?_
      refine KA.seq ?_
      refine KA.region rfl ?_
      refine KOps.move ?_
      refine KOps.move ?_
      refine KOps.lenI (Rd.ext hS.keeps hv) ?_
      refine KOps.lss ?_
      refine KOps.done ?_
      refine sqQ.normal ?_
      refine KA.sub (Sub.cons (t := 1) Look.eq (Sub.cons (t := 5) Look.eq (Sub.cons (t := 6) Look.eq (Sub.cons (t := 8) Look.eq (Sub.cons (t := 9) Look.eq (Sub.cons (t := 27) Look.eq (Sub.nil _))))))) ?_
      refine KA.condD ?_ ?_
      · intro c27
        refine KA.region rfl ?_
        refine KOps.move ?_
        refine KOps.move ?_
        refine KOps.indexIJ (Rd.ext hS.keeps hv) (j := i) rfl (by first | omega | (simp; done) | (simp; omega)) ?_
        intro p30 hp30
        refine KOps.load hp30 (Rd.ext hS.keeps hv) (show (bs.map (AV.int .u8))[i]? = some (.int .u8 (bs.getD i 0)) by simp [List.getElem?_map, List.getElem?_eq_getElem (show i < bs.length by omega), List.getD_eq_getElem?_getD]) ?_
        obtain ⟨y, hy, hy2⟩ : ∃ y : Nat, bs.getD i 0 = (y : Int) ∧ y < 256 := by
          have hm : bs.getD i 0 ∈ bs := by
            rw [List.getD_eq_getElem?_getD, List.getElem?_eq_getElem (by omega : i < bs.length)]; exact List.getElem_mem _
          have := hbs _ hm
          exact ⟨(bs.getD i 0).toNat, by omega, by omega⟩
        rw [hy]
        refine KOps.convU (by omega) (by omega) ?_
        refine KOps.move ?_
        refine KOps.lenI (hS.rd 1 rfl) ?_
        rw [hnl]
        refine KOps.modN y lf.length rfl rfl (by omega) (by omega) ?_
        have hkL := Nat.mod_lt y (show lf.length > 0 by omega)
        obtain ⟨k, hk⟩ : ∃ k, k = y % lf.length := ⟨_, rfl⟩
        rw [← hk] at hkL ⊢
        refine KOps.assign ?_
        refine KOps.done ?_
        refine sqQ.normal ?_
        refine KA.sub (Sub.cons (t := 1) Look.eq (Sub.cons (t := 5) Look.eq (Sub.cons (t := 6) Look.eq (Sub.cons (t := 8) Look.eq (Sub.cons (t := 9) Look.eq (Sub.nil _)))))) ?_
        refine KA.seq ?_
        refine KA.region rfl ?_
        refine KOps.move ?_
        refine KOps.move ?_
        refine KOps.move ?_
        refine KOps.indexIJ (hS.rd 1 rfl) (j := k) (by first | omega | (simp; omega)) (by first | omega | (simp; done) | (simp; omega)) ?_
        intro p39 hp39
        refine KOps.loadI hp39 (hS.rd 1 rfl) (by first | omega | (simp; done) | (simp; omega)) ?_
        refine KOps.buildSlice hS rfl (by decide) rfl ?_
        intro v41 h' hS
        refine KOps.appendI hS (fun _ => rfl) (i := 0) rfl (by first | omega | (simp; done) | (simp; omega)) ?_
        intro r42 h' hr42 hS
        refine KOps.assign ?_
        refine KOps.done ?_
        refine sqQ.normal ?_
        refine KA.sub (Sub.cons (t := 1) Look.eq (Sub.cons (t := 5) Look.eq (Sub.cons (t := 6) Look.eq (Sub.cons (t := 8) Look.eq (Sub.cons (t := 9) Look.eq (Sub.nil _)))))) ?_
        refine KA.draw [4, 9] mixed rfl (by kernel_rfl) ?_
        refine KOps.buildSlice hS rfl (by decide) rfl ?_
        intro v43 h' hS
        refine KOps.move ?_
        refine KOps.move ?_
        refine KOps.sliceHi (hS.rd 2 rfl) (m := lf.length) (by simp [ints]) (by omega) (by omega) ?_
        intro v46 hv46
        rw [Int.toNat_natCast] at hv46
        refine KOps.append hS (fun _ => rfl) (i := 0) rfl (a := 0) (by simp [ints]; try omega) (Row.take (hS.rd 2 rfl) hv46) (b := k) (by simp [ints]; try omega) (by rw [ints, List.all_map]; exact List.all_eq_true.2 fun _ _ => rfl) (by omega) ?_
        intro r47 h' hS
        simp only [List.set_cons_zero, List.set_cons_succ, Nat.zero_add] at hS
        refine KOps.move ?_
        refine KOps.move ?_
        refine KOps.add (by first | omega | (simp; omega)) (by first | omega | (simp; omega)) ?_
        refine KOps.sliceLo (hS.rd 2 rfl) (m := lf.length) (by simp [ints]) (by omega) (by omega) ?_
        intro v51 hv51
        rw [show ((k : Int) + 1).toNat = k + 1 by omega] at hv51
        refine KOps.append hS (fun _ => rfl) (i := 0) rfl (a := k) (by simp [ints]; try omega) (Row.part (hS.rd 2 rfl) hv51 (by omega)) (b := lf.length - (k + 1)) (by simp [ints]; try omega) (by rw [ints, List.all_map]; exact List.all_eq_true.2 fun _ _ => rfl) (by omega) ?_
        intro r52 h' hS
        simp only [List.set_cons_zero, List.set_cons_succ, Nat.zero_add] at hS
        rw [nI_erase] at hS
        refine KOps.assign ?_
        refine KOps.done ?_
        refine blQ.normal ?_
        refine sqQ.normal ?_
        refine KA.sub (Sub.cons (t := 1) Look.eq (Sub.cons (t := 5) Look.eq (Sub.cons (t := 6) Look.eq (Sub.cons (t := 8) Look.eq (Sub.nil _))))) ?_
        refine KA.region rfl ?_
        refine KOps.move ?_
        refine KOps.add (by first | omega | (simp; omega)) (by first | omega | (simp; omega)) ?_
        refine KOps.assign ?_
        refine KOps.done ?_
        rw [nI_push (by omega)] at hS
        exact lpQ.normal (i + 1, _, _, _, _) (by repeat (first | exact Sub.nil _ | refine Sub.cons Look.eq ?_ | refine Sub.cons (Eq.trans Look.eq (congrArg (AV.int _) (by first | omega | (dsimp only; omega)))) ?_)) ⟨by dsimp only; rw [List.length_eraseIdx_of_lt hkL]; omega, by dsimp only; rw [List.length_append, ho]; rfl, mix_step hkL hp, St.pick [1, 0] (by decide) rfl hS⟩ (by dsimp only; rw [List.length_eraseIdx_of_lt hkL]; omega)
      · intro c27
        refine KA.skip ?_
        refine sqQ.normal ?_
        refine KA.sub (Sub.cons (t := 1) Look.eq (Sub.cons (t := 5) Look.eq (Sub.cons (t := 6) Look.eq (Sub.cons (t := 8) Look.eq (Sub.cons (t := 9) Look.eq (Sub.nil _)))))) ?_
        refine KA.seq ?_
        refine KA.region rfl ?_
        refine KOps.move ?_
        refine KOps.move ?_
        refine KOps.move ?_
        refine KOps.indexIJ (hS.rd 1 rfl) (j := k) (by first | omega | (simp; omega)) (by first | omega | (simp; done) | (simp; omega)) ?_
        intro p39 hp39
        refine KOps.loadI hp39 (hS.rd 1 rfl) (by first | omega | (simp; done) | (simp; omega)) ?_
        refine KOps.buildSlice hS rfl (by decide) rfl ?_
        intro v41 h' hS
        refine KOps.appendI hS (fun _ => rfl) (i := 0) rfl (by first | omega | (simp; done) | (simp; omega)) ?_
        intro r42 h' hr42 hS
        refine KOps.assign ?_
        refine KOps.done ?_
        refine sqQ.normal ?_
        refine KA.sub (Sub.cons (t := 1) Look.eq (Sub.cons (t := 5) Look.eq (Sub.cons (t := 6) Look.eq (Sub.cons (t := 8) Look.eq (Sub.cons (t := 9) Look.eq (Sub.nil _)))))) ?_
        refine KA.draw [4, 9] mixed rfl (by kernel_rfl) ?_
        refine KOps.buildSlice hS rfl (by decide) rfl ?_
        intro v43 h' hS
        refine KOps.move ?_
        refine KOps.move ?_
        refine KOps.sliceHi (hS.rd 2 rfl) (m := lf.length) (by simp [ints]) (by omega) (by omega) ?_
        intro v46 hv46
        rw [Int.toNat_natCast] at hv46
        refine KOps.append hS (fun _ => rfl) (i := 0) rfl (a := 0) (by simp [ints]; try omega) (Row.take (hS.rd 2 rfl) hv46) (b := k) (by simp [ints]; try omega) (by rw [ints, List.all_map]; exact List.all_eq_true.2 fun _ _ => rfl) (by omega) ?_
        intro r47 h' hS
        simp only [List.set_cons_zero, List.set_cons_succ, Nat.zero_add] at hS
        refine KOps.move ?_
        refine KOps.move ?_
        refine KOps.add (by first | omega | (simp; omega)) (by first | omega | (simp; omega)) ?_
        refine KOps.sliceLo (hS.rd 2 rfl) (m := lf.length) (by simp [ints]) (by omega) (by omega) ?_
        intro v51 hv51
        rw [show ((k : Int) + 1).toNat = k + 1 by omega] at hv51
        refine KOps.append hS (fun _ => rfl) (i := 0) rfl (a := k) (by simp [ints]; try omega) (Row.part (hS.rd 2 rfl) hv51 (by omega)) (b := lf.length - (k + 1)) (by simp [ints]; try omega) (by rw [ints, List.all_map]; exact List.all_eq_true.2 fun _ _ => rfl) (by omega) ?_
        intro r52 h' hS
        simp only [List.set_cons_zero, List.set_cons_succ, Nat.zero_add] at hS
        rw [nI_erase] at hS
        refine KOps.assign ?_
        refine KOps.done ?_
        refine blQ.normal ?_
        refine sqQ.normal ?_
        refine KA.sub (Sub.cons (t := 1) Look.eq (Sub.cons (t := 5) Look.eq (Sub.cons (t := 6) Look.eq (Sub.cons (t := 8) Look.eq (Sub.nil _))))) ?_
        refine KA.region rfl ?_
        refine KOps.move ?_
        refine KOps.add (by first | omega | (simp; omega)) (by first | omega | (simp; omega)) ?_
        refine KOps.assign ?_
        refine KOps.done ?_
        rw [nI_push (by omega)] at hS
        exact lpQ.normal (i + 1, _, _, _, _) (by repeat (first | exact Sub.nil _ | refine Sub.cons Look.eq ?_ | refine Sub.cons (Eq.trans Look.eq (congrArg (AV.int _) (by first | omega | (dsimp only; omega)))) ?_)) ⟨by dsimp only; rw [List.length_eraseIdx_of_lt hkL]; omega, by dsimp only; rw [List.length_append, ho]; rfl, mix_step hkL hp, St.pick [1, 0] (by decide) rfl hS⟩ (by dsimp only; rw [List.length_eraseIdx_of_lt hkL]; omega)
    · intro c21
      refine KA.exit ?_
      refine sqQ.exit ?_
      refine lpQ.exit ?_
      refine blQ.here ?_
      refine sqQ.normal ?_
      refine KA.sub (Sub.cons (t := 6) Look.eq (Sub.nil _)) ?_
      refine KA.seq ?_
      refine KA.region rfl ?_
      refine KOps.move ?_
      refine KOps.assign ?_
      refine KOps.done ?_
      refine sqQ.normal ?_
      refine KA.sub (Sub.cons (t := 4) Look.eq (Sub.nil _)) ?_
      refine KA.ret ?_
      refine fnQ.ret1 ?_
      obtain rfl : lf = [] := List.eq_nil_of_length_eq_zero (by omega)
      exact ⟨ou, by have := hp [] (List.mem_singleton.2 rfl); rwa [List.append_nil] at this, St.pick [0] (by decide) rfl hS⟩

end Go.Am
