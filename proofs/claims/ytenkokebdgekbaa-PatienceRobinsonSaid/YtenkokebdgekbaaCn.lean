/-
  Layer 13: the number of tables of a shape: contracts.
  Conditions: none.
-/
import Derived.Test.YtenkokebdgekbaaCf
import Derived.Test.YtenkokebdgekbaaAmF
import Derived.Test.YtenkokebdgekbaaPt10
import Derived.Test.YtenkokebdgekbaaPt11
namespace Go.Am
open Go.Gr
theorem count_take {p : Int → Bool} {l : List Int} {i : Nat} (hi : i < l.length) : (l.take (i + 1)).countP p = (l.take i).countP p + if p (l.getD i 0) then 1 else 0 := by
  rw [take_snoc hi, List.countP_append, List.countP_singleton]
theorem sumE {l : List Int} {i : Nat} (hb : ∀ j, j < i → cntBad l j = none) (hi : i ≤ l.length) : ∀ k, k ≤ i → (k : Int) ≤ (l.take k).sum := by
  intro k
  induction k with
  | zero => intro _; simp
  | succ k ih =>
    intro hk
    rw [take_sum1 (by omega)]
    have := ih (by omega)
    have := cntBad_none (hb k (by omega))
    omega
/-- A row, or nothing. -/
def WO (h : AHeap) (v : AV) : Option (List Int) → Prop
  | none => v = .nils
  | some l => Row h v l ∧ l ≠ []
theorem WO.keep {h h' : AHeap} {v : AV} {o : Option (List Int)} (k : Keeps h h') (w : WO h v o) : WO h' v o := by
  cases o with
  | none => exact w
  | some l => exact ⟨Row.ext k w.1, w.2⟩
variable {P : Program} {n : Nat} {ops : Array Oper} {ex : List Nat} {Q : KF → AHeap → Prop} {k : Nat} {os : List Oper} {K : KF} {h h0 : AHeap} {d : Nat} {ty : TypeId} {pos : String} {after : Array Edge} {objs pre rest : List Obj}

theorem count_c {h : AHeap} {v : AV} {l : List Int} (hv : Row h v l) (hlen : l.length ≤ 40) : ACalls Go.Proofs.Try.prog 40 [v] h (fun r h' => r = .tup [.int .i64 (if cntE l = 0 then tabS l.sum.toNat l else 0), .int .i64 (cntE l)] ∧ St h h' []) := by
  refine KA.fn 88 [.tmp 2, .tmp 3] Go.Proofs.Try.func40 rfl (by decide) rfl rfl (Nat.le_of_ble_eq_true rfl) ?_
  have hS := St.refl h
  show KA _ 88 _ _ [(0, v)] _
  refine KA.seq ?_
  refine KA.region rfl ?_
  refine KOps.assign ?_
  refine KOps.assign ?_
  refine KOps.done ?_
  refine sqQ.normal ?_
  refine KA.sub (Sub.cons (t := 0) Look.eq (Sub.nil _)) ?_
  refine KA.seq ?_
  refine KA.seq ?_
  refine KA.region rfl ?_
  refine KOps.move ?_
  refine KOps.lenI hv ?_
  refine KOps.eql ?_
  refine KOps.done ?_
  refine sqQ.normal ?_
  refine KA.sub (Sub.cons (t := 0) Look.eq (Sub.cons (t := 19) Look.eq (Sub.nil _))) ?_
  refine KA.condD ?_ ?_
  · intro c19
    refine KA.seq ?_
    refine KA.region rfl ?_
    refine KOps.assign ?_
    refine KOps.assign ?_
    refine KOps.done ?_
    refine sqQ.normal ?_
    refine KA.sub (Sub.cons (t := 2) Look.eq (Sub.cons (t := 3) Look.eq (Sub.nil _))) ?_
    refine KA.ret ?_
    refine sqQ.ret ?_
    refine fnQ.retN ?_
    have hce := cntE_4 (l := l) (by omega)
    exact ⟨by rw [hce, if_neg (by decide)], hS⟩
  · intro c19
    refine KA.skip ?_
    refine sqQ.normal ?_
    refine KA.sub (Sub.cons (t := 0) Look.eq (Sub.nil _)) ?_
    refine KA.seq ?_
    refine KA.region rfl ?_
    refine KOps.assign ?_
    refine KOps.assign ?_
    refine KOps.done ?_
    refine sqQ.normal ?_
    refine KA.seq ?_
    refine KA.seq ?_
    refine KA.region rfl ?_
    refine KOps.move ?_
    refine KOps.lenI hv ?_
    refine KOps.move ?_
    refine KOps.done ?_
    refine sqQ.normal ?_
    refine KA.block ?_
    refine KA.loop (X := Nat) (fun i => [(0, v), (4, .int .i64 (Min.min (l.take i).sum 10)), (5, .int .i64 (if i = 0 then 9 else l.getD (i - 1) 0)), (20, v), (21, .int .i64 (l.length : Int)), (22, .int .i64 (i : Int))]) (fun i h' => h = h' ∧ i ≤ l.length ∧ ∀ j, j < i → cntBad l j = none) (fun i => l.length - i) 0 (by repeat (first | exact Sub.nil _ | refine Sub.cons Look.eq ?_ | refine Sub.cons (Eq.trans Look.eq (congrArg (AV.int _) (by first | omega | (dsimp only; omega)))) ?_ | refine Sub.cons (Eq.trans Look.eq (congrArg (AV.int _) (by simp))) ?_ | refine Sub.cons (Eq.trans Look.eq (congrArg (AV.int _) (by rfl))) ?_)) ⟨rfl, by omega, by omega⟩ ?_
    rintro i _ ⟨rfl, hi, hj⟩
    have hS := St.refl h
    have hse := sumE hj hi i (Nat.le_refl _)
    refine KA.seq ?_
    refine KA.region rfl ?_
    refine KOps.lss ?_
    refine KOps.done ?_
    refine sqQ.normal ?_
    refine KA.seq ?_
    refine KA.condD ?_ ?_
    · intro c23
      refine KA.skip ?_
      refine sqQ.normal ?_
      refine KA.sub (Sub.cons (t := 0) Look.eq (Sub.cons (t := 4) Look.eq (Sub.cons (t := 5) Look.eq (Sub.cons (t := 20) Look.eq (Sub.cons (t := 21) Look.eq (Sub.cons (t := 22) Look.eq (Sub.nil _))))))) ?_
      refine KA.seq ?_
      refine KA.block ?_
      refine KA.seq ?_
      refine KA.region rfl ?_
      refine KOps.indexIJ hv (j := i) rfl (by first | omega | (simp; omega)) ?_
      intro p24 hp24
      refine KOps.loadI hp24 hv (by first | omega | (simp; omega)) ?_
      refine KOps.assign ?_
      refine KOps.done ?_
      refine sqQ.normal ?_
      refine KA.sub (Sub.cons (t := 0) Look.eq (Sub.cons (t := 4) Look.eq (Sub.cons (t := 5) Look.eq (Sub.cons (t := 7) Look.eq (Sub.cons (t := 20) Look.eq (Sub.cons (t := 21) Look.eq (Sub.cons (t := 22) Look.eq (Sub.nil _)))))))) ?_
      refine KA.seq ?_
      refine KA.block ?_
      refine KA.seq ?_
      refine KA.region rfl ?_
      refine KOps.move ?_
      refine KOps.call rfl (between_c) ?_
      rintro _ _ ⟨rfl, rfl⟩
      refine KOps.not ?_
      refine KOps.assign ?_
      refine KOps.done ?_
      refine sqQ.normal ?_
      refine KA.sub (Sub.cons (t := 0) Look.eq (Sub.cons (t := 4) Look.eq (Sub.cons (t := 5) Look.eq (Sub.cons (t := 7) Look.eq (Sub.cons (t := 20) Look.eq (Sub.cons (t := 21) Look.eq (Sub.cons (t := 22) Look.eq (Sub.cons (t := 26) Look.eq (Sub.nil _))))))))) ?_
      refine KA.condN ?_ ?_
      · intro c26
        refine KA.seq ?_
        refine KA.region rfl ?_
        refine KOps.assign ?_
        refine KOps.assign ?_
        refine KOps.done ?_
        refine sqQ.normal ?_
        refine KA.sub (Sub.cons (t := 2) Look.eq (Sub.cons (t := 3) Look.eq (Sub.nil _))) ?_
        refine KA.ret ?_
        refine blQ.ret ?_
        refine sqQ.ret ?_
        refine blQ.ret ?_
        refine sqQ.ret ?_
        refine lpQ.ret ?_
        refine blQ.ret ?_
        refine sqQ.ret ?_
        refine fnQ.retN ?_
        have hbe : badE l = 1 := firstE_at (by omega) hj (by rw [cntBad, if_neg (by omega)])
        have hce := cntE_bad (by omega) hbe (by decide)
        exact ⟨by rw [hce, if_neg (by decide)], hS⟩
      · intro c26
        refine KA.seq ?_
        refine KA.region rfl ?_
        refine KOps.move ?_
        refine KOps.move ?_
        refine KOps.gtr ?_
        refine KOps.assign ?_
        refine KOps.done ?_
        refine sqQ.normal ?_
        refine KA.sub (Sub.cons (t := 0) Look.eq (Sub.cons (t := 4) Look.eq (Sub.cons (t := 7) Look.eq (Sub.cons (t := 20) Look.eq (Sub.cons (t := 21) Look.eq (Sub.cons (t := 22) Look.eq (Sub.cons (t := 30) Look.eq (Sub.nil _)))))))) ?_
        refine KA.condD ?_ ?_
        · intro c30
          refine KA.seq ?_
          refine KA.region rfl ?_
          refine KOps.assign ?_
          refine KOps.assign ?_
          refine KOps.done ?_
          refine sqQ.normal ?_
          refine KA.sub (Sub.cons (t := 2) Look.eq (Sub.cons (t := 3) Look.eq (Sub.nil _))) ?_
          refine KA.ret ?_
          refine blQ.ret ?_
          refine sqQ.ret ?_
          refine blQ.ret ?_
          refine sqQ.ret ?_
          refine lpQ.ret ?_
          refine blQ.ret ?_
          refine sqQ.ret ?_
          refine fnQ.retN ?_
          have h0 : i ≠ 0 := by rintro rfl; rw [if_pos rfl] at c30; omega
          rw [if_neg h0] at c30
          have hbe : badE l = 7 := firstE_at (by omega) hj (by rw [cntBad, if_pos (by omega), if_pos ⟨by omega, by omega⟩])
          have hce := cntE_bad (by omega) hbe (by decide)
          exact ⟨by rw [hce, if_neg (by decide)], hS⟩
        · intro c30
          refine KA.skip ?_
          refine blQ.normal ?_
          refine sqQ.normal ?_
          refine KA.sub (Sub.cons (t := 0) Look.eq (Sub.cons (t := 4) Look.eq (Sub.cons (t := 7) Look.eq (Sub.cons (t := 20) Look.eq (Sub.cons (t := 21) Look.eq (Sub.cons (t := 22) Look.eq (Sub.nil _))))))) ?_
          refine KA.seq ?_
          refine KA.region rfl ?_
          refine KOps.move ?_
          refine KOps.assign ?_
          refine KOps.done ?_
          refine sqQ.normal ?_
          refine KA.sub (Sub.cons (t := 0) Look.eq (Sub.cons (t := 4) Look.eq (Sub.cons (t := 5) Look.eq (Sub.cons (t := 7) Look.eq (Sub.cons (t := 20) Look.eq (Sub.cons (t := 21) Look.eq (Sub.cons (t := 22) Look.eq (Sub.nil _)))))))) ?_
          refine KA.region rfl ?_
          refine KOps.move ?_
          refine KOps.move ?_
          refine KOps.add (by first | omega | (simp only [List.length_append, List.length_singleton, List.length_set]; omega)) (by first | omega | (simp only [List.length_append, List.length_singleton, List.length_set]; omega)) ?_
          refine KOps.min ?_
          refine KOps.assign ?_
          refine KOps.done ?_
          refine blQ.normal ?_
          refine sqQ.normal ?_
          refine KA.sub (Sub.cons (t := 0) Look.eq (Sub.cons (t := 4) Look.eq (Sub.cons (t := 5) Look.eq (Sub.cons (t := 20) Look.eq (Sub.cons (t := 21) Look.eq (Sub.cons (t := 22) Look.eq (Sub.nil _))))))) ?_
          refine KA.region rfl ?_
          refine KOps.add (by first | omega | (simp only [List.length_append, List.length_singleton, List.length_set]; omega)) (by first | omega | (simp only [List.length_append, List.length_singleton, List.length_set]; omega)) ?_
          refine KOps.move ?_
          refine KOps.done ?_
          refine lpQ.normal (i + 1) (by repeat (first | exact Sub.nil _ | refine Sub.cons Look.eq ?_ | refine Sub.cons (Eq.trans Look.eq (congrArg (AV.int _) (by first | omega | (dsimp only; omega)))) ?_ | refine Sub.cons (Eq.trans Look.eq (congrArg (AV.int _) (by rw [if_neg (by omega), Nat.add_sub_cancel]))) ?_ | refine Sub.cons (Eq.trans Look.eq (congrArg (AV.int _) (by rw [take_sum1 (by omega)]; omega))) ?_)) ⟨rfl, by omega, ?_⟩ (by omega)
          intro j hj2; rcases Nat.lt_succ_iff_lt_or_eq.1 hj2 with h1 | rfl
          · exact hj j h1
          · rw [cntBad, if_pos (by omega), if_neg (by rintro ⟨h1, h2⟩; rw [if_neg (by omega)] at c30; omega)]
    · intro c23
      have hil : i = l.length := by omega
      subst hil
      have hbe : badE l = 0 := firstE_none (fun j hj2 => hj j (by omega))
      have hv1 : ∀ j, j < l.length → 1 ≤ l.getD j 0 ∧ l.getD j 0 ≤ 9 := fun j hj2 => by have := cntBad_none (hj j (by omega)); omega
      have hsg := sum_ge (fun j hj2 => (hv1 j hj2).1) l.length (Nat.le_refl _)
      rw [List.take_length] at hsg
      rw [List.take_length]
      refine KA.exit ?_
      refine sqQ.exit ?_
      refine lpQ.exit ?_
      refine blQ.here ?_
      refine sqQ.normal ?_
      refine KA.sub (Sub.cons (t := 0) Look.eq (Sub.cons (t := 4) Look.eq (Sub.nil _))) ?_
      refine KA.seq ?_
      refine KA.seq ?_
      refine KA.region rfl ?_
      refine KOps.move ?_
      refine KOps.gtr ?_
      refine KOps.done ?_
      refine sqQ.normal ?_
      refine KA.sub (Sub.cons (t := 0) Look.eq (Sub.cons (t := 4) Look.eq (Sub.cons (t := 41) Look.eq (Sub.nil _)))) ?_
      refine KA.condD ?_ ?_
      · intro c41
        refine KA.seq ?_
        refine KA.region rfl ?_
        refine KOps.assign ?_
        refine KOps.assign ?_
        refine KOps.done ?_
        refine sqQ.normal ?_
        refine KA.sub (Sub.cons (t := 2) Look.eq (Sub.cons (t := 3) Look.eq (Sub.nil _))) ?_
        refine KA.ret ?_
        refine sqQ.ret ?_
        refine fnQ.retN ?_
        have hce := cntE_3 (l := l) (by omega) hbe (by omega)
        exact ⟨by rw [hce, if_neg (by decide)], hS⟩
      · intro c41
        have hs9 : l.sum ≤ 9 := by omega
        have hce := cntE_0 (l := l) (by omega) hbe (by omega)
        have hmin : Min.min l.sum 10 = l.sum := by omega
        rw [hmin]
        have hq : l.sum = (l.sum.toNat : Int) := by omega
        refine KA.skip ?_
        refine sqQ.normal ?_
        refine KA.sub (Sub.cons (t := 0) Look.eq (Sub.cons (t := 4) Look.eq (Sub.nil _))) ?_
        refine KA.seq ?_
        refine KA.region rfl ?_
        refine KOps.assign ?_
        refine KOps.assign ?_
        refine KOps.done ?_
        refine sqQ.normal ?_
        refine KA.seq ?_
        refine KA.seq ?_
        refine KA.region rfl ?_
        refine KOps.move ?_
        refine KOps.move ?_
        refine KOps.done ?_
        refine sqQ.normal ?_
        refine KA.sub (Sub.cons (t := 0) Look.eq (Sub.cons (t := 8) Look.eq (Sub.cons (t := 9) Look.eq (Sub.cons (t := 42) Look.eq (Sub.cons (t := 43) Look.eq (Sub.nil _)))))) ?_
        refine KA.block ?_
        refine KA.loop (X := Nat) (fun i => [(0, v), (8, .int .i64 (factI i)), (9, .int .i64 1), (42, .int .i64 l.sum), (43, .int .i64 (i : Int))]) (fun i h' => h = h' ∧ i ≤ l.sum.toNat) (fun i => l.sum.toNat - i) 0 (by repeat (first | exact Sub.nil _ | refine Sub.cons Look.eq ?_ | refine Sub.cons (Eq.trans Look.eq (congrArg (AV.int _) (by first | omega | (dsimp only; omega)))) ?_)) ⟨rfl, Nat.zero_le _⟩ ?_
        rintro i _ ⟨rfl, hi⟩
        have hS := St.refl h
        have hf1 := factI_small i (by omega)
        refine KA.seq ?_
        refine KA.region rfl ?_
        refine KOps.lss ?_
        refine KOps.done ?_
        refine sqQ.normal ?_
        refine KA.seq ?_
        refine KA.condD ?_ ?_
        · intro c44
          refine KA.skip ?_
          refine sqQ.normal ?_
          refine KA.sub (Sub.cons (t := 0) Look.eq (Sub.cons (t := 8) Look.eq (Sub.cons (t := 9) Look.eq (Sub.cons (t := 42) Look.eq (Sub.cons (t := 43) Look.eq (Sub.nil _)))))) ?_
          refine KA.seq ?_
          refine KA.block ?_
          refine KA.seq ?_
          refine KA.region rfl ?_
          refine KOps.move ?_
          refine KOps.assign ?_
          refine KOps.done ?_
          refine sqQ.normal ?_
          refine KA.sub (Sub.cons (t := 0) Look.eq (Sub.cons (t := 8) Look.eq (Sub.cons (t := 9) Look.eq (Sub.cons (t := 10) Look.eq (Sub.cons (t := 42) Look.eq (Sub.cons (t := 43) Look.eq (Sub.nil _))))))) ?_
          refine KA.region rfl ?_
          refine KOps.move ?_
          refine KOps.move ?_
          refine KOps.add (by first | omega | (simp only [List.length_append, List.length_singleton, List.length_set]; omega)) (by first | omega | (simp only [List.length_append, List.length_singleton, List.length_set]; omega)) ?_
          refine KOps.mul (by have := factI_small (i + 1) (by omega); rw [factI] at this; omega) (by have := factI_small (i + 1) (by omega); rw [factI] at this; omega) ?_
          refine KOps.assign ?_
          refine KOps.done ?_
          refine blQ.normal ?_
          refine sqQ.normal ?_
          refine KA.sub (Sub.cons (t := 0) Look.eq (Sub.cons (t := 8) Look.eq (Sub.cons (t := 9) Look.eq (Sub.cons (t := 42) Look.eq (Sub.cons (t := 43) Look.eq (Sub.nil _)))))) ?_
          refine KA.region rfl ?_
          refine KOps.add (by first | omega | (simp only [List.length_append, List.length_singleton, List.length_set]; omega)) (by first | omega | (simp only [List.length_append, List.length_singleton, List.length_set]; omega)) ?_
          refine KOps.move ?_
          refine KOps.done ?_
          exact lpQ.normal (i + 1) (by repeat (first | exact Sub.nil _ | refine Sub.cons Look.eq ?_ | refine Sub.cons (Eq.trans Look.eq (congrArg (AV.int _) (by first | omega | (dsimp only; omega)))) ?_)) ⟨rfl, by omega⟩ (by omega)
        · intro c44
          have his : i = l.sum.toNat := by omega
          subst his
          refine KA.exit ?_
          refine sqQ.exit ?_
          refine lpQ.exit ?_
          refine blQ.here ?_
          refine sqQ.normal ?_
          refine KA.sub (Sub.cons (t := 0) Look.eq (Sub.cons (t := 8) Look.eq (Sub.cons (t := 9) Look.eq (Sub.nil _)))) ?_
          refine KA.seq ?_
          refine KA.seq ?_
          refine KA.region rfl ?_
          refine KOps.move ?_
          refine KOps.lenI hv ?_
          refine KOps.move ?_
          refine KOps.done ?_
          refine sqQ.normal ?_
          refine KA.block ?_
          refine KA.loop (X := Nat) (fun i => [(0, v), (8, .int .i64 (factI l.sum.toNat)), (9, .int .i64 (hooksTo l i)), (51, v), (52, .int .i64 (l.length : Int)), (53, .int .i64 (i : Int))]) (fun i h' => h = h' ∧ i ≤ l.length ∧ 1 ≤ hooksTo l i ∧ hooksTo l i ≤ 18 ^ ((l.take i).sum).toNat) (fun i => l.length - i) 0 (by repeat (first | exact Sub.nil _ | refine Sub.cons Look.eq ?_ | refine Sub.cons (Eq.trans Look.eq (congrArg (AV.int _) (by first | omega | (dsimp only; omega)))) ?_)) ?_ ?_
          · exact ⟨rfl, Nat.zero_le _, Int.le_refl 1, Int.le_refl 1⟩
          rintro i _ ⟨rfl, hi, hb1, hb2⟩
          have hS := St.refl h
          refine KA.seq ?_
          refine KA.region rfl ?_
          refine KOps.lss ?_
          refine KOps.done ?_
          refine sqQ.normal ?_
          refine KA.seq ?_
          refine KA.condD ?_ ?_
          · intro c54
            have hvi := hv1 i (by omega)
            have hsi := take_sum1 (l := l) (i := i) (by omega)
            have hsm := sum_mono (fun j hj2 => by have := hv1 j hj2; omega) (i + 1) l.length (by omega) (Nat.le_refl _)
            rw [List.take_length] at hsm
            have hsn : 0 ≤ (l.take i).sum := by have := sum_ge (fun j hj2 => (hv1 j hj2).1) i (by omega); omega
            refine KA.skip ?_
            refine sqQ.normal ?_
            refine KA.sub (Sub.cons (t := 0) Look.eq (Sub.cons (t := 8) Look.eq (Sub.cons (t := 9) Look.eq (Sub.cons (t := 51) Look.eq (Sub.cons (t := 52) Look.eq (Sub.cons (t := 53) Look.eq (Sub.nil _))))))) ?_
            refine KA.seq ?_
            refine KA.block ?_
            refine KA.seq ?_
            refine KA.region rfl ?_
            refine KOps.move ?_
            refine KOps.indexIJ hv (j := i) rfl (by first | omega | (simp; omega)) ?_
            intro p56 hp56
            refine KOps.loadI hp56 hv (by first | omega | (simp; omega)) ?_
            refine KOps.assign ?_
            refine KOps.assign ?_
            refine KOps.done ?_
            refine sqQ.normal ?_
            refine KA.sub (Sub.cons (t := 0) Look.eq (Sub.cons (t := 8) Look.eq (Sub.cons (t := 9) Look.eq (Sub.cons (t := 11) Look.eq (Sub.cons (t := 12) Look.eq (Sub.cons (t := 51) Look.eq (Sub.cons (t := 52) Look.eq (Sub.cons (t := 53) Look.eq (Sub.nil _))))))))) ?_
            refine KA.seq ?_
            refine KA.region rfl ?_
            refine KOps.move ?_
            refine KOps.move ?_
            refine KOps.done ?_
            refine sqQ.normal ?_
            refine KA.block ?_
            refine KA.loop (X := Nat) (fun k => [(0, v), (8, .int .i64 (factI l.sum.toNat)), (9, .int .i64 (hooksTo l i * hookRow l i k)), (11, .int .i64 (i : Int)), (12, .int .i64 (l.getD i 0)), (51, v), (52, .int .i64 (l.length : Int)), (53, .int .i64 (i : Int)), (58, .int .i64 (l.getD i 0)), (59, .int .i64 (k : Int))]) (fun k h' => h = h' ∧ k ≤ (l.getD i 0).toNat ∧ 1 ≤ (hooksTo l i * hookRow l i k) ∧ (hooksTo l i * hookRow l i k) ≤ 18 ^ (((l.take i).sum).toNat + k)) (fun k => (l.getD i 0).toNat - k) 0 (by repeat (first | exact Sub.nil _ | refine Sub.cons Look.eq ?_ | refine Sub.cons (Eq.trans Look.eq (congrArg (AV.int _) (by first | omega | (dsimp only; omega)))) ?_ | refine Sub.cons (Eq.trans Look.eq (congrArg (AV.int _) (by rw [hookRow, Int.mul_one]))) ?_)) ?_ ?_
            · refine ⟨rfl, Nat.zero_le _, ?_, ?_⟩ <;> rw [hookRow, Int.mul_one]
              · exact hb1
              · simpa using hb2
            rintro k _ ⟨rfl, hk, hb1, hb2⟩
            have hS := St.refl h
            refine KA.seq ?_
            refine KA.region rfl ?_
            refine KOps.lss ?_
            refine KOps.done ?_
            refine sqQ.normal ?_
            refine KA.seq ?_
            refine KA.condD ?_ ?_
            · intro c60
              have hk1 : k < (l.getD i 0).toNat := by omega
              refine KA.skip ?_
              refine sqQ.normal ?_
              refine KA.sub (Sub.cons (t := 0) Look.eq (Sub.cons (t := 8) Look.eq (Sub.cons (t := 9) Look.eq (Sub.cons (t := 11) Look.eq (Sub.cons (t := 12) Look.eq (Sub.cons (t := 51) Look.eq (Sub.cons (t := 52) Look.eq (Sub.cons (t := 53) Look.eq (Sub.cons (t := 58) Look.eq (Sub.cons (t := 59) Look.eq (Sub.nil _))))))))))) ?_
              refine KA.seq ?_
              refine KA.block ?_
              refine KA.seq ?_
              refine KA.region rfl ?_
              refine KOps.move ?_
              refine KOps.assign ?_
              refine KOps.done ?_
              refine sqQ.normal ?_
              refine KA.sub (Sub.cons (t := 0) Look.eq (Sub.cons (t := 8) Look.eq (Sub.cons (t := 9) Look.eq (Sub.cons (t := 11) Look.eq (Sub.cons (t := 12) Look.eq (Sub.cons (t := 13) Look.eq (Sub.cons (t := 51) Look.eq (Sub.cons (t := 52) Look.eq (Sub.cons (t := 53) Look.eq (Sub.cons (t := 58) Look.eq (Sub.cons (t := 59) Look.eq (Sub.nil _)))))))))))) ?_
              refine KA.seq ?_
              refine KA.region rfl ?_
              refine KOps.move ?_
              refine KOps.move ?_
              refine KOps.sub (by first | omega | (simp only [List.length_append, List.length_singleton, List.length_set]; omega)) (by first | omega | (simp only [List.length_append, List.length_singleton, List.length_set]; omega)) ?_
              refine KOps.assign ?_
              refine KOps.done ?_
              refine sqQ.normal ?_
              refine KA.sub (Sub.cons (t := 0) Look.eq (Sub.cons (t := 8) Look.eq (Sub.cons (t := 9) Look.eq (Sub.cons (t := 11) Look.eq (Sub.cons (t := 12) Look.eq (Sub.cons (t := 13) Look.eq (Sub.cons (t := 14) Look.eq (Sub.cons (t := 51) Look.eq (Sub.cons (t := 52) Look.eq (Sub.cons (t := 53) Look.eq (Sub.cons (t := 58) Look.eq (Sub.cons (t := 59) Look.eq (Sub.nil _))))))))))))) ?_
              refine KA.seq ?_
              refine KA.seq ?_
              refine KA.region rfl ?_
              refine KOps.move ?_
              refine KOps.move ?_
              refine KOps.add (by first | omega | (simp only [List.length_append, List.length_singleton, List.length_set]; omega)) (by first | omega | (simp only [List.length_append, List.length_singleton, List.length_set]; omega)) ?_
              refine KOps.sliceLo hv (m := l.length) (by simp) (by omega) (by omega) ?_
              intro v68 hp68
              have hv68 : Row h v68 (l.drop (i + 1)) := by
                have := Row.part hv hp68 (by omega)
                have e : ((i : Int) + 1).toNat = i + 1 := by omega
                rw [e, List.take_of_length_le (by rw [List.length_drop]; omega)] at this
                exact this
              refine KOps.lenI hv68 ?_
              refine KOps.move ?_
              refine KOps.done ?_
              refine sqQ.normal ?_
              refine KA.sub (Sub.cons (t := 0) Look.eq (Sub.cons (t := 8) Look.eq (Sub.cons (t := 9) Look.eq (Sub.cons (t := 11) Look.eq (Sub.cons (t := 12) Look.eq (Sub.cons (t := 13) Look.eq (Sub.cons (t := 14) Look.eq (Sub.cons (t := 51) Look.eq (Sub.cons (t := 52) Look.eq (Sub.cons (t := 53) Look.eq (Sub.cons (t := 58) Look.eq (Sub.cons (t := 59) Look.eq (Sub.cons (t := 68) Look.eq (Sub.cons (t := 69) Look.eq (Sub.cons (t := 70) Look.eq (Sub.nil _)))))))))))))))) ?_
              refine KA.block ?_
              refine KA.loop (X := Nat) (fun j => [(0, v), (8, .int .i64 (factI l.sum.toNat)), (9, .int .i64 (hooksTo l i * hookRow l i k)), (11, .int .i64 (i : Int)), (12, .int .i64 (l.getD i 0)), (13, .int .i64 (k : Int)), (14, .int .i64 (l.getD i 0 - k + (((l.drop (i + 1)).take j).countP fun m => decide ((k : Int) < m) : Nat))), (51, v), (52, .int .i64 (l.length : Int)), (53, .int .i64 (i : Int)), (58, .int .i64 (l.getD i 0)), (59, .int .i64 (k : Int)), (68, v68), (69, .int .i64 ((l.drop (i + 1)).length : Int)), (70, .int .i64 (j : Int))]) (fun j h' => h = h' ∧ j ≤ (l.drop (i + 1)).length) (fun j => (l.drop (i + 1)).length - j) 0 (by repeat (first | exact Sub.nil _ | refine Sub.cons Look.eq ?_ | refine Sub.cons (Eq.trans Look.eq (congrArg (AV.int _) (by first | omega | (dsimp only; omega)))) ?_ | refine Sub.cons (Eq.trans Look.eq (congrArg (AV.int _) (by simp))) ?_)) ⟨rfl, Nat.zero_le _⟩ ?_
              rintro j _ ⟨rfl, hj9⟩
              have hS := St.refl h
              have hdl9 : (l.drop (i + 1)).length = l.length - (i + 1) := List.length_drop
              have hcj := List.countP_le_length (p := fun m => decide ((k : Int) < m)) (l := (l.drop (i + 1)).take j)
              rw [List.length_take] at hcj
              refine KA.seq ?_
              refine KA.region rfl ?_
              refine KOps.lss ?_
              refine KOps.done ?_
              refine sqQ.normal ?_
              refine KA.seq ?_
              refine KA.condD ?_ ?_
              · intro c71
                refine KA.skip ?_
                refine sqQ.normal ?_
                refine KA.sub (Sub.cons (t := 0) Look.eq (Sub.cons (t := 8) Look.eq (Sub.cons (t := 9) Look.eq (Sub.cons (t := 11) Look.eq (Sub.cons (t := 12) Look.eq (Sub.cons (t := 13) Look.eq (Sub.cons (t := 14) Look.eq (Sub.cons (t := 51) Look.eq (Sub.cons (t := 52) Look.eq (Sub.cons (t := 53) Look.eq (Sub.cons (t := 58) Look.eq (Sub.cons (t := 59) Look.eq (Sub.cons (t := 68) Look.eq (Sub.cons (t := 69) Look.eq (Sub.cons (t := 70) Look.eq (Sub.nil _)))))))))))))))) ?_
                refine KA.seq ?_
                refine KA.block ?_
                refine KA.seq ?_
                refine KA.region rfl ?_
                refine KOps.indexIJ hv68 (j := j) rfl (by first | omega | (simp; omega)) ?_
                intro p72 hp72
                refine KOps.loadI hp72 hv68 (by first | omega | (simp; omega)) ?_
                refine KOps.assign ?_
                refine KOps.done ?_
                refine sqQ.normal ?_
                refine KA.sub (Sub.cons (t := 0) Look.eq (Sub.cons (t := 8) Look.eq (Sub.cons (t := 9) Look.eq (Sub.cons (t := 11) Look.eq (Sub.cons (t := 12) Look.eq (Sub.cons (t := 13) Look.eq (Sub.cons (t := 14) Look.eq (Sub.cons (t := 16) Look.eq (Sub.cons (t := 51) Look.eq (Sub.cons (t := 52) Look.eq (Sub.cons (t := 53) Look.eq (Sub.cons (t := 58) Look.eq (Sub.cons (t := 59) Look.eq (Sub.cons (t := 68) Look.eq (Sub.cons (t := 69) Look.eq (Sub.cons (t := 70) Look.eq (Sub.nil _))))))))))))))))) ?_
                refine KA.seq ?_
                refine KA.region rfl ?_
                refine KOps.move ?_
                refine KOps.move ?_
                refine KOps.gtr ?_
                refine KOps.done ?_
                refine sqQ.normal ?_
                refine KA.sub (Sub.cons (t := 0) Look.eq (Sub.cons (t := 8) Look.eq (Sub.cons (t := 9) Look.eq (Sub.cons (t := 11) Look.eq (Sub.cons (t := 12) Look.eq (Sub.cons (t := 13) Look.eq (Sub.cons (t := 14) Look.eq (Sub.cons (t := 51) Look.eq (Sub.cons (t := 52) Look.eq (Sub.cons (t := 53) Look.eq (Sub.cons (t := 58) Look.eq (Sub.cons (t := 59) Look.eq (Sub.cons (t := 68) Look.eq (Sub.cons (t := 69) Look.eq (Sub.cons (t := 70) Look.eq (Sub.cons (t := 76) Look.eq (Sub.nil _))))))))))))))))) ?_
                refine KA.condD ?_ ?_
                · intro c76
                  refine KA.region rfl ?_
                  refine KOps.move ?_
                  refine KOps.add (by first | omega | (simp only [List.length_append, List.length_singleton, List.length_set]; omega)) (by first | omega | (simp only [List.length_append, List.length_singleton, List.length_set]; omega)) ?_
                  refine KOps.assign ?_
                  refine KOps.done ?_
                  refine blQ.normal ?_
                  refine sqQ.normal ?_
                  refine KA.sub (Sub.cons (t := 0) Look.eq (Sub.cons (t := 8) Look.eq (Sub.cons (t := 9) Look.eq (Sub.cons (t := 11) Look.eq (Sub.cons (t := 12) Look.eq (Sub.cons (t := 13) Look.eq (Sub.cons (t := 14) Look.eq (Sub.cons (t := 51) Look.eq (Sub.cons (t := 52) Look.eq (Sub.cons (t := 53) Look.eq (Sub.cons (t := 58) Look.eq (Sub.cons (t := 59) Look.eq (Sub.cons (t := 68) Look.eq (Sub.cons (t := 69) Look.eq (Sub.cons (t := 70) Look.eq (Sub.nil _)))))))))))))))) ?_
                  refine KA.region rfl ?_
                  refine KOps.add (by first | omega | (simp only [List.length_append, List.length_singleton, List.length_set]; omega)) (by first | omega | (simp only [List.length_append, List.length_singleton, List.length_set]; omega)) ?_
                  refine KOps.move ?_
                  refine KOps.done ?_
                  have hct := count_take (p := fun m => decide ((k : Int) < m)) (l := l.drop (i + 1)) (i := j) (by omega)
                  rw [if_pos (decide_eq_true c76)] at hct
                  exact lpQ.normal (j + 1) (by repeat (first | exact Sub.nil _ | refine Sub.cons Look.eq ?_ | refine Sub.cons (Eq.trans Look.eq (congrArg (AV.int _) (by first | omega | (dsimp only; omega)))) ?_ | refine Sub.cons (Eq.trans Look.eq (congrArg (AV.int _) (by rw [hct]; omega))) ?_)) ⟨rfl, by omega⟩ (by omega)
                · intro c76
                  refine KA.skip ?_
                  refine blQ.normal ?_
                  refine sqQ.normal ?_
                  refine KA.sub (Sub.cons (t := 0) Look.eq (Sub.cons (t := 8) Look.eq (Sub.cons (t := 9) Look.eq (Sub.cons (t := 11) Look.eq (Sub.cons (t := 12) Look.eq (Sub.cons (t := 13) Look.eq (Sub.cons (t := 14) Look.eq (Sub.cons (t := 51) Look.eq (Sub.cons (t := 52) Look.eq (Sub.cons (t := 53) Look.eq (Sub.cons (t := 58) Look.eq (Sub.cons (t := 59) Look.eq (Sub.cons (t := 68) Look.eq (Sub.cons (t := 69) Look.eq (Sub.cons (t := 70) Look.eq (Sub.nil _)))))))))))))))) ?_
                  refine KA.region rfl ?_
                  refine KOps.add (by first | omega | (simp only [List.length_append, List.length_singleton, List.length_set]; omega)) (by first | omega | (simp only [List.length_append, List.length_singleton, List.length_set]; omega)) ?_
                  refine KOps.move ?_
                  refine KOps.done ?_
                  have hct := count_take (p := fun m => decide ((k : Int) < m)) (l := l.drop (i + 1)) (i := j) (by omega)
                  rw [if_neg (by rw [decide_eq_false c76]; exact Bool.false_ne_true), Nat.add_zero] at hct
                  exact lpQ.normal (j + 1) (by repeat (first | exact Sub.nil _ | refine Sub.cons Look.eq ?_ | refine Sub.cons (Eq.trans Look.eq (congrArg (AV.int _) (by first | omega | (dsimp only; omega)))) ?_ | refine Sub.cons (Eq.trans Look.eq (congrArg (AV.int _) (by rw [hct]))) ?_)) ⟨rfl, by omega⟩ (by omega)
              · intro c71
                have hdl : (l.drop (i + 1)).length = l.length - (i + 1) := List.length_drop
                have hie : j = (l.drop (i + 1)).length := by omega
                subst hie
                rw [List.take_length]
                have hcc : l.getD i 0 - k + (((l.drop (i + 1)).countP fun m => decide ((k : Int) < m) : Nat) : Int) = hookC l i k := rfl
                rw [hcc]
                have hcl := List.countP_le_length (p := fun m => decide ((k : Int) < m)) (l := l.drop (i + 1))
                have hc1 : 1 ≤ hookC l i k ∧ hookC l i k ≤ 18 := by unfold hookC; omega
                have hmb := mulB hb1 hb2 hc1.1 hc1.2
                have hp9 := pow18 (c := ((l.take i).sum).toNat + k + 1) (by omega)
                refine KA.exit ?_
                refine sqQ.exit ?_
                refine lpQ.exit ?_
                refine blQ.here ?_
                refine sqQ.normal ?_
                refine KA.sub (Sub.cons (t := 0) Look.eq (Sub.cons (t := 8) Look.eq (Sub.cons (t := 9) Look.eq (Sub.cons (t := 11) Look.eq (Sub.cons (t := 12) Look.eq (Sub.cons (t := 14) Look.eq (Sub.cons (t := 51) Look.eq (Sub.cons (t := 52) Look.eq (Sub.cons (t := 53) Look.eq (Sub.cons (t := 58) Look.eq (Sub.cons (t := 59) Look.eq (Sub.nil _)))))))))))) ?_
                refine KA.region rfl ?_
                refine KOps.move ?_
                refine KOps.move ?_
                refine KOps.mul (by omega) (by omega) ?_
                refine KOps.assign ?_
                refine KOps.done ?_
                refine blQ.normal ?_
                refine sqQ.normal ?_
                refine KA.sub (Sub.cons (t := 0) Look.eq (Sub.cons (t := 8) Look.eq (Sub.cons (t := 9) Look.eq (Sub.cons (t := 11) Look.eq (Sub.cons (t := 12) Look.eq (Sub.cons (t := 51) Look.eq (Sub.cons (t := 52) Look.eq (Sub.cons (t := 53) Look.eq (Sub.cons (t := 58) Look.eq (Sub.cons (t := 59) Look.eq (Sub.nil _))))))))))) ?_
                refine KA.region rfl ?_
                refine KOps.add (by first | omega | (simp only [List.length_append, List.length_singleton, List.length_set]; omega)) (by first | omega | (simp only [List.length_append, List.length_singleton, List.length_set]; omega)) ?_
                refine KOps.move ?_
                refine KOps.done ?_
                refine lpQ.normal (k + 1) (by repeat (first | exact Sub.nil _ | refine Sub.cons Look.eq ?_ | refine Sub.cons (Eq.trans Look.eq (congrArg (AV.int _) (by first | omega | (dsimp only; omega)))) ?_ | refine Sub.cons (Eq.trans Look.eq (congrArg (AV.int _) (by rw [hookRow, ← Int.mul_assoc]))) ?_)) ⟨rfl, by omega, ?_, ?_⟩ (by omega) <;> rw [hookRow, ← Int.mul_assoc]
                · exact hmb.1
                · exact hmb.2
            · intro c60
              refine KA.exit ?_
              refine sqQ.exit ?_
              refine lpQ.exit ?_
              refine blQ.here ?_
              refine blQ.normal ?_
              refine sqQ.normal ?_
              refine KA.sub (Sub.cons (t := 0) Look.eq (Sub.cons (t := 8) Look.eq (Sub.cons (t := 9) Look.eq (Sub.cons (t := 51) Look.eq (Sub.cons (t := 52) Look.eq (Sub.cons (t := 53) Look.eq (Sub.nil _))))))) ?_
              refine KA.region rfl ?_
              refine KOps.add (by first | omega | (simp only [List.length_append, List.length_singleton, List.length_set]; omega)) (by first | omega | (simp only [List.length_append, List.length_singleton, List.length_set]; omega)) ?_
              refine KOps.move ?_
              refine KOps.done ?_
              have hke : k = (l.getD i 0).toNat := by omega
              subst hke
              refine lpQ.normal (i + 1) (by repeat (first | exact Sub.nil _ | refine Sub.cons Look.eq ?_ | refine Sub.cons (Eq.trans Look.eq (congrArg (AV.int _) (by first | omega | (dsimp only; omega)))) ?_)) ⟨rfl, by omega, hb1, ?_⟩ (by omega)
              have e : ((l.take (i + 1)).sum).toNat = ((l.take i).sum).toNat + (l.getD i 0).toNat := by omega
              rw [e]
              exact hb2
          · intro c54
            have hie : i = l.length := by omega
            subst hie
            have hqb := tabS_le l.sum.toNat l (by omega)
            have hp9 : ∀ d : Nat, d ≤ 9 → (9 : Int) ^ d ≤ 387420489 := by decide
            have hp9 := hp9 l.sum.toNat (by omega)
            rw [hooks_is hce] at hqb
            refine KA.exit ?_
            refine sqQ.exit ?_
            refine lpQ.exit ?_
            refine blQ.here ?_
            refine sqQ.normal ?_
            refine KA.sub (Sub.cons (t := 8) Look.eq (Sub.cons (t := 9) Look.eq (Sub.nil _))) ?_
            refine KA.seq ?_
            refine KA.region rfl ?_
            refine KOps.move ?_
            refine KOps.move ?_
            refine KOps.quo (by omega) (by omega) (by omega) ?_
            refine KOps.assign ?_
            refine KOps.assign ?_
            refine KOps.done ?_
            refine sqQ.normal ?_
            refine KA.sub (Sub.cons (t := 2) Look.eq (Sub.cons (t := 3) Look.eq (Sub.nil _))) ?_
            refine KA.ret ?_
            refine fnQ.retN ?_
            exact ⟨by rw [hce, if_pos rfl, hooks_is hce], hS⟩

end Go.Am
