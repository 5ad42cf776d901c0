/-
  Layer 13: the number of tables of a shape: contracts.
  Conditions: none.
-/
import Derived.Test.YtenkokebdgekbaaCf
import Derived.Test.YtenkokebdgekbaaAmF
import Derived.Test.YtenkokebdgekbaaPt10
import Derived.Test.YtenkokebdgekbaaPt11
namespace Go.Am
open Go.Gr
theorem count_take {p : Int → Bool} {l : List Int} {i : Nat} (hi : i < l.length) : (l.take (i + 1)).countP p = (l.take i).countP p + if p (l.getD i 0) then 1 else 0 := by
  rw [take_snoc hi, List.countP_append, List.countP_singleton]
theorem sumE {l : List Int} {i : Nat} (hb : ∀ j, j < i → cntBad l j = none) (hi : i ≤ l.length) : ∀ k, k ≤ i → (k : Int) ≤ (l.take k).sum := by
  intro k
  induction k with
  | zero => intro _; simp
  | succ k ih =>
    intro hk
    rw [take_sum1 (by omega)]
    have := ih (by omega)
    have := cntBad_none (hb k (by omega))
    omega
theorem sum_set {l : List Int} : ∀ {j : Nat}, j < l.length → ∀ x : Int, (l.set j x).sum = l.sum - l.getD j 0 + x := by
  induction l with
  | nil => intro j hj; simp at hj
  | cons y l ih =>
    intro j hj x
    cases j with
    | zero => simp only [List.set_cons_zero, List.sum_cons, List.getD_cons_zero]; omega
    | succ j => simp only [List.set_cons_succ, List.sum_cons, List.getD_cons_succ]; rw [ih (by simpa using hj)]; omega
theorem set_getD {l : List Int} {j i : Nat} {x : Int} (hj : j < l.length) : (l.set j x).getD i 0 = if j = i then x else l.getD i 0 := by
  simp only [List.getD_eq_getElem?_getD, List.getElem?_set]
  split
  · first | rfl | (rw [if_pos hj]; rfl)
  · rfl
/-- A row, or nothing. -/
def WO (h : AHeap) (v : AV) : Option (List Int) → Prop
  | none => v = .nils
  | some l => Row h v l ∧ l ≠ []
theorem WO.keep {h h' : AHeap} {v : AV} {o : Option (List Int)} (k : Keeps h h') (w : WO h v o) : WO h' v o := by
  cases o with
  | none => exact w
  | some l => exact ⟨Row.ext k w.1, w.2⟩
variable {P : Program} {n : Nat} {ops : Array Oper} {ex : List Nat} {Q : KF → AHeap → Prop} {k : Nat} {os : List Oper} {K : KF} {h h0 : AHeap} {d : Nat} {ty : TypeId} {pos : String} {after : Array Edge} {objs pre rest : List Obj}
theorem KOps.woNe {t t' e : TypeId} {zs : List AV} {v : AV} {x y : Operand} {o : Option (List Int)} [hx : EvK h.globs n K x v] [hy : EvK h.globs n K y .nils] [ht : SlT P t e 1 zs] (w : WO h v o) (hk : KOps P n ops ex Q (k + 1) os ((d, .bool o.isSome) :: K) h) : KOps P n ops ex Q k (⟨some d, .binOp .neq t x y t', ty, pos, after, none⟩ :: os) K h := by
  cases o with
  | none =>
    have hv : v = .nils := w
    subst hv
    exact KOps.nilNe (hx := hx) (hy := hy) (ht := ht) hk
  | some l => exact KOps.slcNe (hx := hx) (hy := hy) (ht := ht) w.1 (by decide) (by intro he; exact w.2 (by simpa [ints] using he)) hk

theorem count_c {h : AHeap} {v : AV} {l : List Int} (hv : Row h v l) (hlen : l.length ≤ 40) : ACalls Go.Proofs.Try.prog 40 [v] h (fun r h' => r = .tup [.int .i64 (if cntE l = 0 then tabS l.sum.toNat l else 0), .int .i64 (cntE l)] ∧ St h h' []) := by
  refine KA.fn 88 [.tmp 2, .tmp 3] Go.Proofs.Try.func40 rfl (by decide) rfl rfl (Nat.le_of_ble_eq_true rfl) ?_
  have hS := St.refl h
  show KA _ 88 _ _ [(0, v)] _
  refine KA.seq ?_
  refine KA.region rfl ?_
  refine KOps.assign ?_
  refine KOps.assign ?_
  refine KOps.done ?_
  refine sqQ.normal ?_
  refine KA.sub (Sub.cons (t := 0) Look.eq (Sub.nil _)) ?_
  refine KA.seq ?_
  refine KA.seq ?_
  refine KA.region rfl ?_
  refine KOps.move ?_
  refine KOps.lenI hv ?_
  refine KOps.eql ?_
  refine KOps.done ?_
  refine sqQ.normal ?_
  refine KA.sub (Sub.cons (t := 0) Look.eq (Sub.cons (t := 19) Look.eq (Sub.nil _))) ?_
  refine KA.condD ?_ ?_
  · intro c19
    refine KA.seq ?_
    refine KA.region rfl ?_
    refine KOps.assign ?_
    refine KOps.assign ?_
    refine KOps.done ?_
    refine sqQ.normal ?_
    refine KA.sub (Sub.cons (t := 2) Look.eq (Sub.cons (t := 3) Look.eq (Sub.nil _))) ?_
    refine KA.ret ?_
    refine sqQ.ret ?_
    refine fnQ.retN ?_
    have hce := cntE_4 (l := l) (by omega)
    exact ⟨by rw [hce, if_neg (by decide)], hS⟩
  · intro c19
    refine KA.skip ?_
    refine sqQ.normal ?_
    refine KA.sub (Sub.cons (t := 0) Look.eq (Sub.nil _)) ?_
    refine KA.seq ?_
    refine KA.region rfl ?_
    refine KOps.assign ?_
    refine KOps.assign ?_
    refine KOps.done ?_
    refine sqQ.normal ?_
    refine KA.seq ?_
    refine KA.seq ?_
    refine KA.region rfl ?_
    refine KOps.move ?_
    refine KOps.lenI hv ?_
    refine KOps.move ?_
    refine KOps.done ?_
    refine sqQ.normal ?_
    refine KA.block ?_
    refine KA.loop (X := Nat) (fun i => [(0, v), (4, .int .i64 (Min.min (l.take i).sum 10)), (5, .int .i64 (if i = 0 then 9 else l.getD (i - 1) 0)), (20, v), (21, .int .i64 (l.length : Int)), (22, .int .i64 (i : Int))]) (fun i h' => h = h' ∧ i ≤ l.length ∧ ∀ j, j < i → cntBad l j = none) (fun i => l.length - i) 0 (by repeat (first | exact Sub.nil _ | refine Sub.cons Look.eq ?_ | refine Sub.cons (Eq.trans Look.eq (congrArg (AV.int _) (by first | omega | (dsimp only; omega)))) ?_ | refine Sub.cons (Eq.trans Look.eq (congrArg (AV.int _) (by simp))) ?_ | refine Sub.cons (Eq.trans Look.eq (congrArg (AV.int _) (by rfl))) ?_)) ⟨rfl, by omega, by omega⟩ ?_
    rintro i _ ⟨rfl, hi, hj⟩
    have hS := St.refl h
    have hse := sumE hj hi i (Nat.le_refl _)
    refine KA.seq ?_
    refine KA.region rfl ?_
    refine KOps.lss ?_
    refine KOps.done ?_
    refine sqQ.normal ?_
    refine KA.seq ?_
    refine KA.condD ?_ ?_
    · intro c23
      refine KA.skip ?_
      refine sqQ.normal ?_
      refine KA.sub (Sub.cons (t := 0) Look.eq (Sub.cons (t := 4) Look.eq (Sub.cons (t := 5) Look.eq (Sub.cons (t := 20) Look.eq (Sub.cons (t := 21) Look.eq (Sub.cons (t := 22) Look.eq (Sub.nil _))))))) ?_
      refine KA.seq ?_
      refine KA.block ?_
      refine KA.seq ?_
      refine KA.region rfl ?_
      refine KOps.indexIJ hv (j := i) rfl (by first | omega | (simp; omega)) ?_
      intro p24 hp24
      refine KOps.loadI hp24 hv (by first | omega | (simp; omega)) ?_
      refine KOps.assign ?_
      refine KOps.done ?_
      refine sqQ.normal ?_
      refine KA.sub (Sub.cons (t := 0) Look.eq (Sub.cons (t := 4) Look.eq (Sub.cons (t := 5) Look.eq (Sub.cons (t := 7) Look.eq (Sub.cons (t := 20) Look.eq (Sub.cons (t := 21) Look.eq (Sub.cons (t := 22) Look.eq (Sub.nil _)))))))) ?_
      refine KA.seq ?_
      refine KA.block ?_
      refine KA.seq ?_
      refine KA.region rfl ?_
      refine KOps.move ?_
      refine KOps.call rfl (between_c) ?_
      rintro _ _ ⟨rfl, rfl⟩
      refine KOps.not ?_
      refine KOps.assign ?_
      refine KOps.done ?_
      refine sqQ.normal ?_
      refine KA.sub (Sub.cons (t := 0) Look.eq (Sub.cons (t := 4) Look.eq (Sub.cons (t := 5) Look.eq (Sub.cons (t := 7) Look.eq (Sub.cons (t := 20) Look.eq (Sub.cons (t := 21) Look.eq (Sub.cons (t := 22) Look.eq (Sub.cons (t := 26) Look.eq (Sub.nil _))))))))) ?_
      refine KA.condN ?_ ?_
      · intro c26
        refine KA.seq ?_
        refine KA.region rfl ?_
        refine KOps.assign ?_
        refine KOps.assign ?_
        refine KOps.done ?_
        refine sqQ.normal ?_
        refine KA.sub (Sub.cons (t := 2) Look.eq (Sub.cons (t := 3) Look.eq (Sub.nil _))) ?_
        refine KA.ret ?_
        refine blQ.ret ?_
        refine sqQ.ret ?_
        refine blQ.ret ?_
        refine sqQ.ret ?_
        refine lpQ.ret ?_
        refine blQ.ret ?_
        refine sqQ.ret ?_
        refine fnQ.retN ?_
        have hbe : badE l = 1 := firstE_at (by omega) hj (by rw [cntBad, if_neg (by omega)])
        have hce := cntE_bad (by omega) hbe (by decide)
        exact ⟨by rw [hce, if_neg (by decide)], hS⟩
      · intro c26
        refine KA.seq ?_
        refine KA.region rfl ?_
        refine KOps.move ?_
        refine KOps.move ?_
        refine KOps.gtr ?_
        refine KOps.assign ?_
        refine KOps.done ?_
        refine sqQ.normal ?_
        refine KA.sub (Sub.cons (t := 0) Look.eq (Sub.cons (t := 4) Look.eq (Sub.cons (t := 7) Look.eq (Sub.cons (t := 20) Look.eq (Sub.cons (t := 21) Look.eq (Sub.cons (t := 22) Look.eq (Sub.cons (t := 30) Look.eq (Sub.nil _)))))))) ?_
        refine KA.condD ?_ ?_
        · intro c30
          refine KA.seq ?_
          refine KA.region rfl ?_
          refine KOps.assign ?_
          refine KOps.assign ?_
          refine KOps.done ?_
          refine sqQ.normal ?_
          refine KA.sub (Sub.cons (t := 2) Look.eq (Sub.cons (t := 3) Look.eq (Sub.nil _))) ?_
          refine KA.ret ?_
          refine blQ.ret ?_
          refine sqQ.ret ?_
          refine blQ.ret ?_
          refine sqQ.ret ?_
          refine lpQ.ret ?_
          refine blQ.ret ?_
          refine sqQ.ret ?_
          refine fnQ.retN ?_
          have h0 : i ≠ 0 := by rintro rfl; rw [if_pos rfl] at c30; omega
          rw [if_neg h0] at c30
          have hbe : badE l = 7 := firstE_at (by omega) hj (by rw [cntBad, if_pos (by omega), if_pos ⟨by omega, by omega⟩])
          have hce := cntE_bad (by omega) hbe (by decide)
          exact ⟨by rw [hce, if_neg (by decide)], hS⟩
        · intro c30
          refine KA.skip ?_
          refine blQ.normal ?_
          refine sqQ.normal ?_
          refine KA.sub (Sub.cons (t := 0) Look.eq (Sub.cons (t := 4) Look.eq (Sub.cons (t := 7) Look.eq (Sub.cons (t := 20) Look.eq (Sub.cons (t := 21) Look.eq (Sub.cons (t := 22) Look.eq (Sub.nil _))))))) ?_
          refine KA.seq ?_
          refine KA.region rfl ?_
          refine KOps.move ?_
          refine KOps.assign ?_
          refine KOps.done ?_
          refine sqQ.normal ?_
          refine KA.sub (Sub.cons (t := 0) Look.eq (Sub.cons (t := 4) Look.eq (Sub.cons (t := 5) Look.eq (Sub.cons (t := 7) Look.eq (Sub.cons (t := 20) Look.eq (Sub.cons (t := 21) Look.eq (Sub.cons (t := 22) Look.eq (Sub.nil _)))))))) ?_
          refine KA.region rfl ?_
          refine KOps.move ?_
          refine KOps.move ?_
          refine KOps.add (by first | omega | (simp only [List.length_append, List.length_singleton, List.length_set]; omega)) (by first | omega | (simp only [List.length_append, List.length_singleton, List.length_set]; omega)) ?_
          refine KOps.min ?_
          refine KOps.assign ?_
          refine KOps.done ?_
          refine blQ.normal ?_
          refine sqQ.normal ?_
          refine KA.sub (Sub.cons (t := 0) Look.eq (Sub.cons (t := 4) Look.eq (Sub.cons (t := 5) Look.eq (Sub.cons (t := 20) Look.eq (Sub.cons (t := 21) Look.eq (Sub.cons (t := 22) Look.eq (Sub.nil _))))))) ?_
          refine KA.region rfl ?_
          refine KOps.add (by first | omega | (simp only [List.length_append, List.length_singleton, List.length_set]; omega)) (by first | omega | (simp only [List.length_append, List.length_singleton, List.length_set]; omega)) ?_
          refine KOps.move ?_
          refine KOps.done ?_
          refine lpQ.normal (i + 1) (by repeat (first | exact Sub.nil _ | refine Sub.cons Look.eq ?_ | refine Sub.cons (Eq.trans Look.eq (congrArg (AV.int _) (by first | omega | (dsimp only; omega)))) ?_ | refine Sub.cons (Eq.trans Look.eq (congrArg (AV.int _) (by rw [if_neg (by omega), Nat.add_sub_cancel]))) ?_ | refine Sub.cons (Eq.trans Look.eq (congrArg (AV.int _) (by rw [take_sum1 (by omega)]; omega))) ?_)) ⟨rfl, by omega, ?_⟩ (by omega)
          intro j hj2; rcases Nat.lt_succ_iff_lt_or_eq.1 hj2 with h1 | rfl
          · exact hj j h1
          · rw [cntBad, if_pos (by omega), if_neg (by rintro ⟨h1, h2⟩; rw [if_neg (by omega)] at c30; omega)]
    · intro c23
      have hil : i = l.length := by omega
      subst hil
      have hbe : badE l = 0 := firstE_none (fun j hj2 => hj j (by omega))
      have hv1 : ∀ j, j < l.length → 1 ≤ l.getD j 0 ∧ l.getD j 0 ≤ 9 := fun j hj2 => by have := cntBad_none (hj j (by omega)); omega
      have hsg := sum_ge (fun j hj2 => (hv1 j hj2).1) l.length (Nat.le_refl _)
      rw [List.take_length] at hsg
      rw [List.take_length]
      refine KA.exit ?_
      refine sqQ.exit ?_
      refine lpQ.exit ?_
      refine blQ.here ?_
      refine sqQ.normal ?_
      refine KA.sub (Sub.cons (t := 0) Look.eq (Sub.cons (t := 4) Look.eq (Sub.nil _))) ?_
      refine KA.seq ?_
      refine KA.seq ?_
      refine KA.region rfl ?_
      refine KOps.move ?_
      refine KOps.gtr ?_
      refine KOps.done ?_
      refine sqQ.normal ?_
      refine KA.sub (Sub.cons (t := 0) Look.eq (Sub.cons (t := 4) Look.eq (Sub.cons (t := 41) Look.eq (Sub.nil _)))) ?_
      refine KA.condD ?_ ?_
      · intro c41
        refine KA.seq ?_
        refine KA.region rfl ?_
        refine KOps.assign ?_
        refine KOps.assign ?_
        refine KOps.done ?_
        refine sqQ.normal ?_
        refine KA.sub (Sub.cons (t := 2) Look.eq (Sub.cons (t := 3) Look.eq (Sub.nil _))) ?_
        refine KA.ret ?_
        refine sqQ.ret ?_
        refine fnQ.retN ?_
        have hce := cntE_3 (l := l) (by omega) hbe (by omega)
        exact ⟨by rw [hce, if_neg (by decide)], hS⟩
      · intro c41
        have hs9 : l.sum ≤ 9 := by omega
        have hce := cntE_0 (l := l) (by omega) hbe (by omega)
        have hmin : Min.min l.sum 10 = l.sum := by omega
        rw [hmin]
        have hq : l.sum = (l.sum.toNat : Int) := by omega
        refine KA.skip ?_
        refine sqQ.normal ?_
        refine KA.sub (Sub.cons (t := 0) Look.eq (Sub.cons (t := 4) Look.eq (Sub.nil _))) ?_
        refine KA.seq ?_
        refine KA.region rfl ?_
        refine KOps.assign ?_
        refine KOps.assign ?_
        refine KOps.done ?_
        refine sqQ.normal ?_
        refine KA.seq ?_
        refine KA.seq ?_
        refine KA.region rfl ?_
        refine KOps.move ?_
        refine KOps.move ?_
        refine KOps.done ?_
        refine sqQ.normal ?_
        refine KA.sub (Sub.cons (t := 0) Look.eq (Sub.cons (t := 8) Look.eq (Sub.cons (t := 9) Look.eq (Sub.cons (t := 42) Look.eq (Sub.cons (t := 43) Look.eq (Sub.nil _)))))) ?_
        refine KA.block ?_
        refine KA.loop (X := Nat) (fun i => [(0, v), (8, .int .i64 (factI i)), (9, .int .i64 1), (42, .int .i64 l.sum), (43, .int .i64 (i : Int))]) (fun i h' => h = h' ∧ i ≤ l.sum.toNat) (fun i => l.sum.toNat - i) 0 (by repeat (first | exact Sub.nil _ | refine Sub.cons Look.eq ?_ | refine Sub.cons (Eq.trans Look.eq (congrArg (AV.int _) (by first | omega | (dsimp only; omega)))) ?_)) ⟨rfl, Nat.zero_le _⟩ ?_
        rintro i _ ⟨rfl, hi⟩
        have hS := St.refl h
        have hf1 := factI_small i (by omega)
        refine KA.seq ?_
        refine KA.region rfl ?_
        refine KOps.lss ?_
        refine KOps.done ?_
        refine sqQ.normal ?_
        refine KA.seq ?_
        refine KA.condD ?_ ?_
        · intro c44
          refine KA.skip ?_
          refine sqQ.normal ?_
          refine KA.sub (Sub.cons (t := 0) Look.eq (Sub.cons (t := 8) Look.eq (Sub.cons (t := 9) Look.eq (Sub.cons (t := 42) Look.eq (Sub.cons (t := 43) Look.eq (Sub.nil _)))))) ?_
          refine KA.seq ?_
          refine KA.block ?_
          refine KA.seq ?_
          refine KA.region rfl ?_
          refine KOps.move ?_
          refine KOps.assign ?_
          refine KOps.done ?_
          refine sqQ.normal ?_
          refine KA.sub (Sub.cons (t := 0) Look.eq (Sub.cons (t := 8) Look.eq (Sub.cons (t := 9) Look.eq (Sub.cons (t := 10) Look.eq (Sub.cons (t := 42) Look.eq (Sub.cons (t := 43) Look.eq (Sub.nil _))))))) ?_
          refine KA.region rfl ?_
          refine KOps.move ?_
          refine KOps.move ?_
          refine KOps.add (by first | omega | (simp only [List.length_append, List.length_singleton, List.length_set]; omega)) (by first | omega | (simp only [List.length_append, List.length_singleton, List.length_set]; omega)) ?_
          refine KOps.mul (by have := factI_small (i + 1) (by omega); rw [factI] at this; omega) (by have := factI_small (i + 1) (by omega); rw [factI] at this; omega) ?_
          refine KOps.assign ?_
          refine KOps.done ?_
          refine blQ.normal ?_
          refine sqQ.normal ?_
          refine KA.sub (Sub.cons (t := 0) Look.eq (Sub.cons (t := 8) Look.eq (Sub.cons (t := 9) Look.eq (Sub.cons (t := 42) Look.eq (Sub.cons (t := 43) Look.eq (Sub.nil _)))))) ?_
          refine KA.region rfl ?_
          refine KOps.add (by first | omega | (simp only [List.length_append, List.length_singleton, List.length_set]; omega)) (by first | omega | (simp only [List.length_append, List.length_singleton, List.length_set]; omega)) ?_
          refine KOps.move ?_
          refine KOps.done ?_
          exact lpQ.normal (i + 1) (by repeat (first | exact Sub.nil _ | refine Sub.cons Look.eq ?_ | refine Sub.cons (Eq.trans Look.eq (congrArg (AV.int _) (by first | omega | (dsimp only; omega)))) ?_)) ⟨rfl, by omega⟩ (by omega)
        · intro c44
          have his : i = l.sum.toNat := by omega
          subst his
          refine KA.exit ?_
          refine sqQ.exit ?_
          refine lpQ.exit ?_
          refine blQ.here ?_
          refine sqQ.normal ?_
          refine KA.sub (Sub.cons (t := 0) Look.eq (Sub.cons (t := 8) Look.eq (Sub.cons (t := 9) Look.eq (Sub.nil _)))) ?_
          refine KA.seq ?_
          refine KA.seq ?_
          refine KA.region rfl ?_
          refine KOps.move ?_
          refine KOps.lenI hv ?_
          refine KOps.move ?_
          refine KOps.done ?_
          refine sqQ.normal ?_
          refine KA.block ?_
          refine KA.loop (X := Nat) (fun i => [(0, v), (8, .int .i64 (factI l.sum.toNat)), (9, .int .i64 (hooksTo l i)), (51, v), (52, .int .i64 (l.length : Int)), (53, .int .i64 (i : Int))]) (fun i h' => h = h' ∧ i ≤ l.length ∧ 1 ≤ hooksTo l i ∧ hooksTo l i ≤ 18 ^ ((l.take i).sum).toNat) (fun i => l.length - i) 0 (by repeat (first | exact Sub.nil _ | refine Sub.cons Look.eq ?_ | refine Sub.cons (Eq.trans Look.eq (congrArg (AV.int _) (by first | omega | (dsimp only; omega)))) ?_)) ?_ ?_
          · exact ⟨rfl, Nat.zero_le _, Int.le_refl 1, Int.le_refl 1⟩
          rintro i _ ⟨rfl, hi, hb1, hb2⟩
          have hS := St.refl h
          refine KA.seq ?_
          refine KA.region rfl ?_
          refine KOps.lss ?_
          refine KOps.done ?_
          refine sqQ.normal ?_
          refine KA.seq ?_
          refine KA.condD ?_ ?_
          · intro c54
            have hvi := hv1 i (by omega)
            have hsi := take_sum1 (l := l) (i := i) (by omega)
            have hsm := sum_mono (fun j hj2 => by have := hv1 j hj2; omega) (i + 1) l.length (by omega) (Nat.le_refl _)
            rw [List.take_length] at hsm
            have hsn : 0 ≤ (l.take i).sum := by have := sum_ge (fun j hj2 => (hv1 j hj2).1) i (by omega); omega
            refine KA.skip ?_
            refine sqQ.normal ?_
            refine KA.sub (Sub.cons (t := 0) Look.eq (Sub.cons (t := 8) Look.eq (Sub.cons (t := 9) Look.eq (Sub.cons (t := 51) Look.eq (Sub.cons (t := 52) Look.eq (Sub.cons (t := 53) Look.eq (Sub.nil _))))))) ?_
            refine KA.seq ?_
            refine KA.block ?_
            refine KA.seq ?_
            refine KA.region rfl ?_
            refine KOps.move ?_
            refine KOps.indexIJ hv (j := i) rfl (by first | omega | (simp; omega)) ?_
            intro p56 hp56
            refine KOps.loadI hp56 hv (by first | omega | (simp; omega)) ?_
            refine KOps.assign ?_
            refine KOps.assign ?_
            refine KOps.done ?_
            refine sqQ.normal ?_
            refine KA.sub (Sub.cons (t := 0) Look.eq (Sub.cons (t := 8) Look.eq (Sub.cons (t := 9) Look.eq (Sub.cons (t := 11) Look.eq (Sub.cons (t := 12) Look.eq (Sub.cons (t := 51) Look.eq (Sub.cons (t := 52) Look.eq (Sub.cons (t := 53) Look.eq (Sub.nil _))))))))) ?_
            refine KA.seq ?_
            refine KA.region rfl ?_
            refine KOps.move ?_
            refine KOps.move ?_
            refine KOps.done ?_
            refine sqQ.normal ?_
            refine KA.block ?_
            refine KA.loop (X := Nat) (fun k => [(0, v), (8, .int .i64 (factI l.sum.toNat)), (9, .int .i64 (hooksTo l i * hookRow l i k)), (11, .int .i64 (i : Int)), (12, .int .i64 (l.getD i 0)), (51, v), (52, .int .i64 (l.length : Int)), (53, .int .i64 (i : Int)), (58, .int .i64 (l.getD i 0)), (59, .int .i64 (k : Int))]) (fun k h' => h = h' ∧ k ≤ (l.getD i 0).toNat ∧ 1 ≤ (hooksTo l i * hookRow l i k) ∧ (hooksTo l i * hookRow l i k) ≤ 18 ^ (((l.take i).sum).toNat + k)) (fun k => (l.getD i 0).toNat - k) 0 (by repeat (first | exact Sub.nil _ | refine Sub.cons Look.eq ?_ | refine Sub.cons (Eq.trans Look.eq (congrArg (AV.int _) (by first | omega | (dsimp only; omega)))) ?_ | refine Sub.cons (Eq.trans Look.eq (congrArg (AV.int _) (by rw [hookRow, Int.mul_one]))) ?_)) ?_ ?_
            · refine ⟨rfl, Nat.zero_le _, ?_, ?_⟩ <;> rw [hookRow, Int.mul_one]
              · exact hb1
              · simpa using hb2
            rintro k _ ⟨rfl, hk, hb1, hb2⟩
            have hS := St.refl h
            refine KA.seq ?_
            refine KA.region rfl ?_
            refine KOps.lss ?_
            refine KOps.done ?_
            refine sqQ.normal ?_
            refine KA.seq ?_
            refine KA.condD ?_ ?_
            · intro c60
              have hk1 : k < (l.getD i 0).toNat := by omega
              refine KA.skip ?_
              refine sqQ.normal ?_
              refine KA.sub (Sub.cons (t := 0) Look.eq (Sub.cons (t := 8) Look.eq (Sub.cons (t := 9) Look.eq (Sub.cons (t := 11) Look.eq (Sub.cons (t := 12) Look.eq (Sub.cons (t := 51) Look.eq (Sub.cons (t := 52) Look.eq (Sub.cons (t := 53) Look.eq (Sub.cons (t := 58) Look.eq (Sub.cons (t := 59) Look.eq (Sub.nil _))))))))))) ?_
              refine KA.seq ?_
              refine KA.block ?_
              refine KA.seq ?_
              refine KA.region rfl ?_
              refine KOps.move ?_
              refine KOps.assign ?_
              refine KOps.done ?_
              refine sqQ.normal ?_
              refine KA.sub (Sub.cons (t := 0) Look.eq (Sub.cons (t := 8) Look.eq (Sub.cons (t := 9) Look.eq (Sub.cons (t := 11) Look.eq (Sub.cons (t := 12) Look.eq (Sub.cons (t := 13) Look.eq (Sub.cons (t := 51) Look.eq (Sub.cons (t := 52) Look.eq (Sub.cons (t := 53) Look.eq (Sub.cons (t := 58) Look.eq (Sub.cons (t := 59) Look.eq (Sub.nil _)))))))))))) ?_
              refine KA.seq ?_
              refine KA.region rfl ?_
              refine KOps.move ?_
              refine KOps.move ?_
              refine KOps.sub (by first | omega | (simp only [List.length_append, List.length_singleton, List.length_set]; omega)) (by first | omega | (simp only [List.length_append, List.length_singleton, List.length_set]; omega)) ?_
              refine KOps.assign ?_
              refine KOps.done ?_
              refine sqQ.normal ?_
              refine KA.sub (Sub.cons (t := 0) Look.eq (Sub.cons (t := 8) Look.eq (Sub.cons (t := 9) Look.eq (Sub.cons (t := 11) Look.eq (Sub.cons (t := 12) Look.eq (Sub.cons (t := 13) Look.eq (Sub.cons (t := 14) Look.eq (Sub.cons (t := 51) Look.eq (Sub.cons (t := 52) Look.eq (Sub.cons (t := 53) Look.eq (Sub.cons (t := 58) Look.eq (Sub.cons (t := 59) Look.eq (Sub.nil _))))))))))))) ?_
              refine KA.seq ?_
              refine KA.seq ?_
              refine KA.region rfl ?_
              refine KOps.move ?_
              refine KOps.move ?_
              refine KOps.add (by first | omega | (simp only [List.length_append, List.length_singleton, List.length_set]; omega)) (by first | omega | (simp only [List.length_append, List.length_singleton, List.length_set]; omega)) ?_
              refine KOps.sliceLo hv (m := l.length) (by simp) (by omega) (by omega) ?_
              intro v68 hp68
              have hv68 : Row h v68 (l.drop (i + 1)) := by
                have := Row.part hv hp68 (by omega)
                have e : ((i : Int) + 1).toNat = i + 1 := by omega
                rw [e, List.take_of_length_le (by rw [List.length_drop]; omega)] at this
                exact this
              refine KOps.lenI hv68 ?_
              refine KOps.move ?_
              refine KOps.done ?_
              refine sqQ.normal ?_
              refine KA.sub (Sub.cons (t := 0) Look.eq (Sub.cons (t := 8) Look.eq (Sub.cons (t := 9) Look.eq (Sub.cons (t := 11) Look.eq (Sub.cons (t := 12) Look.eq (Sub.cons (t := 13) Look.eq (Sub.cons (t := 14) Look.eq (Sub.cons (t := 51) Look.eq (Sub.cons (t := 52) Look.eq (Sub.cons (t := 53) Look.eq (Sub.cons (t := 58) Look.eq (Sub.cons (t := 59) Look.eq (Sub.cons (t := 68) Look.eq (Sub.cons (t := 69) Look.eq (Sub.cons (t := 70) Look.eq (Sub.nil _)))))))))))))))) ?_
              refine KA.block ?_
              refine KA.loop (X := Nat) (fun j => [(0, v), (8, .int .i64 (factI l.sum.toNat)), (9, .int .i64 (hooksTo l i * hookRow l i k)), (11, .int .i64 (i : Int)), (12, .int .i64 (l.getD i 0)), (13, .int .i64 (k : Int)), (14, .int .i64 (l.getD i 0 - k + (((l.drop (i + 1)).take j).countP fun m => decide ((k : Int) < m) : Nat))), (51, v), (52, .int .i64 (l.length : Int)), (53, .int .i64 (i : Int)), (58, .int .i64 (l.getD i 0)), (59, .int .i64 (k : Int)), (68, v68), (69, .int .i64 ((l.drop (i + 1)).length : Int)), (70, .int .i64 (j : Int))]) (fun j h' => h = h' ∧ j ≤ (l.drop (i + 1)).length) (fun j => (l.drop (i + 1)).length - j) 0 (by repeat (first | exact Sub.nil _ | refine Sub.cons Look.eq ?_ | refine Sub.cons (Eq.trans Look.eq (congrArg (AV.int _) (by first | omega | (dsimp only; omega)))) ?_ | refine Sub.cons (Eq.trans Look.eq (congrArg (AV.int _) (by simp))) ?_)) ⟨rfl, Nat.zero_le _⟩ ?_
              rintro j _ ⟨rfl, hj9⟩
              have hS := St.refl h
              have hdl9 : (l.drop (i + 1)).length = l.length - (i + 1) := List.length_drop
              have hcj := List.countP_le_length (p := fun m => decide ((k : Int) < m)) (l := (l.drop (i + 1)).take j)
              rw [List.length_take] at hcj
              refine KA.seq ?_
              refine KA.region rfl ?_
              refine KOps.lss ?_
              refine KOps.done ?_
              refine sqQ.normal ?_
              refine KA.seq ?_
              refine KA.condD ?_ ?_
              · intro c71
                refine KA.skip ?_
                refine sqQ.normal ?_
                refine KA.sub (Sub.cons (t := 0) Look.eq (Sub.cons (t := 8) Look.eq (Sub.cons (t := 9) Look.eq (Sub.cons (t := 11) Look.eq (Sub.cons (t := 12) Look.eq (Sub.cons (t := 13) Look.eq (Sub.cons (t := 14) Look.eq (Sub.cons (t := 51) Look.eq (Sub.cons (t := 52) Look.eq (Sub.cons (t := 53) Look.eq (Sub.cons (t := 58) Look.eq (Sub.cons (t := 59) Look.eq (Sub.cons (t := 68) Look.eq (Sub.cons (t := 69) Look.eq (Sub.cons (t := 70) Look.eq (Sub.nil _)))))))))))))))) ?_
                refine KA.seq ?_
                refine KA.block ?_
                refine KA.seq ?_
                refine KA.region rfl ?_
                refine KOps.indexIJ hv68 (j := j) rfl (by first | omega | (simp; omega)) ?_
                intro p72 hp72
                refine KOps.loadI hp72 hv68 (by first | omega | (simp; omega)) ?_
                refine KOps.assign ?_
                refine KOps.done ?_
                refine sqQ.normal ?_
                refine KA.sub (Sub.cons (t := 0) Look.eq (Sub.cons (t := 8) Look.eq (Sub.cons (t := 9) Look.eq (Sub.cons (t := 11) Look.eq (Sub.cons (t := 12) Look.eq (Sub.cons (t := 13) Look.eq (Sub.cons (t := 14) Look.eq (Sub.cons (t := 16) Look.eq (Sub.cons (t := 51) Look.eq (Sub.cons (t := 52) Look.eq (Sub.cons (t := 53) Look.eq (Sub.cons (t := 58) Look.eq (Sub.cons (t := 59) Look.eq (Sub.cons (t := 68) Look.eq (Sub.cons (t := 69) Look.eq (Sub.cons (t := 70) Look.eq (Sub.nil _))))))))))))))))) ?_
                refine KA.seq ?_
                refine KA.region rfl ?_
                refine KOps.move ?_
                refine KOps.move ?_
                refine KOps.gtr ?_
                refine KOps.done ?_
                refine sqQ.normal ?_
                refine KA.sub (Sub.cons (t := 0) Look.eq (Sub.cons (t := 8) Look.eq (Sub.cons (t := 9) Look.eq (Sub.cons (t := 11) Look.eq (Sub.cons (t := 12) Look.eq (Sub.cons (t := 13) Look.eq (Sub.cons (t := 14) Look.eq (Sub.cons (t := 51) Look.eq (Sub.cons (t := 52) Look.eq (Sub.cons (t := 53) Look.eq (Sub.cons (t := 58) Look.eq (Sub.cons (t := 59) Look.eq (Sub.cons (t := 68) Look.eq (Sub.cons (t := 69) Look.eq (Sub.cons (t := 70) Look.eq (Sub.cons (t := 76) Look.eq (Sub.nil _))))))))))))))))) ?_
                refine KA.condD ?_ ?_
                · intro c76
                  refine KA.region rfl ?_
                  refine KOps.move ?_
                  refine KOps.add (by first | omega | (simp only [List.length_append, List.length_singleton, List.length_set]; omega)) (by first | omega | (simp only [List.length_append, List.length_singleton, List.length_set]; omega)) ?_
                  refine KOps.assign ?_
                  refine KOps.done ?_
                  refine blQ.normal ?_
                  refine sqQ.normal ?_
                  refine KA.sub (Sub.cons (t := 0) Look.eq (Sub.cons (t := 8) Look.eq (Sub.cons (t := 9) Look.eq (Sub.cons (t := 11) Look.eq (Sub.cons (t := 12) Look.eq (Sub.cons (t := 13) Look.eq (Sub.cons (t := 14) Look.eq (Sub.cons (t := 51) Look.eq (Sub.cons (t := 52) Look.eq (Sub.cons (t := 53) Look.eq (Sub.cons (t := 58) Look.eq (Sub.cons (t := 59) Look.eq (Sub.cons (t := 68) Look.eq (Sub.cons (t := 69) Look.eq (Sub.cons (t := 70) Look.eq (Sub.nil _)))))))))))))))) ?_
                  refine KA.region rfl ?_
                  refine KOps.add (by first | omega | (simp only [List.length_append, List.length_singleton, List.length_set]; omega)) (by first | omega | (simp only [List.length_append, List.length_singleton, List.length_set]; omega)) ?_
                  refine KOps.move ?_
                  refine KOps.done ?_
                  have hct := count_take (p := fun m => decide ((k : Int) < m)) (l := l.drop (i + 1)) (i := j) (by omega)
                  rw [if_pos (decide_eq_true c76)] at hct
                  exact lpQ.normal (j + 1) (by repeat (first | exact Sub.nil _ | refine Sub.cons Look.eq ?_ | refine Sub.cons (Eq.trans Look.eq (congrArg (AV.int _) (by first | omega | (dsimp only; omega)))) ?_ | refine Sub.cons (Eq.trans Look.eq (congrArg (AV.int _) (by rw [hct]; omega))) ?_)) ⟨rfl, by omega⟩ (by omega)
                · intro c76
                  refine KA.skip ?_
                  refine blQ.normal ?_
                  refine sqQ.normal ?_
                  refine KA.sub (Sub.cons (t := 0) Look.eq (Sub.cons (t := 8) Look.eq (Sub.cons (t := 9) Look.eq (Sub.cons (t := 11) Look.eq (Sub.cons (t := 12) Look.eq (Sub.cons (t := 13) Look.eq (Sub.cons (t := 14) Look.eq (Sub.cons (t := 51) Look.eq (Sub.cons (t := 52) Look.eq (Sub.cons (t := 53) Look.eq (Sub.cons (t := 58) Look.eq (Sub.cons (t := 59) Look.eq (Sub.cons (t := 68) Look.eq (Sub.cons (t := 69) Look.eq (Sub.cons (t := 70) Look.eq (Sub.nil _)))))))))))))))) ?_
                  refine KA.region rfl ?_
                  refine KOps.add (by first | omega | (simp only [List.length_append, List.length_singleton, List.length_set]; omega)) (by first | omega | (simp only [List.length_append, List.length_singleton, List.length_set]; omega)) ?_
                  refine KOps.move ?_
                  refine KOps.done ?_
                  have hct := count_take (p := fun m => decide ((k : Int) < m)) (l := l.drop (i + 1)) (i := j) (by omega)
                  rw [if_neg (by rw [decide_eq_false c76]; exact Bool.false_ne_true), Nat.add_zero] at hct
                  exact lpQ.normal (j + 1) (by repeat (first | exact Sub.nil _ | refine Sub.cons Look.eq ?_ | refine Sub.cons (Eq.trans Look.eq (congrArg (AV.int _) (by first | omega | (dsimp only; omega)))) ?_ | refine Sub.cons (Eq.trans Look.eq (congrArg (AV.int _) (by rw [hct]))) ?_)) ⟨rfl, by omega⟩ (by omega)
              · intro c71
                have hdl : (l.drop (i + 1)).length = l.length - (i + 1) := List.length_drop
                have hie : j = (l.drop (i + 1)).length := by omega
                subst hie
                rw [List.take_length]
                have hcc : l.getD i 0 - k + (((l.drop (i + 1)).countP fun m => decide ((k : Int) < m) : Nat) : Int) = hookC l i k := rfl
                rw [hcc]
                have hcl := List.countP_le_length (p := fun m => decide ((k : Int) < m)) (l := l.drop (i + 1))
                have hc1 : 1 ≤ hookC l i k ∧ hookC l i k ≤ 18 := by unfold hookC; omega
                have hmb := mulB hb1 hb2 hc1.1 hc1.2
                have hp9 := pow18 (c := ((l.take i).sum).toNat + k + 1) (by omega)
                refine KA.exit ?_
                refine sqQ.exit ?_
                refine lpQ.exit ?_
                refine blQ.here ?_
                refine sqQ.normal ?_
                refine KA.sub (Sub.cons (t := 0) Look.eq (Sub.cons (t := 8) Look.eq (Sub.cons (t := 9) Look.eq (Sub.cons (t := 11) Look.eq (Sub.cons (t := 12) Look.eq (Sub.cons (t := 14) Look.eq (Sub.cons (t := 51) Look.eq (Sub.cons (t := 52) Look.eq (Sub.cons (t := 53) Look.eq (Sub.cons (t := 58) Look.eq (Sub.cons (t := 59) Look.eq (Sub.nil _)))))))))))) ?_
                refine KA.region rfl ?_
                refine KOps.move ?_
                refine KOps.move ?_
                refine KOps.mul (by omega) (by omega) ?_
                refine KOps.assign ?_
                refine KOps.done ?_
                refine blQ.normal ?_
                refine sqQ.normal ?_
                refine KA.sub (Sub.cons (t := 0) Look.eq (Sub.cons (t := 8) Look.eq (Sub.cons (t := 9) Look.eq (Sub.cons (t := 11) Look.eq (Sub.cons (t := 12) Look.eq (Sub.cons (t := 51) Look.eq (Sub.cons (t := 52) Look.eq (Sub.cons (t := 53) Look.eq (Sub.cons (t := 58) Look.eq (Sub.cons (t := 59) Look.eq (Sub.nil _))))))))))) ?_
                refine KA.region rfl ?_
                refine KOps.add (by first | omega | (simp only [List.length_append, List.length_singleton, List.length_set]; omega)) (by first | omega | (simp only [List.length_append, List.length_singleton, List.length_set]; omega)) ?_
                refine KOps.move ?_
                refine KOps.done ?_
                refine lpQ.normal (k + 1) (by repeat (first | exact Sub.nil _ | refine Sub.cons Look.eq ?_ | refine Sub.cons (Eq.trans Look.eq (congrArg (AV.int _) (by first | omega | (dsimp only; omega)))) ?_ | refine Sub.cons (Eq.trans Look.eq (congrArg (AV.int _) (by rw [hookRow, ← Int.mul_assoc]))) ?_)) ⟨rfl, by omega, ?_, ?_⟩ (by omega) <;> rw [hookRow, ← Int.mul_assoc]
                · exact hmb.1
                · exact hmb.2
            · intro c60
              refine KA.exit ?_
              refine sqQ.exit ?_
              refine lpQ.exit ?_
              refine blQ.here ?_
              refine blQ.normal ?_
              refine sqQ.normal ?_
              refine KA.sub (Sub.cons (t := 0) Look.eq (Sub.cons (t := 8) Look.eq (Sub.cons (t := 9) Look.eq (Sub.cons (t := 51) Look.eq (Sub.cons (t := 52) Look.eq (Sub.cons (t := 53) Look.eq (Sub.nil _))))))) ?_
              refine KA.region rfl ?_
              refine KOps.add (by first | omega | (simp only [List.length_append, List.length_singleton, List.length_set]; omega)) (by first | omega | (simp only [List.length_append, List.length_singleton, List.length_set]; omega)) ?_
              refine KOps.move ?_
              refine KOps.done ?_
              have hke : k = (l.getD i 0).toNat := by omega
              subst hke
              refine lpQ.normal (i + 1) (by repeat (first | exact Sub.nil _ | refine Sub.cons Look.eq ?_ | refine Sub.cons (Eq.trans Look.eq (congrArg (AV.int _) (by first | omega | (dsimp only; omega)))) ?_)) ⟨rfl, by omega, hb1, ?_⟩ (by omega)
              have e : ((l.take (i + 1)).sum).toNat = ((l.take i).sum).toNat + (l.getD i 0).toNat := by omega
              rw [e]
              exact hb2
          · intro c54
            have hie : i = l.length := by omega
            subst hie
            have hqb := tabS_le l.sum.toNat l (by omega)
            have hp9 : ∀ d : Nat, d ≤ 9 → (9 : Int) ^ d ≤ 387420489 := by decide
            have hp9 := hp9 l.sum.toNat (by omega)
            rw [hooks_is hce] at hqb
            refine KA.exit ?_
            refine sqQ.exit ?_
            refine lpQ.exit ?_
            refine blQ.here ?_
            refine sqQ.normal ?_
            refine KA.sub (Sub.cons (t := 8) Look.eq (Sub.cons (t := 9) Look.eq (Sub.nil _))) ?_
            refine KA.seq ?_
            refine KA.region rfl ?_
            refine KOps.move ?_
            refine KOps.move ?_
            refine KOps.quo (by omega) (by omega) (by omega) ?_
            refine KOps.assign ?_
            refine KOps.assign ?_
            refine KOps.done ?_
            refine sqQ.normal ?_
            refine KA.sub (Sub.cons (t := 2) Look.eq (Sub.cons (t := 3) Look.eq (Sub.nil _))) ?_
            refine KA.ret ?_
            refine fnQ.retN ?_
            exact ⟨by rw [hce, if_pos rfl, hooks_is hce], hS⟩

theorem refTab_c (d : Nat) : ∀ {h : AHeap} {v : AV} {l : List Int}, Row h v l → l.length ≤ 9 → (∀ j, j < l.length → 0 ≤ l.getD j 0) → l.sum = (d : Int) → d ≤ 9 → ACalls Go.Proofs.Try.prog 83 [v] h (fun r h' => r = .int .i64 (tabS d l) ∧ St h h' []) := by
  induction d using Nat.strongRecOn
  rename_i d ih
  intro h v l hv hlen hpos hsum hd9
  refine KA.fn 59 [.tmp 2] Go.Proofs.Try.func83 rfl (by decide) rfl rfl (Nat.le_of_ble_eq_true rfl) ?_
  have hS := St.refl h
  show KA _ 59 _ _ [(0, v)] _
  refine KA.seq ?_
  refine KA.region rfl ?_
  refine KOps.assign ?_
  refine KOps.done ?_
  refine sqQ.normal ?_
  refine KA.sub (Sub.cons (t := 0) Look.eq (Sub.nil _)) ?_
  refine KA.seq ?_
  refine KA.region rfl ?_
  refine KOps.assign ?_
  refine KOps.assign ?_
  refine KOps.done ?_
  refine sqQ.normal ?_
  refine KA.seq ?_
  refine KA.seq ?_
  refine KA.region rfl ?_
  refine KOps.assign ?_
  refine KOps.done ?_
  refine sqQ.normal ?_
  refine KA.block ?_
  refine KA.loop (X := Nat) (fun i => [(0, v), (3, .int .i64 (tabO d l i)), (4, .int .i64 (l.take i).sum), (5, .int .i64 (i : Int))]) (fun i h' => i ≤ l.length ∧ St h h' []) (fun i => l.length - i) 0 (by repeat (first | exact Sub.nil _ | refine Sub.cons Look.eq ?_ | refine Sub.cons (Eq.trans Look.eq (congrArg (AV.int _) (by first | omega | (dsimp only; omega)))) ?_)) ⟨Nat.zero_le _, hS⟩ ?_
  rintro i h1 ⟨hi, hS⟩
  have hv1 := Row.ext hS.keeps hv
  have hsn : 0 ≤ (l.take i).sum := by have := sum_mono hpos 0 i (Nat.zero_le _) hi; simpa using this
  have hsm := sum_mono hpos i l.length hi (Nat.le_refl _)
  rw [List.take_length] at hsm
  have htb0 := tabO_le hd9 hlen i (by omega)
  refine KA.seq ?_
  refine KA.seq ?_
  refine KA.region rfl ?_
  refine KOps.move ?_
  refine KOps.move ?_
  refine KOps.lenI hv1 ?_
  refine KOps.lss ?_
  refine KOps.done ?_
  refine sqQ.normal ?_
  refine KA.sub (Sub.cons (t := 0) Look.eq (Sub.cons (t := 3) Look.eq (Sub.cons (t := 4) Look.eq (Sub.cons (t := 5) Look.eq (Sub.cons (t := 10) Look.eq (Sub.nil _)))))) ?_
  refine KA.condD ?_ ?_
  · intro c10
    have hli := hpos i (by omega)
    have hsi := take_sum1 (l := l) (i := i) (by omega)
    have hsm2 := sum_mono hpos (i + 1) l.length (by omega) (Nat.le_refl _)
    rw [List.take_length] at hsm2
    have hst := tabO_succ d l i
    have htb := tabO_le hd9 hlen (i + 1) (by omega)
    refine KA.skip ?_
    refine sqQ.normal ?_
    refine KA.sub (Sub.cons (t := 0) Look.eq (Sub.cons (t := 3) Look.eq (Sub.cons (t := 4) Look.eq (Sub.cons (t := 5) Look.eq (Sub.nil _))))) ?_
    refine KA.seq ?_
    refine KA.block ?_
    refine KA.seq ?_
    refine KA.region rfl ?_
    refine KOps.move ?_
    refine KOps.move ?_
    refine KOps.move ?_
    refine KOps.indexIJ hv1 (j := i) rfl (by first | omega | (simp; omega)) ?_
    intro p16 hp16
    refine KOps.loadI hp16 hv1 (by first | omega | (simp; omega)) ?_
    refine KOps.add (by first | omega | (simp only [List.length_append, List.length_singleton, List.length_set]; omega)) (by first | omega | (simp only [List.length_append, List.length_singleton, List.length_set]; omega)) ?_
    refine KOps.assign ?_
    refine KOps.done ?_
    refine sqQ.normal ?_
    refine KA.sub (Sub.cons (t := 0) Look.eq (Sub.cons (t := 3) Look.eq (Sub.cons (t := 4) Look.eq (Sub.cons (t := 5) Look.eq (Sub.nil _))))) ?_
    refine KA.seq ?_
    refine KA.draw [] mixed rfl (by kernel_rfl) ?_
    refine KOps.move ?_
    refine KOps.move ?_
    refine KOps.indexIJ hv1 (j := i) rfl (by first | omega | (simp; omega)) ?_
    intro p21 hp21
    refine KOps.loadI hp21 hv1 (by first | omega | (simp; omega)) ?_
    refine KOps.gtr ?_
    refine KOps.move ?_
    refine KOps.guardB (dj := 24) rfl rfl true false rfl ?_ ?_
    · intro g24
      have g24 := of_decide_eq_true g24
      refine KOps.move ?_
      refine KOps.guardYes (dj := 24) rfl rfl ?_
      refine KOps.move ?_
      refine KOps.guardYes (dj := 24) rfl rfl ?_
      refine KOps.lenI hv1 ?_
      refine KOps.guardYes (dj := 24) rfl rfl ?_
      refine KOps.sub (by first | omega | (simp only [List.length_append, List.length_singleton, List.length_set]; omega)) (by first | omega | (simp only [List.length_append, List.length_singleton, List.length_set]; omega)) ?_
      refine KOps.guardYes (dj := 24) rfl rfl ?_
      refine KOps.eql ?_
      refine KOps.guardYes (dj := 24) rfl rfl ?_
      refine KOps.move ?_
      refine KOps.guardB (dj := 30) rfl rfl false true rfl ?_ ?_
      · intro g30
        have g30 := of_decide_eq_false g30
        refine KOps.move ?_
        refine KOps.guardYes (dj := 30) rfl rfl ?_
        refine KOps.move ?_
        refine KOps.guardYes (dj := 30) rfl rfl ?_
        refine KOps.indexIJ hv1 (j := i) rfl (by first | omega | (simp; omega)) ?_
        intro p33 hp33
        refine KOps.guardYes (dj := 30) rfl rfl ?_
        refine KOps.loadI hp33 hv1 (by first | omega | (simp; omega)) ?_
        refine KOps.guardYes (dj := 30) rfl rfl ?_
        refine KOps.move ?_
        refine KOps.guardYes (dj := 30) rfl rfl ?_
        refine KOps.move ?_
        refine KOps.guardYes (dj := 30) rfl rfl ?_
        refine KOps.add (by first | omega | (simp only [List.length_append, List.length_singleton, List.length_set]; omega)) (by first | omega | (simp only [List.length_append, List.length_singleton, List.length_set]; omega)) ?_
        refine KOps.guardYes (dj := 30) rfl rfl ?_
        refine KOps.indexIJ hv1 (j := (i + 1)) (by first | omega | (simp only [List.length_append, List.length_singleton, List.length_set]; omega)) (by first | omega | (simp; omega)) ?_
        intro p38 hp38
        refine KOps.guardYes (dj := 30) rfl rfl ?_
        refine KOps.loadI hp38 hv1 (by first | omega | (simp; omega)) ?_
        refine KOps.guardYes (dj := 30) rfl rfl ?_
        refine KOps.gtr ?_
        refine KOps.guardYes (dj := 24) rfl rfl ?_
        refine KOps.pickF ?_
        refine KOps.pickT ?_
        refine KOps.done ?_
        refine sqQ.normal ?_
        refine KA.sub (Sub.cons (t := 0) Look.eq (Sub.cons (t := 3) Look.eq (Sub.cons (t := 4) Look.eq (Sub.cons (t := 5) Look.eq (Sub.cons (t := 25) Look.eq (Sub.cons (t := 26) Look.eq (Sub.cons (t := 27) Look.eq (Sub.cons (t := 28) Look.eq (Sub.cons (t := 29) Look.eq (Sub.cons (t := 30) Look.eq (Sub.cons (t := 31) Look.eq (Sub.cons (t := 32) Look.eq (Sub.cons (t := 33) Look.eq (Sub.cons (t := 34) Look.eq (Sub.cons (t := 35) Look.eq (Sub.cons (t := 36) Look.eq (Sub.cons (t := 37) Look.eq (Sub.cons (t := 38) Look.eq (Sub.cons (t := 39) Look.eq (Sub.cons (t := 40) Look.eq (Sub.cons (t := 41) Look.eq (Sub.cons (t := 42) Look.eq (Sub.nil _))))))))))))))))))))))) ?_
        refine KA.condD ?_ ?_
        · intro c42
          refine KA.seq ?_
          refine KA.region rfl ?_
          refine KOps.buildSlice hS rfl (by decide) rfl ?_
          intro v43 h' hS
          refine KOps.move ?_
          refine KOps.appendAll hS (fun _ => rfl) (i := 0) (p := []) rfl (Row.ext hS.keeps hv) (by rw [List.length_nil]; omega) ?_
          intro r45 h6 hr45 hS
          simp only [List.set_cons_zero, List.nil_append] at hS
          refine KOps.assign ?_
          refine KOps.done ?_
          refine sqQ.normal ?_
          refine KA.sub (Sub.cons (t := 0) Look.eq (Sub.cons (t := 3) Look.eq (Sub.cons (t := 4) Look.eq (Sub.cons (t := 5) Look.eq (Sub.cons (t := 6) Look.eq (Sub.cons (t := 25) Look.eq (Sub.cons (t := 26) Look.eq (Sub.cons (t := 27) Look.eq (Sub.cons (t := 28) Look.eq (Sub.cons (t := 29) Look.eq (Sub.cons (t := 30) Look.eq (Sub.cons (t := 31) Look.eq (Sub.cons (t := 32) Look.eq (Sub.cons (t := 33) Look.eq (Sub.cons (t := 34) Look.eq (Sub.cons (t := 35) Look.eq (Sub.cons (t := 36) Look.eq (Sub.cons (t := 37) Look.eq (Sub.cons (t := 38) Look.eq (Sub.cons (t := 39) Look.eq (Sub.cons (t := 40) Look.eq (Sub.cons (t := 41) Look.eq (Sub.nil _))))))))))))))))))))))) ?_
          refine KA.seq ?_
          refine KA.region rfl ?_
          refine KOps.move ?_
          refine KOps.move ?_
          refine KOps.indexIJ (hS.rd 0 rfl) (j := i) rfl (by first | omega | (simp; omega)) ?_
          intro p48 hp48
          refine KOps.loadI hp48 (hS.rd 0 rfl) (by first | omega | (simp; omega)) ?_
          refine KOps.sub (by first | omega | (simp only [List.length_append, List.length_singleton, List.length_set]; omega)) (by first | omega | (simp only [List.length_append, List.length_singleton, List.length_set]; omega)) ?_
          refine KOps.indexIJ (hS.rd 0 rfl) (j := i) rfl (by first | omega | (simp; omega)) ?_
          intro p51 hp51
          refine KOps.storeI hS rfl (i := 0) rfl hp51 (by first | omega | (simp; omega)) ?_
          intro h' hS
          simp only [List.set_cons_zero] at hS
          refine KOps.done ?_
          refine sqQ.normal ?_
          refine KA.sub (Sub.cons (t := 0) Look.eq (Sub.cons (t := 3) Look.eq (Sub.cons (t := 4) Look.eq (Sub.cons (t := 5) Look.eq (Sub.cons (t := 6) Look.eq (Sub.cons (t := 25) Look.eq (Sub.cons (t := 26) Look.eq (Sub.cons (t := 27) Look.eq (Sub.cons (t := 28) Look.eq (Sub.cons (t := 29) Look.eq (Sub.cons (t := 30) Look.eq (Sub.cons (t := 31) Look.eq (Sub.cons (t := 32) Look.eq (Sub.cons (t := 33) Look.eq (Sub.cons (t := 34) Look.eq (Sub.cons (t := 35) Look.eq (Sub.cons (t := 36) Look.eq (Sub.cons (t := 37) Look.eq (Sub.cons (t := 38) Look.eq (Sub.cons (t := 39) Look.eq (Sub.cons (t := 40) Look.eq (Sub.cons (t := 41) Look.eq (Sub.nil _))))))))))))))))))))))) ?_
          refine KA.region rfl ?_
          refine KOps.move ?_
          refine KOps.move ?_
          refine KOps.call rfl (ih (d - 1) (by omega) (hS.rd 0 rfl) (by rw [List.length_set]; exact hlen) (fun j hj => by rw [set_getD (by omega)]; have := hpos j (by simpa using hj); split <;> omega) (by rw [sum_set (by omega)]; omega) (by omega)) ?_
          rintro _ h54 ⟨rfl, hS54⟩
          have hS := St.trans hS hS54
          have hT : tabT d l i = tabS (d - 1) (l.set i (l.getD i 0 - 1)) := if_pos ⟨by omega, by omega⟩
          rw [hst, hT] at htb
          refine KOps.add (by first | omega | (simp only [List.length_append, List.length_singleton, List.length_set]; omega)) (by first | omega | (simp only [List.length_append, List.length_singleton, List.length_set]; omega)) ?_
          refine KOps.assign ?_
          refine KOps.done ?_
          refine blQ.normal ?_
          refine sqQ.normal ?_
          refine KA.sub (Sub.cons (t := 0) Look.eq (Sub.cons (t := 3) Look.eq (Sub.cons (t := 4) Look.eq (Sub.cons (t := 5) Look.eq (Sub.cons (t := 25) Look.eq (Sub.cons (t := 26) Look.eq (Sub.cons (t := 27) Look.eq (Sub.cons (t := 28) Look.eq (Sub.cons (t := 29) Look.eq (Sub.cons (t := 30) Look.eq (Sub.cons (t := 31) Look.eq (Sub.cons (t := 32) Look.eq (Sub.cons (t := 33) Look.eq (Sub.cons (t := 34) Look.eq (Sub.cons (t := 35) Look.eq (Sub.cons (t := 36) Look.eq (Sub.cons (t := 37) Look.eq (Sub.cons (t := 38) Look.eq (Sub.cons (t := 39) Look.eq (Sub.cons (t := 40) Look.eq (Sub.cons (t := 41) Look.eq (Sub.nil _)))))))))))))))))))))) ?_
          refine KA.region rfl ?_
          refine KOps.move ?_
          refine KOps.add (by first | omega | (simp only [List.length_append, List.length_singleton, List.length_set]; omega)) (by first | omega | (simp only [List.length_append, List.length_singleton, List.length_set]; omega)) ?_
          refine KOps.assign ?_
          refine KOps.done ?_
          exact lpQ.normal (i + 1) (by repeat (first | exact Sub.nil _ | refine Sub.cons Look.eq ?_ | refine Sub.cons (Eq.trans Look.eq (congrArg (AV.int _) (by first | omega | (dsimp only; omega)))) ?_ | refine Sub.cons (Eq.trans Look.eq (congrArg (AV.int _) (by rw [hst, hT]))) ?_ | refine Sub.cons (Eq.trans Look.eq (congrArg (AV.int _) (by rw [hsi]))) ?_)) ⟨by omega, St.tail hS⟩ (by omega)
        · intro c42
          refine KA.skip ?_
          refine blQ.normal ?_
          refine sqQ.normal ?_
          refine KA.sub (Sub.cons (t := 0) Look.eq (Sub.cons (t := 3) Look.eq (Sub.cons (t := 4) Look.eq (Sub.cons (t := 5) Look.eq (Sub.cons (t := 25) Look.eq (Sub.cons (t := 26) Look.eq (Sub.cons (t := 27) Look.eq (Sub.cons (t := 28) Look.eq (Sub.cons (t := 29) Look.eq (Sub.cons (t := 30) Look.eq (Sub.cons (t := 31) Look.eq (Sub.cons (t := 32) Look.eq (Sub.cons (t := 33) Look.eq (Sub.cons (t := 34) Look.eq (Sub.cons (t := 35) Look.eq (Sub.cons (t := 36) Look.eq (Sub.cons (t := 37) Look.eq (Sub.cons (t := 38) Look.eq (Sub.cons (t := 39) Look.eq (Sub.cons (t := 40) Look.eq (Sub.cons (t := 41) Look.eq (Sub.nil _)))))))))))))))))))))) ?_
          refine KA.region rfl ?_
          refine KOps.move ?_
          refine KOps.add (by first | omega | (simp only [List.length_append, List.length_singleton, List.length_set]; omega)) (by first | omega | (simp only [List.length_append, List.length_singleton, List.length_set]; omega)) ?_
          refine KOps.assign ?_
          refine KOps.done ?_
          have hT : tabT d l i = 0 := if_neg (by omega)
          exact lpQ.normal (i + 1) (by repeat (first | exact Sub.nil _ | refine Sub.cons Look.eq ?_ | refine Sub.cons (Eq.trans Look.eq (congrArg (AV.int _) (by first | omega | (dsimp only; omega)))) ?_ | refine Sub.cons (Eq.trans Look.eq (congrArg (AV.int _) (by rw [hst, hT, Int.add_zero]))) ?_ | refine Sub.cons (Eq.trans Look.eq (congrArg (AV.int _) (by rw [hsi]))) ?_)) ⟨by omega, hS⟩ (by omega)
      · intro g30
        have g30 := of_decide_eq_true g30
        refine KOps.guardNo (dj := 30) rfl rfl rfl ?_
        refine KOps.guardNo (dj := 30) rfl rfl rfl ?_
        refine KOps.guardNo (dj := 30) rfl rfl rfl ?_
        refine KOps.guardNo (dj := 30) rfl rfl rfl ?_
        refine KOps.guardNo (dj := 30) rfl rfl rfl ?_
        refine KOps.guardNo (dj := 30) rfl rfl rfl ?_
        refine KOps.guardNo (dj := 30) rfl rfl rfl ?_
        refine KOps.guardNo (dj := 30) rfl rfl rfl ?_
        refine KOps.guardNo (dj := 30) rfl rfl rfl ?_
        refine KOps.guardYes (dj := 24) rfl rfl ?_
        refine KOps.pickT ?_
        refine KOps.pickT ?_
        refine KOps.done ?_
        refine sqQ.normal ?_
        refine KA.sub (Sub.cons (t := 0) Look.eq (Sub.cons (t := 3) Look.eq (Sub.cons (t := 4) Look.eq (Sub.cons (t := 5) Look.eq (Sub.cons (t := 25) Look.eq (Sub.cons (t := 26) Look.eq (Sub.cons (t := 27) Look.eq (Sub.cons (t := 28) Look.eq (Sub.cons (t := 29) Look.eq (Sub.cons (t := 30) Look.eq (Sub.cons (t := 31) Look.eq (Sub.cons (t := 32) Look.eq (Sub.cons (t := 33) Look.eq (Sub.cons (t := 34) Look.eq (Sub.cons (t := 35) Look.eq (Sub.cons (t := 36) Look.eq (Sub.cons (t := 37) Look.eq (Sub.cons (t := 38) Look.eq (Sub.cons (t := 39) Look.eq (Sub.cons (t := 40) Look.eq (Sub.cons (t := 41) Look.eq (Sub.cons (t := 42) Look.eq (Sub.nil _))))))))))))))))))))))) ?_
        refine KA.condT ?_
        refine KA.seq ?_
        refine KA.region rfl ?_
        refine KOps.buildSlice hS rfl (by decide) rfl ?_
        intro v43 h' hS
        refine KOps.move ?_
        refine KOps.appendAll hS (fun _ => rfl) (i := 0) (p := []) rfl (Row.ext hS.keeps hv) (by rw [List.length_nil]; omega) ?_
        intro r45 h6 hr45 hS
        simp only [List.set_cons_zero, List.nil_append] at hS
        refine KOps.assign ?_
        refine KOps.done ?_
        refine sqQ.normal ?_
        refine KA.sub (Sub.cons (t := 0) Look.eq (Sub.cons (t := 3) Look.eq (Sub.cons (t := 4) Look.eq (Sub.cons (t := 5) Look.eq (Sub.cons (t := 6) Look.eq (Sub.cons (t := 25) Look.eq (Sub.cons (t := 26) Look.eq (Sub.cons (t := 27) Look.eq (Sub.cons (t := 28) Look.eq (Sub.cons (t := 29) Look.eq (Sub.cons (t := 30) Look.eq (Sub.cons (t := 31) Look.eq (Sub.cons (t := 32) Look.eq (Sub.cons (t := 33) Look.eq (Sub.cons (t := 34) Look.eq (Sub.cons (t := 35) Look.eq (Sub.cons (t := 36) Look.eq (Sub.cons (t := 37) Look.eq (Sub.cons (t := 38) Look.eq (Sub.cons (t := 39) Look.eq (Sub.cons (t := 40) Look.eq (Sub.cons (t := 41) Look.eq (Sub.nil _))))))))))))))))))))))) ?_
        refine KA.seq ?_
        refine KA.region rfl ?_
        refine KOps.move ?_
        refine KOps.move ?_
        refine KOps.indexIJ (hS.rd 0 rfl) (j := i) rfl (by first | omega | (simp; omega)) ?_
        intro p48 hp48
        refine KOps.loadI hp48 (hS.rd 0 rfl) (by first | omega | (simp; omega)) ?_
        refine KOps.sub (by first | omega | (simp only [List.length_append, List.length_singleton, List.length_set]; omega)) (by first | omega | (simp only [List.length_append, List.length_singleton, List.length_set]; omega)) ?_
        refine KOps.indexIJ (hS.rd 0 rfl) (j := i) rfl (by first | omega | (simp; omega)) ?_
        intro p51 hp51
        refine KOps.storeI hS rfl (i := 0) rfl hp51 (by first | omega | (simp; omega)) ?_
        intro h' hS
        simp only [List.set_cons_zero] at hS
        refine KOps.done ?_
        refine sqQ.normal ?_
        refine KA.sub (Sub.cons (t := 0) Look.eq (Sub.cons (t := 3) Look.eq (Sub.cons (t := 4) Look.eq (Sub.cons (t := 5) Look.eq (Sub.cons (t := 6) Look.eq (Sub.cons (t := 25) Look.eq (Sub.cons (t := 26) Look.eq (Sub.cons (t := 27) Look.eq (Sub.cons (t := 28) Look.eq (Sub.cons (t := 29) Look.eq (Sub.cons (t := 30) Look.eq (Sub.cons (t := 31) Look.eq (Sub.cons (t := 32) Look.eq (Sub.cons (t := 33) Look.eq (Sub.cons (t := 34) Look.eq (Sub.cons (t := 35) Look.eq (Sub.cons (t := 36) Look.eq (Sub.cons (t := 37) Look.eq (Sub.cons (t := 38) Look.eq (Sub.cons (t := 39) Look.eq (Sub.cons (t := 40) Look.eq (Sub.cons (t := 41) Look.eq (Sub.nil _))))))))))))))))))))))) ?_
        refine KA.region rfl ?_
        refine KOps.move ?_
        refine KOps.move ?_
        refine KOps.call rfl (ih (d - 1) (by omega) (hS.rd 0 rfl) (by rw [List.length_set]; exact hlen) (fun j hj => by rw [set_getD (by omega)]; have := hpos j (by simpa using hj); split <;> omega) (by rw [sum_set (by omega)]; omega) (by omega)) ?_
        rintro _ h54 ⟨rfl, hS54⟩
        have hS := St.trans hS hS54
        have hT : tabT d l i = tabS (d - 1) (l.set i (l.getD i 0 - 1)) := if_pos ⟨by omega, by omega⟩
        rw [hst, hT] at htb
        refine KOps.add (by first | omega | (simp only [List.length_append, List.length_singleton, List.length_set]; omega)) (by first | omega | (simp only [List.length_append, List.length_singleton, List.length_set]; omega)) ?_
        refine KOps.assign ?_
        refine KOps.done ?_
        refine blQ.normal ?_
        refine sqQ.normal ?_
        refine KA.sub (Sub.cons (t := 0) Look.eq (Sub.cons (t := 3) Look.eq (Sub.cons (t := 4) Look.eq (Sub.cons (t := 5) Look.eq (Sub.cons (t := 25) Look.eq (Sub.cons (t := 26) Look.eq (Sub.cons (t := 27) Look.eq (Sub.cons (t := 28) Look.eq (Sub.cons (t := 29) Look.eq (Sub.cons (t := 30) Look.eq (Sub.cons (t := 31) Look.eq (Sub.cons (t := 32) Look.eq (Sub.cons (t := 33) Look.eq (Sub.cons (t := 34) Look.eq (Sub.cons (t := 35) Look.eq (Sub.cons (t := 36) Look.eq (Sub.cons (t := 37) Look.eq (Sub.cons (t := 38) Look.eq (Sub.cons (t := 39) Look.eq (Sub.cons (t := 40) Look.eq (Sub.cons (t := 41) Look.eq (Sub.nil _)))))))))))))))))))))) ?_
        refine KA.region rfl ?_
        refine KOps.move ?_
        refine KOps.add (by first | omega | (simp only [List.length_append, List.length_singleton, List.length_set]; omega)) (by first | omega | (simp only [List.length_append, List.length_singleton, List.length_set]; omega)) ?_
        refine KOps.assign ?_
        refine KOps.done ?_
        exact lpQ.normal (i + 1) (by repeat (first | exact Sub.nil _ | refine Sub.cons Look.eq ?_ | refine Sub.cons (Eq.trans Look.eq (congrArg (AV.int _) (by first | omega | (dsimp only; omega)))) ?_ | refine Sub.cons (Eq.trans Look.eq (congrArg (AV.int _) (by rw [hst, hT]))) ?_ | refine Sub.cons (Eq.trans Look.eq (congrArg (AV.int _) (by rw [hsi]))) ?_)) ⟨by omega, St.tail hS⟩ (by omega)
    · intro g24
      have g24 := of_decide_eq_false g24
      refine KOps.guardNo (dj := 24) rfl rfl rfl ?_
      refine KOps.guardNo (dj := 24) rfl rfl rfl ?_
      refine KOps.guardNo (dj := 24) rfl rfl rfl ?_
      refine KOps.guardNo (dj := 24) rfl rfl rfl ?_
      refine KOps.guardNo (dj := 24) rfl rfl rfl ?_
      refine KOps.guardTup (dj := 30) rfl rfl ?_
      refine KOps.guardTup (dj := 30) rfl rfl ?_
      refine KOps.guardTup (dj := 30) rfl rfl ?_
      refine KOps.guardTup (dj := 30) rfl rfl ?_
      refine KOps.guardTup (dj := 30) rfl rfl ?_
      refine KOps.guardTup (dj := 30) rfl rfl ?_
      refine KOps.guardTup (dj := 30) rfl rfl ?_
      refine KOps.guardTup (dj := 30) rfl rfl ?_
      refine KOps.guardTup (dj := 30) rfl rfl ?_
      refine KOps.guardTup (dj := 30) rfl rfl ?_
      refine KOps.guardNo (dj := 24) rfl rfl rfl ?_
      refine KOps.pickF ?_
      refine KOps.done ?_
      refine sqQ.normal ?_
      refine KA.sub (Sub.cons (t := 0) Look.eq (Sub.cons (t := 3) Look.eq (Sub.cons (t := 4) Look.eq (Sub.cons (t := 5) Look.eq (Sub.cons (t := 25) Look.eq (Sub.cons (t := 26) Look.eq (Sub.cons (t := 27) Look.eq (Sub.cons (t := 28) Look.eq (Sub.cons (t := 29) Look.eq (Sub.cons (t := 30) Look.eq (Sub.cons (t := 31) Look.eq (Sub.cons (t := 32) Look.eq (Sub.cons (t := 33) Look.eq (Sub.cons (t := 34) Look.eq (Sub.cons (t := 35) Look.eq (Sub.cons (t := 36) Look.eq (Sub.cons (t := 37) Look.eq (Sub.cons (t := 38) Look.eq (Sub.cons (t := 39) Look.eq (Sub.cons (t := 40) Look.eq (Sub.cons (t := 41) Look.eq (Sub.cons (t := 42) Look.eq (Sub.nil _))))))))))))))))))))))) ?_
      refine KA.condF ?_
      refine KA.skip ?_
      refine blQ.normal ?_
      refine sqQ.normal ?_
      refine KA.sub (Sub.cons (t := 0) Look.eq (Sub.cons (t := 3) Look.eq (Sub.cons (t := 4) Look.eq (Sub.cons (t := 5) Look.eq (Sub.cons (t := 25) Look.eq (Sub.cons (t := 26) Look.eq (Sub.cons (t := 27) Look.eq (Sub.cons (t := 28) Look.eq (Sub.cons (t := 29) Look.eq (Sub.cons (t := 30) Look.eq (Sub.cons (t := 31) Look.eq (Sub.cons (t := 32) Look.eq (Sub.cons (t := 33) Look.eq (Sub.cons (t := 34) Look.eq (Sub.cons (t := 35) Look.eq (Sub.cons (t := 36) Look.eq (Sub.cons (t := 37) Look.eq (Sub.cons (t := 38) Look.eq (Sub.cons (t := 39) Look.eq (Sub.cons (t := 40) Look.eq (Sub.cons (t := 41) Look.eq (Sub.nil _)))))))))))))))))))))) ?_
      refine KA.region rfl ?_
      refine KOps.move ?_
      refine KOps.add (by first | omega | (simp only [List.length_append, List.length_singleton, List.length_set]; omega)) (by first | omega | (simp only [List.length_append, List.length_singleton, List.length_set]; omega)) ?_
      refine KOps.assign ?_
      refine KOps.done ?_
      have hT : tabT d l i = 0 := if_neg (by omega)
      exact lpQ.normal (i + 1) (by repeat (first | exact Sub.nil _ | refine Sub.cons Look.eq ?_ | refine Sub.cons (Eq.trans Look.eq (congrArg (AV.int _) (by first | omega | (dsimp only; omega)))) ?_ | refine Sub.cons (Eq.trans Look.eq (congrArg (AV.int _) (by rw [hst, hT, Int.add_zero]))) ?_ | refine Sub.cons (Eq.trans Look.eq (congrArg (AV.int _) (by rw [hsi]))) ?_)) ⟨by omega, hS⟩ (by omega)
  · intro c10
    have hil : i = l.length := by omega
    subst hil
    refine KA.exit ?_
    refine sqQ.exit ?_
    refine lpQ.exit ?_
    refine blQ.here ?_
    refine sqQ.normal ?_
    refine KA.sub (Sub.cons (t := 3) Look.eq (Sub.cons (t := 4) Look.eq (Sub.nil _))) ?_
    refine KA.seq ?_
    refine KA.seq ?_
    refine KA.region rfl ?_
    refine KOps.move ?_
    refine KOps.eql ?_
    refine KOps.done ?_
    refine sqQ.normal ?_
    refine KA.sub (Sub.cons (t := 3) Look.eq (Sub.cons (t := 57) Look.eq (Sub.nil _))) ?_
    refine KA.condD ?_ ?_
    · intro c57
      refine KA.seq ?_
      refine KA.region rfl ?_
      refine KOps.assign ?_
      refine KOps.done ?_
      refine sqQ.normal ?_
      refine KA.sub (Sub.cons (t := 2) Look.eq (Sub.nil _)) ?_
      refine KA.ret ?_
      refine sqQ.ret ?_
      refine fnQ.ret1 ?_
      rw [List.take_length] at c57
      have hd0 : d = 0 := by omega
      subst hd0
      exact ⟨rfl, hS⟩
    · intro c57
      refine KA.skip ?_
      refine sqQ.normal ?_
      refine KA.sub (Sub.cons (t := 3) Look.eq (Sub.nil _)) ?_
      refine KA.seq ?_
      refine KA.region rfl ?_
      refine KOps.move ?_
      refine KOps.assign ?_
      refine KOps.done ?_
      refine sqQ.normal ?_
      refine KA.sub (Sub.cons (t := 2) Look.eq (Sub.nil _)) ?_
      refine KA.ret ?_
      refine fnQ.ret1 ?_
      rw [List.take_length] at c57
      exact ⟨by rw [tabS_pos (by omega)], hS⟩

theorem refCount_c {h : AHeap} {v : AV} {l : List Int} (hv : Row h v l) (hlen : l.length ≤ 40) : ACalls Go.Proofs.Try.prog 41 [v] h (fun r h' => r = .tup [.int .i64 (if cntE l = 0 then tabS l.sum.toNat l else 0), .int .i64 (cntE l)] ∧ St h h' []) := by
  refine KA.fn 52 [.tmp 2, .tmp 3] Go.Proofs.Try.func41 rfl (by decide) rfl rfl (Nat.le_of_ble_eq_true rfl) ?_
  have hS := St.refl h
  show KA _ 52 _ _ [(0, v)] _
  refine KA.seq ?_
  refine KA.region rfl ?_
  refine KOps.assign ?_
  refine KOps.assign ?_
  refine KOps.done ?_
  refine sqQ.normal ?_
  refine KA.sub (Sub.cons (t := 0) Look.eq (Sub.nil _)) ?_
  refine KA.seq ?_
  refine KA.seq ?_
  refine KA.region rfl ?_
  refine KOps.move ?_
  refine KOps.lenI hv ?_
  refine KOps.eql ?_
  refine KOps.done ?_
  refine sqQ.normal ?_
  refine KA.sub (Sub.cons (t := 0) Look.eq (Sub.cons (t := 9) Look.eq (Sub.nil _))) ?_
  refine KA.condD ?_ ?_
  · intro c9
    refine KA.seq ?_
    refine KA.region rfl ?_
    refine KOps.assign ?_
    refine KOps.assign ?_
    refine KOps.done ?_
    refine sqQ.normal ?_
    refine KA.sub (Sub.cons (t := 2) Look.eq (Sub.cons (t := 3) Look.eq (Sub.nil _))) ?_
    refine KA.ret ?_
    refine sqQ.ret ?_
    refine fnQ.retN ?_
    have hce := cntE_4 (l := l) (by omega)
    exact ⟨by rw [hce, if_neg (by decide)], hS⟩
  · intro c9
    refine KA.skip ?_
    refine sqQ.normal ?_
    refine KA.sub (Sub.cons (t := 0) Look.eq (Sub.nil _)) ?_
    refine KA.seq ?_
    refine KA.seq ?_
    refine KA.region rfl ?_
    refine KOps.assign ?_
    refine KOps.done ?_
    refine sqQ.normal ?_
    refine KA.block ?_
    refine KA.loop (X := Nat) (fun i => [(0, v), (4, .int .i64 (i : Int))]) (fun i h' => h = h' ∧ i ≤ l.length ∧ ∀ j, j < i → cntBad l j = none) (fun i => l.length - i) 0 (by repeat (first | exact Sub.nil _ | refine Sub.cons Look.eq ?_ | refine Sub.cons (Eq.trans Look.eq (congrArg (AV.int _) (by first | omega | (dsimp only; omega)))) ?_)) ⟨rfl, by omega, by omega⟩ ?_
    rintro i _ ⟨rfl, hi, hj⟩
    have hS := St.refl h
    refine KA.seq ?_
    refine KA.seq ?_
    refine KA.region rfl ?_
    refine KOps.move ?_
    refine KOps.move ?_
    refine KOps.lenI hv ?_
    refine KOps.lss ?_
    refine KOps.done ?_
    refine sqQ.normal ?_
    refine KA.sub (Sub.cons (t := 0) Look.eq (Sub.cons (t := 4) Look.eq (Sub.cons (t := 13) Look.eq (Sub.nil _)))) ?_
    refine KA.condD ?_ ?_
    · intro c13
      refine KA.skip ?_
      refine sqQ.normal ?_
      refine KA.sub (Sub.cons (t := 0) Look.eq (Sub.cons (t := 4) Look.eq (Sub.nil _))) ?_
      refine KA.seq ?_
      refine KA.block ?_
      refine KA.seq ?_
      refine KA.seq ?_
      refine KA.region rfl ?_
      refine KOps.move ?_
      refine KOps.move ?_
      refine KOps.indexIJ hv (j := i) rfl (by first | omega | (simp; omega)) ?_
      intro p18 hp18
      refine KOps.loadI hp18 hv (by first | omega | (simp; omega)) ?_
      refine KOps.call rfl (in_c) ?_
      rintro _ _ ⟨rfl, rfl⟩
      refine KOps.not ?_
      refine KOps.done ?_
      refine sqQ.normal ?_
      refine KA.sub (Sub.cons (t := 0) Look.eq (Sub.cons (t := 4) Look.eq (Sub.cons (t := 21) Look.eq (Sub.nil _)))) ?_
      refine KA.condN ?_ ?_
      · intro c21
        refine KA.seq ?_
        refine KA.region rfl ?_
        refine KOps.assign ?_
        refine KOps.assign ?_
        refine KOps.done ?_
        refine sqQ.normal ?_
        refine KA.sub (Sub.cons (t := 2) Look.eq (Sub.cons (t := 3) Look.eq (Sub.nil _))) ?_
        refine KA.ret ?_
        refine sqQ.ret ?_
        refine blQ.ret ?_
        refine sqQ.ret ?_
        refine lpQ.ret ?_
        refine blQ.ret ?_
        refine sqQ.ret ?_
        refine fnQ.retN ?_
        have hbe : badE l = 1 := firstE_at (by omega) hj (by rw [cntBad, if_neg (by omega)])
        have hce := cntE_bad (by omega) hbe (by decide)
        exact ⟨by rw [hce, if_neg (by decide)], hS⟩
      · intro c21
        refine KA.skip ?_
        refine sqQ.normal ?_
        refine KA.sub (Sub.cons (t := 0) Look.eq (Sub.cons (t := 4) Look.eq (Sub.nil _))) ?_
        refine KA.seq ?_
        refine KA.draw [] mixed rfl (by kernel_rfl) ?_
        refine KOps.move ?_
        refine KOps.gtr ?_
        refine KOps.move ?_
        refine KOps.guardB (dj := 24) rfl rfl true false rfl ?_ ?_
        · intro g24
          have g24 := of_decide_eq_true g24
          refine KOps.move ?_
          refine KOps.guardYes (dj := 24) rfl rfl ?_
          refine KOps.move ?_
          refine KOps.guardYes (dj := 24) rfl rfl ?_
          refine KOps.indexIJ hv (j := i) rfl (by first | omega | (simp; omega)) ?_
          intro p27 hp27
          refine KOps.guardYes (dj := 24) rfl rfl ?_
          refine KOps.loadI hp27 hv (by first | omega | (simp; omega)) ?_
          refine KOps.guardYes (dj := 24) rfl rfl ?_
          refine KOps.move ?_
          refine KOps.guardYes (dj := 24) rfl rfl ?_
          refine KOps.move ?_
          refine KOps.guardYes (dj := 24) rfl rfl ?_
          refine KOps.sub (by first | omega | (simp only [List.length_append, List.length_singleton, List.length_set]; omega)) (by first | omega | (simp only [List.length_append, List.length_singleton, List.length_set]; omega)) ?_
          refine KOps.guardYes (dj := 24) rfl rfl ?_
          refine KOps.indexIJ hv (j := (i - 1)) (by first | omega | (simp only [List.length_append, List.length_singleton, List.length_set]; omega)) (by first | omega | (simp; omega)) ?_
          intro p32 hp32
          refine KOps.guardYes (dj := 24) rfl rfl ?_
          refine KOps.loadI hp32 hv (by first | omega | (simp; omega)) ?_
          refine KOps.guardYes (dj := 24) rfl rfl ?_
          refine KOps.gtr ?_
          refine KOps.pickT ?_
          refine KOps.done ?_
          refine sqQ.normal ?_
          refine KA.sub (Sub.cons (t := 0) Look.eq (Sub.cons (t := 4) Look.eq (Sub.cons (t := 25) Look.eq (Sub.cons (t := 26) Look.eq (Sub.cons (t := 27) Look.eq (Sub.cons (t := 28) Look.eq (Sub.cons (t := 29) Look.eq (Sub.cons (t := 30) Look.eq (Sub.cons (t := 31) Look.eq (Sub.cons (t := 32) Look.eq (Sub.cons (t := 33) Look.eq (Sub.cons (t := 34) Look.eq (Sub.cons (t := 35) Look.eq (Sub.nil _)))))))))))))) ?_
          refine KA.condD ?_ ?_
          · intro c35
            refine KA.seq ?_
            refine KA.region rfl ?_
            refine KOps.assign ?_
            refine KOps.assign ?_
            refine KOps.done ?_
            refine sqQ.normal ?_
            refine KA.sub (Sub.cons (t := 2) Look.eq (Sub.cons (t := 3) Look.eq (Sub.nil _))) ?_
            refine KA.ret ?_
            refine blQ.ret ?_
            refine sqQ.ret ?_
            refine lpQ.ret ?_
            refine blQ.ret ?_
            refine sqQ.ret ?_
            refine fnQ.retN ?_
            have hbe : badE l = 7 := firstE_at (by omega) hj (by rw [cntBad, if_pos (by omega), if_pos ⟨by omega, by omega⟩])
            have hce := cntE_bad (by omega) hbe (by decide)
            exact ⟨by rw [hce, if_neg (by decide)], hS⟩
          · intro c35
            refine KA.skip ?_
            refine blQ.normal ?_
            refine sqQ.normal ?_
            refine KA.sub (Sub.cons (t := 0) Look.eq (Sub.cons (t := 4) Look.eq (Sub.cons (t := 25) Look.eq (Sub.cons (t := 26) Look.eq (Sub.cons (t := 27) Look.eq (Sub.cons (t := 28) Look.eq (Sub.cons (t := 29) Look.eq (Sub.cons (t := 30) Look.eq (Sub.cons (t := 31) Look.eq (Sub.cons (t := 32) Look.eq (Sub.cons (t := 33) Look.eq (Sub.cons (t := 34) Look.eq (Sub.nil _))))))))))))) ?_
            refine KA.region rfl ?_
            refine KOps.move ?_
            refine KOps.add (by first | omega | (simp only [List.length_append, List.length_singleton, List.length_set]; omega)) (by first | omega | (simp only [List.length_append, List.length_singleton, List.length_set]; omega)) ?_
            refine KOps.assign ?_
            refine KOps.done ?_
            refine lpQ.normal (i + 1) (by repeat (first | exact Sub.nil _ | refine Sub.cons Look.eq ?_ | refine Sub.cons (Eq.trans Look.eq (congrArg (AV.int _) (by first | omega | (dsimp only; omega)))) ?_)) ⟨rfl, by omega, ?_⟩ (by omega)
            intro j hj2; rcases Nat.lt_succ_iff_lt_or_eq.1 hj2 with h1 | rfl
            · exact hj j h1
            · rw [cntBad, if_pos (by omega), if_neg (by rintro ⟨h1, h2⟩; omega)]
        · intro g24
          have g24 := of_decide_eq_false g24
          refine KOps.guardNo (dj := 24) rfl rfl rfl ?_
          refine KOps.guardNo (dj := 24) rfl rfl rfl ?_
          refine KOps.guardNo (dj := 24) rfl rfl rfl ?_
          refine KOps.guardNo (dj := 24) rfl rfl rfl ?_
          refine KOps.guardNo (dj := 24) rfl rfl rfl ?_
          refine KOps.guardNo (dj := 24) rfl rfl rfl ?_
          refine KOps.guardNo (dj := 24) rfl rfl rfl ?_
          refine KOps.guardNo (dj := 24) rfl rfl rfl ?_
          refine KOps.guardNo (dj := 24) rfl rfl rfl ?_
          refine KOps.pickF ?_
          refine KOps.done ?_
          refine sqQ.normal ?_
          refine KA.sub (Sub.cons (t := 0) Look.eq (Sub.cons (t := 4) Look.eq (Sub.cons (t := 25) Look.eq (Sub.cons (t := 26) Look.eq (Sub.cons (t := 27) Look.eq (Sub.cons (t := 28) Look.eq (Sub.cons (t := 29) Look.eq (Sub.cons (t := 30) Look.eq (Sub.cons (t := 31) Look.eq (Sub.cons (t := 32) Look.eq (Sub.cons (t := 33) Look.eq (Sub.cons (t := 34) Look.eq (Sub.cons (t := 35) Look.eq (Sub.nil _)))))))))))))) ?_
          refine KA.condF ?_
          refine KA.skip ?_
          refine blQ.normal ?_
          refine sqQ.normal ?_
          refine KA.sub (Sub.cons (t := 0) Look.eq (Sub.cons (t := 4) Look.eq (Sub.cons (t := 25) Look.eq (Sub.cons (t := 26) Look.eq (Sub.cons (t := 27) Look.eq (Sub.cons (t := 28) Look.eq (Sub.cons (t := 29) Look.eq (Sub.cons (t := 30) Look.eq (Sub.cons (t := 31) Look.eq (Sub.cons (t := 32) Look.eq (Sub.cons (t := 33) Look.eq (Sub.cons (t := 34) Look.eq (Sub.nil _))))))))))))) ?_
          refine KA.region rfl ?_
          refine KOps.move ?_
          refine KOps.add (by first | omega | (simp only [List.length_append, List.length_singleton, List.length_set]; omega)) (by first | omega | (simp only [List.length_append, List.length_singleton, List.length_set]; omega)) ?_
          refine KOps.assign ?_
          refine KOps.done ?_
          refine lpQ.normal (i + 1) (by repeat (first | exact Sub.nil _ | refine Sub.cons Look.eq ?_ | refine Sub.cons (Eq.trans Look.eq (congrArg (AV.int _) (by first | omega | (dsimp only; omega)))) ?_)) ⟨rfl, by omega, ?_⟩ (by omega)
          intro j hj2; rcases Nat.lt_succ_iff_lt_or_eq.1 hj2 with h1 | rfl
          · exact hj j h1
          · rw [cntBad, if_pos (by omega), if_neg (by rintro ⟨h1, h2⟩; omega)]
    · intro c13
      have hil : i = l.length := by omega
      subst hil
      have hbe : badE l = 0 := firstE_none (fun j hj2 => hj j (by omega))
      have hv1 : ∀ j, j < l.length → 1 ≤ l.getD j 0 ∧ l.getD j 0 ≤ 9 := fun j hj2 => by have := cntBad_none (hj j (by omega)); omega
      have hsg := sum_ge (fun j hj2 => (hv1 j hj2).1) l.length (Nat.le_refl _)
      rw [List.take_length] at hsg
      refine KA.exit ?_
      refine sqQ.exit ?_
      refine lpQ.exit ?_
      refine blQ.here ?_
      refine sqQ.normal ?_
      refine KA.sub (Sub.cons (t := 0) Look.eq (Sub.nil _)) ?_
      refine KA.seq ?_
      refine KA.region rfl ?_
      refine KOps.assign ?_
      refine KOps.done ?_
      refine sqQ.normal ?_
      refine KA.seq ?_
      refine KA.seq ?_
      refine KA.region rfl ?_
      refine KOps.assign ?_
      refine KOps.done ?_
      refine sqQ.normal ?_
      refine KA.block ?_
      refine KA.loop (X := Nat) (fun i => [(0, v), (5, .int .i64 (l.take i).sum), (6, .int .i64 (i : Int))]) (fun i h' => h = h' ∧ i ≤ l.length ∧ (l.take i).sum ≤ 9) (fun i => l.length - i) 0 (by repeat (first | exact Sub.nil _ | refine Sub.cons Look.eq ?_ | refine Sub.cons (Eq.trans Look.eq (congrArg (AV.int _) (by first | omega | (dsimp only; omega)))) ?_)) ?_ ?_
      · exact ⟨rfl, Nat.zero_le _, by simp⟩
      rintro i _ ⟨rfl, hi, hs9⟩
      have hS := St.refl h
      refine KA.seq ?_
      refine KA.seq ?_
      refine KA.region rfl ?_
      refine KOps.move ?_
      refine KOps.move ?_
      refine KOps.lenI hv ?_
      refine KOps.lss ?_
      refine KOps.done ?_
      refine sqQ.normal ?_
      refine KA.sub (Sub.cons (t := 0) Look.eq (Sub.cons (t := 5) Look.eq (Sub.cons (t := 6) Look.eq (Sub.cons (t := 39) Look.eq (Sub.nil _))))) ?_
      refine KA.condD ?_ ?_
      · intro c39
        have hvi := hv1 i (by omega)
        have hsi := take_sum1 (l := l) (i := i) (by omega)
        have hsm := sum_mono (fun j hj2 => by have := hv1 j hj2; omega) (i + 1) l.length (by omega) (Nat.le_refl _)
        rw [List.take_length] at hsm
        have hsn : 0 ≤ (l.take i).sum := by have := sum_ge (fun j hj2 => (hv1 j hj2).1) i (by omega); omega
        refine KA.skip ?_
        refine sqQ.normal ?_
        refine KA.sub (Sub.cons (t := 0) Look.eq (Sub.cons (t := 5) Look.eq (Sub.cons (t := 6) Look.eq (Sub.nil _)))) ?_
        refine KA.seq ?_
        refine KA.block ?_
        refine KA.seq ?_
        refine KA.region rfl ?_
        refine KOps.move ?_
        refine KOps.move ?_
        refine KOps.move ?_
        refine KOps.indexIJ hv (j := i) rfl (by first | omega | (simp; omega)) ?_
        intro p45 hp45
        refine KOps.loadI hp45 hv (by first | omega | (simp; omega)) ?_
        refine KOps.add (by first | omega | (simp only [List.length_append, List.length_singleton, List.length_set]; omega)) (by first | omega | (simp only [List.length_append, List.length_singleton, List.length_set]; omega)) ?_
        refine KOps.assign ?_
        refine KOps.done ?_
        refine sqQ.normal ?_
        refine KA.sub (Sub.cons (t := 0) Look.eq (Sub.cons (t := 5) Look.eq (Sub.cons (t := 6) Look.eq (Sub.nil _)))) ?_
        refine KA.seq ?_
        refine KA.region rfl ?_
        refine KOps.move ?_
        refine KOps.gtr ?_
        refine KOps.done ?_
        refine sqQ.normal ?_
        refine KA.sub (Sub.cons (t := 0) Look.eq (Sub.cons (t := 5) Look.eq (Sub.cons (t := 6) Look.eq (Sub.cons (t := 49) Look.eq (Sub.nil _))))) ?_
        refine KA.condD ?_ ?_
        · intro c49
          refine KA.seq ?_
          refine KA.region rfl ?_
          refine KOps.assign ?_
          refine KOps.assign ?_
          refine KOps.done ?_
          refine sqQ.normal ?_
          refine KA.sub (Sub.cons (t := 2) Look.eq (Sub.cons (t := 3) Look.eq (Sub.nil _))) ?_
          refine KA.ret ?_
          refine blQ.ret ?_
          refine sqQ.ret ?_
          refine lpQ.ret ?_
          refine blQ.ret ?_
          refine sqQ.ret ?_
          refine fnQ.retN ?_
          have hce := cntE_3 (l := l) (by omega) hbe (by omega)
          exact ⟨by rw [hce, if_neg (by decide)], hS⟩
        · intro c49
          refine KA.skip ?_
          refine blQ.normal ?_
          refine sqQ.normal ?_
          refine KA.sub (Sub.cons (t := 0) Look.eq (Sub.cons (t := 5) Look.eq (Sub.cons (t := 6) Look.eq (Sub.nil _)))) ?_
          refine KA.region rfl ?_
          refine KOps.move ?_
          refine KOps.add (by first | omega | (simp only [List.length_append, List.length_singleton, List.length_set]; omega)) (by first | omega | (simp only [List.length_append, List.length_singleton, List.length_set]; omega)) ?_
          refine KOps.assign ?_
          refine KOps.done ?_
          exact lpQ.normal (i + 1) (by repeat (first | exact Sub.nil _ | refine Sub.cons Look.eq ?_ | refine Sub.cons (Eq.trans Look.eq (congrArg (AV.int _) (by first | omega | (dsimp only; omega)))) ?_ | refine Sub.cons (Eq.trans Look.eq (congrArg (AV.int _) (by rw [hsi]))) ?_)) ⟨rfl, by omega, by omega⟩ (by omega)
      · intro c39
        have hie : i = l.length := by omega
        subst hie
        rw [List.take_length] at hs9
        have hce := cntE_0 (l := l) (by omega) hbe (by omega)
        refine KA.exit ?_
        refine sqQ.exit ?_
        refine lpQ.exit ?_
        refine blQ.here ?_
        refine sqQ.normal ?_
        refine KA.sub (Sub.cons (t := 0) Look.eq (Sub.nil _)) ?_
        refine KA.seq ?_
        refine KA.region rfl ?_
        refine KOps.move ?_
        refine KOps.call rfl (refTab_c l.sum.toNat hv (by omega) (fun j hj2 => by have := hv1 j hj2; omega) (by omega) (by omega)) ?_
        rintro _ h51 ⟨rfl, hS51⟩
        have hS := St.trans hS hS51
        refine KOps.assign ?_
        refine KOps.assign ?_
        refine KOps.done ?_
        refine sqQ.normal ?_
        refine KA.sub (Sub.cons (t := 2) Look.eq (Sub.cons (t := 3) Look.eq (Sub.nil _))) ?_
        refine KA.ret ?_
        refine fnQ.retN ?_
        exact ⟨by rw [hce, if_pos rfl], hS⟩

/-- The answer of Without. -/
def withE (r f : Int) : Int := if (2 ≤ r ∧ r ≤ 4) ∧ (2 ≤ f ∧ f ≤ 4) then 0 else 1
def withR (r f : Int) : List Int := if (2 ≤ r ∧ r ≤ 4) ∧ (2 ≤ f ∧ f ≤ 4) then flatW f (r.toNat - 1) else []
theorem withE_0 {r f : Int} (h : (2 ≤ r ∧ r ≤ 4) ∧ (2 ≤ f ∧ f ≤ 4)) : withE r f = 0 := if_pos h
theorem withE_1 {r f : Int} (h : ¬ ((2 ≤ r ∧ r ≤ 4) ∧ (2 ≤ f ∧ f ≤ 4))) : withE r f = 1 := if_neg h
theorem withR_0 {r f : Int} (h : (2 ≤ r ∧ r ≤ 4) ∧ (2 ≤ f ∧ f ≤ 4)) : withR r f = flatW f (r.toNat - 1) := if_pos h
theorem withR_1 {r f : Int} (h : ¬ ((2 ≤ r ∧ r ≤ 4) ∧ (2 ≤ f ∧ f ≤ 4))) : withR r f = [] := if_neg h
theorem withR_len (r f : Int) : (withR r f).length ≤ 4294967296 := by
  by_cases h : (2 ≤ r ∧ r ≤ 4) ∧ (2 ≤ f ∧ f ≤ 4)
  · rw [withR_0 h]; have := flatW_len h.2.2 (r.toNat - 1); omega
  · rw [withR_1 h]; exact Nat.zero_le _
theorem mul39 {a b : Int} (h0 : 0 ≤ a) (h1 : a ≤ 3) (h2 : 0 ≤ b) (h3 : b ≤ 3) : 0 ≤ a * b ∧ a * b ≤ 9 :=
  ⟨Int.mul_nonneg h0 h2, Int.mul_le_mul h1 h3 h2 (by decide)⟩

theorem without_c {h : AHeap} {r0 f : Int} : ACalls Go.Proofs.Try.prog 42 [.int .i64 r0, .int .i64 f] h (fun r h' => ∃ vo, r = .tup [vo, .int .i64 (withE r0 f)] ∧ Keeps h h' ∧ Row h' vo (withR r0 f)) := by
  refine KA.fn 37 [.tmp 4, .tmp 5] Go.Proofs.Try.func42 rfl (by decide) rfl rfl (Nat.le_of_ble_eq_true rfl) ?_
  have hS := St.refl h
  show KA _ 37 _ _ [(0, .int .i64 r0), (1, .int .i64 f)] _
  refine KA.seq ?_
  refine KA.region rfl ?_
  refine KOps.assign ?_
  refine KOps.assign ?_
  refine KOps.done ?_
  refine sqQ.normal ?_
  refine KA.sub (Sub.cons (t := 0) Look.eq (Sub.cons (t := 1) Look.eq (Sub.nil _))) ?_
  refine KA.seq ?_
  refine KA.seq ?_
  refine KA.region rfl ?_
  refine KOps.move ?_
  refine KOps.call rfl (between_c) ?_
  rintro _ _ ⟨rfl, rfl⟩
  refine KOps.not ?_
  refine KOps.move ?_
  refine KOps.guardB (dj := 12) rfl rfl false true rfl ?_ ?_
  · intro g12
    have g12 := of_not_decide g12
    refine KOps.move ?_
    refine KOps.guardYes (dj := 12) rfl rfl ?_
    refine KOps.call rfl (between_c) ?_
    rintro _ _ ⟨rfl, rfl⟩
    refine KOps.guardYes (dj := 12) rfl rfl ?_
    refine KOps.not ?_
    refine KOps.pickF ?_
    refine KOps.done ?_
    refine sqQ.normal ?_
    refine KA.sub (Sub.cons (t := 0) Look.eq (Sub.cons (t := 1) Look.eq (Sub.cons (t := 16) Look.eq (Sub.nil _)))) ?_
    refine KA.condN ?_ ?_
    · intro c16
      refine KA.seq ?_
      refine KA.region rfl ?_
      refine KOps.assign ?_
      refine KOps.assign ?_
      refine KOps.done ?_
      refine sqQ.normal ?_
      refine KA.sub (Sub.cons (t := 4) Look.eq (Sub.cons (t := 5) Look.eq (Sub.nil _))) ?_
      refine KA.ret ?_
      refine sqQ.ret ?_
      refine fnQ.retN ?_
      have hb1 : ¬ ((2 ≤ r0 ∧ r0 ≤ 4) ∧ (2 ≤ f ∧ f ≤ 4)) := by omega
      exact ⟨.nils, by rw [withE_1 hb1], Keeps.refl h, by rw [withR_1 hb1]; exact .inl ⟨rfl, rfl⟩⟩
    · intro c16
      refine KA.skip ?_
      refine sqQ.normal ?_
      refine KA.sub (Sub.cons (t := 0) Look.eq (Sub.cons (t := 1) Look.eq (Sub.nil _))) ?_
      refine KA.seq ?_
      refine KA.region rfl ?_
      refine KOps.assign ?_
      refine KOps.done ?_
      refine sqQ.normal ?_
      refine KA.seq ?_
      refine KA.seq ?_
      refine KA.region rfl ?_
      refine KOps.assign ?_
      refine KOps.done ?_
      refine sqQ.normal ?_
      refine KA.block ?_
      refine KA.loop (X := Nat × AV) (fun x => [(0, .int .i64 r0), (1, .int .i64 f), (6, x.2), (7, .int .i64 ((x.1 : Int) + 1))]) (fun x h' => x.1 ≤ r0.toNat - 1 ∧ St h h' [⟨x.2, 1, ints (flatW f x.1), true⟩]) (fun x => r0.toNat - 1 - x.1) (0, .nils) (by repeat (first | exact Sub.nil _ | refine Sub.cons Look.eq ?_ | refine Sub.cons (Eq.trans Look.eq (congrArg (AV.int _) (by first | omega | (dsimp only; omega)))) ?_)) ?_ ?_
      · have hb0 : (2 ≤ r0 ∧ r0 ≤ 4) ∧ (2 ≤ f ∧ f ≤ 4) := by omega
        exact ⟨Nat.zero_le _, St.nil hS 1⟩
      rintro ⟨i, vo⟩ h1 ⟨hi, hS⟩
      dsimp only at hi hS ⊢
      have hfl := flatW_len (f := f) (by omega) i
      refine KA.seq ?_
      refine KA.seq ?_
      refine KA.region rfl ?_
      refine KOps.move ?_
      refine KOps.move ?_
      refine KOps.lss ?_
      refine KOps.done ?_
      refine sqQ.normal ?_
      refine KA.sub (Sub.cons (t := 0) Look.eq (Sub.cons (t := 1) Look.eq (Sub.cons (t := 6) Look.eq (Sub.cons (t := 7) Look.eq (Sub.cons (t := 19) Look.eq (Sub.nil _)))))) ?_
      refine KA.condD ?_ ?_
      · intro c19
        refine KA.skip ?_
        refine sqQ.normal ?_
        refine KA.sub (Sub.cons (t := 0) Look.eq (Sub.cons (t := 1) Look.eq (Sub.cons (t := 6) Look.eq (Sub.cons (t := 7) Look.eq (Sub.nil _))))) ?_
        refine KA.seq ?_
        refine KA.block ?_
        refine KA.seq ?_
        refine KA.region rfl ?_
        refine KOps.assign ?_
        refine KOps.done ?_
        refine sqQ.normal ?_
        refine KA.block ?_
        refine KA.loop (X := Nat × AV) (fun x => [(0, .int .i64 r0), (1, .int .i64 f), (6, x.2), (7, .int .i64 ((i : Int) + 1)), (8, .int .i64 ((x.1 : Int) + 1))]) (fun x h' => x.1 ≤ f.toNat - 1 ∧ St h h' [⟨x.2, 1, ints (flatW f i ++ ((List.range x.1).map fun b : Nat => ((i : Int) + 1) * (f - 1) - ((b : Int) + 1))), true⟩]) (fun x => f.toNat - 1 - x.1) (0, vo) (by repeat (first | exact Sub.nil _ | refine Sub.cons Look.eq ?_ | refine Sub.cons (Eq.trans Look.eq (congrArg (AV.int _) (by first | omega | (dsimp only; omega)))) ?_)) ?_ ?_
        · refine ⟨Nat.zero_le _, ?_⟩
          dsimp only
          rw [List.range_zero, List.map_nil, List.append_nil]
          exact hS
        rintro ⟨j, vq⟩ h2 ⟨hj, hS⟩
        dsimp only at hj hS ⊢
        have hol : (flatW f i ++ ((List.range j).map fun b : Nat => ((i : Int) + 1) * (f - 1) - ((b : Int) + 1))).length ≤ 3 * i + j := by rw [List.length_append, List.length_map, List.length_range]; omega
        have hmm := mul39 (a := (i : Int) + 1) (b := f - 1)
        refine KA.seq ?_
        refine KA.seq ?_
        refine KA.region rfl ?_
        refine KOps.move ?_
        refine KOps.move ?_
        refine KOps.lss ?_
        refine KOps.done ?_
        refine sqQ.normal ?_
        refine KA.sub (Sub.cons (t := 0) Look.eq (Sub.cons (t := 1) Look.eq (Sub.cons (t := 6) Look.eq (Sub.cons (t := 7) Look.eq (Sub.cons (t := 8) Look.eq (Sub.cons (t := 24) Look.eq (Sub.nil _))))))) ?_
        refine KA.condD ?_ ?_
        · intro c24
          refine KA.skip ?_
          refine sqQ.normal ?_
          refine KA.sub (Sub.cons (t := 0) Look.eq (Sub.cons (t := 1) Look.eq (Sub.cons (t := 6) Look.eq (Sub.cons (t := 7) Look.eq (Sub.cons (t := 8) Look.eq (Sub.nil _)))))) ?_
          refine KA.seq ?_
          refine KA.block ?_
          refine KA.region rfl ?_
          refine KOps.move ?_
          refine KOps.move ?_
          refine KOps.move ?_
          refine KOps.sub (by first | omega | (simp only [List.length_append, List.length_singleton, List.length_set]; omega)) (by first | omega | (simp only [List.length_append, List.length_singleton, List.length_set]; omega)) ?_
          have hmm2 := hmm (by omega) (by omega) (by omega) (by omega)
          refine KOps.mul (by omega) (by omega) ?_
          refine KOps.move ?_
          refine KOps.sub (by first | omega | (simp only [List.length_append, List.length_singleton, List.length_set]; omega)) (by first | omega | (simp only [List.length_append, List.length_singleton, List.length_set]; omega)) ?_
          refine KOps.buildSlice hS rfl (by decide) rfl ?_
          intro v34 h' hS
          refine KOps.appendI hS (fun _ => rfl) (i := 0) rfl (by first | omega | (simp; omega)) ?_
          intro r35 h' hr35 hS
          refine KOps.assign ?_
          refine KOps.done ?_
          refine blQ.normal ?_
          refine sqQ.normal ?_
          refine KA.sub (Sub.cons (t := 0) Look.eq (Sub.cons (t := 1) Look.eq (Sub.cons (t := 6) Look.eq (Sub.cons (t := 7) Look.eq (Sub.cons (t := 8) Look.eq (Sub.nil _)))))) ?_
          refine KA.region rfl ?_
          refine KOps.move ?_
          refine KOps.add (by first | omega | (simp only [List.length_append, List.length_singleton, List.length_set]; omega)) (by first | omega | (simp only [List.length_append, List.length_singleton, List.length_set]; omega)) ?_
          refine KOps.assign ?_
          refine KOps.done ?_
          rw [List.append_assoc, show ((List.range j).map fun b : Nat => ((i : Int) + 1) * (f - 1) - ((b : Int) + 1)) ++ [((i : Int) + 1) * (f - 1) - ((j : Int) + 1)] = ((List.range (j + 1)).map fun b : Nat => ((i : Int) + 1) * (f - 1) - ((b : Int) + 1)) by rw [List.range_succ, List.map_append]; rfl] at hS
          exact lpQ.normal (j + 1, r35) (by repeat (first | exact Sub.nil _ | refine Sub.cons Look.eq ?_ | refine Sub.cons (Eq.trans Look.eq (congrArg (AV.int _) (by first | omega | (dsimp only; omega)))) ?_)) ⟨by dsimp only; omega, hS⟩ (by dsimp only; omega)
        · intro c24
          refine KA.exit ?_
          refine sqQ.exit ?_
          refine lpQ.exit ?_
          refine blQ.here ?_
          refine blQ.normal ?_
          refine sqQ.normal ?_
          refine KA.sub (Sub.cons (t := 0) Look.eq (Sub.cons (t := 1) Look.eq (Sub.cons (t := 6) Look.eq (Sub.cons (t := 7) Look.eq (Sub.nil _))))) ?_
          refine KA.region rfl ?_
          refine KOps.move ?_
          refine KOps.add (by first | omega | (simp only [List.length_append, List.length_singleton, List.length_set]; omega)) (by first | omega | (simp only [List.length_append, List.length_singleton, List.length_set]; omega)) ?_
          refine KOps.assign ?_
          refine KOps.done ?_
          have hjf : j = f.toNat - 1 := by omega
          subst hjf
          rw [← flatW_succ] at hS
          exact lpQ.normal (i + 1, vq) (by repeat (first | exact Sub.nil _ | refine Sub.cons Look.eq ?_ | refine Sub.cons (Eq.trans Look.eq (congrArg (AV.int _) (by first | omega | (dsimp only; omega)))) ?_)) ⟨by dsimp only; omega, hS⟩ (by dsimp only; omega)
      · intro c19
        refine KA.exit ?_
        refine sqQ.exit ?_
        refine lpQ.exit ?_
        refine blQ.here ?_
        refine sqQ.normal ?_
        refine KA.sub (Sub.cons (t := 6) Look.eq (Sub.nil _)) ?_
        refine KA.seq ?_
        refine KA.region rfl ?_
        refine KOps.move ?_
        refine KOps.assign ?_
        refine KOps.assign ?_
        refine KOps.done ?_
        refine sqQ.normal ?_
        refine KA.sub (Sub.cons (t := 4) Look.eq (Sub.cons (t := 5) Look.eq (Sub.nil _))) ?_
        refine KA.ret ?_
        refine fnQ.retN ?_
        have hb0 : (2 ≤ r0 ∧ r0 ≤ 4) ∧ (2 ≤ f ∧ f ≤ 4) := by omega
        have hie : i = r0.toNat - 1 := by omega
        subst hie
        exact ⟨_, by rw [withE_0 hb0], hS.keeps, by rw [withR_0 hb0]; exact hS.rd 0 rfl⟩
  · intro g12
    have g12 := not_of_not_decide g12
    refine KOps.guardNo (dj := 12) rfl rfl rfl ?_
    refine KOps.guardNo (dj := 12) rfl rfl rfl ?_
    refine KOps.pickT ?_
    refine KOps.done ?_
    refine sqQ.normal ?_
    refine KA.sub (Sub.cons (t := 0) Look.eq (Sub.cons (t := 1) Look.eq (Sub.cons (t := 16) Look.eq (Sub.nil _)))) ?_
    refine KA.condT ?_
    refine KA.seq ?_
    refine KA.region rfl ?_
    refine KOps.assign ?_
    refine KOps.assign ?_
    refine KOps.done ?_
    refine sqQ.normal ?_
    refine KA.sub (Sub.cons (t := 4) Look.eq (Sub.cons (t := 5) Look.eq (Sub.nil _))) ?_
    refine KA.ret ?_
    refine sqQ.ret ?_
    refine fnQ.retN ?_
    have hb1 : ¬ ((2 ≤ r0 ∧ r0 ≤ 4) ∧ (2 ≤ f ∧ f ≤ 4)) := by omega
    exact ⟨.nils, by rw [withE_1 hb1], Keeps.refl h, by rw [withR_1 hb1]; exact .inl ⟨rfl, rfl⟩⟩

theorem refWithoutR_c (d : Nat) : ∀ {h : AHeap} {v : AV} {b : List Int} {kk rr ff : Nat}, Row h v b → b.length + d = kk → 1 ≤ kk → kk ≤ 9 → ACalls Go.Proofs.Try.prog 84 [.int .i64 (kk : Int), .int .i64 (rr : Int), .int .i64 (ff : Int), v] h (fun r h' => Keeps h h' ∧ WO h' r (withoutS kk rr ff d b)) := by
  induction d using Nat.strongRecOn
  rename_i d ih
  intro h v b kk rr ff hv hbd hk1 hk9
  refine KA.fn 50 [.tmp 8] Go.Proofs.Try.func84 rfl (by decide) rfl rfl (Nat.le_of_ble_eq_true rfl) ?_
  have hS := St.refl h
  show KA _ 50 _ _ [(0, .int .i64 (kk : Int)), (1, .int .i64 (rr : Int)), (2, .int .i64 (ff : Int)), (3, v)] _
  refine KA.seq ?_
  refine KA.region rfl ?_
  refine KOps.assign ?_
  refine KOps.done ?_
  refine sqQ.normal ?_
  refine KA.sub (Sub.cons (t := 0) Look.eq (Sub.cons (t := 1) Look.eq (Sub.cons (t := 2) Look.eq (Sub.cons (t := 3) Look.eq (Sub.nil _))))) ?_
  refine KA.seq ?_
  refine KA.seq ?_
  refine KA.region rfl ?_
  refine KOps.move ?_
  refine KOps.call rfl (longest_c (Row.ext hS.keeps hv) (by first | omega | (simp; omega))) ?_
  rintro v12 h12 hS12
  have hS : St _ _ (_ :: _) := St.trans hS hS12
  refine KOps.lenI (hS.rd 0 rfl) ?_
  refine KOps.move ?_
  refine KOps.geq ?_
  refine KOps.move ?_
  refine KOps.guardB (dj := 16) rfl rfl false true rfl ?_ ?_
  · intro g16
    have g16 := of_decide_eq_false g16
    refine KOps.move ?_
    refine KOps.guardYes (dj := 16) rfl rfl ?_
    refine KOps.call rfl (longest_c (Row.ext hS.keeps hv) (by first | omega | (simp; omega))) ?_
    rintro v18 h18 hS18
    have hS : St _ _ (_ :: _) := St.trans hS hS18
    refine KOps.guardYes (dj := 16) rfl rfl ?_
    refine KOps.lenI (hS.rd 0 rfl) ?_
    refine KOps.guardYes (dj := 16) rfl rfl ?_
    refine KOps.move ?_
    refine KOps.guardYes (dj := 16) rfl rfl ?_
    refine KOps.geq ?_
    refine KOps.pickF ?_
    refine KOps.done ?_
    refine sqQ.normal ?_
    refine KA.sub (Sub.cons (t := 0) Look.eq (Sub.cons (t := 1) Look.eq (Sub.cons (t := 2) Look.eq (Sub.cons (t := 3) Look.eq (Sub.cons (t := 22) Look.eq (Sub.nil _)))))) ?_
    refine KA.condD ?_ ?_
    · intro c22
      refine KA.seq ?_
      refine KA.region rfl ?_
      refine KOps.assign ?_
      refine KOps.done ?_
      refine sqQ.normal ?_
      refine KA.sub (Sub.cons (t := 8) Look.eq (Sub.nil _)) ?_
      refine KA.ret ?_
      refine sqQ.ret ?_
      refine fnQ.ret1 ?_
      exact ⟨hS.keeps, by rw [withoutS_cut (.inr (by omega))]; exact (rfl : AV.nils = .nils)⟩
    · intro c22
      refine KA.skip ?_
      refine sqQ.normal ?_
      refine KA.sub (Sub.cons (t := 0) Look.eq (Sub.cons (t := 1) Look.eq (Sub.cons (t := 2) Look.eq (Sub.cons (t := 3) Look.eq (Sub.nil _))))) ?_
      refine KA.seq ?_
      refine KA.seq ?_
      refine KA.region rfl ?_
      refine KOps.move ?_
      refine KOps.lenI (Row.ext hS.keeps hv) ?_
      refine KOps.move ?_
      refine KOps.eql ?_
      refine KOps.done ?_
      refine sqQ.normal ?_
      refine KA.sub (Sub.cons (t := 0) Look.eq (Sub.cons (t := 1) Look.eq (Sub.cons (t := 2) Look.eq (Sub.cons (t := 3) Look.eq (Sub.cons (t := 26) Look.eq (Sub.nil _)))))) ?_
      refine KA.condD ?_ ?_
      · intro c26
        refine KA.seq ?_
        refine KA.region rfl ?_
        refine KOps.move ?_
        refine KOps.assign ?_
        refine KOps.done ?_
        refine sqQ.normal ?_
        refine KA.sub (Sub.cons (t := 8) Look.eq (Sub.nil _)) ?_
        refine KA.ret ?_
        refine sqQ.ret ?_
        refine fnQ.ret1 ?_
        refine ⟨hS.keeps, ?_⟩
        rw [withoutS_full (fun hq => by omega) (by omega)]
        exact ⟨Row.ext hS.keeps hv, by rintro rfl; simp at c26; omega⟩
      · intro c26
        obtain ⟨e, rfl⟩ : ∃ e, d = e + 1 := ⟨d - 1, by omega⟩
        have hgo := withoutS_go (d := e) (b := b) (k := kk) (r := rr) (f := ff) (fun hq => by omega) (by omega)
        refine KA.skip ?_
        refine sqQ.normal ?_
        refine KA.sub (Sub.cons (t := 0) Look.eq (Sub.cons (t := 1) Look.eq (Sub.cons (t := 2) Look.eq (Sub.cons (t := 3) Look.eq (Sub.nil _))))) ?_
        refine KA.seq ?_
        refine KA.seq ?_
        refine KA.region rfl ?_
        refine KOps.assign ?_
        refine KOps.done ?_
        refine sqQ.normal ?_
        refine KA.block ?_
        refine KA.loop (X := Nat) (fun i => [(0, .int .i64 (kk : Int)), (1, .int .i64 (rr : Int)), (2, .int .i64 (ff : Int)), (3, v), (9, .int .i64 (i : Int))]) (fun i h' => i ≤ kk ∧ Keeps h h' ∧ ∀ j, j < i → wTry kk rr ff e b j = none) (fun i => kk - i) 0 (by repeat (first | exact Sub.nil _ | refine Sub.cons Look.eq ?_ | refine Sub.cons (Eq.trans Look.eq (congrArg (AV.int _) (by first | omega | (dsimp only; omega)))) ?_)) ⟨Nat.zero_le _, hS.keeps, by omega⟩ ?_
        rintro i h1 ⟨hi, hk, hj⟩
        have hS := St.refl h1
        have hv1 := Row.ext hk hv
        refine KA.seq ?_
        refine KA.seq ?_
        refine KA.region rfl ?_
        refine KOps.move ?_
        refine KOps.move ?_
        refine KOps.lss ?_
        refine KOps.done ?_
        refine sqQ.normal ?_
        refine KA.sub (Sub.cons (t := 0) Look.eq (Sub.cons (t := 1) Look.eq (Sub.cons (t := 2) Look.eq (Sub.cons (t := 3) Look.eq (Sub.cons (t := 9) Look.eq (Sub.cons (t := 30) Look.eq (Sub.nil _))))))) ?_
        refine KA.condD ?_ ?_
        · intro c30
          refine KA.skip ?_
          refine sqQ.normal ?_
          refine KA.sub (Sub.cons (t := 0) Look.eq (Sub.cons (t := 1) Look.eq (Sub.cons (t := 2) Look.eq (Sub.cons (t := 3) Look.eq (Sub.cons (t := 9) Look.eq (Sub.nil _)))))) ?_
          refine KA.seq ?_
          refine KA.block ?_
          refine KA.seq ?_
          refine KA.region rfl ?_
          refine KOps.move ?_
          refine KOps.move ?_
          refine KOps.call rfl (has_c (Row.ext hS.keeps hv1) (by first | omega | (simp; omega))) ?_
          rintro _ _ ⟨rfl, rfl⟩
          refine KOps.not ?_
          refine KOps.done ?_
          refine sqQ.normal ?_
          refine KA.sub (Sub.cons (t := 0) Look.eq (Sub.cons (t := 1) Look.eq (Sub.cons (t := 2) Look.eq (Sub.cons (t := 3) Look.eq (Sub.cons (t := 9) Look.eq (Sub.cons (t := 36) Look.eq (Sub.nil _))))))) ?_
          refine KA.condN ?_ ?_
          · intro c36
            refine KA.seq ?_
            refine KA.region rfl ?_
            refine KOps.move ?_
            refine KOps.move ?_
            refine KOps.move ?_
            refine KOps.buildSlice hS rfl (by decide) rfl ?_
            intro v40 h' hS
            refine KOps.move ?_
            refine KOps.appendAll hS (fun _ => rfl) (i := 0) (p := []) rfl (Row.ext hS.keeps hv1) (by rw [List.length_nil]; omega) ?_
            intro r42 h6 hr42 hS
            simp only [List.set_cons_zero, List.nil_append] at hS
            refine KOps.move ?_
            refine KOps.buildSlice hS rfl (by decide) rfl ?_
            intro v44 h' hS
            refine KOps.appendI hS (fun _ => rfl) (i := 0) rfl (by first | omega | (simp; omega)) ?_
            intro r45 h' hr45 hS
            refine KOps.call rfl (ih e (by omega) (hS.rd 0 rfl) (by rw [List.length_append, List.length_singleton]; omega) hk1 hk9) ?_
            rintro vw h5 ⟨hk5, hw5⟩
            refine KOps.assign ?_
            refine KOps.done ?_
            refine sqQ.normal ?_
            refine KA.sub (Sub.cons (t := 0) Look.eq (Sub.cons (t := 1) Look.eq (Sub.cons (t := 2) Look.eq (Sub.cons (t := 3) Look.eq (Sub.cons (t := 9) Look.eq (Sub.cons (t := 10) Look.eq (Sub.nil _))))))) ?_
            refine KA.seq ?_
            refine KA.region rfl ?_
            refine KOps.move ?_
            refine KOps.woNe hw5 ?_
            refine KOps.done ?_
            refine sqQ.normal ?_
            refine KA.sub (Sub.cons (t := 0) Look.eq (Sub.cons (t := 1) Look.eq (Sub.cons (t := 2) Look.eq (Sub.cons (t := 3) Look.eq (Sub.cons (t := 9) Look.eq (Sub.cons (t := 10) Look.eq (Sub.cons (t := 48) Look.eq (Sub.nil _)))))))) ?_
            refine KA.condB ?_ ?_
            · intro c48
              refine KA.seq ?_
              refine KA.region rfl ?_
              refine KOps.move ?_
              refine KOps.assign ?_
              refine KOps.done ?_
              refine sqQ.normal ?_
              refine KA.sub (Sub.cons (t := 8) Look.eq (Sub.nil _)) ?_
              refine KA.ret ?_
              refine blQ.ret ?_
              refine sqQ.ret ?_
              refine lpQ.ret ?_
              refine blQ.ret ?_
              refine sqQ.ret ?_
              refine fnQ.ret1 ?_
              refine ⟨hk.trans (hS.keeps.trans hk5), ?_⟩
              obtain ⟨l2, hl2⟩ := Option.isSome_iff_exists.1 c48
              rw [hgo, fs_at (i := i) (l := l2) (by omega) hj (by rw [wTry, if_neg c36]; exact hl2)]
              rw [hl2] at hw5
              exact hw5
            · intro c48
              refine KA.skip ?_
              refine blQ.normal ?_
              refine sqQ.normal ?_
              refine KA.sub (Sub.cons (t := 0) Look.eq (Sub.cons (t := 1) Look.eq (Sub.cons (t := 2) Look.eq (Sub.cons (t := 3) Look.eq (Sub.cons (t := 9) Look.eq (Sub.nil _)))))) ?_
              refine KA.region rfl ?_
              refine KOps.move ?_
              refine KOps.add (by first | omega | (simp only [List.length_append, List.length_singleton, List.length_set]; omega)) (by first | omega | (simp only [List.length_append, List.length_singleton, List.length_set]; omega)) ?_
              refine KOps.assign ?_
              refine KOps.done ?_
              have hw0 : wTry kk rr ff e b i = none := by rw [wTry, if_neg c36]; exact Option.not_isSome_iff_eq_none.1 (by rw [c48]; exact Bool.false_ne_true)
              refine lpQ.normal (i + 1) (by repeat (first | exact Sub.nil _ | refine Sub.cons Look.eq ?_ | refine Sub.cons (Eq.trans Look.eq (congrArg (AV.int _) (by first | omega | (dsimp only; omega)))) ?_)) ⟨by omega, hk.trans (hS.keeps.trans hk5), ?_⟩ (by omega)
              intro j hj2; rcases Nat.lt_succ_iff_lt_or_eq.1 hj2 with h1 | rfl
              · exact hj j h1
              · exact hw0
          · intro c36
            refine KA.skip ?_
            refine blQ.normal ?_
            refine sqQ.normal ?_
            refine KA.sub (Sub.cons (t := 0) Look.eq (Sub.cons (t := 1) Look.eq (Sub.cons (t := 2) Look.eq (Sub.cons (t := 3) Look.eq (Sub.cons (t := 9) Look.eq (Sub.nil _)))))) ?_
            refine KA.region rfl ?_
            refine KOps.move ?_
            refine KOps.add (by first | omega | (simp only [List.length_append, List.length_singleton, List.length_set]; omega)) (by first | omega | (simp only [List.length_append, List.length_singleton, List.length_set]; omega)) ?_
            refine KOps.assign ?_
            refine KOps.done ?_
            have hw0 : wTry kk rr ff e b i = none := by rw [wTry, if_pos c36]
            refine lpQ.normal (i + 1) (by repeat (first | exact Sub.nil _ | refine Sub.cons Look.eq ?_ | refine Sub.cons (Eq.trans Look.eq (congrArg (AV.int _) (by first | omega | (dsimp only; omega)))) ?_)) ⟨by omega, hk, ?_⟩ (by omega)
            intro j hj2; rcases Nat.lt_succ_iff_lt_or_eq.1 hj2 with h1 | rfl
            · exact hj j h1
            · exact hw0
        · intro c30
          refine KA.exit ?_
          refine sqQ.exit ?_
          refine lpQ.exit ?_
          refine blQ.here ?_
          refine sqQ.normal ?_
          refine KA.sub (Sub.nil _) ?_
          refine KA.seq ?_
          refine KA.region rfl ?_
          refine KOps.assign ?_
          refine KOps.done ?_
          refine sqQ.normal ?_
          refine KA.ret ?_
          refine fnQ.ret1 ?_
          refine ⟨hk, ?_⟩
          rw [hgo, fs_none (fun j hj2 => hj j (by omega))]
          exact (rfl : AV.nils = .nils)
  · intro g16
    have g16 := of_decide_eq_true g16
    refine KOps.guardNo (dj := 16) rfl rfl rfl ?_
    refine KOps.guardNo (dj := 16) rfl rfl rfl ?_
    refine KOps.guardNo (dj := 16) rfl rfl rfl ?_
    refine KOps.guardNo (dj := 16) rfl rfl rfl ?_
    refine KOps.pickT ?_
    refine KOps.done ?_
    refine sqQ.normal ?_
    refine KA.sub (Sub.cons (t := 0) Look.eq (Sub.cons (t := 1) Look.eq (Sub.cons (t := 2) Look.eq (Sub.cons (t := 3) Look.eq (Sub.cons (t := 22) Look.eq (Sub.nil _)))))) ?_
    refine KA.condT ?_
    refine KA.seq ?_
    refine KA.region rfl ?_
    refine KOps.assign ?_
    refine KOps.done ?_
    refine sqQ.normal ?_
    refine KA.sub (Sub.cons (t := 8) Look.eq (Sub.nil _)) ?_
    refine KA.ret ?_
    refine sqQ.ret ?_
    refine fnQ.ret1 ?_
    exact ⟨hS.keeps, by rw [withoutS_cut (.inl (by omega))]; exact (rfl : AV.nils = .nils)⟩

theorem refWithout_c {h : AHeap} {r0 f : Int} : ACalls Go.Proofs.Try.prog 43 [.int .i64 r0, .int .i64 f] h (fun r h' => ∃ vo, r = .tup [vo, .int .i64 (withE r0 f)] ∧ Keeps h h' ∧ Row h' vo (withR r0 f)) := by
  refine KA.fn 23 [.tmp 4, .tmp 5] Go.Proofs.Try.func43 rfl (by decide) rfl rfl (Nat.le_of_ble_eq_true rfl) ?_
  have hS := St.refl h
  show KA _ 23 _ _ [(0, .int .i64 r0), (1, .int .i64 f)] _
  refine KA.seq ?_
  refine KA.region rfl ?_
  refine KOps.assign ?_
  refine KOps.assign ?_
  refine KOps.done ?_
  refine sqQ.normal ?_
  refine KA.sub (Sub.cons (t := 0) Look.eq (Sub.cons (t := 1) Look.eq (Sub.nil _))) ?_
  refine KA.seq ?_
  refine KA.seq ?_
  refine KA.region rfl ?_
  refine KOps.move ?_
  refine KOps.call rfl (in_c) ?_
  rintro _ _ ⟨rfl, rfl⟩
  refine KOps.not ?_
  refine KOps.move ?_
  refine KOps.guardB (dj := 9) rfl rfl false true rfl ?_ ?_
  · intro g9
    have g9 := of_not_decide g9
    refine KOps.move ?_
    refine KOps.guardYes (dj := 9) rfl rfl ?_
    refine KOps.call rfl (in_c) ?_
    rintro _ _ ⟨rfl, rfl⟩
    refine KOps.guardYes (dj := 9) rfl rfl ?_
    refine KOps.not ?_
    refine KOps.pickF ?_
    refine KOps.done ?_
    refine sqQ.normal ?_
    refine KA.sub (Sub.cons (t := 0) Look.eq (Sub.cons (t := 1) Look.eq (Sub.cons (t := 13) Look.eq (Sub.nil _)))) ?_
    refine KA.condN ?_ ?_
    · intro c13
      refine KA.seq ?_
      refine KA.region rfl ?_
      refine KOps.assign ?_
      refine KOps.assign ?_
      refine KOps.done ?_
      refine sqQ.normal ?_
      refine KA.sub (Sub.cons (t := 4) Look.eq (Sub.cons (t := 5) Look.eq (Sub.nil _))) ?_
      refine KA.ret ?_
      refine sqQ.ret ?_
      refine fnQ.retN ?_
      have hb1 : ¬ ((2 ≤ r0 ∧ r0 ≤ 4) ∧ (2 ≤ f ∧ f ≤ 4)) := by omega
      exact ⟨.nils, by rw [withE_1 hb1], hS.keeps, by rw [withR_1 hb1]; exact .inl ⟨rfl, rfl⟩⟩
    · intro c13
      have hb0 : (2 ≤ r0 ∧ r0 ≤ 4) ∧ (2 ≤ f ∧ f ≤ 4) := by omega
      obtain ⟨a, rfl⟩ : ∃ a : Nat, r0 = a := ⟨r0.toNat, by omega⟩
      obtain ⟨b, rfl⟩ : ∃ b : Nat, f = b := ⟨f.toNat, by omega⟩
      have hwi := without_is hb0.1.1 hb0.1.2 hb0.2.1 hb0.2.2
      simp only [Int.toNat_natCast] at hwi
      have hmm := mul39 (a := (a : Int) - 1) (b := (b : Int) - 1) (by omega) (by omega) (by omega) (by omega)
      have hkk : ((a : Int) - 1) * ((b : Int) - 1) = (((a - 1) * (b - 1) : Nat) : Int) := by rw [Int.natCast_mul, show ((a - 1 : Nat) : Int) = (a : Int) - 1 by omega, show ((b - 1 : Nat) : Int) = (b : Int) - 1 by omega]
      have hk1 : 1 ≤ (a - 1) * (b - 1) := Nat.mul_pos (by omega) (by omega)
      refine KA.skip ?_
      refine sqQ.normal ?_
      refine KA.sub (Sub.cons (t := 0) Look.eq (Sub.cons (t := 1) Look.eq (Sub.nil _))) ?_
      refine KA.seq ?_
      refine KA.region rfl ?_
      refine KOps.move ?_
      refine KOps.sub (by first | omega | (simp only [List.length_append, List.length_singleton, List.length_set]; omega)) (by first | omega | (simp only [List.length_append, List.length_singleton, List.length_set]; omega)) ?_
      refine KOps.move ?_
      refine KOps.sub (by first | omega | (simp only [List.length_append, List.length_singleton, List.length_set]; omega)) (by first | omega | (simp only [List.length_append, List.length_singleton, List.length_set]; omega)) ?_
      refine KOps.mul (by omega) (by omega) ?_
      rw [hkk]
      refine KOps.move ?_
      refine KOps.move ?_
      refine KOps.buildSlice hS rfl (by decide) rfl ?_
      intro v21 h' hS
      refine KOps.call rfl (refWithoutR_c ((a - 1) * (b - 1)) (b := []) (hS.rd 0 rfl) (by rw [List.length_nil, Nat.zero_add]) hk1 (by omega)) ?_
      rintro vw h5 ⟨hk5, hw5⟩
      rw [hwi] at hw5
      refine KOps.assign ?_
      refine KOps.assign ?_
      refine KOps.done ?_
      refine sqQ.normal ?_
      refine KA.sub (Sub.cons (t := 4) Look.eq (Sub.cons (t := 5) Look.eq (Sub.nil _))) ?_
      refine KA.ret ?_
      refine fnQ.retN ?_
      exact ⟨vw, by rw [withE_0 hb0], hS.keeps.trans hk5, by rw [withR_0 hb0, Int.toNat_natCast]; exact hw5.1⟩
  · intro g9
    have g9 := not_of_not_decide g9
    refine KOps.guardNo (dj := 9) rfl rfl rfl ?_
    refine KOps.guardNo (dj := 9) rfl rfl rfl ?_
    refine KOps.pickT ?_
    refine KOps.done ?_
    refine sqQ.normal ?_
    refine KA.sub (Sub.cons (t := 0) Look.eq (Sub.cons (t := 1) Look.eq (Sub.cons (t := 13) Look.eq (Sub.nil _)))) ?_
    refine KA.condT ?_
    refine KA.seq ?_
    refine KA.region rfl ?_
    refine KOps.assign ?_
    refine KOps.assign ?_
    refine KOps.done ?_
    refine sqQ.normal ?_
    refine KA.sub (Sub.cons (t := 4) Look.eq (Sub.cons (t := 5) Look.eq (Sub.nil _))) ?_
    refine KA.ret ?_
    refine sqQ.ret ?_
    refine fnQ.retN ?_
    have hb1 : ¬ ((2 ≤ r0 ∧ r0 ≤ 4) ∧ (2 ≤ f ∧ f ≤ 4)) := by omega
    exact ⟨.nils, by rw [withE_1 hb1], hS.keeps, by rw [withR_1 hb1]; exact .inl ⟨rfl, rfl⟩⟩

theorem law_count {h : AHeap} {v : AV} {l : List Int} {r0 f : Int} (hv : Row h v l) : ACalls Go.Proofs.Try.prog 7 [v, .int .i64 r0, .int .i64 f] h (fun r _ => r = .bool true) := by
  refine KA.fn 61 [.tmp 6] Go.Proofs.Try.func7 rfl (by decide) rfl rfl (Nat.le_of_ble_eq_true rfl) ?_
  show KA _ 61 _ _ [(0, v), (1, .int .i64 r0), (2, .int .i64 f)] _
  refine KA.seq ?_
  refine KA.region rfl ?_
  refine KOps.assign ?_
  refine KOps.done ?_
  refine sqQ.normal ?_
  refine KA.sub (Sub.cons (t := 0) Look.eq (Sub.cons (t := 1) Look.eq (Sub.cons (t := 2) Look.eq (Sub.nil _)))) ?_
  refine KA.seq ?_
  refine KA.seq ?_
  refine KA.region rfl ?_
  refine KOps.move ?_
  refine KOps.call rfl (large_c hv) ?_
  rintro _ _ ⟨rfl, rfl⟩
  refine KOps.done ?_
  refine sqQ.normal ?_
  refine KA.sub (Sub.cons (t := 0) Look.eq (Sub.cons (t := 1) Look.eq (Sub.cons (t := 2) Look.eq (Sub.cons (t := 16) Look.eq (Sub.nil _))))) ?_
  refine KA.condD ?_ ?_
  · intro c16
    refine KA.seq ?_
    refine KA.region rfl ?_
    refine KOps.call rfl (works_c _) ?_
    rintro _ _ ⟨rfl, rfl⟩
    refine KOps.assign ?_
    refine KOps.done ?_
    refine sqQ.normal ?_
    refine KA.sub (Sub.cons (t := 6) Look.eq (Sub.nil _)) ?_
    refine KA.ret ?_
    refine sqQ.ret ?_
    refine fnQ.ret1 ?_
    rfl
  · intro c16
    refine KA.skip ?_
    refine sqQ.normal ?_
    refine KA.sub (Sub.cons (t := 0) Look.eq (Sub.cons (t := 1) Look.eq (Sub.cons (t := 2) Look.eq (Sub.nil _)))) ?_
    refine KA.seq ?_
    refine KA.region rfl ?_
    refine KOps.move ?_
    refine KOps.call rfl (count_c hv (by first | omega | (simp; omega))) ?_
    rintro _ h1 ⟨rfl, hS1⟩
    have hv := Row.ext hS1.keeps hv
    refine KOps.move ?_
    refine KOps.extract ?_
    refine KOps.extract ?_
    refine KOps.assign ?_
    refine KOps.assign ?_
    refine KOps.done ?_
    refine sqQ.normal ?_
    refine KA.sub (Sub.cons (t := 0) Look.eq (Sub.cons (t := 1) Look.eq (Sub.cons (t := 2) Look.eq (Sub.cons (t := 7) Look.eq (Sub.cons (t := 8) Look.eq (Sub.nil _)))))) ?_
    refine KA.seq ?_
    refine KA.region rfl ?_
    refine KOps.move ?_
    refine KOps.call rfl (refCount_c hv (by first | omega | (simp; omega))) ?_
    rintro _ h2 ⟨rfl, hS2⟩
    refine KOps.move ?_
    refine KOps.extract ?_
    refine KOps.extract ?_
    refine KOps.assign ?_
    refine KOps.assign ?_
    refine KOps.done ?_
    refine sqQ.normal ?_
    refine KA.sub (Sub.cons (t := 1) Look.eq (Sub.cons (t := 2) Look.eq (Sub.cons (t := 7) Look.eq (Sub.cons (t := 8) Look.eq (Sub.cons (t := 9) Look.eq (Sub.cons (t := 10) Look.eq (Sub.nil _))))))) ?_
    refine KA.seq ?_
    refine KA.region rfl ?_
    refine KOps.move ?_
    refine KOps.move ?_
    refine KOps.call rfl (without_c) ?_
    rintro _ h3 ⟨vw, rfl, hK3, hw1⟩
    refine KOps.move ?_
    refine KOps.extract ?_
    refine KOps.extract ?_
    refine KOps.assign ?_
    refine KOps.assign ?_
    refine KOps.done ?_
    refine sqQ.normal ?_
    refine KA.sub (Sub.cons (t := 1) Look.eq (Sub.cons (t := 2) Look.eq (Sub.cons (t := 7) Look.eq (Sub.cons (t := 8) Look.eq (Sub.cons (t := 9) Look.eq (Sub.cons (t := 10) Look.eq (Sub.cons (t := 11) Look.eq (Sub.cons (t := 12) Look.eq (Sub.nil _))))))))) ?_
    refine KA.seq ?_
    refine KA.region rfl ?_
    refine KOps.move ?_
    refine KOps.move ?_
    refine KOps.call rfl (refWithout_c) ?_
    rintro _ h4 ⟨vu, rfl, hK4, hu1⟩
    have hw1 := Row.ext hK4 hw1
    refine KOps.move ?_
    refine KOps.extract ?_
    refine KOps.extract ?_
    refine KOps.assign ?_
    refine KOps.assign ?_
    refine KOps.done ?_
    refine sqQ.normal ?_
    refine KA.sub (Sub.cons (t := 7) Look.eq (Sub.cons (t := 8) Look.eq (Sub.cons (t := 9) Look.eq (Sub.cons (t := 10) Look.eq (Sub.cons (t := 11) Look.eq (Sub.cons (t := 12) Look.eq (Sub.cons (t := 13) Look.eq (Sub.cons (t := 14) Look.eq (Sub.nil _))))))))) ?_
    refine KA.seq ?_
    refine KA.region rfl ?_
    refine KOps.move ?_
    refine KOps.move ?_
    refine KOps.eqlT rfl ?_
    refine KOps.move ?_
    refine KOps.guardYes (dj := 43) rfl rfl ?_
    refine KOps.move ?_
    refine KOps.guardYes (dj := 43) rfl rfl ?_
    refine KOps.move ?_
    refine KOps.guardYes (dj := 43) rfl rfl ?_
    refine KOps.eqlT rfl ?_
    refine KOps.pickT ?_
    refine KOps.move ?_
    refine KOps.guardYes (dj := 48) rfl rfl ?_
    refine KOps.move ?_
    refine KOps.guardYes (dj := 48) rfl rfl ?_
    refine KOps.move ?_
    refine KOps.guardYes (dj := 48) rfl rfl ?_
    refine KOps.call rfl (same_t rfl hw1 hu1 (withR_len _ _)) ?_
    rintro _ _ ⟨rfl, rfl⟩
    refine KOps.pickT ?_
    refine KOps.move ?_
    refine KOps.guardYes (dj := 53) rfl rfl ?_
    refine KOps.move ?_
    refine KOps.guardYes (dj := 53) rfl rfl ?_
    refine KOps.move ?_
    refine KOps.guardYes (dj := 53) rfl rfl ?_
    refine KOps.eqlT rfl ?_
    refine KOps.pickT ?_
    refine KOps.move ?_
    refine KOps.guardYes (dj := 58) rfl rfl ?_
    refine KOps.call rfl (works_c _) ?_
    rintro _ _ ⟨rfl, rfl⟩
    refine KOps.pickT ?_
    refine KOps.assign ?_
    refine KOps.done ?_
    refine sqQ.normal ?_
    refine KA.sub (Sub.cons (t := 6) Look.eq (Sub.nil _)) ?_
    refine KA.ret ?_
    refine fnQ.ret1 ?_
    rfl

end Go.Am
