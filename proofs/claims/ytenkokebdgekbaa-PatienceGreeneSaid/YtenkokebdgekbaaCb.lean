/-
  Contracts of layer 13: tables, piles.
  Conditions: none.
-/
import Derived.Test.YtenkokebdgekbaaCa
import Derived.Test.YtenkokebdgekbaaAmC
import Derived.Test.YtenkokebdgekbaaGrA
namespace Go.Am
open Go.Gr

def hugeB (l : List (List Int)) : Bool := (List.range l.length).any fun i => decide (40 < i) || decide (40 < (l.getD i []).length)
theorem hugeB_true {l : List (List Int)} {i : Nat} (hi : i < l.length) (h : 40 < i ∨ 40 < (l.getD i []).length) : hugeB l = true := by
  rw [hugeB, List.any_eq_true]
  exact ⟨i, List.mem_range.2 hi, by simpa using h⟩

theorem cmpNaN_c {h : AHeap} {a : Int} : ACalls Go.Proofs.Try.prog 96 [.int .i64 a] h (fun r h' => r = .bool false ∧ h = h') := by
  refine KA.fn 6 [.tmp 2] Go.Proofs.Try.func96 rfl (by decide) rfl rfl (Nat.le_of_ble_eq_true rfl) ?_
  show KA _ 6 _ _ [(0, .int .i64 a)] _
  refine KA.seq ?_
  refine KA.region rfl ?_
  refine KOps.assign ?_
  refine KOps.done ?_
  refine sqQ.normal ?_
  refine KA.sub (Sub.cons (t := 0) Look.eq (Sub.nil _)) ?_
  refine KA.seq ?_
  refine KA.region rfl ?_
  refine KOps.move ?_
  refine KOps.move ?_
  refine KOps.neq ?_
  refine KOps.assign ?_
  refine KOps.done ?_
  refine sqQ.normal ?_
  refine KA.sub (Sub.cons (t := 2) Look.eq (Sub.nil _)) ?_
  refine KA.ret ?_
  refine fnQ.ret1 ?_
  exact ⟨by simp, rfl⟩

theorem isNaN_c {h : AHeap} {a : Int} : ACalls Go.Proofs.Try.prog 93 [.int .i64 a] h (fun r h' => r = .bool false ∧ h = h') := by
  refine KA.fn 6 [.tmp 2] Go.Proofs.Try.func93 rfl (by decide) rfl rfl (Nat.le_of_ble_eq_true rfl) ?_
  show KA _ 6 _ _ [(0, .int .i64 a)] _
  refine KA.seq ?_
  refine KA.region rfl ?_
  refine KOps.assign ?_
  refine KOps.done ?_
  refine sqQ.normal ?_
  refine KA.sub (Sub.cons (t := 0) Look.eq (Sub.nil _)) ?_
  refine KA.seq ?_
  refine KA.region rfl ?_
  refine KOps.move ?_
  refine KOps.move ?_
  refine KOps.neq ?_
  refine KOps.assign ?_
  refine KOps.done ?_
  refine sqQ.normal ?_
  refine KA.sub (Sub.cons (t := 2) Look.eq (Sub.nil _)) ?_
  refine KA.ret ?_
  refine fnQ.ret1 ?_
  exact ⟨by simp, rfl⟩

theorem less_c {h : AHeap} {a b : Int} : ACalls Go.Proofs.Try.prog 92 [.int .i64 a, .int .i64 b] h (fun r h' => r = .bool (decide (a < b)) ∧ h = h') := by
  refine KA.fn 17 [.tmp 4] Go.Proofs.Try.func92 rfl (by decide) rfl rfl (Nat.le_of_ble_eq_true rfl) ?_
  show KA _ 17 _ _ [(0, .int .i64 a), (1, .int .i64 b)] _
  refine KA.seq ?_
  refine KA.region rfl ?_
  refine KOps.assign ?_
  refine KOps.done ?_
  refine sqQ.normal ?_
  refine KA.sub (Sub.cons (t := 0) Look.eq (Sub.cons (t := 1) Look.eq (Sub.nil _))) ?_
  refine KA.seq ?_
  refine KA.region rfl ?_
  refine KOps.move ?_
  refine KOps.call rfl (cmpNaN_c) ?_
  rintro _ _ ⟨rfl, rfl⟩
  refine KOps.move ?_
  refine KOps.guardNo (dj := 7) rfl rfl rfl ?_
  refine KOps.guardNo (dj := 7) rfl rfl rfl ?_
  refine KOps.guardNo (dj := 7) rfl rfl rfl ?_
  refine KOps.pickF ?_
  refine KOps.move ?_
  refine KOps.guardYes (dj := 12) rfl rfl ?_
  refine KOps.move ?_
  refine KOps.guardYes (dj := 12) rfl rfl ?_
  refine KOps.move ?_
  refine KOps.guardYes (dj := 12) rfl rfl ?_
  refine KOps.lss ?_
  refine KOps.pickF ?_
  refine KOps.assign ?_
  refine KOps.done ?_
  refine sqQ.normal ?_
  refine KA.sub (Sub.cons (t := 4) Look.eq (Sub.nil _)) ?_
  refine KA.ret ?_
  refine fnQ.ret1 ?_
  exact ⟨rfl, rfl⟩

theorem mono_le {l : List Int} (hs : ∀ i j, i < j → j < l.length → l.getD i 0 ≤ l.getD j 0) {i j : Nat} (hij : i ≤ j) (hj : j < l.length) : l.getD i 0 ≤ l.getD j 0 := by
  rcases Nat.lt_or_eq_of_le hij with h | rfl
  · exact hs i j h hj
  · exact Int.le_refl _

theorem search_c {h : AHeap} {v : AV} {l : List Int} {c : Int} (hv : Row h v l) (hlen : l.length ≤ 4294967296) (hs : ∀ i j, i < j → j < l.length → l.getD i 0 ≤ l.getD j 0) : ACalls Go.Proofs.Try.prog 61 [v, .int .i64 c] h (fun r h' => (∃ b, r = .tup [.int .i64 (pos l c : Nat), .bool b]) ∧ h = h') := by
  refine KA.fn 54 [.tmp 4, .tmp 5] Go.Proofs.Try.func61 rfl (by decide) rfl rfl (Nat.le_of_ble_eq_true rfl) ?_
  show KA _ 54 _ _ [(0, v), (1, .int .i64 c)] _
  refine KA.seq ?_
  refine KA.region rfl ?_
  refine KOps.assign ?_
  refine KOps.assign ?_
  refine KOps.done ?_
  refine sqQ.normal ?_
  refine KA.sub (Sub.cons (t := 0) Look.eq (Sub.cons (t := 1) Look.eq (Sub.nil _))) ?_
  refine KA.seq ?_
  refine KA.region rfl ?_
  refine KOps.move ?_
  refine KOps.lenI (by first | assumption | exact Rd.ext hS.keeps (by assumption)) ?_
  refine KOps.assign ?_
  refine KOps.done ?_
  refine sqQ.normal ?_
  refine KA.sub (Sub.cons (t := 0) Look.eq (Sub.cons (t := 1) Look.eq (Sub.cons (t := 6) Look.eq (Sub.nil _)))) ?_
  refine KA.seq ?_
  refine KA.region rfl ?_
  refine KOps.move ?_
  refine KOps.assign ?_
  refine KOps.assign ?_
  refine KOps.done ?_
  refine sqQ.normal ?_
  refine KA.sub (Sub.cons (t := 0) Look.eq (Sub.cons (t := 1) Look.eq (Sub.cons (t := 6) Look.eq (Sub.cons (t := 7) Look.eq (Sub.cons (t := 8) Look.eq (Sub.nil _)))))) ?_
  refine KA.seq ?_
  refine KA.block ?_
  refine KA.loop (X := Nat × Nat) (fun x => [(0, v), (1, .int .i64 c), (6, .int .i64 (l.length : Int)), (7, .int .i64 (x.1 : Int)), (8, .int .i64 (x.2 : Int))]) (fun x h' => h = h' ∧ x.1 ≤ x.2 ∧ x.2 ≤ l.length ∧ (∀ j, j < x.1 → l.getD j 0 < c) ∧ (∀ j, x.2 ≤ j → j < l.length → c ≤ l.getD j 0)) (fun x => x.2 - x.1) (0, l.length) (by repeat (first | exact Sub.nil _ | refine Sub.cons Look.eq ?_ | refine Sub.cons (Eq.trans Look.eq (congrArg (AV.int _) (by first | omega | (dsimp only; omega)))) ?_)) ⟨rfl, by omega, by omega, by simp, fun j h1 h2 => by omega⟩ ?_
  rintro ⟨i, j⟩ _ ⟨rfl, h1, h2, h3, h4⟩
  dsimp only at h1 h2 h3 h4 ⊢
  refine KA.seq ?_
  refine KA.seq ?_
  refine KA.region rfl ?_
  refine KOps.move ?_
  refine KOps.move ?_
  refine KOps.lss ?_
  refine KOps.done ?_
  refine sqQ.normal ?_
  refine KA.sub (Sub.cons (t := 0) Look.eq (Sub.cons (t := 1) Look.eq (Sub.cons (t := 6) Look.eq (Sub.cons (t := 7) Look.eq (Sub.cons (t := 8) Look.eq (Sub.cons (t := 15) Look.eq (Sub.nil _))))))) ?_
  refine KA.condD ?_ ?_
  · intro c15
    refine KA.skip ?_
    refine sqQ.normal ?_
    refine KA.sub (Sub.cons (t := 0) Look.eq (Sub.cons (t := 1) Look.eq (Sub.cons (t := 6) Look.eq (Sub.cons (t := 7) Look.eq (Sub.cons (t := 8) Look.eq (Sub.nil _)))))) ?_
    refine KA.block ?_
    refine KA.seq ?_
    refine KA.region rfl ?_
    refine KOps.move ?_
    refine KOps.move ?_
    refine KOps.add (by omega) (by omega) ?_
    refine KOps.convert ?_
    rw [wrapU64 (by omega) (by omega)]
    refine KOps.shr (by omega) ?_
    rw [half_nat]
    refine KOps.convert ?_
    rw [wrap64 (by omega) (by omega)]
    refine KOps.assign ?_
    refine KOps.done ?_
    refine sqQ.normal ?_
    refine KA.sub (Sub.cons (t := 0) Look.eq (Sub.cons (t := 1) Look.eq (Sub.cons (t := 6) Look.eq (Sub.cons (t := 7) Look.eq (Sub.cons (t := 8) Look.eq (Sub.cons (t := 9) Look.eq (Sub.nil _))))))) ?_
    refine KA.seq ?_
    refine KA.region rfl ?_
    refine KOps.move ?_
    refine KOps.move ?_
    refine KOps.indexIJ (by first | assumption | exact Rd.ext hS.keeps (by assumption)) (j := ((i + j) / 2)) rfl (by first | omega | (simp; omega)) ?_
    intro p24 hp24
    refine KOps.loadI hp24 (by first | assumption | exact Rd.ext hS.keeps (by assumption)) (by first | omega | (simp; omega)) ?_
    refine KOps.move ?_
    refine KOps.call rfl (less_c) ?_
    rintro _ _ ⟨rfl, rfl⟩
    refine KOps.done ?_
    refine sqQ.normal ?_
    refine KA.sub (Sub.cons (t := 0) Look.eq (Sub.cons (t := 1) Look.eq (Sub.cons (t := 6) Look.eq (Sub.cons (t := 7) Look.eq (Sub.cons (t := 8) Look.eq (Sub.cons (t := 9) Look.eq (Sub.cons (t := 27) Look.eq (Sub.nil _)))))))) ?_
    refine KA.condD ?_ ?_
    · intro c27
      refine KA.region rfl ?_
      refine KOps.move ?_
      refine KOps.add (by omega) (by omega) ?_
      refine KOps.assign ?_
      refine KOps.done ?_
      refine blQ.normal ?_
      refine lpQ.normal ((i + j) / 2 + 1, j) (by repeat (first | exact Sub.nil _ | refine Sub.cons Look.eq ?_ | refine Sub.cons (Eq.trans Look.eq (congrArg (AV.int _) (by first | omega | (dsimp only; omega)))) ?_)) ⟨rfl, by dsimp only; omega, by dsimp only; omega, fun q hq => ?_, h4⟩ (by dsimp only; omega)
      have := mono_le hs (i := q) (j := (i + j) / 2) (by dsimp only at hq; omega) (by omega)
      omega
    · intro c27
      refine KA.region rfl ?_
      refine KOps.move ?_
      refine KOps.assign ?_
      refine KOps.done ?_
      refine blQ.normal ?_
      refine lpQ.normal (i, (i + j) / 2) (by repeat (first | exact Sub.nil _ | refine Sub.cons Look.eq ?_ | refine Sub.cons (Eq.trans Look.eq (congrArg (AV.int _) (by first | omega | (dsimp only; omega)))) ?_)) ⟨rfl, by dsimp only; omega, by dsimp only; omega, h3, fun q hq1 hq2 => ?_⟩ (by dsimp only; omega)
      have := mono_le hs (i := (i + j) / 2) (j := q) (by dsimp only at hq1; omega) hq2
      omega
  · intro c15
    refine KA.exit ?_
    refine sqQ.exit ?_
    refine lpQ.exit ?_
    refine blQ.here ?_
    refine sqQ.normal ?_
    refine KA.sub (Sub.cons (t := 0) Look.eq (Sub.cons (t := 1) Look.eq (Sub.cons (t := 6) Look.eq (Sub.cons (t := 7) Look.eq (Sub.nil _))))) ?_
    refine KA.seq ?_
    refine KA.region rfl ?_
    have hp : pos l c = i := pos_unique h3 (fun hl => h4 i (by omega) hl) (by omega)
    refine KOps.move ?_
    refine KOps.move ?_
    refine KOps.move ?_
    refine KOps.lss ?_
    refine KOps.move ?_
    refine KOps.guardB (dj := 35) rfl rfl true false rfl ?_ ?_
    · intro g35
      have g35 := of_decide_eq_true g35
      refine KOps.move ?_
      refine KOps.guardYes (dj := 35) rfl rfl ?_
      refine KOps.move ?_
      refine KOps.guardYes (dj := 35) rfl rfl ?_
      refine KOps.indexIJ (by first | assumption | exact Rd.ext hS.keeps (by assumption)) (j := i) (by omega) (by first | omega | (simp; omega)) ?_
      intro p38 hp38
      refine KOps.guardYes (dj := 35) rfl rfl ?_
      refine KOps.loadI hp38 (by first | assumption | exact Rd.ext hS.keeps (by assumption)) (by first | omega | (simp; omega)) ?_
      refine KOps.guardYes (dj := 35) rfl rfl ?_
      refine KOps.move ?_
      refine KOps.guardYes (dj := 35) rfl rfl ?_
      refine KOps.eql ?_
      refine KOps.guardYes (dj := 35) rfl rfl ?_
      refine KOps.move ?_
      refine KOps.guardB (dj := 42) rfl rfl false true rfl ?_ ?_
      · intro g42
        have g42 := of_decide_eq_false g42
        refine KOps.move ?_
        refine KOps.guardYes (dj := 42) rfl rfl ?_
        refine KOps.move ?_
        refine KOps.guardYes (dj := 42) rfl rfl ?_
        refine KOps.indexIJ (by first | assumption | exact Rd.ext hS.keeps (by assumption)) (j := i) (by omega) (by first | omega | (simp; omega)) ?_
        intro p45 hp45
        refine KOps.guardYes (dj := 42) rfl rfl ?_
        refine KOps.loadI hp45 (by first | assumption | exact Rd.ext hS.keeps (by assumption)) (by first | omega | (simp; omega)) ?_
        refine KOps.guardYes (dj := 42) rfl rfl ?_
        refine KOps.call rfl (isNaN_c) ?_
        rintro _ _ ⟨rfl, rfl⟩
        refine KOps.guardYes (dj := 42) rfl rfl ?_
        refine KOps.move ?_
        refine KOps.guardNo (dj := 48) rfl rfl rfl ?_
        refine KOps.guardNo (dj := 48) rfl rfl rfl ?_
        refine KOps.guardYes (dj := 42) rfl rfl ?_
        refine KOps.pickF ?_
        refine KOps.guardYes (dj := 35) rfl rfl ?_
        refine KOps.pickF ?_
        refine KOps.pickT ?_
        refine KOps.assign ?_
        refine KOps.assign ?_
        refine KOps.done ?_
        refine sqQ.normal ?_
        refine KA.sub (Sub.cons (t := 4) Look.eq (Sub.cons (t := 5) Look.eq (Sub.nil _))) ?_
        refine KA.ret ?_
        refine fnQ.retN ?_
        exact ⟨⟨_, by rw [hp]⟩, rfl⟩
      · intro g42
        have g42 := of_decide_eq_true g42
        refine KOps.guardNo (dj := 42) rfl rfl rfl ?_
        refine KOps.guardNo (dj := 42) rfl rfl rfl ?_
        refine KOps.guardNo (dj := 42) rfl rfl rfl ?_
        refine KOps.guardNo (dj := 42) rfl rfl rfl ?_
        refine KOps.guardNo (dj := 42) rfl rfl rfl ?_
        refine KOps.guardTup (dj := 48) rfl rfl ?_
        refine KOps.guardTup (dj := 48) rfl rfl ?_
        refine KOps.guardNo (dj := 42) rfl rfl rfl ?_
        refine KOps.guardYes (dj := 35) rfl rfl ?_
        refine KOps.pickT ?_
        refine KOps.pickT ?_
        refine KOps.assign ?_
        refine KOps.assign ?_
        refine KOps.done ?_
        refine sqQ.normal ?_
        refine KA.sub (Sub.cons (t := 4) Look.eq (Sub.cons (t := 5) Look.eq (Sub.nil _))) ?_
        refine KA.ret ?_
        refine fnQ.retN ?_
        exact ⟨⟨_, by rw [hp]⟩, rfl⟩
    · intro g35
      have g35 := of_decide_eq_false g35
      refine KOps.guardNo (dj := 35) rfl rfl rfl ?_
      refine KOps.guardNo (dj := 35) rfl rfl rfl ?_
      refine KOps.guardNo (dj := 35) rfl rfl rfl ?_
      refine KOps.guardNo (dj := 35) rfl rfl rfl ?_
      refine KOps.guardNo (dj := 35) rfl rfl rfl ?_
      refine KOps.guardNo (dj := 35) rfl rfl rfl ?_
      refine KOps.guardTup (dj := 42) rfl rfl ?_
      refine KOps.guardTup (dj := 42) rfl rfl ?_
      refine KOps.guardTup (dj := 42) rfl rfl ?_
      refine KOps.guardTup (dj := 42) rfl rfl ?_
      refine KOps.guardTup (dj := 42) rfl rfl ?_
      refine KOps.guardTup (dj := 42) rfl rfl ?_
      refine KOps.guardTup (dj := 48) rfl rfl ?_
      refine KOps.guardTup (dj := 48) rfl rfl ?_
      refine KOps.guardTup (dj := 42) rfl rfl ?_
      refine KOps.guardNo (dj := 35) rfl rfl rfl ?_
      refine KOps.pickF ?_
      refine KOps.assign ?_
      refine KOps.assign ?_
      refine KOps.done ?_
      refine sqQ.normal ?_
      refine KA.sub (Sub.cons (t := 4) Look.eq (Sub.cons (t := 5) Look.eq (Sub.nil _))) ?_
      refine KA.ret ?_
      refine fnQ.retN ?_
      exact ⟨⟨_, by rw [hp]⟩, rfl⟩

end Go.Am
