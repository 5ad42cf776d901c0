/-
  Contracts of layer 13: the reference's longest rows.
  Conditions: none.
-/
import Derived.Test.YtenkokebdgekbaaCc
import Derived.Test.YtenkokebdgekbaaPt2
namespace Go.Am
open Go.Gr

theorem row_c {h : AHeap} {v : AV} {l : List Int} {s : Nat} (hv : Row h v l) (hlen : l.length ≤ 9) (hs : s < 512) : ACalls Go.Proofs.Try.prog 69 [v, .int .i64 (s : Int)] h (fun r h' => St h h' [⟨r, 1, ints (rowS l s), true⟩]) := by
  refine KA.fn 26 [.tmp 4] Go.Proofs.Try.func69 rfl (by decide) rfl rfl (Nat.le_of_ble_eq_true rfl) ?_
  have hS := St.refl h
  show KA _ 26 _ _ [(0, v), (1, .int .i64 (s : Int))] _
  refine KA.seq ?_
  refine KA.region rfl ?_
  refine KOps.assign ?_
  refine KOps.done ?_
  refine sqQ.normal ?_
  refine KA.sub (Sub.cons (t := 0) Look.eq (Sub.cons (t := 1) Look.eq (Sub.nil _))) ?_
  refine KA.seq ?_
  refine KA.region rfl ?_
  refine KOps.assign ?_
  refine KOps.done ?_
  refine sqQ.normal ?_
  refine KA.seq ?_
  refine KA.seq ?_
  refine KA.region rfl ?_
  refine KOps.assign ?_
  refine KOps.done ?_
  refine sqQ.normal ?_
  refine KA.block ?_
  refine KA.loop (X := Nat × AV) (fun x => [(0, v), (1, .int .i64 (s : Int)), (5, x.2), (6, .int .i64 (x.1 : Int))]) (fun x h' => x.1 ≤ l.length ∧ St h h' [⟨x.2, 1, ints (rowT l s x.1), true⟩]) (fun x => l.length - x.1) (0, .nils) (by repeat (first | exact Sub.nil _ | refine Sub.cons Look.eq ?_ | refine Sub.cons (Eq.trans Look.eq (congrArg (AV.int _) (by first | omega | (dsimp only; omega)))) ?_)) ?_ ?_
  · exact ⟨by omega, St.nil hS 1⟩
  rintro ⟨i, vo⟩ h1 ⟨hi, hS⟩
  dsimp only at hi hS ⊢
  have hrl := rowT_len l s i
  have hsc := rowT_succ l s i
  refine KA.seq ?_
  refine KA.seq ?_
  refine KA.region rfl ?_
  refine KOps.move ?_
  refine KOps.move ?_
  refine KOps.lenI (by first | assumption | exact Rd.ext hS.keeps (by assumption)) ?_
  refine KOps.lss ?_
  refine KOps.done ?_
  refine sqQ.normal ?_
  refine KA.sub (Sub.cons (t := 0) Look.eq (Sub.cons (t := 1) Look.eq (Sub.cons (t := 5) Look.eq (Sub.cons (t := 6) Look.eq (Sub.cons (t := 10) Look.eq (Sub.nil _)))))) ?_
  refine KA.condD ?_ ?_
  · intro c10
    refine KA.skip ?_
    refine sqQ.normal ?_
    refine KA.sub (Sub.cons (t := 0) Look.eq (Sub.cons (t := 1) Look.eq (Sub.cons (t := 5) Look.eq (Sub.cons (t := 6) Look.eq (Sub.nil _))))) ?_
    refine KA.seq ?_
    refine KA.block ?_
    refine KA.seq ?_
    refine KA.region rfl ?_
    refine KOps.move ?_
    refine KOps.move ?_
    refine KOps.shr (by omega) ?_
    refine KOps.bits (by simp) ?_
    refine KOps.eql ?_
    refine KOps.done ?_
    refine sqQ.normal ?_
    refine KA.sub (Sub.cons (t := 0) Look.eq (Sub.cons (t := 1) Look.eq (Sub.cons (t := 5) Look.eq (Sub.cons (t := 6) Look.eq (Sub.cons (t := 17) Look.eq (Sub.nil _)))))) ?_
    refine KA.condD ?_ ?_
    · intro c17
      refine KA.region rfl ?_
      refine KOps.move ?_
      refine KOps.move ?_
      refine KOps.move ?_
      refine KOps.indexIJ (by first | assumption | exact Rd.ext hS.keeps (by assumption)) (j := i) rfl (by first | omega | (simp; omega)) ?_
      intro p21 hp21
      refine KOps.loadI hp21 (by first | assumption | exact Rd.ext hS.keeps (by assumption)) (by first | omega | (simp; omega)) ?_
      refine KOps.buildSlice hS rfl (by decide) rfl ?_
      intro v23 h' hS
      refine KOps.appendI hS (fun _ => rfl) (i := 0) rfl (by first | omega | (simp; omega)) ?_
      intro r24 h' hr24 hS
      refine KOps.assign ?_
      refine KOps.done ?_
      refine blQ.normal ?_
      refine sqQ.normal ?_
      refine KA.sub (Sub.cons (t := 0) Look.eq (Sub.cons (t := 1) Look.eq (Sub.cons (t := 5) Look.eq (Sub.cons (t := 6) Look.eq (Sub.nil _))))) ?_
      refine KA.region rfl ?_
      refine KOps.move ?_
      refine KOps.add (by omega) (by omega) ?_
      refine KOps.assign ?_
      refine KOps.done ?_
      rw [if_pos (by rw [i64_and s hs i (by omega)] at c17; cases hb : s.testBit i <;> simp_all)] at hsc
      exact lpQ.normal (i + 1, r24) (by repeat (first | exact Sub.nil _ | refine Sub.cons Look.eq ?_ | refine Sub.cons (Eq.trans Look.eq (congrArg (AV.int _) (by first | omega | (dsimp only; omega)))) ?_)) ⟨by dsimp only; omega, by dsimp only; rw [hsc]; exact hS⟩ (by dsimp only; omega)
    · intro c17
      refine KA.skip ?_
      refine blQ.normal ?_
      refine sqQ.normal ?_
      refine KA.sub (Sub.cons (t := 0) Look.eq (Sub.cons (t := 1) Look.eq (Sub.cons (t := 5) Look.eq (Sub.cons (t := 6) Look.eq (Sub.nil _))))) ?_
      refine KA.region rfl ?_
      refine KOps.move ?_
      refine KOps.add (by omega) (by omega) ?_
      refine KOps.assign ?_
      refine KOps.done ?_
      rw [if_neg (by rw [i64_and s hs i (by omega)] at c17; cases hb : s.testBit i <;> simp_all)] at hsc
      exact lpQ.normal (i + 1, vo) (by repeat (first | exact Sub.nil _ | refine Sub.cons Look.eq ?_ | refine Sub.cons (Eq.trans Look.eq (congrArg (AV.int _) (by first | omega | (dsimp only; omega)))) ?_)) ⟨by dsimp only; omega, by dsimp only; rw [hsc]; exact hS⟩ (by dsimp only; omega)
  · intro c10
    refine KA.exit ?_
    refine sqQ.exit ?_
    refine lpQ.exit ?_
    refine blQ.here ?_
    refine sqQ.normal ?_
    refine KA.sub (Sub.cons (t := 5) Look.eq (Sub.nil _)) ?_
    refine KA.seq ?_
    refine KA.region rfl ?_
    refine KOps.move ?_
    refine KOps.assign ?_
    refine KOps.done ?_
    refine sqQ.normal ?_
    refine KA.sub (Sub.cons (t := 4) Look.eq (Sub.nil _)) ?_
    refine KA.ret ?_
    refine fnQ.ret1 ?_
    have he : i = l.length := by omega
    subst he
    exact hS

theorem before_c {h : AHeap} {v u : AV} {a b : List Int} (hv : Row h v a) (hu : Row h u b) (he : a.length = b.length) (hlen : a.length ≤ 4294967296) : ACalls Go.Proofs.Try.prog 70 [v, u] h (fun r h' => r = .bool (lexB a b) ∧ h = h') := by
  refine KA.fn 30 [.tmp 4] Go.Proofs.Try.func70 rfl (by decide) rfl rfl (Nat.le_of_ble_eq_true rfl) ?_
  show KA _ 30 _ _ [(0, v), (1, u)] _
  refine KA.seq ?_
  refine KA.region rfl ?_
  refine KOps.assign ?_
  refine KOps.done ?_
  refine sqQ.normal ?_
  refine KA.sub (Sub.cons (t := 0) Look.eq (Sub.cons (t := 1) Look.eq (Sub.nil _))) ?_
  refine KA.seq ?_
  refine KA.seq ?_
  refine KA.region rfl ?_
  refine KOps.assign ?_
  refine KOps.done ?_
  refine sqQ.normal ?_
  refine KA.block ?_
  refine KA.loop (X := Nat) (fun i => [(0, v), (1, u), (5, .int .i64 (i : Int))]) (fun i h' => h = h' ∧ i ≤ a.length ∧ ∀ j, j < i → a.getD j 0 = b.getD j 0) (fun i => a.length - i) 0 (by repeat (first | exact Sub.nil _ | refine Sub.cons Look.eq ?_ | refine Sub.cons (Eq.trans Look.eq (congrArg (AV.int _) (by first | omega | (dsimp only; omega)))) ?_)) ⟨rfl, by omega, by omega⟩ ?_
  rintro i _ ⟨rfl, hi, hj⟩
  refine KA.seq ?_
  refine KA.seq ?_
  refine KA.region rfl ?_
  refine KOps.move ?_
  refine KOps.move ?_
  refine KOps.lenI (by first | assumption | exact Rd.ext hS.keeps (by assumption)) ?_
  refine KOps.lss ?_
  refine KOps.done ?_
  refine sqQ.normal ?_
  refine KA.sub (Sub.cons (t := 0) Look.eq (Sub.cons (t := 1) Look.eq (Sub.cons (t := 5) Look.eq (Sub.cons (t := 9) Look.eq (Sub.nil _))))) ?_
  refine KA.condD ?_ ?_
  · intro c9
    refine KA.skip ?_
    refine sqQ.normal ?_
    refine KA.sub (Sub.cons (t := 0) Look.eq (Sub.cons (t := 1) Look.eq (Sub.cons (t := 5) Look.eq (Sub.nil _)))) ?_
    refine KA.seq ?_
    refine KA.block ?_
    refine KA.seq ?_
    refine KA.draw [] mixed rfl (by kernel_rfl) ?_
    refine KOps.move ?_
    refine KOps.move ?_
    refine KOps.indexIJ (by first | assumption | exact Rd.ext hS.keeps (by assumption)) (j := i) rfl (by first | omega | (simp; omega)) ?_
    intro p14 hp14
    refine KOps.loadI hp14 (by first | assumption | exact Rd.ext hS.keeps (by assumption)) (by first | omega | (simp; omega)) ?_
    refine KOps.move ?_
    refine KOps.move ?_
    refine KOps.indexIJ (by first | assumption | exact Rd.ext hS.keeps (by assumption)) (j := i) rfl (by first | omega | (simp; omega)) ?_
    intro p18 hp18
    refine KOps.loadI hp18 (by first | assumption | exact Rd.ext hS.keeps (by assumption)) (by first | omega | (simp; omega)) ?_
    refine KOps.neq ?_
    refine KOps.done ?_
    refine sqQ.normal ?_
    refine KA.sub (Sub.cons (t := 0) Look.eq (Sub.cons (t := 1) Look.eq (Sub.cons (t := 5) Look.eq (Sub.cons (t := 20) Look.eq (Sub.nil _))))) ?_
    refine KA.condN ?_ ?_
    · intro c20
      refine KA.seq ?_
      refine KA.draw [] mixed rfl (by kernel_rfl) ?_
      refine KOps.move ?_
      refine KOps.move ?_
      refine KOps.indexIJ (by first | assumption | exact Rd.ext hS.keeps (by assumption)) (j := i) rfl (by first | omega | (simp; omega)) ?_
      intro p23 hp23
      refine KOps.loadI hp23 (by first | assumption | exact Rd.ext hS.keeps (by assumption)) (by first | omega | (simp; omega)) ?_
      refine KOps.move ?_
      refine KOps.move ?_
      refine KOps.indexIJ (by first | assumption | exact Rd.ext hS.keeps (by assumption)) (j := i) rfl (by first | omega | (simp; omega)) ?_
      intro p27 hp27
      refine KOps.loadI hp27 (by first | assumption | exact Rd.ext hS.keeps (by assumption)) (by first | omega | (simp; omega)) ?_
      refine KOps.lss ?_
      refine KOps.assign ?_
      refine KOps.done ?_
      refine sqQ.normal ?_
      refine KA.sub (Sub.cons (t := 4) Look.eq (Sub.nil _)) ?_
      refine KA.ret ?_
      refine blQ.ret ?_
      refine sqQ.ret ?_
      refine lpQ.ret ?_
      refine blQ.ret ?_
      refine sqQ.ret ?_
      refine fnQ.ret1 ?_
      exact ⟨by rw [lexB_at hj (by omega) (by omega) c20], rfl⟩
    · intro c20
      refine KA.skip ?_
      refine blQ.normal ?_
      refine sqQ.normal ?_
      refine KA.sub (Sub.cons (t := 0) Look.eq (Sub.cons (t := 1) Look.eq (Sub.cons (t := 5) Look.eq (Sub.nil _)))) ?_
      refine KA.region rfl ?_
      refine KOps.move ?_
      refine KOps.add (by omega) (by omega) ?_
      refine KOps.assign ?_
      refine KOps.done ?_
      refine lpQ.normal (i + 1) (by repeat (first | exact Sub.nil _ | refine Sub.cons Look.eq ?_ | refine Sub.cons (Eq.trans Look.eq (congrArg (AV.int _) (by first | omega | (dsimp only; omega)))) ?_)) ⟨rfl, by omega, ?_⟩ (by omega)
      intro j hj2; rcases Nat.lt_succ_iff_lt_or_eq.1 hj2 with h1 | rfl
      · exact hj j h1
      · exact c20
  · intro c9
    refine KA.exit ?_
    refine sqQ.exit ?_
    refine lpQ.exit ?_
    refine blQ.here ?_
    refine sqQ.normal ?_
    refine KA.sub (Sub.nil _) ?_
    refine KA.seq ?_
    refine KA.region rfl ?_
    refine KOps.assign ?_
    refine KOps.done ?_
    refine sqQ.normal ?_
    refine KA.ret ?_
    refine fnQ.ret1 ?_
    refine ⟨?_, rfl⟩
    have hab : a = b := ext_getD he (fun j h => hj j (by omega))
    subst hab
    rw [lexB_self]

theorem runs_c {h : AHeap} {v : AV} {l : List Int} {f : Bool} (hv : Row h v l) (hlen : l.length ≤ 4294967296) : ACalls Go.Proofs.Try.prog 74 [v, .bool f] h (fun r h' => r = .bool (runsB l f) ∧ h = h') := by
  refine KA.fn 24 [.tmp 4] Go.Proofs.Try.func74 rfl (by decide) rfl rfl (Nat.le_of_ble_eq_true rfl) ?_
  show KA _ 24 _ _ [(0, v), (1, .bool f)] _
  refine KA.seq ?_
  refine KA.region rfl ?_
  refine KOps.assign ?_
  refine KOps.done ?_
  refine sqQ.normal ?_
  refine KA.sub (Sub.cons (t := 0) Look.eq (Sub.cons (t := 1) Look.eq (Sub.nil _))) ?_
  refine KA.seq ?_
  refine KA.seq ?_
  refine KA.region rfl ?_
  refine KOps.assign ?_
  refine KOps.done ?_
  refine sqQ.normal ?_
  refine KA.block ?_
  refine KA.loop (X := Nat) (fun i => [(0, v), (1, .bool f), (5, .int .i64 (i : Int))]) (fun i h' => h = h' ∧ 1 ≤ i ∧ i ≤ l.length + 1 ∧ ∀ j, 0 < j → j < i → j < l.length → decide (l.getD (j - 1) 0 < l.getD j 0) ≠ f) (fun i => l.length + 1 - i) 1 (by repeat (first | exact Sub.nil _ | refine Sub.cons Look.eq ?_ | refine Sub.cons (Eq.trans Look.eq (congrArg (AV.int _) (by first | omega | (dsimp only; omega)))) ?_)) ⟨rfl, by omega, by omega, by omega⟩ ?_
  rintro i _ ⟨rfl, h1, hi, hj⟩
  refine KA.seq ?_
  refine KA.seq ?_
  refine KA.region rfl ?_
  refine KOps.move ?_
  refine KOps.move ?_
  refine KOps.lenI (by first | assumption | exact Rd.ext hS.keeps (by assumption)) ?_
  refine KOps.lss ?_
  refine KOps.done ?_
  refine sqQ.normal ?_
  refine KA.sub (Sub.cons (t := 0) Look.eq (Sub.cons (t := 1) Look.eq (Sub.cons (t := 5) Look.eq (Sub.cons (t := 9) Look.eq (Sub.nil _))))) ?_
  refine KA.condD ?_ ?_
  · intro c9
    refine KA.skip ?_
    refine sqQ.normal ?_
    refine KA.sub (Sub.cons (t := 0) Look.eq (Sub.cons (t := 1) Look.eq (Sub.cons (t := 5) Look.eq (Sub.nil _)))) ?_
    refine KA.seq ?_
    refine KA.block ?_
    refine KA.seq ?_
    refine KA.draw [] mixed rfl (by kernel_rfl) ?_
    refine KOps.move ?_
    refine KOps.move ?_
    refine KOps.indexIJ (by first | assumption | exact Rd.ext hS.keeps (by assumption)) (j := i) rfl (by first | omega | (simp; omega)) ?_
    intro p14 hp14
    refine KOps.loadI hp14 (by first | assumption | exact Rd.ext hS.keeps (by assumption)) (by first | omega | (simp; omega)) ?_
    refine KOps.move ?_
    refine KOps.move ?_
    refine KOps.sub (by omega) (by omega) ?_
    refine KOps.indexIJ (by first | assumption | exact Rd.ext hS.keeps (by assumption)) (j := (i - 1)) (by omega) (by first | omega | (simp; omega)) ?_
    intro p19 hp19
    refine KOps.loadI hp19 (by first | assumption | exact Rd.ext hS.keeps (by assumption)) (by first | omega | (simp; omega)) ?_
    refine KOps.gtr ?_
    refine KOps.move ?_
    refine KOps.eqlB (by kernel_rfl) ?_
    refine KOps.done ?_
    refine sqQ.normal ?_
    refine KA.sub (Sub.cons (t := 0) Look.eq (Sub.cons (t := 1) Look.eq (Sub.cons (t := 5) Look.eq (Sub.cons (t := 23) Look.eq (Sub.nil _))))) ?_
    refine KA.condB ?_ ?_
    · intro c23
      refine KA.seq ?_
      refine KA.region rfl ?_
      refine KOps.assign ?_
      refine KOps.done ?_
      refine sqQ.normal ?_
      refine KA.sub (Sub.cons (t := 4) Look.eq (Sub.nil _)) ?_
      refine KA.ret ?_
      refine blQ.ret ?_
      refine sqQ.ret ?_
      refine lpQ.ret ?_
      refine blQ.ret ?_
      refine sqQ.ret ?_
      refine fnQ.ret1 ?_
      exact ⟨by rw [runsB_false (i := i) (by omega) (by omega) (by simpa using c23)], rfl⟩
    · intro c23
      refine KA.skip ?_
      refine blQ.normal ?_
      refine sqQ.normal ?_
      refine KA.sub (Sub.cons (t := 0) Look.eq (Sub.cons (t := 1) Look.eq (Sub.cons (t := 5) Look.eq (Sub.nil _)))) ?_
      refine KA.region rfl ?_
      refine KOps.move ?_
      refine KOps.add (by omega) (by omega) ?_
      refine KOps.assign ?_
      refine KOps.done ?_
      refine lpQ.normal (i + 1) (by repeat (first | exact Sub.nil _ | refine Sub.cons Look.eq ?_ | refine Sub.cons (Eq.trans Look.eq (congrArg (AV.int _) (by first | omega | (dsimp only; omega)))) ?_)) ⟨rfl, by omega, by omega, ?_⟩ (by omega)
      intro j h0 hj2 hl; rcases Nat.lt_succ_iff_lt_or_eq.1 hj2 with h1 | rfl
      · exact hj j h0 h1 hl
      · simpa using c23
  · intro c9
    refine KA.exit ?_
    refine sqQ.exit ?_
    refine lpQ.exit ?_
    refine blQ.here ?_
    refine sqQ.normal ?_
    refine KA.sub (Sub.nil _) ?_
    refine KA.seq ?_
    refine KA.region rfl ?_
    refine KOps.assign ?_
    refine KOps.done ?_
    refine sqQ.normal ?_
    refine KA.ret ?_
    refine fnQ.ret1 ?_
    exact ⟨by rw [runsB_true (fun j h0 hl => hj j h0 (by omega) hl)], rfl⟩

theorem longest_c {h : AHeap} {v : AV} {l : List Int} {f : Bool} (hv : Row h v l) (hlen : l.length ≤ 9) : ACalls Go.Proofs.Try.prog 64 [v, .bool f] h (fun r h' => St h h' [⟨r, 1, ints (bestOf l f), true⟩]) := by
  refine KA.fn 42 [.tmp 4] Go.Proofs.Try.func64 rfl (by decide) rfl rfl (Nat.le_of_ble_eq_true rfl) ?_
  have hS := St.refl h
  have hpw : 2 ^ l.length ≤ 2 ^ 9 := Nat.pow_le_pow_right (by decide) hlen
  have hsh := i64_shl l.length hlen
  show KA _ 42 _ _ [(0, v), (1, .bool f)] _
  refine KA.seq ?_
  refine KA.region rfl ?_
  refine KOps.assign ?_
  refine KOps.done ?_
  refine sqQ.normal ?_
  refine KA.sub (Sub.cons (t := 0) Look.eq (Sub.cons (t := 1) Look.eq (Sub.nil _))) ?_
  refine KA.seq ?_
  refine KA.region rfl ?_
  refine KOps.assign ?_
  refine KOps.done ?_
  refine sqQ.normal ?_
  refine KA.seq ?_
  refine KA.seq ?_
  refine KA.region rfl ?_
  refine KOps.assign ?_
  refine KOps.done ?_
  refine sqQ.normal ?_
  refine KA.block ?_
  refine KA.loop (X := Nat × AV) (fun x => [(0, v), (1, .bool f), (5, x.2), (6, .int .i64 (x.1 : Int))]) (fun x h' => x.1 ≤ 2 ^ l.length ∧ St h h' [⟨x.2, 1, ints (bestTo l f x.1), true⟩]) (fun x => 2 ^ l.length - x.1) (0, .nils) (by repeat (first | exact Sub.nil _ | refine Sub.cons Look.eq ?_ | refine Sub.cons (Eq.trans Look.eq (congrArg (AV.int _) (by first | omega | (dsimp only; omega)))) ?_)) ?_ ?_
  · exact ⟨Nat.zero_le _, St.nil hS 1⟩
  rintro ⟨s, vo⟩ h1 ⟨hi, hS⟩
  dsimp only at hi hS ⊢
  have hbl := bestTo_len l f s
  have hrl : (rowS l s).length ≤ l.length := rowT_len l s _
  have hsc := bestTo_succ l f s
  refine KA.seq ?_
  refine KA.seq ?_
  refine KA.region rfl ?_
  refine KOps.move ?_
  refine KOps.move ?_
  refine KOps.lenI (by first | assumption | exact Rd.ext hS.keeps (by assumption)) ?_
  refine KOps.shl (by omega) ?_
  rw [hsh]
  refine KOps.lss ?_
  refine KOps.done ?_
  refine sqQ.normal ?_
  refine KA.sub (Sub.cons (t := 0) Look.eq (Sub.cons (t := 1) Look.eq (Sub.cons (t := 5) Look.eq (Sub.cons (t := 6) Look.eq (Sub.cons (t := 12) Look.eq (Sub.nil _)))))) ?_
  refine KA.condD ?_ ?_
  · intro c12
    refine KA.skip ?_
    refine sqQ.normal ?_
    refine KA.sub (Sub.cons (t := 0) Look.eq (Sub.cons (t := 1) Look.eq (Sub.cons (t := 5) Look.eq (Sub.cons (t := 6) Look.eq (Sub.nil _))))) ?_
    refine KA.seq ?_
    refine KA.block ?_
    refine KA.seq ?_
    refine KA.region rfl ?_
    refine KOps.move ?_
    refine KOps.move ?_
    refine KOps.call rfl (row_c (by first | assumption | exact Rd.ext hS.keeps (by assumption)) (by first | omega | (simp; omega)) (by first | omega | (simp; omega))) ?_
    rintro v17 h17 hS17
    have hS : St _ _ (_ :: _) := St.trans hS hS17
    refine KOps.assign ?_
    refine KOps.done ?_
    refine sqQ.normal ?_
    refine KA.sub (Sub.cons (t := 0) Look.eq (Sub.cons (t := 1) Look.eq (Sub.cons (t := 5) Look.eq (Sub.cons (t := 6) Look.eq (Sub.cons (t := 7) Look.eq (Sub.nil _)))))) ?_
    refine KA.meet (X := Unit) (fun _ => [(0, v), (1, .bool f), (5, vo), (6, .int .i64 (s : Int)), (7, v17), (39, .bool (runsB (rowS l s) f && better (rowS l s) (bestTo l f s)))]) (fun _ h' => St h h' [⟨v17, 1, ints (rowS l s), true⟩, ⟨vo, 1, ints (bestTo l f s), true⟩]) ?_ ?_
    ·
      refine KA.region rfl ?_
      refine KOps.move ?_
      refine KOps.move ?_
      refine KOps.call rfl (runs_c (hS.rd 0 rfl) (by first | omega | (simp; omega))) ?_
      rintro _ _ ⟨rfl, rfl⟩
      refine KOps.move ?_
      refine KOps.guardB (dj := 21) rfl rfl true false rfl ?_ ?_
      · intro g21
        refine KOps.move ?_
        refine KOps.guardYes (dj := 21) rfl rfl ?_
        refine KOps.lenI (hS.rd 0 rfl) ?_
        refine KOps.guardYes (dj := 21) rfl rfl ?_
        refine KOps.move ?_
        refine KOps.guardYes (dj := 21) rfl rfl ?_
        refine KOps.lenI (hS.rd 1 rfl) ?_
        refine KOps.guardYes (dj := 21) rfl rfl ?_
        refine KOps.gtr ?_
        refine KOps.guardYes (dj := 21) rfl rfl ?_
        refine KOps.move ?_
        refine KOps.guardB (dj := 27) rfl rfl false true rfl ?_ ?_
        · intro g27
          have g27 := of_decide_eq_false g27
          refine KOps.move ?_
          refine KOps.guardYes (dj := 27) rfl rfl ?_
          refine KOps.lenI (hS.rd 0 rfl) ?_
          refine KOps.guardYes (dj := 27) rfl rfl ?_
          refine KOps.move ?_
          refine KOps.guardYes (dj := 27) rfl rfl ?_
          refine KOps.lenI (hS.rd 1 rfl) ?_
          refine KOps.guardYes (dj := 27) rfl rfl ?_
          refine KOps.eql ?_
          refine KOps.guardYes (dj := 27) rfl rfl ?_
          refine KOps.move ?_
          refine KOps.guardB (dj := 33) rfl rfl true false rfl ?_ ?_
          · intro g33
            have g33 := of_decide_eq_true g33
            refine KOps.move ?_
            refine KOps.guardYes (dj := 33) rfl rfl ?_
            refine KOps.move ?_
            refine KOps.guardYes (dj := 33) rfl rfl ?_
            refine KOps.call rfl (before_c (hS.rd 0 rfl) (hS.rd 1 rfl) (by first | omega | (simp; omega)) (by first | omega | (simp; omega))) ?_
            rintro _ _ ⟨rfl, rfl⟩
            refine KOps.guardYes (dj := 27) rfl rfl ?_
            refine KOps.pickT ?_
            refine KOps.guardYes (dj := 21) rfl rfl ?_
            refine KOps.pickF ?_
            refine KOps.pickT ?_
            refine KOps.done ?_
            exact mtQ.normal () (by repeat (first | exact Sub.nil _ | refine Sub.cons Look.eq ?_ | refine Sub.cons (Eq.trans Look.eq (congrArg AV.bool (by rw [g21, Bool.true_and, better_eq (a := rowS l s) (b := bestTo l f s) (by omega)]))) ?_)) hS
          · intro g33
            have g33 := of_decide_eq_false g33
            refine KOps.guardNo (dj := 33) rfl rfl rfl ?_
            refine KOps.guardNo (dj := 33) rfl rfl rfl ?_
            refine KOps.guardYes (dj := 27) rfl rfl ?_
            refine KOps.pickF ?_
            refine KOps.guardYes (dj := 21) rfl rfl ?_
            refine KOps.pickF ?_
            refine KOps.pickT ?_
            refine KOps.done ?_
            exact mtQ.normal () (by repeat (first | exact Sub.nil _ | refine Sub.cons Look.eq ?_ | refine Sub.cons (Eq.trans Look.eq (congrArg AV.bool (by rw [g21, Bool.true_and, better_short (a := rowS l s) (b := bestTo l f s) (by omega) (by omega)]))) ?_)) hS
        · intro g27
          have g27 := of_decide_eq_true g27
          refine KOps.guardNo (dj := 27) rfl rfl rfl ?_
          refine KOps.guardNo (dj := 27) rfl rfl rfl ?_
          refine KOps.guardNo (dj := 27) rfl rfl rfl ?_
          refine KOps.guardNo (dj := 27) rfl rfl rfl ?_
          refine KOps.guardNo (dj := 27) rfl rfl rfl ?_
          refine KOps.guardTup (dj := 33) rfl rfl ?_
          refine KOps.guardTup (dj := 33) rfl rfl ?_
          refine KOps.guardTup (dj := 33) rfl rfl ?_
          refine KOps.guardNo (dj := 27) rfl rfl rfl ?_
          refine KOps.guardYes (dj := 21) rfl rfl ?_
          refine KOps.pickT ?_
          refine KOps.pickT ?_
          refine KOps.done ?_
          exact mtQ.normal () (by repeat (first | exact Sub.nil _ | refine Sub.cons Look.eq ?_ | refine Sub.cons (Eq.trans Look.eq (congrArg AV.bool (by rw [g21, Bool.true_and, better_long (a := rowS l s) (b := bestTo l f s) (by omega)]))) ?_)) hS
      · intro g21
        refine KOps.guardNo (dj := 21) rfl rfl rfl ?_
        refine KOps.guardNo (dj := 21) rfl rfl rfl ?_
        refine KOps.guardNo (dj := 21) rfl rfl rfl ?_
        refine KOps.guardNo (dj := 21) rfl rfl rfl ?_
        refine KOps.guardNo (dj := 21) rfl rfl rfl ?_
        refine KOps.guardTup (dj := 27) rfl rfl ?_
        refine KOps.guardTup (dj := 27) rfl rfl ?_
        refine KOps.guardTup (dj := 27) rfl rfl ?_
        refine KOps.guardTup (dj := 27) rfl rfl ?_
        refine KOps.guardTup (dj := 27) rfl rfl ?_
        refine KOps.guardTup (dj := 27) rfl rfl ?_
        refine KOps.guardTup (dj := 33) rfl rfl ?_
        refine KOps.guardTup (dj := 33) rfl rfl ?_
        refine KOps.guardTup (dj := 33) rfl rfl ?_
        refine KOps.guardTup (dj := 27) rfl rfl ?_
        refine KOps.guardNo (dj := 21) rfl rfl rfl ?_
        refine KOps.pickF ?_
        refine KOps.done ?_
        exact mtQ.normal () (by repeat (first | exact Sub.nil _ | refine Sub.cons Look.eq ?_ | refine Sub.cons (Eq.trans Look.eq (congrArg AV.bool (by rw [g21, Bool.false_and]))) ?_)) hS
    ·
      rintro _ h2 hS
      refine KA.condB ?_ ?_
      · intro c39
        refine KA.region rfl ?_
        refine KOps.move ?_
        refine KOps.assign ?_
        refine KOps.done ?_
        refine blQ.normal ?_
        refine sqQ.normal ?_
        refine KA.sub (Sub.cons (t := 0) Look.eq (Sub.cons (t := 1) Look.eq (Sub.cons (t := 5) Look.eq (Sub.cons (t := 6) Look.eq (Sub.nil _))))) ?_
        refine KA.region rfl ?_
        refine KOps.move ?_
        refine KOps.add (by omega) (by omega) ?_
        refine KOps.assign ?_
        refine KOps.done ?_
        rw [if_pos c39] at hsc
        exact lpQ.normal (s + 1, v17) (by repeat (first | exact Sub.nil _ | refine Sub.cons Look.eq ?_ | refine Sub.cons (Eq.trans Look.eq (congrArg (AV.int _) (by first | omega | (dsimp only; omega)))) ?_)) ⟨by dsimp only; omega, by dsimp only; rw [hsc]; exact St.keep (A := [_]) (B := [_]) hS⟩ (by dsimp only; omega)
      · intro c39
        refine KA.skip ?_
        refine blQ.normal ?_
        refine sqQ.normal ?_
        refine KA.sub (Sub.cons (t := 0) Look.eq (Sub.cons (t := 1) Look.eq (Sub.cons (t := 5) Look.eq (Sub.cons (t := 6) Look.eq (Sub.nil _))))) ?_
        refine KA.region rfl ?_
        refine KOps.move ?_
        refine KOps.add (by omega) (by omega) ?_
        refine KOps.assign ?_
        refine KOps.done ?_
        rw [if_neg (by simp [c39])] at hsc
        exact lpQ.normal (s + 1, vo) (by repeat (first | exact Sub.nil _ | refine Sub.cons Look.eq ?_ | refine Sub.cons (Eq.trans Look.eq (congrArg (AV.int _) (by first | omega | (dsimp only; omega)))) ?_)) ⟨by dsimp only; omega, by dsimp only; rw [hsc]; exact St.tail hS⟩ (by dsimp only; omega)
  · intro c12
    refine KA.exit ?_
    refine sqQ.exit ?_
    refine lpQ.exit ?_
    refine blQ.here ?_
    refine sqQ.normal ?_
    refine KA.sub (Sub.cons (t := 5) Look.eq (Sub.nil _)) ?_
    refine KA.seq ?_
    refine KA.region rfl ?_
    refine KOps.move ?_
    refine KOps.assign ?_
    refine KOps.done ?_
    refine sqQ.normal ?_
    refine KA.sub (Sub.cons (t := 4) Look.eq (Sub.nil _)) ?_
    refine KA.ret ?_
    refine fnQ.ret1 ?_
    have he : s = 2 ^ l.length := by omega
    subst he
    exact hS

theorem refRising_c {h : AHeap} {v : AV} {l : List Int} (hv : Row h v l) (hlen : l.length ≤ 4294967296) : ACalls Go.Proofs.Try.prog 20 [v] h (fun r h' => ∃ vo, r = .tup [vo, .int .i64 (checkE l)] ∧ St h h' [⟨vo, 1, ints (okE l [] (bestOf l false)), true⟩]) := by
  refine KA.fn 12 [.tmp 2, .tmp 3] Go.Proofs.Try.func20 rfl (by decide) rfl rfl (Nat.le_of_ble_eq_true rfl) ?_
  have hS := St.refl h
  show KA _ 12 _ _ [(0, v)] _
  refine KA.seq ?_
  refine KA.region rfl ?_
  refine KOps.assign ?_
  refine KOps.assign ?_
  refine KOps.done ?_
  refine sqQ.normal ?_
  refine KA.sub (Sub.cons (t := 0) Look.eq (Sub.nil _)) ?_
  refine KA.seq ?_
  refine KA.region rfl ?_
  refine KOps.move ?_
  refine KOps.call rfl (refCheck_c (by first | assumption | exact Rd.ext hS.keeps (by assumption)) (by first | omega | (simp; omega))) ?_
  rintro _ _ ⟨rfl, rfl⟩
  refine KOps.assign ?_
  refine KOps.done ?_
  refine sqQ.normal ?_
  refine KA.sub (Sub.cons (t := 0) Look.eq (Sub.cons (t := 4) Look.eq (Sub.nil _))) ?_
  refine KA.seq ?_
  refine KA.seq ?_
  refine KA.region rfl ?_
  refine KOps.move ?_
  refine KOps.neq ?_
  refine KOps.done ?_
  refine sqQ.normal ?_
  refine KA.sub (Sub.cons (t := 0) Look.eq (Sub.cons (t := 4) Look.eq (Sub.cons (t := 8) Look.eq (Sub.nil _)))) ?_
  refine KA.condN ?_ ?_
  · intro c8
    refine KA.seq ?_
    refine KA.region rfl ?_
    refine KOps.move ?_
    refine KOps.assign ?_
    refine KOps.assign ?_
    refine KOps.done ?_
    refine sqQ.normal ?_
    refine KA.sub (Sub.cons (t := 2) Look.eq (Sub.cons (t := 3) Look.eq (Sub.nil _))) ?_
    refine KA.ret ?_
    refine sqQ.ret ?_
    refine fnQ.retN ?_
    refine ⟨.nils, rfl, ?_⟩
    rw [okE_no c8]
    exact St.nil (St.refl h) 1
  · intro c8
    obtain ⟨hl0, hl9, hpk⟩ := checkE_ok c8
    refine KA.skip ?_
    refine sqQ.normal ?_
    refine KA.sub (Sub.cons (t := 0) Look.eq (Sub.nil _)) ?_
    refine KA.seq ?_
    refine KA.region rfl ?_
    refine KOps.move ?_
    refine KOps.call rfl (longest_c (by first | assumption | exact Rd.ext hS.keeps (by assumption)) (by first | omega | (simp; omega))) ?_
    rintro v11 h11 hS11
    have hS : St _ _ (_ :: _) := St.trans hS hS11
    refine KOps.assign ?_
    refine KOps.assign ?_
    refine KOps.done ?_
    refine sqQ.normal ?_
    refine KA.sub (Sub.cons (t := 2) Look.eq (Sub.cons (t := 3) Look.eq (Sub.nil _))) ?_
    refine KA.ret ?_
    refine fnQ.retN ?_
    refine ⟨v11, by rw [c8], ?_⟩
    rw [okE_yes c8]
    exact hS

theorem refFalling_c {h : AHeap} {v : AV} {l : List Int} (hv : Row h v l) (hlen : l.length ≤ 4294967296) : ACalls Go.Proofs.Try.prog 22 [v] h (fun r h' => ∃ vo, r = .tup [vo, .int .i64 (checkE l)] ∧ St h h' [⟨vo, 1, ints (okE l [] (bestOf l true)), true⟩]) := by
  refine KA.fn 12 [.tmp 2, .tmp 3] Go.Proofs.Try.func22 rfl (by decide) rfl rfl (Nat.le_of_ble_eq_true rfl) ?_
  have hS := St.refl h
  show KA _ 12 _ _ [(0, v)] _
  refine KA.seq ?_
  refine KA.region rfl ?_
  refine KOps.assign ?_
  refine KOps.assign ?_
  refine KOps.done ?_
  refine sqQ.normal ?_
  refine KA.sub (Sub.cons (t := 0) Look.eq (Sub.nil _)) ?_
  refine KA.seq ?_
  refine KA.region rfl ?_
  refine KOps.move ?_
  refine KOps.call rfl (refCheck_c (by first | assumption | exact Rd.ext hS.keeps (by assumption)) (by first | omega | (simp; omega))) ?_
  rintro _ _ ⟨rfl, rfl⟩
  refine KOps.assign ?_
  refine KOps.done ?_
  refine sqQ.normal ?_
  refine KA.sub (Sub.cons (t := 0) Look.eq (Sub.cons (t := 4) Look.eq (Sub.nil _))) ?_
  refine KA.seq ?_
  refine KA.seq ?_
  refine KA.region rfl ?_
  refine KOps.move ?_
  refine KOps.neq ?_
  refine KOps.done ?_
  refine sqQ.normal ?_
  refine KA.sub (Sub.cons (t := 0) Look.eq (Sub.cons (t := 4) Look.eq (Sub.cons (t := 8) Look.eq (Sub.nil _)))) ?_
  refine KA.condN ?_ ?_
  · intro c8
    refine KA.seq ?_
    refine KA.region rfl ?_
    refine KOps.move ?_
    refine KOps.assign ?_
    refine KOps.assign ?_
    refine KOps.done ?_
    refine sqQ.normal ?_
    refine KA.sub (Sub.cons (t := 2) Look.eq (Sub.cons (t := 3) Look.eq (Sub.nil _))) ?_
    refine KA.ret ?_
    refine sqQ.ret ?_
    refine fnQ.retN ?_
    refine ⟨.nils, rfl, ?_⟩
    rw [okE_no c8]
    exact St.nil (St.refl h) 1
  · intro c8
    obtain ⟨hl0, hl9, hpk⟩ := checkE_ok c8
    refine KA.skip ?_
    refine sqQ.normal ?_
    refine KA.sub (Sub.cons (t := 0) Look.eq (Sub.nil _)) ?_
    refine KA.seq ?_
    refine KA.region rfl ?_
    refine KOps.move ?_
    refine KOps.call rfl (longest_c (by first | assumption | exact Rd.ext hS.keeps (by assumption)) (by first | omega | (simp; omega))) ?_
    rintro v11 h11 hS11
    have hS : St _ _ (_ :: _) := St.trans hS hS11
    refine KOps.assign ?_
    refine KOps.assign ?_
    refine KOps.done ?_
    refine sqQ.normal ?_
    refine KA.sub (Sub.cons (t := 2) Look.eq (Sub.cons (t := 3) Look.eq (Sub.nil _))) ?_
    refine KA.ret ?_
    refine fnQ.retN ?_
    refine ⟨v11, by rw [c8], ?_⟩
    rw [okE_yes c8]
    exact hS

end Go.Am
