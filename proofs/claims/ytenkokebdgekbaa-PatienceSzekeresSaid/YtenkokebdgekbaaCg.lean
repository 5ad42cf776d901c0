/-
  Contracts of layer 13: cards that are moved; the law of it.
  Conditions: none.
-/
import Derived.Test.YtenkokebdgekbaaCf
import Derived.Test.YtenkokebdgekbaaPt5
namespace Go.Am
open Go.Gr

theorem index_c {h : AHeap} {v : AV} {l : List Int} {x : Int} (hv : Row h v l) (hlen : l.length ≤ 4294967296) : ACalls Go.Proofs.Try.prog 94 [v, .int .i64 x] h (fun r h' => (∃ i : Int, r = .int .i64 i ∧ (0 ≤ i ↔ x ∈ l)) ∧ h = h') := by
  refine KA.fn 19 [.tmp 4] Go.Proofs.Try.func94 rfl (by decide) rfl rfl (Nat.le_of_ble_eq_true rfl) ?_
  show KA _ 19 _ _ [(0, v), (1, .int .i64 x)] _
  refine KA.seq ?_
  refine KA.region rfl ?_
  refine KOps.assign ?_
  refine KOps.done ?_
  refine sqQ.normal ?_
  refine KA.sub (Sub.cons (t := 0) Look.eq (Sub.cons (t := 1) Look.eq (Sub.nil _))) ?_
  refine KA.seq ?_
  refine KA.seq ?_
  refine KA.region rfl ?_
  refine KOps.move ?_
  refine KOps.lenI (by first | assumption | exact Rd.ext hS.keeps (by assumption)) ?_
  refine KOps.move ?_
  refine KOps.done ?_
  refine sqQ.normal ?_
  refine KA.sub (Sub.cons (t := 0) Look.eq (Sub.cons (t := 1) Look.eq (Sub.cons (t := 7) Look.eq (Sub.cons (t := 8) Look.eq (Sub.nil _))))) ?_
  refine KA.block ?_
  refine KA.loop (X := Nat) (fun i => [(0, v), (1, .int .i64 x), (7, .int .i64 (l.length : Int)), (8, .int .i64 (i : Int))]) (fun i h' => h = h' ∧ i ≤ l.length ∧ ∀ j, j < i → x ≠ l.getD j 0) (fun i => l.length - i) 0 (by repeat (first | exact Sub.nil _ | refine Sub.cons Look.eq ?_ | refine Sub.cons (Eq.trans Look.eq (congrArg (AV.int _) (by first | omega | (dsimp only; omega)))) ?_)) ⟨rfl, by omega, by omega⟩ ?_
  rintro i _ ⟨rfl, hi, hne⟩
  refine KA.seq ?_
  refine KA.region rfl ?_
  refine KOps.lss ?_
  refine KOps.done ?_
  refine sqQ.normal ?_
  refine KA.seq ?_
  refine KA.condD ?_ ?_
  · intro c9
    refine KA.skip ?_
    refine sqQ.normal ?_
    refine KA.sub (Sub.cons (t := 0) Look.eq (Sub.cons (t := 1) Look.eq (Sub.cons (t := 7) Look.eq (Sub.cons (t := 8) Look.eq (Sub.nil _))))) ?_
    refine KA.seq ?_
    refine KA.block ?_
    refine KA.seq ?_
    refine KA.region rfl ?_
    refine KOps.move ?_
    refine KOps.assign ?_
    refine KOps.done ?_
    refine sqQ.normal ?_
    refine KA.sub (Sub.cons (t := 0) Look.eq (Sub.cons (t := 1) Look.eq (Sub.cons (t := 5) Look.eq (Sub.cons (t := 7) Look.eq (Sub.cons (t := 8) Look.eq (Sub.nil _)))))) ?_
    refine KA.seq ?_
    refine KA.region rfl ?_
    refine KOps.move ?_
    refine KOps.move ?_
    refine KOps.move ?_
    refine KOps.indexIJ (by first | assumption | exact Rd.ext hS.keeps (by assumption)) (j := i) rfl (by first | omega | (simp; omega)) ?_
    intro p14 hp14
    refine KOps.loadI hp14 (by first | assumption | exact Rd.ext hS.keeps (by assumption)) (by first | omega | (simp; omega)) ?_
    refine KOps.eql ?_
    refine KOps.done ?_
    refine sqQ.normal ?_
    refine KA.sub (Sub.cons (t := 0) Look.eq (Sub.cons (t := 1) Look.eq (Sub.cons (t := 5) Look.eq (Sub.cons (t := 7) Look.eq (Sub.cons (t := 8) Look.eq (Sub.cons (t := 16) Look.eq (Sub.nil _))))))) ?_
    refine KA.condD ?_ ?_
    · intro c16
      refine KA.seq ?_
      refine KA.region rfl ?_
      refine KOps.move ?_
      refine KOps.assign ?_
      refine KOps.done ?_
      refine sqQ.normal ?_
      refine KA.sub (Sub.cons (t := 4) Look.eq (Sub.nil _)) ?_
      refine KA.ret ?_
      refine blQ.ret ?_
      refine sqQ.ret ?_
      refine lpQ.ret ?_
      refine blQ.ret ?_
      refine sqQ.ret ?_
      refine fnQ.ret1 ?_
      exact ⟨⟨_, rfl, ⟨fun _ => by rw [c16]; exact getD_mem (by omega), fun _ => by omega⟩⟩, rfl⟩
    · intro c16
      refine KA.skip ?_
      refine blQ.normal ?_
      refine sqQ.normal ?_
      refine KA.sub (Sub.cons (t := 0) Look.eq (Sub.cons (t := 1) Look.eq (Sub.cons (t := 7) Look.eq (Sub.cons (t := 8) Look.eq (Sub.nil _))))) ?_
      refine KA.region rfl ?_
      refine KOps.add (by omega) (by omega) ?_
      refine KOps.move ?_
      refine KOps.done ?_
      refine lpQ.normal (i + 1) (by repeat (first | exact Sub.nil _ | refine Sub.cons Look.eq ?_ | refine Sub.cons (Eq.trans Look.eq (congrArg (AV.int _) (by first | omega | (dsimp only; omega)))) ?_)) ⟨rfl, by omega, ?_⟩ (by omega)
      intro j hj; rcases Nat.lt_succ_iff_lt_or_eq.1 hj with h1 | rfl
      · exact hne j h1
      · exact c16
  · intro c9
    refine KA.exit ?_
    refine sqQ.exit ?_
    refine lpQ.exit ?_
    refine blQ.here ?_
    refine sqQ.normal ?_
    refine KA.sub (Sub.nil _) ?_
    refine KA.seq ?_
    refine KA.region rfl ?_
    refine KOps.assign ?_
    refine KOps.done ?_
    refine sqQ.normal ?_
    refine KA.ret ?_
    refine fnQ.ret1 ?_
    exact ⟨⟨_, rfl, ⟨fun hq => by omega, fun hm => by obtain ⟨j, hj, hx⟩ := mem_getD hm; exact absurd hx.symm (hne j (by omega))⟩⟩, rfl⟩

theorem contains_c {h : AHeap} {v : AV} {l : List Int} {x : Int} (hv : Row h v l) (hlen : l.length ≤ 4294967296) : ACalls Go.Proofs.Try.prog 72 [v, .int .i64 x] h (fun r h' => r = .bool (decide (x ∈ l)) ∧ h = h') := by
  refine KA.fn 9 [.tmp 4] Go.Proofs.Try.func72 rfl (by decide) rfl rfl (Nat.le_of_ble_eq_true rfl) ?_
  show KA _ 9 _ _ [(0, v), (1, .int .i64 x)] _
  refine KA.seq ?_
  refine KA.region rfl ?_
  refine KOps.assign ?_
  refine KOps.done ?_
  refine sqQ.normal ?_
  refine KA.sub (Sub.cons (t := 0) Look.eq (Sub.cons (t := 1) Look.eq (Sub.nil _))) ?_
  refine KA.seq ?_
  refine KA.region rfl ?_
  refine KOps.move ?_
  refine KOps.move ?_
  refine KOps.call rfl (index_c (by first | assumption | exact Rd.ext hS.keeps (by assumption)) (by first | omega | (simp; omega))) ?_
  rintro _ _ ⟨⟨i, rfl, hi⟩, rfl⟩
  refine KOps.geq ?_
  refine KOps.assign ?_
  refine KOps.done ?_
  refine sqQ.normal ?_
  refine KA.sub (Sub.cons (t := 4) Look.eq (Sub.nil _)) ?_
  refine KA.ret ?_
  refine fnQ.ret1 ?_
  exact ⟨by congr 1; exact decide_eq_decide.2 hi, rfl⟩

theorem rest_c {h : AHeap} {v u : AV} {l cs : List Int} (hv : Row h v l) (hu : Row h u cs) (hlen : l.length ≤ 9) (hlc : cs.length ≤ 40) : ACalls Go.Proofs.Try.prog 75 [v, u] h (fun r h' => St h h' [⟨r, 1, ints (restL l cs), true⟩]) := by
  refine KA.fn 28 [.tmp 4] Go.Proofs.Try.func75 rfl (by decide) rfl rfl (Nat.le_of_ble_eq_true rfl) ?_
  have hS := St.refl h
  show KA _ 28 _ _ [(0, v), (1, u)] _
  refine KA.seq ?_
  refine KA.region rfl ?_
  refine KOps.assign ?_
  refine KOps.done ?_
  refine sqQ.normal ?_
  refine KA.sub (Sub.cons (t := 0) Look.eq (Sub.cons (t := 1) Look.eq (Sub.nil _))) ?_
  refine KA.seq ?_
  refine KA.region rfl ?_
  refine KOps.assign ?_
  refine KOps.done ?_
  refine sqQ.normal ?_
  refine KA.seq ?_
  refine KA.seq ?_
  refine KA.region rfl ?_
  refine KOps.assign ?_
  refine KOps.done ?_
  refine sqQ.normal ?_
  refine KA.block ?_
  refine KA.loop (X := Nat × AV) (fun x => [(0, v), (1, u), (5, x.2), (6, .int .i64 (x.1 : Int))]) (fun x h' => x.1 ≤ l.length ∧ St h h' [⟨x.2, 1, ints (restL (l.take x.1) cs), true⟩]) (fun x => l.length - x.1) (0, .nils) (by repeat (first | exact Sub.nil _ | refine Sub.cons Look.eq ?_ | refine Sub.cons (Eq.trans Look.eq (congrArg (AV.int _) (by first | omega | (dsimp only; omega)))) ?_)) ?_ ?_
  · exact ⟨by omega, St.nil hS 1⟩
  rintro ⟨i, vo⟩ h1 ⟨hi, hS⟩
  dsimp only at hi hS ⊢
  have hrl := restL_len (l.take i) cs
  rw [List.length_take] at hrl
  have hu1 := Row.ext hS.keeps hu
  refine KA.seq ?_
  refine KA.seq ?_
  refine KA.region rfl ?_
  refine KOps.move ?_
  refine KOps.move ?_
  refine KOps.lenI (by first | assumption | exact Rd.ext hS.keeps (by assumption)) ?_
  refine KOps.lss ?_
  refine KOps.done ?_
  refine sqQ.normal ?_
  refine KA.sub (Sub.cons (t := 0) Look.eq (Sub.cons (t := 1) Look.eq (Sub.cons (t := 5) Look.eq (Sub.cons (t := 6) Look.eq (Sub.cons (t := 10) Look.eq (Sub.nil _)))))) ?_
  refine KA.condD ?_ ?_
  · intro c10
    refine KA.skip ?_
    refine sqQ.normal ?_
    refine KA.sub (Sub.cons (t := 0) Look.eq (Sub.cons (t := 1) Look.eq (Sub.cons (t := 5) Look.eq (Sub.cons (t := 6) Look.eq (Sub.nil _))))) ?_
    refine KA.seq ?_
    refine KA.block ?_
    refine KA.seq ?_
    refine KA.region rfl ?_
    refine KOps.move ?_
    refine KOps.move ?_
    refine KOps.move ?_
    refine KOps.indexIJ (by first | assumption | exact Rd.ext hS.keeps (by assumption)) (j := i) rfl (by first | omega | (simp; omega)) ?_
    intro p16 hp16
    refine KOps.loadI hp16 (by first | assumption | exact Rd.ext hS.keeps (by assumption)) (by first | omega | (simp; omega)) ?_
    refine KOps.call rfl (has_c hu1 (by first | omega | (simp; omega))) ?_
    rintro _ _ ⟨rfl, rfl⟩
    refine KOps.not ?_
    refine KOps.done ?_
    refine sqQ.normal ?_
    refine KA.sub (Sub.cons (t := 0) Look.eq (Sub.cons (t := 1) Look.eq (Sub.cons (t := 5) Look.eq (Sub.cons (t := 6) Look.eq (Sub.cons (t := 19) Look.eq (Sub.nil _)))))) ?_
    refine KA.condN ?_ ?_
    · intro c19
      refine KA.region rfl ?_
      refine KOps.move ?_
      refine KOps.move ?_
      refine KOps.move ?_
      refine KOps.indexIJ (by first | assumption | exact Rd.ext hS.keeps (by assumption)) (j := i) rfl (by first | omega | (simp; omega)) ?_
      intro p23 hp23
      refine KOps.loadI hp23 (by first | assumption | exact Rd.ext hS.keeps (by assumption)) (by first | omega | (simp; omega)) ?_
      refine KOps.buildSlice hS rfl (by decide) rfl ?_
      intro v25 h' hS
      refine KOps.appendI hS (fun _ => rfl) (i := 0) rfl (by first | omega | (simp; omega)) ?_
      intro r26 h' hr26 hS
      refine KOps.assign ?_
      refine KOps.done ?_
      refine blQ.normal ?_
      refine sqQ.normal ?_
      refine KA.sub (Sub.cons (t := 0) Look.eq (Sub.cons (t := 1) Look.eq (Sub.cons (t := 5) Look.eq (Sub.cons (t := 6) Look.eq (Sub.nil _))))) ?_
      refine KA.region rfl ?_
      refine KOps.move ?_
      refine KOps.add (by omega) (by omega) ?_
      refine KOps.assign ?_
      refine KOps.done ?_
      have hsc : restL (l.take (i + 1)) cs = restL (l.take i) cs ++ [l.getD i 0] := by rw [take_snoc (by omega), restL_snoc, if_neg c19]
      exact lpQ.normal (i + 1, r26) (by repeat (first | exact Sub.nil _ | refine Sub.cons Look.eq ?_ | refine Sub.cons (Eq.trans Look.eq (congrArg (AV.int _) (by first | omega | (dsimp only; omega)))) ?_)) ⟨by dsimp only; omega, by dsimp only; rw [hsc]; exact hS⟩ (by dsimp only; omega)
    · intro c19
      refine KA.skip ?_
      refine blQ.normal ?_
      refine sqQ.normal ?_
      refine KA.sub (Sub.cons (t := 0) Look.eq (Sub.cons (t := 1) Look.eq (Sub.cons (t := 5) Look.eq (Sub.cons (t := 6) Look.eq (Sub.nil _))))) ?_
      refine KA.region rfl ?_
      refine KOps.move ?_
      refine KOps.add (by omega) (by omega) ?_
      refine KOps.assign ?_
      refine KOps.done ?_
      have hsc : restL (l.take (i + 1)) cs = restL (l.take i) cs := by rw [take_snoc (by omega), restL_snoc, if_pos c19]
      exact lpQ.normal (i + 1, vo) (by repeat (first | exact Sub.nil _ | refine Sub.cons Look.eq ?_ | refine Sub.cons (Eq.trans Look.eq (congrArg (AV.int _) (by first | omega | (dsimp only; omega)))) ?_)) ⟨by dsimp only; omega, by dsimp only; rw [hsc]; exact hS⟩ (by dsimp only; omega)
  · intro c10
    refine KA.exit ?_
    refine sqQ.exit ?_
    refine lpQ.exit ?_
    refine blQ.here ?_
    refine sqQ.normal ?_
    refine KA.sub (Sub.cons (t := 5) Look.eq (Sub.nil _)) ?_
    refine KA.seq ?_
    refine KA.region rfl ?_
    refine KOps.move ?_
    refine KOps.assign ?_
    refine KOps.done ?_
    refine sqQ.normal ?_
    refine KA.sub (Sub.cons (t := 4) Look.eq (Sub.nil _)) ?_
    refine KA.ret ?_
    refine fnQ.ret1 ?_
    have hi2 : l.take i = l := List.take_of_length_le (by omega)
    rw [hi2] at hS
    exact hS

theorem refSorts_c {h : AHeap} {v u : AV} {l cs : List Int} (hv : Row h v l) (hu : Row h u cs) (hlen : l.length ≤ 4294967296) (hlc : cs.length ≤ 40) : ACalls Go.Proofs.Try.prog 30 [v, u] h (fun r h' => r = .int .i64 (sortsE l cs) ∧ St h h' []) := by
  refine KA.fn 52 [.tmp 4] Go.Proofs.Try.func30 rfl (by decide) rfl rfl (Nat.le_of_ble_eq_true rfl) ?_
  have hS := St.refl h
  show KA _ 52 _ _ [(0, v), (1, u)] _
  refine KA.seq ?_
  refine KA.region rfl ?_
  refine KOps.assign ?_
  refine KOps.done ?_
  refine sqQ.normal ?_
  refine KA.sub (Sub.cons (t := 0) Look.eq (Sub.cons (t := 1) Look.eq (Sub.nil _))) ?_
  refine KA.seq ?_
  refine KA.region rfl ?_
  refine KOps.move ?_
  refine KOps.call rfl (refCheck_c (by first | assumption | exact Rd.ext hS.keeps (by assumption)) (by first | omega | (simp; omega))) ?_
  rintro _ _ ⟨rfl, rfl⟩
  refine KOps.assign ?_
  refine KOps.done ?_
  refine sqQ.normal ?_
  refine KA.sub (Sub.cons (t := 0) Look.eq (Sub.cons (t := 1) Look.eq (Sub.cons (t := 5) Look.eq (Sub.nil _)))) ?_
  refine KA.meet (X := Int) (fun e => [(0, v), (1, u), (5, .int .i64 e)]) (fun e h' => h = h' ∧ e = preE l cs) ?_ ?_
  ·
    refine KA.seq ?_
    refine KA.region rfl ?_
    refine KOps.assign ?_
    refine KOps.done ?_
    refine sqQ.normal ?_
    refine KA.block ?_
    refine KA.loop (X := Nat × Int) (fun x => [(0, v), (1, u), (5, .int .i64 x.2), (6, .int .i64 (x.1 : Int))]) (fun x h' => h = h' ∧ x.1 ≤ cs.length ∧ ((x.2 = 0 ∧ checkE l = 0 ∧ ∀ j, j < x.1 → cardBad l.length cs j = none) ∨ (x.2 ≠ 0 ∧ x.2 = preE l cs))) (fun x => cs.length - x.1) (0, checkE l) (by repeat (first | exact Sub.nil _ | refine Sub.cons Look.eq ?_ | refine Sub.cons (Eq.trans Look.eq (congrArg (AV.int _) (by first | omega | (dsimp only; omega)))) ?_)) ?_ ?_
    · refine ⟨rfl, by omega, ?_⟩
      dsimp only
      by_cases hc : checkE l = 0
      · exact .inl ⟨hc, hc, by omega⟩
      · exact .inr ⟨hc, by rw [preE, if_neg hc]⟩
    rintro ⟨i, e⟩ _ ⟨rfl, hi, he⟩
    dsimp only at hi he ⊢
    have hS := St.refl h
    refine KA.seq ?_
    refine KA.seq ?_
    refine KA.region rfl ?_
    refine KOps.move ?_
    refine KOps.move ?_
    refine KOps.lenI hu ?_
    refine KOps.lss ?_
    refine KOps.move ?_
    refine KOps.guardB (dj := 13) rfl rfl true false rfl ?_ ?_
    · intro g13
      have g13 := of_decide_eq_true g13
      refine KOps.move ?_
      refine KOps.guardYes (dj := 13) rfl rfl ?_
      refine KOps.eql ?_
      refine KOps.pickT ?_
      refine KOps.done ?_
      refine sqQ.normal ?_
      refine KA.sub (Sub.cons (t := 0) Look.eq (Sub.cons (t := 1) Look.eq (Sub.cons (t := 5) Look.eq (Sub.cons (t := 6) Look.eq (Sub.cons (t := 14) Look.eq (Sub.cons (t := 15) Look.eq (Sub.cons (t := 16) Look.eq (Sub.nil _)))))))) ?_
      refine KA.condD ?_ ?_
      · intro c16
        obtain ⟨he0, hc0, hj⟩ : e = 0 ∧ checkE l = 0 ∧ ∀ j, j < i → cardBad l.length cs j = none := by
          rcases he with h1 | h1
          · exact h1
          · exact absurd c16 h1.1
        have hch := checkE_ok hc0
        refine KA.skip ?_
        refine sqQ.normal ?_
        refine KA.sub (Sub.cons (t := 0) Look.eq (Sub.cons (t := 1) Look.eq (Sub.cons (t := 5) Look.eq (Sub.cons (t := 6) Look.eq (Sub.cons (t := 14) Look.eq (Sub.cons (t := 15) Look.eq (Sub.nil _))))))) ?_
        refine KA.seq ?_
        refine KA.block ?_
        refine KA.seq ?_
        refine KA.region rfl ?_
        refine KOps.move ?_
        refine KOps.move ?_
        refine KOps.indexIJ hu (j := i) rfl (by first | omega | (simp; omega)) ?_
        intro p21 hp21
        refine KOps.loadI hp21 hu (by first | omega | (simp; omega)) ?_
        refine KOps.move ?_
        refine KOps.lenI hv ?_
        refine KOps.sub (by omega) (by omega) ?_
        refine KOps.call rfl (in_c) ?_
        rintro _ _ ⟨rfl, rfl⟩
        refine KOps.not ?_
        refine KOps.done ?_
        refine sqQ.normal ?_
        refine KA.sub (Sub.cons (t := 0) Look.eq (Sub.cons (t := 1) Look.eq (Sub.cons (t := 5) Look.eq (Sub.cons (t := 6) Look.eq (Sub.cons (t := 14) Look.eq (Sub.cons (t := 15) Look.eq (Sub.cons (t := 27) Look.eq (Sub.nil _)))))))) ?_
        refine KA.condN ?_ ?_
        · intro c27
          refine KA.region rfl ?_
          refine KOps.assign ?_
          refine KOps.done ?_
          refine blQ.normal ?_
          refine sqQ.normal ?_
          refine KA.sub (Sub.cons (t := 0) Look.eq (Sub.cons (t := 1) Look.eq (Sub.cons (t := 5) Look.eq (Sub.cons (t := 6) Look.eq (Sub.cons (t := 14) Look.eq (Sub.cons (t := 15) Look.eq (Sub.nil _))))))) ?_
          refine KA.region rfl ?_
          refine KOps.move ?_
          refine KOps.add (by omega) (by omega) ?_
          refine KOps.assign ?_
          refine KOps.done ?_
          refine lpQ.normal (i + 1, 2) (by repeat (first | exact Sub.nil _ | refine Sub.cons Look.eq ?_ | refine Sub.cons (Eq.trans Look.eq (congrArg (AV.int _) (by first | omega | (dsimp only; omega)))) ?_)) ⟨rfl, by dsimp only; omega, .inr ⟨by dsimp only; decide, ?_⟩⟩ (by dsimp only; omega)
          rw [preE, if_pos hc0, cardsE, firstE_at (by omega) hj (e := 2) (by rw [cardBad, if_neg (by omega)])]
        · intro c27
          refine KA.seq ?_
          refine KA.draw [] mixed rfl (by kernel_rfl) ?_
          refine KOps.move ?_
          refine KOps.gtr ?_
          refine KOps.move ?_
          refine KOps.guardB (dj := 30) rfl rfl true false rfl ?_ ?_
          · intro g30
            have g30 := of_decide_eq_true g30
            refine KOps.move ?_
            refine KOps.guardYes (dj := 30) rfl rfl ?_
            refine KOps.move ?_
            refine KOps.guardYes (dj := 30) rfl rfl ?_
            refine KOps.indexIJ hu (j := i) rfl (by first | omega | (simp; omega)) ?_
            intro p33 hp33
            refine KOps.guardYes (dj := 30) rfl rfl ?_
            refine KOps.loadI hp33 hu (by first | omega | (simp; omega)) ?_
            refine KOps.guardYes (dj := 30) rfl rfl ?_
            refine KOps.move ?_
            refine KOps.guardYes (dj := 30) rfl rfl ?_
            refine KOps.move ?_
            refine KOps.guardYes (dj := 30) rfl rfl ?_
            refine KOps.sub (by omega) (by omega) ?_
            refine KOps.guardYes (dj := 30) rfl rfl ?_
            refine KOps.indexIJ hu (j := (i - 1)) (by omega) (by first | omega | (simp; omega)) ?_
            intro p38 hp38
            refine KOps.guardYes (dj := 30) rfl rfl ?_
            refine KOps.loadI hp38 hu (by first | omega | (simp; omega)) ?_
            refine KOps.guardYes (dj := 30) rfl rfl ?_
            refine KOps.leq ?_
            refine KOps.pickT ?_
            refine KOps.done ?_
            refine sqQ.normal ?_
            refine KA.sub (Sub.cons (t := 0) Look.eq (Sub.cons (t := 1) Look.eq (Sub.cons (t := 5) Look.eq (Sub.cons (t := 6) Look.eq (Sub.cons (t := 14) Look.eq (Sub.cons (t := 15) Look.eq (Sub.cons (t := 31) Look.eq (Sub.cons (t := 32) Look.eq (Sub.cons (t := 33) Look.eq (Sub.cons (t := 34) Look.eq (Sub.cons (t := 35) Look.eq (Sub.cons (t := 36) Look.eq (Sub.cons (t := 37) Look.eq (Sub.cons (t := 38) Look.eq (Sub.cons (t := 39) Look.eq (Sub.cons (t := 40) Look.eq (Sub.cons (t := 41) Look.eq (Sub.nil _)))))))))))))))))) ?_
            refine KA.condD ?_ ?_
            · intro c41
              refine KA.region rfl ?_
              refine KOps.assign ?_
              refine KOps.done ?_
              refine blQ.normal ?_
              refine sqQ.normal ?_
              refine KA.sub (Sub.cons (t := 0) Look.eq (Sub.cons (t := 1) Look.eq (Sub.cons (t := 5) Look.eq (Sub.cons (t := 6) Look.eq (Sub.cons (t := 14) Look.eq (Sub.cons (t := 15) Look.eq (Sub.cons (t := 31) Look.eq (Sub.cons (t := 32) Look.eq (Sub.cons (t := 33) Look.eq (Sub.cons (t := 34) Look.eq (Sub.cons (t := 35) Look.eq (Sub.cons (t := 36) Look.eq (Sub.cons (t := 37) Look.eq (Sub.cons (t := 38) Look.eq (Sub.cons (t := 39) Look.eq (Sub.cons (t := 40) Look.eq (Sub.nil _))))))))))))))))) ?_
              refine KA.region rfl ?_
              refine KOps.move ?_
              refine KOps.add (by omega) (by omega) ?_
              refine KOps.assign ?_
              refine KOps.done ?_
              refine lpQ.normal (i + 1, 7) (by repeat (first | exact Sub.nil _ | refine Sub.cons Look.eq ?_ | refine Sub.cons (Eq.trans Look.eq (congrArg (AV.int _) (by first | omega | (dsimp only; omega)))) ?_)) ⟨rfl, by dsimp only; omega, .inr ⟨by dsimp only; decide, ?_⟩⟩ (by dsimp only; omega)
              rw [preE, if_pos hc0, cardsE, firstE_at (by omega) hj (e := 7) (by rw [cardBad, if_pos (by omega), if_pos ⟨by omega, c41⟩])]
            · intro c41
              refine KA.skip ?_
              refine blQ.normal ?_
              refine sqQ.normal ?_
              refine KA.sub (Sub.cons (t := 0) Look.eq (Sub.cons (t := 1) Look.eq (Sub.cons (t := 5) Look.eq (Sub.cons (t := 6) Look.eq (Sub.cons (t := 14) Look.eq (Sub.cons (t := 15) Look.eq (Sub.cons (t := 31) Look.eq (Sub.cons (t := 32) Look.eq (Sub.cons (t := 33) Look.eq (Sub.cons (t := 34) Look.eq (Sub.cons (t := 35) Look.eq (Sub.cons (t := 36) Look.eq (Sub.cons (t := 37) Look.eq (Sub.cons (t := 38) Look.eq (Sub.cons (t := 39) Look.eq (Sub.cons (t := 40) Look.eq (Sub.nil _))))))))))))))))) ?_
              refine KA.region rfl ?_
              refine KOps.move ?_
              refine KOps.add (by omega) (by omega) ?_
              refine KOps.assign ?_
              refine KOps.done ?_
              refine lpQ.normal (i + 1, e) (by repeat (first | exact Sub.nil _ | refine Sub.cons Look.eq ?_ | refine Sub.cons (Eq.trans Look.eq (congrArg (AV.int _) (by first | omega | (dsimp only; omega)))) ?_)) ⟨rfl, by dsimp only; omega, .inl ⟨he0, hc0, ?_⟩⟩ (by dsimp only; omega)
              intro j hj2; rcases Nat.lt_succ_iff_lt_or_eq.1 hj2 with h1 | rfl
              · exact hj j h1
              · rw [cardBad, if_pos (by omega), if_neg (by omega)]
          · intro g30
            have g30 := of_decide_eq_false g30
            refine KOps.guardNo (dj := 30) rfl rfl rfl ?_
            refine KOps.guardNo (dj := 30) rfl rfl rfl ?_
            refine KOps.guardNo (dj := 30) rfl rfl rfl ?_
            refine KOps.guardNo (dj := 30) rfl rfl rfl ?_
            refine KOps.guardNo (dj := 30) rfl rfl rfl ?_
            refine KOps.guardNo (dj := 30) rfl rfl rfl ?_
            refine KOps.guardNo (dj := 30) rfl rfl rfl ?_
            refine KOps.guardNo (dj := 30) rfl rfl rfl ?_
            refine KOps.guardNo (dj := 30) rfl rfl rfl ?_
            refine KOps.pickF ?_
            refine KOps.done ?_
            refine sqQ.normal ?_
            refine KA.sub (Sub.cons (t := 0) Look.eq (Sub.cons (t := 1) Look.eq (Sub.cons (t := 5) Look.eq (Sub.cons (t := 6) Look.eq (Sub.cons (t := 14) Look.eq (Sub.cons (t := 15) Look.eq (Sub.cons (t := 31) Look.eq (Sub.cons (t := 32) Look.eq (Sub.cons (t := 33) Look.eq (Sub.cons (t := 34) Look.eq (Sub.cons (t := 35) Look.eq (Sub.cons (t := 36) Look.eq (Sub.cons (t := 37) Look.eq (Sub.cons (t := 38) Look.eq (Sub.cons (t := 39) Look.eq (Sub.cons (t := 40) Look.eq (Sub.cons (t := 41) Look.eq (Sub.nil _)))))))))))))))))) ?_
            refine KA.condF ?_
            refine KA.skip ?_
            refine blQ.normal ?_
            refine sqQ.normal ?_
            refine KA.sub (Sub.cons (t := 0) Look.eq (Sub.cons (t := 1) Look.eq (Sub.cons (t := 5) Look.eq (Sub.cons (t := 6) Look.eq (Sub.cons (t := 14) Look.eq (Sub.cons (t := 15) Look.eq (Sub.cons (t := 31) Look.eq (Sub.cons (t := 32) Look.eq (Sub.cons (t := 33) Look.eq (Sub.cons (t := 34) Look.eq (Sub.cons (t := 35) Look.eq (Sub.cons (t := 36) Look.eq (Sub.cons (t := 37) Look.eq (Sub.cons (t := 38) Look.eq (Sub.cons (t := 39) Look.eq (Sub.cons (t := 40) Look.eq (Sub.nil _))))))))))))))))) ?_
            refine KA.region rfl ?_
            refine KOps.move ?_
            refine KOps.add (by omega) (by omega) ?_
            refine KOps.assign ?_
            refine KOps.done ?_
            refine lpQ.normal (i + 1, e) (by repeat (first | exact Sub.nil _ | refine Sub.cons Look.eq ?_ | refine Sub.cons (Eq.trans Look.eq (congrArg (AV.int _) (by first | omega | (dsimp only; omega)))) ?_)) ⟨rfl, by dsimp only; omega, .inl ⟨he0, hc0, ?_⟩⟩ (by dsimp only; omega)
            intro j hj2; rcases Nat.lt_succ_iff_lt_or_eq.1 hj2 with h1 | rfl
            · exact hj j h1
            · rw [cardBad, if_pos (by omega), if_neg (by omega)]
      · intro c16
        refine KA.exit ?_
        refine sqQ.exit ?_
        refine lpQ.exit ?_
        refine blQ.here ?_
        refine mtQ.normal e (by repeat (first | exact Sub.nil _ | refine Sub.cons Look.eq ?_ | refine Sub.cons (Eq.trans Look.eq (congrArg (AV.int _) (by first | omega | (dsimp only; omega)))) ?_)) ⟨rfl, ?_⟩
        rcases he with ⟨h1, h2, h3⟩ | h1
        · exact absurd h1 c16
        · exact h1.2
    · intro g13
      have g13 := of_decide_eq_false g13
      refine KOps.guardNo (dj := 13) rfl rfl rfl ?_
      refine KOps.pickF ?_
      refine KOps.done ?_
      refine sqQ.normal ?_
      refine KA.sub (Sub.cons (t := 0) Look.eq (Sub.cons (t := 1) Look.eq (Sub.cons (t := 5) Look.eq (Sub.cons (t := 6) Look.eq (Sub.cons (t := 14) Look.eq (Sub.cons (t := 15) Look.eq (Sub.cons (t := 16) Look.eq (Sub.nil _)))))))) ?_
      refine KA.condF ?_
      refine KA.exit ?_
      refine sqQ.exit ?_
      refine lpQ.exit ?_
      refine blQ.here ?_
      refine mtQ.normal e (by repeat (first | exact Sub.nil _ | refine Sub.cons Look.eq ?_ | refine Sub.cons (Eq.trans Look.eq (congrArg (AV.int _) (by first | omega | (dsimp only; omega)))) ?_)) ⟨rfl, ?_⟩
      rcases he with ⟨h1, h2, h3⟩ | h1
      · rw [preE, if_pos h2, cardsE, firstE_none (fun j hj => h3 j (by omega))]; exact h1
      · exact h1.2
  ·
    rintro e _ ⟨rfl, he⟩
    have hS := St.refl h
    refine KA.seq ?_
    refine KA.seq ?_
    refine KA.region rfl ?_
    refine KOps.move ?_
    refine KOps.eql ?_
    refine KOps.move ?_
    refine KOps.guardB (dj := 44) rfl rfl true false rfl ?_ ?_
    · intro g44
      have g44 := of_decide_eq_true g44
      have hc0 : checkE l = 0 := by
        by_cases hc : checkE l = 0
        · exact hc
        · rw [preE, if_neg hc] at he; omega
      have hch := checkE_ok hc0
      have hrl := restL_len l cs
      refine KOps.move ?_
      refine KOps.guardYes (dj := 44) rfl rfl ?_
      refine KOps.move ?_
      refine KOps.guardYes (dj := 44) rfl rfl ?_
      refine KOps.call rfl (rest_c hv hu (by first | omega | (simp; omega)) (by first | omega | (simp; omega))) ?_
      rintro v47 h47 hS47
      have hS : St _ _ (_ :: _) := St.trans hS hS47
      refine KOps.guardYes (dj := 44) rfl rfl ?_
      refine KOps.call rfl (runs_c (hS.rd 0 rfl) (by first | omega | (simp; omega))) ?_
      rintro _ _ ⟨rfl, rfl⟩
      refine KOps.guardYes (dj := 44) rfl rfl ?_
      refine KOps.not ?_
      refine KOps.pickT ?_
      refine KOps.done ?_
      refine sqQ.normal ?_
      refine KA.sub (Sub.cons (t := 5) Look.eq (Sub.cons (t := 50) Look.eq (Sub.nil _))) ?_
      refine KA.condB ?_ ?_
      · intro c50
        refine KA.region rfl ?_
        refine KOps.assign ?_
        refine KOps.done ?_
        refine sqQ.normal ?_
        refine KA.sub (Sub.cons (t := 5) Look.eq (Sub.nil _)) ?_
        refine KA.seq ?_
        refine KA.region rfl ?_
        refine KOps.move ?_
        refine KOps.assign ?_
        refine KOps.done ?_
        refine sqQ.normal ?_
        refine KA.sub (Sub.cons (t := 4) Look.eq (Sub.nil _)) ?_
        refine KA.ret ?_
        refine fnQ.ret1 ?_
        have hq : runsB (restL l cs) false = false := by simpa using c50
        exact ⟨by rw [sortsE, if_pos (by omega), if_neg (by rw [hq]; exact Bool.false_ne_true)], St.tail hS⟩
      · intro c50
        refine KA.skip ?_
        refine sqQ.normal ?_
        refine KA.sub (Sub.cons (t := 5) Look.eq (Sub.nil _)) ?_
        refine KA.seq ?_
        refine KA.region rfl ?_
        refine KOps.move ?_
        refine KOps.assign ?_
        refine KOps.done ?_
        refine sqQ.normal ?_
        refine KA.sub (Sub.cons (t := 4) Look.eq (Sub.nil _)) ?_
        refine KA.ret ?_
        refine fnQ.ret1 ?_
        have hq : runsB (restL l cs) false = true := by simpa using c50
        exact ⟨by rw [sortsE, if_pos (by omega), if_pos hq, g44], St.tail hS⟩
    · intro g44
      have g44 := of_decide_eq_false g44
      refine KOps.guardNo (dj := 44) rfl rfl rfl ?_
      refine KOps.guardNo (dj := 44) rfl rfl rfl ?_
      refine KOps.guardNo (dj := 44) rfl rfl rfl ?_
      refine KOps.guardNo (dj := 44) rfl rfl rfl ?_
      refine KOps.pickF ?_
      refine KOps.done ?_
      refine sqQ.normal ?_
      refine KA.sub (Sub.cons (t := 5) Look.eq (Sub.cons (t := 50) Look.eq (Sub.nil _))) ?_
      refine KA.condF ?_
      refine KA.skip ?_
      refine sqQ.normal ?_
      refine KA.sub (Sub.cons (t := 5) Look.eq (Sub.nil _)) ?_
      refine KA.seq ?_
      refine KA.region rfl ?_
      refine KOps.move ?_
      refine KOps.assign ?_
      refine KOps.done ?_
      refine sqQ.normal ?_
      refine KA.sub (Sub.cons (t := 4) Look.eq (Sub.nil _)) ?_
      refine KA.ret ?_
      refine fnQ.ret1 ?_
      exact ⟨by rw [sortsE, if_neg (by omega), he], hS⟩

theorem sorts_c {h : AHeap} {v u : AV} {l cs : List Int} (hv : Row h v l) (hu : Row h u cs) (hlen : l.length ≤ 4294967296) (hlc : cs.length ≤ 40) : ACalls Go.Proofs.Try.prog 29 [v, u] h (fun r h' => r = .int .i64 (sortsE l cs) ∧ h = h') := by
  refine KA.fn 49 [.tmp 4] Go.Proofs.Try.func29 rfl (by decide) rfl rfl (Nat.le_of_ble_eq_true rfl) ?_
  show KA _ 49 _ _ [(0, v), (1, u)] _
  refine KA.seq ?_
  refine KA.region rfl ?_
  refine KOps.assign ?_
  refine KOps.done ?_
  refine sqQ.normal ?_
  refine KA.sub (Sub.cons (t := 0) Look.eq (Sub.cons (t := 1) Look.eq (Sub.nil _))) ?_
  refine KA.seq ?_
  refine KA.seq ?_
  refine KA.region rfl ?_
  refine KOps.move ?_
  refine KOps.call rfl (check_c (by first | assumption | exact Rd.ext hS.keeps (by assumption))) ?_
  rintro _ _ ⟨rfl, rfl⟩
  refine KOps.assign ?_
  refine KOps.done ?_
  refine sqQ.normal ?_
  refine KA.sub (Sub.cons (t := 0) Look.eq (Sub.cons (t := 1) Look.eq (Sub.cons (t := 5) Look.eq (Sub.nil _)))) ?_
  refine KA.seq ?_
  refine KA.region rfl ?_
  refine KOps.move ?_
  refine KOps.neq ?_
  refine KOps.done ?_
  refine sqQ.normal ?_
  refine KA.sub (Sub.cons (t := 0) Look.eq (Sub.cons (t := 1) Look.eq (Sub.cons (t := 5) Look.eq (Sub.cons (t := 14) Look.eq (Sub.nil _))))) ?_
  refine KA.condN ?_ ?_
  · intro c14
    refine KA.seq ?_
    refine KA.region rfl ?_
    refine KOps.move ?_
    refine KOps.assign ?_
    refine KOps.done ?_
    refine sqQ.normal ?_
    refine KA.sub (Sub.cons (t := 4) Look.eq (Sub.nil _)) ?_
    refine KA.ret ?_
    refine sqQ.ret ?_
    refine fnQ.ret1 ?_
    exact ⟨by rw [sortsE, preE, if_neg c14, if_neg c14], rfl⟩
  · intro c14
    have hch := checkE_ok c14
    refine KA.skip ?_
    refine sqQ.normal ?_
    refine KA.sub (Sub.cons (t := 0) Look.eq (Sub.cons (t := 1) Look.eq (Sub.nil _))) ?_
    refine KA.seq ?_
    refine KA.region rfl ?_
    refine KOps.assign ?_
    refine KOps.done ?_
    refine sqQ.normal ?_
    refine KA.seq ?_
    refine KA.seq ?_
    refine KA.region rfl ?_
    refine KOps.move ?_
    refine KOps.lenI (by first | assumption | exact Rd.ext hS.keeps (by assumption)) ?_
    refine KOps.move ?_
    refine KOps.done ?_
    refine sqQ.normal ?_
    refine KA.block ?_
    refine KA.loop (X := Nat) (fun i => [(0, v), (1, u), (6, .int .i64 (if i = 0 then -1 else cs.getD (i - 1) 0)), (16, u), (17, .int .i64 (cs.length : Int)), (18, .int .i64 (i : Int))]) (fun i h' => h = h' ∧ i ≤ cs.length ∧ ∀ j, j < i → cardBad l.length cs j = none) (fun i => cs.length - i) 0 (by repeat (first | exact Sub.nil _ | refine Sub.cons Look.eq ?_ | refine Sub.cons (Eq.trans Look.eq (congrArg (AV.int _) (by first | omega | (dsimp only; omega)))) ?_ | refine Sub.cons (Eq.trans Look.eq (congrArg (AV.int _) (by rw [if_pos rfl]))) ?_)) ⟨rfl, by omega, by omega⟩ ?_
    rintro i _ ⟨rfl, hi, hj⟩
    refine KA.seq ?_
    refine KA.region rfl ?_
    refine KOps.lss ?_
    refine KOps.done ?_
    refine sqQ.normal ?_
    refine KA.seq ?_
    refine KA.condD ?_ ?_
    · intro c19
      refine KA.skip ?_
      refine sqQ.normal ?_
      refine KA.sub (Sub.cons (t := 0) Look.eq (Sub.cons (t := 1) Look.eq (Sub.cons (t := 6) Look.eq (Sub.cons (t := 16) Look.eq (Sub.cons (t := 17) Look.eq (Sub.cons (t := 18) Look.eq (Sub.nil _))))))) ?_
      refine KA.seq ?_
      refine KA.block ?_
      refine KA.seq ?_
      refine KA.region rfl ?_
      refine KOps.indexIJ (by first | assumption | exact Rd.ext hS.keeps (by assumption)) (j := i) rfl (by first | omega | (simp; omega)) ?_
      intro p20 hp20
      refine KOps.loadI hp20 (by first | assumption | exact Rd.ext hS.keeps (by assumption)) (by first | omega | (simp; omega)) ?_
      refine KOps.assign ?_
      refine KOps.done ?_
      refine sqQ.normal ?_
      refine KA.sub (Sub.cons (t := 0) Look.eq (Sub.cons (t := 1) Look.eq (Sub.cons (t := 6) Look.eq (Sub.cons (t := 8) Look.eq (Sub.cons (t := 16) Look.eq (Sub.cons (t := 17) Look.eq (Sub.cons (t := 18) Look.eq (Sub.nil _)))))))) ?_
      refine KA.seq ?_
      refine KA.block ?_
      refine KA.seq ?_
      refine KA.region rfl ?_
      refine KOps.move ?_
      refine KOps.move ?_
      refine KOps.lenI (by first | assumption | exact Rd.ext hS.keeps (by assumption)) ?_
      refine KOps.sub (by omega) (by omega) ?_
      refine KOps.call rfl (between_c) ?_
      rintro _ _ ⟨rfl, rfl⟩
      refine KOps.not ?_
      refine KOps.assign ?_
      refine KOps.done ?_
      refine sqQ.normal ?_
      refine KA.sub (Sub.cons (t := 0) Look.eq (Sub.cons (t := 1) Look.eq (Sub.cons (t := 6) Look.eq (Sub.cons (t := 8) Look.eq (Sub.cons (t := 16) Look.eq (Sub.cons (t := 17) Look.eq (Sub.cons (t := 18) Look.eq (Sub.cons (t := 22) Look.eq (Sub.nil _))))))))) ?_
      refine KA.condN ?_ ?_
      · intro c22
        refine KA.seq ?_
        refine KA.region rfl ?_
        refine KOps.assign ?_
        refine KOps.done ?_
        refine sqQ.normal ?_
        refine KA.sub (Sub.cons (t := 4) Look.eq (Sub.nil _)) ?_
        refine KA.ret ?_
        refine blQ.ret ?_
        refine sqQ.ret ?_
        refine blQ.ret ?_
        refine sqQ.ret ?_
        refine lpQ.ret ?_
        refine blQ.ret ?_
        refine sqQ.ret ?_
        refine fnQ.ret1 ?_
        exact ⟨by rw [sortsE, preE, if_pos c14, cardsE, firstE_at (by omega) hj (e := 2) (by rw [cardBad, if_neg (by omega)])]; rfl, rfl⟩
      · intro c22
        refine KA.seq ?_
        refine KA.region rfl ?_
        refine KOps.move ?_
        refine KOps.move ?_
        refine KOps.leq ?_
        refine KOps.assign ?_
        refine KOps.done ?_
        refine sqQ.normal ?_
        refine KA.sub (Sub.cons (t := 0) Look.eq (Sub.cons (t := 1) Look.eq (Sub.cons (t := 8) Look.eq (Sub.cons (t := 16) Look.eq (Sub.cons (t := 17) Look.eq (Sub.cons (t := 18) Look.eq (Sub.cons (t := 29) Look.eq (Sub.nil _)))))))) ?_
        refine KA.condD ?_ ?_
        · intro c29
          refine KA.seq ?_
          refine KA.region rfl ?_
          refine KOps.assign ?_
          refine KOps.done ?_
          refine sqQ.normal ?_
          refine KA.sub (Sub.cons (t := 4) Look.eq (Sub.nil _)) ?_
          refine KA.ret ?_
          refine blQ.ret ?_
          refine sqQ.ret ?_
          refine blQ.ret ?_
          refine sqQ.ret ?_
          refine lpQ.ret ?_
          refine blQ.ret ?_
          refine sqQ.ret ?_
          refine fnQ.ret1 ?_
          refine ⟨?_, rfl⟩
          by_cases h0 : i = 0
          · rw [if_pos h0] at c29; omega
          · rw [if_neg h0] at c29
            rw [sortsE, preE, if_pos c14, cardsE, firstE_at (by omega) hj (e := 7) (by rw [cardBad, if_pos (by omega), if_pos ⟨by omega, c29⟩])]; rfl
        · intro c29
          refine KA.skip ?_
          refine blQ.normal ?_
          refine sqQ.normal ?_
          refine KA.sub (Sub.cons (t := 0) Look.eq (Sub.cons (t := 1) Look.eq (Sub.cons (t := 8) Look.eq (Sub.cons (t := 16) Look.eq (Sub.cons (t := 17) Look.eq (Sub.cons (t := 18) Look.eq (Sub.nil _))))))) ?_
          refine KA.region rfl ?_
          refine KOps.move ?_
          refine KOps.assign ?_
          refine KOps.done ?_
          refine blQ.normal ?_
          refine sqQ.normal ?_
          refine KA.sub (Sub.cons (t := 0) Look.eq (Sub.cons (t := 1) Look.eq (Sub.cons (t := 6) Look.eq (Sub.cons (t := 16) Look.eq (Sub.cons (t := 17) Look.eq (Sub.cons (t := 18) Look.eq (Sub.nil _))))))) ?_
          refine KA.region rfl ?_
          refine KOps.add (by omega) (by omega) ?_
          refine KOps.move ?_
          refine KOps.done ?_
          refine lpQ.normal (i + 1) (by repeat (first | exact Sub.nil _ | refine Sub.cons Look.eq ?_ | refine Sub.cons (Eq.trans Look.eq (congrArg (AV.int _) (by first | omega | (dsimp only; omega)))) ?_ | refine Sub.cons (Eq.trans Look.eq (congrArg (AV.int _) (by rw [if_neg (by omega), Nat.add_sub_cancel]))) ?_)) ⟨rfl, by omega, ?_⟩ (by omega)
          intro j hj2; rcases Nat.lt_succ_iff_lt_or_eq.1 hj2 with h1 | rfl
          · exact hj j h1
          · rw [cardBad, if_pos (by omega), if_neg]
            rintro ⟨h1, h2⟩
            rw [if_neg (by omega)] at c29
            omega
    · intro c19
      have hce : cardsE l.length cs = 0 := firstE_none (fun j hj2 => hj j (by omega))
      have hpe : preE l cs = 0 := by rw [preE, if_pos c14, hce]
      refine KA.exit ?_
      refine sqQ.exit ?_
      refine lpQ.exit ?_
      refine blQ.here ?_
      refine sqQ.normal ?_
      refine KA.sub (Sub.cons (t := 0) Look.eq (Sub.cons (t := 1) Look.eq (Sub.nil _))) ?_
      refine KA.seq ?_
      refine KA.region rfl ?_
      refine KOps.assign ?_
      refine KOps.done ?_
      refine sqQ.normal ?_
      refine KA.seq ?_
      refine KA.seq ?_
      refine KA.region rfl ?_
      refine KOps.move ?_
      refine KOps.lenI (by first | assumption | exact Rd.ext hS.keeps (by assumption)) ?_
      refine KOps.move ?_
      refine KOps.done ?_
      refine sqQ.normal ?_
      refine KA.sub (Sub.cons (t := 1) Look.eq (Sub.cons (t := 6) Look.eq (Sub.cons (t := 35) Look.eq (Sub.cons (t := 36) Look.eq (Sub.cons (t := 37) Look.eq (Sub.nil _)))))) ?_
      refine KA.block ?_
      refine KA.loop (X := Nat) (fun i => [(1, u), (6, .int .i64 (if restL (l.take i) cs = [] then -1 else lastD (restL (l.take i) cs))), (35, v), (36, .int .i64 (l.length : Int)), (37, .int .i64 (i : Int))]) (fun i h' => h = h' ∧ i ≤ l.length ∧ runsB (restL (l.take i) cs) false = true) (fun i => l.length - i) 0 (by repeat (first | exact Sub.nil _ | refine Sub.cons Look.eq ?_ | refine Sub.cons (Eq.trans Look.eq (congrArg (AV.int _) (by first | omega | (dsimp only; omega)))) ?_ | refine Sub.cons (Eq.trans Look.eq (congrArg (AV.int _) (by rw [List.take_zero]; rfl))) ?_)) ⟨rfl, by omega, rfl⟩ ?_
      rintro i _ ⟨rfl, hi, hru⟩
      refine KA.seq ?_
      refine KA.region rfl ?_
      refine KOps.lss ?_
      refine KOps.done ?_
      refine sqQ.normal ?_
      refine KA.seq ?_
      refine KA.condD ?_ ?_
      · intro c38
        refine KA.skip ?_
        refine sqQ.normal ?_
        refine KA.sub (Sub.cons (t := 1) Look.eq (Sub.cons (t := 6) Look.eq (Sub.cons (t := 35) Look.eq (Sub.cons (t := 36) Look.eq (Sub.cons (t := 37) Look.eq (Sub.nil _)))))) ?_
        refine KA.seq ?_
        refine KA.block ?_
        refine KA.seq ?_
        refine KA.region rfl ?_
        refine KOps.indexIJ (by first | assumption | exact Rd.ext hS.keeps (by assumption)) (j := i) rfl (by first | omega | (simp; omega)) ?_
        intro p39 hp39
        refine KOps.loadI hp39 (by first | assumption | exact Rd.ext hS.keeps (by assumption)) (by first | omega | (simp; omega)) ?_
        refine KOps.assign ?_
        refine KOps.done ?_
        refine sqQ.normal ?_
        refine KA.sub (Sub.cons (t := 1) Look.eq (Sub.cons (t := 6) Look.eq (Sub.cons (t := 10) Look.eq (Sub.cons (t := 35) Look.eq (Sub.cons (t := 36) Look.eq (Sub.cons (t := 37) Look.eq (Sub.nil _))))))) ?_
        refine KA.seq ?_
        refine KA.seq ?_
        refine KA.region rfl ?_
        refine KOps.move ?_
        refine KOps.move ?_
        refine KOps.call rfl (contains_c (by first | assumption | exact Rd.ext hS.keeps (by assumption)) (by first | omega | (simp; omega))) ?_
        rintro _ _ ⟨rfl, rfl⟩
        refine KOps.done ?_
        refine sqQ.normal ?_
        refine KA.sub (Sub.cons (t := 1) Look.eq (Sub.cons (t := 6) Look.eq (Sub.cons (t := 10) Look.eq (Sub.cons (t := 35) Look.eq (Sub.cons (t := 36) Look.eq (Sub.cons (t := 37) Look.eq (Sub.cons (t := 43) Look.eq (Sub.nil _)))))))) ?_
        refine KA.condD ?_ ?_
        · intro c43
          refine KA.exit ?_
          refine sqQ.exit ?_
          refine blQ.here ?_
          refine sqQ.normal ?_
          refine KA.sub (Sub.cons (t := 1) Look.eq (Sub.cons (t := 6) Look.eq (Sub.cons (t := 35) Look.eq (Sub.cons (t := 36) Look.eq (Sub.cons (t := 37) Look.eq (Sub.nil _)))))) ?_
          refine KA.region rfl ?_
          refine KOps.add (by omega) (by omega) ?_
          refine KOps.move ?_
          refine KOps.done ?_
          have hsc : restL (l.take (i + 1)) cs = restL (l.take i) cs := by rw [take_snoc (by omega), restL_snoc, if_pos c43]
          exact lpQ.normal (i + 1) (by repeat (first | exact Sub.nil _ | refine Sub.cons Look.eq ?_ | refine Sub.cons (Eq.trans Look.eq (congrArg (AV.int _) (by first | omega | (dsimp only; omega)))) ?_ | refine Sub.cons (Eq.trans Look.eq (congrArg (AV.int _) (by rw [hsc]))) ?_)) ⟨rfl, by omega, by rw [hsc]; exact hru⟩ (by omega)
        · intro c43
          refine KA.skip ?_
          refine sqQ.normal ?_
          refine KA.sub (Sub.cons (t := 1) Look.eq (Sub.cons (t := 6) Look.eq (Sub.cons (t := 10) Look.eq (Sub.cons (t := 35) Look.eq (Sub.cons (t := 36) Look.eq (Sub.cons (t := 37) Look.eq (Sub.nil _))))))) ?_
          refine KA.seq ?_
          refine KA.seq ?_
          refine KA.region rfl ?_
          refine KOps.move ?_
          refine KOps.move ?_
          refine KOps.lss ?_
          refine KOps.done ?_
          refine sqQ.normal ?_
          refine KA.sub (Sub.cons (t := 1) Look.eq (Sub.cons (t := 10) Look.eq (Sub.cons (t := 35) Look.eq (Sub.cons (t := 36) Look.eq (Sub.cons (t := 37) Look.eq (Sub.cons (t := 46) Look.eq (Sub.nil _))))))) ?_
          refine KA.condD ?_ ?_
          · intro c46
            refine KA.seq ?_
            refine KA.region rfl ?_
            refine KOps.assign ?_
            refine KOps.done ?_
            refine sqQ.normal ?_
            refine KA.sub (Sub.cons (t := 4) Look.eq (Sub.nil _)) ?_
            refine KA.ret ?_
            refine sqQ.ret ?_
            refine blQ.ret ?_
            refine sqQ.ret ?_
            refine lpQ.ret ?_
            refine blQ.ret ?_
            refine sqQ.ret ?_
            refine fnQ.ret1 ?_
            refine ⟨?_, rfl⟩
            have hb := hch.2.2.2 _ (getD_mem (show i < l.length by omega))
            have he : restL (l.take i) cs ≠ [] := by intro he; rw [if_pos he] at c46; omega
            rw [if_neg he] at c46
            have hbad : runsB (restL l cs) false = false := runs_bad (by omega) c43 he (by omega)
            rw [sortsE, if_pos hpe, if_neg (by rw [hbad]; exact Bool.false_ne_true)]
          · intro c46
            refine KA.skip ?_
            refine sqQ.normal ?_
            refine KA.sub (Sub.cons (t := 1) Look.eq (Sub.cons (t := 10) Look.eq (Sub.cons (t := 35) Look.eq (Sub.cons (t := 36) Look.eq (Sub.cons (t := 37) Look.eq (Sub.nil _)))))) ?_
            refine KA.region rfl ?_
            refine KOps.move ?_
            refine KOps.assign ?_
            refine KOps.done ?_
            refine blQ.normal ?_
            refine sqQ.normal ?_
            refine KA.sub (Sub.cons (t := 1) Look.eq (Sub.cons (t := 6) Look.eq (Sub.cons (t := 35) Look.eq (Sub.cons (t := 36) Look.eq (Sub.cons (t := 37) Look.eq (Sub.nil _)))))) ?_
            refine KA.region rfl ?_
            refine KOps.add (by omega) (by omega) ?_
            refine KOps.move ?_
            refine KOps.done ?_
            have hsc : restL (l.take (i + 1)) cs = restL (l.take i) cs ++ [l.getD i 0] := by rw [take_snoc (by omega), restL_snoc, if_neg c43]
            refine lpQ.normal (i + 1) (by repeat (first | exact Sub.nil _ | refine Sub.cons Look.eq ?_ | refine Sub.cons (Eq.trans Look.eq (congrArg (AV.int _) (by first | omega | (dsimp only; omega)))) ?_ | refine Sub.cons (Eq.trans Look.eq (congrArg (AV.int _) (by rw [hsc, if_neg (by simp), lastD_snoc]))) ?_)) ⟨rfl, by omega, ?_⟩ (by omega)
            rw [hsc, runsB_snoc, hru, Bool.true_and]
            by_cases he : restL (l.take i) cs = []
            · rw [decide_eq_true he]; rfl
            · rw [if_neg he] at c46
              have := lastD_rest hch.2.2.1 (show i < l.length by omega) cs he
              rw [decide_eq_true (show lastD (restL (l.take i) cs) < l.getD i 0 by omega)]; simp
      · intro c38
        refine KA.exit ?_
        refine sqQ.exit ?_
        refine lpQ.exit ?_
        refine blQ.here ?_
        refine sqQ.normal ?_
        refine KA.sub (Sub.nil _) ?_
        refine KA.seq ?_
        refine KA.region rfl ?_
        refine KOps.assign ?_
        refine KOps.done ?_
        refine sqQ.normal ?_
        refine KA.ret ?_
        refine fnQ.ret1 ?_
        refine ⟨?_, rfl⟩
        rw [List.take_of_length_le (by omega)] at hru
        rw [sortsE, if_pos hpe, if_pos hru]

theorem refMoved_c {h : AHeap} {v : AV} {l : List Int} (hv : Row h v l) (hlen : l.length ≤ 4294967296) : ACalls Go.Proofs.Try.prog 28 [v] h (fun r h' => ∃ vo, r = .tup [vo, .int .i64 (checkE l)] ∧ Keeps h h' ∧ Row h' vo (okE l [] (movedOf l))) := by
  refine KA.fn 62 [.tmp 2, .tmp 3] Go.Proofs.Try.func28 rfl (by decide) rfl rfl (Nat.le_of_ble_eq_true rfl) ?_
  have hS := St.refl h
  show KA _ 62 _ _ [(0, v)] _
  refine KA.seq ?_
  refine KA.region rfl ?_
  refine KOps.assign ?_
  refine KOps.assign ?_
  refine KOps.done ?_
  refine sqQ.normal ?_
  refine KA.sub (Sub.cons (t := 0) Look.eq (Sub.nil _)) ?_
  refine KA.seq ?_
  refine KA.region rfl ?_
  refine KOps.move ?_
  refine KOps.call rfl (refCheck_c (by first | assumption | exact Rd.ext hS.keeps (by assumption)) (by first | omega | (simp; omega))) ?_
  rintro _ _ ⟨rfl, rfl⟩
  refine KOps.assign ?_
  refine KOps.done ?_
  refine sqQ.normal ?_
  refine KA.sub (Sub.cons (t := 0) Look.eq (Sub.cons (t := 4) Look.eq (Sub.nil _))) ?_
  refine KA.seq ?_
  refine KA.seq ?_
  refine KA.region rfl ?_
  refine KOps.move ?_
  refine KOps.neq ?_
  refine KOps.done ?_
  refine sqQ.normal ?_
  refine KA.sub (Sub.cons (t := 0) Look.eq (Sub.cons (t := 4) Look.eq (Sub.cons (t := 14) Look.eq (Sub.nil _)))) ?_
  refine KA.condN ?_ ?_
  · intro c14
    refine KA.seq ?_
    refine KA.region rfl ?_
    refine KOps.move ?_
    refine KOps.assign ?_
    refine KOps.assign ?_
    refine KOps.done ?_
    refine sqQ.normal ?_
    refine KA.sub (Sub.cons (t := 2) Look.eq (Sub.cons (t := 3) Look.eq (Sub.nil _))) ?_
    refine KA.ret ?_
    refine sqQ.ret ?_
    refine fnQ.retN ?_
    refine ⟨.nils, rfl, hS.keeps, ?_⟩
    rw [okE_no c14]
    exact .inl ⟨rfl, rfl⟩
  · intro c14
    obtain ⟨hl0, hl9, hpk⟩ := checkE_ok c14
    have hpw : 2 ^ l.length ≤ 2 ^ 9 := Nat.pow_le_pow_right (by decide) hl9
    have hsh := i64_shl l.length hl9
    have hil := iota_len l.length
    refine KA.skip ?_
    refine sqQ.normal ?_
    refine KA.sub (Sub.cons (t := 0) Look.eq (Sub.nil _)) ?_
    refine KA.seq ?_
    refine KA.region rfl ?_
    refine KOps.move ?_
    refine KOps.lenI (by first | assumption | exact Rd.ext hS.keeps (by assumption)) ?_
    refine KOps.assign ?_
    refine KOps.done ?_
    refine sqQ.normal ?_
    refine KA.sub (Sub.cons (t := 0) Look.eq (Sub.cons (t := 5) Look.eq (Sub.nil _))) ?_
    refine KA.seq ?_
    refine KA.region rfl ?_
    refine KOps.assign ?_
    refine KOps.done ?_
    refine sqQ.normal ?_
    refine KA.seq ?_
    refine KA.seq ?_
    refine KA.region rfl ?_
    refine KOps.assign ?_
    refine KOps.done ?_
    refine sqQ.normal ?_
    refine KA.block ?_
    refine KA.loop (X := Nat × AV) (fun x => [(0, v), (5, .int .i64 (l.length : Int)), (6, x.2), (7, .int .i64 (x.1 : Int))]) (fun x h' => x.1 ≤ l.length ∧ St h h' [⟨x.2, 1, ints (iota x.1), true⟩]) (fun x => l.length - x.1) (0, .nils) (by repeat (first | exact Sub.nil _ | refine Sub.cons Look.eq ?_ | refine Sub.cons (Eq.trans Look.eq (congrArg (AV.int _) (by first | omega | (dsimp only; omega)))) ?_)) ?_ ?_
    · exact ⟨by omega, St.nil hS 1⟩
    rintro ⟨i, vc⟩ h1 ⟨hi, hS⟩
    dsimp only at hi hS ⊢
    have hii := iota_len i
    refine KA.seq ?_
    refine KA.seq ?_
    refine KA.region rfl ?_
    refine KOps.move ?_
    refine KOps.move ?_
    refine KOps.lss ?_
    refine KOps.done ?_
    refine sqQ.normal ?_
    refine KA.sub (Sub.cons (t := 0) Look.eq (Sub.cons (t := 5) Look.eq (Sub.cons (t := 6) Look.eq (Sub.cons (t := 7) Look.eq (Sub.cons (t := 20) Look.eq (Sub.nil _)))))) ?_
    refine KA.condD ?_ ?_
    · intro c20
      refine KA.skip ?_
      refine sqQ.normal ?_
      refine KA.sub (Sub.cons (t := 0) Look.eq (Sub.cons (t := 5) Look.eq (Sub.cons (t := 6) Look.eq (Sub.cons (t := 7) Look.eq (Sub.nil _))))) ?_
      refine KA.seq ?_
      refine KA.block ?_
      refine KA.region rfl ?_
      refine KOps.move ?_
      refine KOps.move ?_
      refine KOps.buildSlice hS rfl (by decide) rfl ?_
      intro v25 h' hS
      refine KOps.appendI hS (fun _ => rfl) (i := 0) rfl (by first | omega | (simp; omega)) ?_
      intro r26 h' hr26 hS
      refine KOps.assign ?_
      refine KOps.done ?_
      refine blQ.normal ?_
      refine sqQ.normal ?_
      refine KA.sub (Sub.cons (t := 0) Look.eq (Sub.cons (t := 5) Look.eq (Sub.cons (t := 6) Look.eq (Sub.cons (t := 7) Look.eq (Sub.nil _))))) ?_
      refine KA.region rfl ?_
      refine KOps.move ?_
      refine KOps.add (by omega) (by omega) ?_
      refine KOps.assign ?_
      refine KOps.done ?_
      exact lpQ.normal (i + 1, r26) (by repeat (first | exact Sub.nil _ | refine Sub.cons Look.eq ?_ | refine Sub.cons (Eq.trans Look.eq (congrArg (AV.int _) (by first | omega | (dsimp only; omega)))) ?_)) ⟨by dsimp only; omega, by dsimp only; rw [iota_succ]; exact hS⟩ (by dsimp only; omega)
    · intro c20
      refine KA.exit ?_
      refine sqQ.exit ?_
      refine lpQ.exit ?_
      refine blQ.here ?_
      refine sqQ.normal ?_
      refine KA.sub (Sub.cons (t := 0) Look.eq (Sub.cons (t := 5) Look.eq (Sub.cons (t := 6) Look.eq (Sub.nil _)))) ?_
      refine KA.seq ?_
      refine KA.region rfl ?_
      refine KOps.move ?_
      refine KOps.assign ?_
      refine KOps.done ?_
      refine sqQ.normal ?_
      refine KA.sub (Sub.cons (t := 0) Look.eq (Sub.cons (t := 5) Look.eq (Sub.cons (t := 6) Look.eq (Sub.cons (t := 8) Look.eq (Sub.nil _))))) ?_
      refine KA.seq ?_
      refine KA.seq ?_
      refine KA.region rfl ?_
      refine KOps.assign ?_
      refine KOps.done ?_
      refine sqQ.normal ?_
      refine KA.block ?_
      refine KA.loop (X := Nat × AV) (fun x => [(0, v), (5, .int .i64 (l.length : Int)), (6, vc), (8, x.2), (9, .int .i64 (x.1 : Int))]) (fun x h' => x.1 ≤ 2 ^ l.length ∧ St h h' [⟨vc, 1, ints (iota l.length), true⟩] ∧ Row h' x.2 (movedTo l x.1)) (fun x => 2 ^ l.length - x.1) (0, vc) (by repeat (first | exact Sub.nil _ | refine Sub.cons Look.eq ?_ | refine Sub.cons (Eq.trans Look.eq (congrArg (AV.int _) (by first | omega | (dsimp only; omega)))) ?_)) ?_ ?_
      · have he : i = l.length := by omega
        subst he
        exact ⟨Nat.zero_le _, hS, hS.rd 0 rfl⟩
      rintro ⟨s, vb⟩ h2 ⟨hi2, hS, hb⟩
      dsimp only at hi2 hS hb ⊢
      have hbl := movedTo_len l s
      have hrl := (rowS_sub (iota l.length) s).length_le
      have hsc := movedTo_succ l s
      refine KA.seq ?_
      refine KA.seq ?_
      refine KA.region rfl ?_
      refine KOps.move ?_
      refine KOps.move ?_
      refine KOps.shl (by omega) ?_
      rw [hsh]
      refine KOps.lss ?_
      refine KOps.done ?_
      refine sqQ.normal ?_
      refine KA.sub (Sub.cons (t := 0) Look.eq (Sub.cons (t := 5) Look.eq (Sub.cons (t := 6) Look.eq (Sub.cons (t := 8) Look.eq (Sub.cons (t := 9) Look.eq (Sub.cons (t := 31) Look.eq (Sub.nil _))))))) ?_
      refine KA.condD ?_ ?_
      · intro c31
        refine KA.skip ?_
        refine sqQ.normal ?_
        refine KA.sub (Sub.cons (t := 0) Look.eq (Sub.cons (t := 5) Look.eq (Sub.cons (t := 6) Look.eq (Sub.cons (t := 8) Look.eq (Sub.cons (t := 9) Look.eq (Sub.nil _)))))) ?_
        refine KA.seq ?_
        refine KA.block ?_
        refine KA.seq ?_
        refine KA.region rfl ?_
        refine KOps.move ?_
        refine KOps.move ?_
        refine KOps.call rfl (row_c (hS.rd 0 rfl) (by first | omega | (simp; omega)) (by first | omega | (simp; omega))) ?_
        rintro v36 h36 hS36
        have hS : St _ _ (_ :: _) := St.trans hS hS36
        have hb := Row.ext hS36.keeps hb
        refine KOps.assign ?_
        refine KOps.done ?_
        refine sqQ.normal ?_
        refine KA.sub (Sub.cons (t := 0) Look.eq (Sub.cons (t := 5) Look.eq (Sub.cons (t := 6) Look.eq (Sub.cons (t := 8) Look.eq (Sub.cons (t := 9) Look.eq (Sub.cons (t := 10) Look.eq (Sub.nil _))))))) ?_
        refine KA.meet (X := Unit) (fun _ => [(0, v), (5, .int .i64 (l.length : Int)), (6, vc), (8, vb), (9, .int .i64 (s : Int)), (10, v36), (59, .bool (decide (sortsE l (rowS (iota l.length) s) = 0) && fewer (rowS (iota l.length) s) (movedTo l s)))]) (fun _ h' => St h h' [⟨v36, 1, ints (rowS (iota l.length) s), true⟩, ⟨vc, 1, ints (iota l.length), true⟩] ∧ Row h' vb (movedTo l s)) ?_ ?_
        ·
          refine KA.region rfl ?_
          refine KOps.move ?_
          refine KOps.move ?_
          refine KOps.call rfl (refSorts_c (by first | assumption | exact Rd.ext hS.keeps (by assumption)) (hS.rd 0 rfl) (by first | omega | (simp; omega)) (by first | omega | (simp; omega))) ?_
          rintro _ h39 ⟨rfl, hS39⟩
          have hS : St _ _ (_ :: _) := St.trans hS hS39
          have hb := Row.ext hS39.keeps hb
          refine KOps.eql ?_
          refine KOps.move ?_
          refine KOps.guardB (dj := 41) rfl rfl true false rfl ?_ ?_
          · intro g41
            have g41 := of_decide_eq_true g41
            refine KOps.move ?_
            refine KOps.guardYes (dj := 41) rfl rfl ?_
            refine KOps.lenI (hS.rd 0 rfl) ?_
            refine KOps.guardYes (dj := 41) rfl rfl ?_
            refine KOps.move ?_
            refine KOps.guardYes (dj := 41) rfl rfl ?_
            refine KOps.lenI hb ?_
            refine KOps.guardYes (dj := 41) rfl rfl ?_
            refine KOps.lss ?_
            refine KOps.guardYes (dj := 41) rfl rfl ?_
            refine KOps.move ?_
            refine KOps.guardB (dj := 47) rfl rfl false true rfl ?_ ?_
            · intro g47
              have g47 := of_decide_eq_false g47
              refine KOps.move ?_
              refine KOps.guardYes (dj := 47) rfl rfl ?_
              refine KOps.lenI (hS.rd 0 rfl) ?_
              refine KOps.guardYes (dj := 47) rfl rfl ?_
              refine KOps.move ?_
              refine KOps.guardYes (dj := 47) rfl rfl ?_
              refine KOps.lenI hb ?_
              refine KOps.guardYes (dj := 47) rfl rfl ?_
              refine KOps.eql ?_
              refine KOps.guardYes (dj := 47) rfl rfl ?_
              refine KOps.move ?_
              refine KOps.guardB (dj := 53) rfl rfl true false rfl ?_ ?_
              · intro g53
                have g53 := of_decide_eq_true g53
                refine KOps.move ?_
                refine KOps.guardYes (dj := 53) rfl rfl ?_
                refine KOps.move ?_
                refine KOps.guardYes (dj := 53) rfl rfl ?_
                refine KOps.call rfl (before_c (hS.rd 0 rfl) hb (by first | omega | (simp; omega)) (by first | omega | (simp; omega))) ?_
                rintro _ _ ⟨rfl, rfl⟩
                refine KOps.guardYes (dj := 47) rfl rfl ?_
                refine KOps.pickT ?_
                refine KOps.guardYes (dj := 41) rfl rfl ?_
                refine KOps.pickF ?_
                refine KOps.pickT ?_
                refine KOps.done ?_
                exact mtQ.normal () (by repeat (first | exact Sub.nil _ | refine Sub.cons Look.eq ?_ | refine Sub.cons (Eq.trans Look.eq (congrArg (AV.int _) (by first | omega | (dsimp only; omega)))) ?_ | refine Sub.cons (Eq.trans Look.eq (congrArg AV.bool (by rw [decide_eq_true g41, Bool.true_and, fewer_eq (a := (rowS (iota l.length) s)) (b := (movedTo l s)) (by omega)]))) ?_)) ⟨hS, hb⟩
              · intro g53
                have g53 := of_decide_eq_false g53
                refine KOps.guardNo (dj := 53) rfl rfl rfl ?_
                refine KOps.guardNo (dj := 53) rfl rfl rfl ?_
                refine KOps.guardYes (dj := 47) rfl rfl ?_
                refine KOps.pickF ?_
                refine KOps.guardYes (dj := 41) rfl rfl ?_
                refine KOps.pickF ?_
                refine KOps.pickT ?_
                refine KOps.done ?_
                exact mtQ.normal () (by repeat (first | exact Sub.nil _ | refine Sub.cons Look.eq ?_ | refine Sub.cons (Eq.trans Look.eq (congrArg (AV.int _) (by first | omega | (dsimp only; omega)))) ?_ | refine Sub.cons (Eq.trans Look.eq (congrArg AV.bool (by rw [decide_eq_true g41, Bool.true_and, fewer_long (a := (rowS (iota l.length) s)) (b := (movedTo l s)) (by omega) (by omega)]))) ?_)) ⟨hS, hb⟩
            · intro g47
              have g47 := of_decide_eq_true g47
              refine KOps.guardNo (dj := 47) rfl rfl rfl ?_
              refine KOps.guardNo (dj := 47) rfl rfl rfl ?_
              refine KOps.guardNo (dj := 47) rfl rfl rfl ?_
              refine KOps.guardNo (dj := 47) rfl rfl rfl ?_
              refine KOps.guardNo (dj := 47) rfl rfl rfl ?_
              refine KOps.guardTup (dj := 53) rfl rfl ?_
              refine KOps.guardTup (dj := 53) rfl rfl ?_
              refine KOps.guardTup (dj := 53) rfl rfl ?_
              refine KOps.guardNo (dj := 47) rfl rfl rfl ?_
              refine KOps.guardYes (dj := 41) rfl rfl ?_
              refine KOps.pickT ?_
              refine KOps.pickT ?_
              refine KOps.done ?_
              exact mtQ.normal () (by repeat (first | exact Sub.nil _ | refine Sub.cons Look.eq ?_ | refine Sub.cons (Eq.trans Look.eq (congrArg (AV.int _) (by first | omega | (dsimp only; omega)))) ?_ | refine Sub.cons (Eq.trans Look.eq (congrArg AV.bool (by rw [decide_eq_true g41, Bool.true_and, fewer_short (a := (rowS (iota l.length) s)) (b := (movedTo l s)) (by omega)]))) ?_)) ⟨hS, hb⟩
          · intro g41
            have g41 := of_decide_eq_false g41
            refine KOps.guardNo (dj := 41) rfl rfl rfl ?_
            refine KOps.guardNo (dj := 41) rfl rfl rfl ?_
            refine KOps.guardNo (dj := 41) rfl rfl rfl ?_
            refine KOps.guardNo (dj := 41) rfl rfl rfl ?_
            refine KOps.guardNo (dj := 41) rfl rfl rfl ?_
            refine KOps.guardTup (dj := 47) rfl rfl ?_
            refine KOps.guardTup (dj := 47) rfl rfl ?_
            refine KOps.guardTup (dj := 47) rfl rfl ?_
            refine KOps.guardTup (dj := 47) rfl rfl ?_
            refine KOps.guardTup (dj := 47) rfl rfl ?_
            refine KOps.guardTup (dj := 47) rfl rfl ?_
            refine KOps.guardTup (dj := 53) rfl rfl ?_
            refine KOps.guardTup (dj := 53) rfl rfl ?_
            refine KOps.guardTup (dj := 53) rfl rfl ?_
            refine KOps.guardTup (dj := 47) rfl rfl ?_
            refine KOps.guardNo (dj := 41) rfl rfl rfl ?_
            refine KOps.pickF ?_
            refine KOps.done ?_
            exact mtQ.normal () (by repeat (first | exact Sub.nil _ | refine Sub.cons Look.eq ?_ | refine Sub.cons (Eq.trans Look.eq (congrArg (AV.int _) (by first | omega | (dsimp only; omega)))) ?_ | refine Sub.cons (Eq.trans Look.eq (congrArg AV.bool (by rw [decide_eq_false g41, Bool.false_and]))) ?_)) ⟨hS, hb⟩
        ·
          rintro _ h3 ⟨hS, hb⟩
          refine KA.condB ?_ ?_
          · intro c59
            refine KA.region rfl ?_
            refine KOps.move ?_
            refine KOps.assign ?_
            refine KOps.done ?_
            refine blQ.normal ?_
            refine sqQ.normal ?_
            refine KA.sub (Sub.cons (t := 0) Look.eq (Sub.cons (t := 5) Look.eq (Sub.cons (t := 6) Look.eq (Sub.cons (t := 8) Look.eq (Sub.cons (t := 9) Look.eq (Sub.nil _)))))) ?_
            refine KA.region rfl ?_
            refine KOps.move ?_
            refine KOps.add (by omega) (by omega) ?_
            refine KOps.assign ?_
            refine KOps.done ?_
            rw [if_pos c59] at hsc
            exact lpQ.normal (s + 1, v36) (by repeat (first | exact Sub.nil _ | refine Sub.cons Look.eq ?_ | refine Sub.cons (Eq.trans Look.eq (congrArg (AV.int _) (by first | omega | (dsimp only; omega)))) ?_)) ⟨by dsimp only; omega, St.tail hS, by dsimp only; rw [hsc]; exact hS.rd 0 rfl⟩ (by dsimp only; omega)
          · intro c59
            refine KA.skip ?_
            refine blQ.normal ?_
            refine sqQ.normal ?_
            refine KA.sub (Sub.cons (t := 0) Look.eq (Sub.cons (t := 5) Look.eq (Sub.cons (t := 6) Look.eq (Sub.cons (t := 8) Look.eq (Sub.cons (t := 9) Look.eq (Sub.nil _)))))) ?_
            refine KA.region rfl ?_
            refine KOps.move ?_
            refine KOps.add (by omega) (by omega) ?_
            refine KOps.assign ?_
            refine KOps.done ?_
            rw [if_neg (by rw [c59]; exact Bool.false_ne_true)] at hsc
            exact lpQ.normal (s + 1, vb) (by repeat (first | exact Sub.nil _ | refine Sub.cons Look.eq ?_ | refine Sub.cons (Eq.trans Look.eq (congrArg (AV.int _) (by first | omega | (dsimp only; omega)))) ?_)) ⟨by dsimp only; omega, St.tail hS, by dsimp only; rw [hsc]; exact hb⟩ (by dsimp only; omega)
      · intro c31
        refine KA.exit ?_
        refine sqQ.exit ?_
        refine lpQ.exit ?_
        refine blQ.here ?_
        refine sqQ.normal ?_
        refine KA.sub (Sub.cons (t := 8) Look.eq (Sub.nil _)) ?_
        refine KA.seq ?_
        refine KA.region rfl ?_
        refine KOps.move ?_
        refine KOps.assign ?_
        refine KOps.assign ?_
        refine KOps.done ?_
        refine sqQ.normal ?_
        refine KA.sub (Sub.cons (t := 2) Look.eq (Sub.cons (t := 3) Look.eq (Sub.nil _))) ?_
        refine KA.ret ?_
        refine fnQ.retN ?_
        have he : s = 2 ^ l.length := by omega
        subst he
        refine ⟨vb, by rw [c14], hS.keeps, ?_⟩
        rw [okE_yes c14]
        exact hb

theorem moved_c {h : AHeap} {v : AV} {l : List Int} (hv : Row h v l) : ACalls Go.Proofs.Try.prog 27 [v] h (fun r h' => ∃ vo, r = .tup [vo, .int .i64 (checkE l)] ∧ Keeps h h' ∧ Row h' vo (okE l [] (movedOf l))) := by
  refine KA.fn 143 [.tmp 2, .tmp 3] Go.Proofs.Try.func27 rfl (by decide) rfl rfl (Nat.le_of_ble_eq_true rfl) ?_
  have hS := St.refl h
  show KA _ 143 _ _ [(0, v)] _
  refine KA.seq ?_
  refine KA.region rfl ?_
  refine KOps.assign ?_
  refine KOps.assign ?_
  refine KOps.done ?_
  refine sqQ.normal ?_
  refine KA.sub (Sub.cons (t := 0) Look.eq (Sub.nil _)) ?_
  refine KA.seq ?_
  refine KA.seq ?_
  refine KA.region rfl ?_
  refine KOps.move ?_
  refine KOps.call rfl (check_c (by first | assumption | exact Rd.ext hS.keeps (by assumption))) ?_
  rintro _ _ ⟨rfl, rfl⟩
  refine KOps.assign ?_
  refine KOps.done ?_
  refine sqQ.normal ?_
  refine KA.sub (Sub.cons (t := 0) Look.eq (Sub.cons (t := 4) Look.eq (Sub.nil _))) ?_
  refine KA.seq ?_
  refine KA.region rfl ?_
  refine KOps.move ?_
  refine KOps.neq ?_
  refine KOps.done ?_
  refine sqQ.normal ?_
  refine KA.sub (Sub.cons (t := 0) Look.eq (Sub.cons (t := 4) Look.eq (Sub.cons (t := 20) Look.eq (Sub.nil _)))) ?_
  refine KA.condN ?_ ?_
  · intro c20
    refine KA.seq ?_
    refine KA.region rfl ?_
    refine KOps.move ?_
    refine KOps.assign ?_
    refine KOps.assign ?_
    refine KOps.done ?_
    refine sqQ.normal ?_
    refine KA.sub (Sub.cons (t := 2) Look.eq (Sub.cons (t := 3) Look.eq (Sub.nil _))) ?_
    refine KA.ret ?_
    refine sqQ.ret ?_
    refine fnQ.retN ?_
    refine ⟨.nils, rfl, hS.keeps, ?_⟩
    rw [okE_no c20]
    exact .inl ⟨rfl, rfl⟩
  · intro c20
    obtain ⟨hl0, hl9, hpk⟩ := checkE_ok c20
    have hpl := placesL_len l
    have hpr : ∀ c, c < l.length → 0 ≤ (placesL l).getD c 0 ∧ (placesL l).getD c 0 < l.length := fun c hc => placesL_range hpk hc
    have hlg := lgL_length false (placesL l)
    have hlr : ∀ j, j < l.length → 1 ≤ (lgL false (placesL l)).getD j 0 ∧ (lgL false (placesL l)).getD j 0 ≤ l.length := fun j hj => by have := lg_range false (placesL l) (j := j) (by omega); rw [hpl] at this; exact this
    refine KA.skip ?_
    refine sqQ.normal ?_
    refine KA.sub (Sub.cons (t := 0) Look.eq (Sub.nil _)) ?_
    refine KA.seq ?_
    refine KA.region rfl ?_
    refine KOps.move ?_
    refine KOps.lenI (by first | assumption | exact Rd.ext hS.keeps (by assumption)) ?_
    refine KOps.makeI hS (by omega) (by omega) (by omega) ?_
    intro v24 h' hS
    refine KOps.assign ?_
    refine KOps.done ?_
    refine sqQ.normal ?_
    refine KA.sub (Sub.cons (t := 0) Look.eq (Sub.cons (t := 5) Look.eq (Sub.nil _))) ?_
    refine KA.seq ?_
    refine KA.seq ?_
    refine KA.region rfl ?_
    refine KOps.move ?_
    refine KOps.lenI (by first | assumption | exact Rd.ext hS.keeps (by assumption)) ?_
    refine KOps.move ?_
    refine KOps.done ?_
    refine sqQ.normal ?_
    refine KA.block ?_
    refine KA.loop (X := Nat) (fun i => [(0, v), (5, v24), (25, v), (26, .int .i64 (l.length : Int)), (27, .int .i64 (i : Int))]) (fun i h' => i ≤ l.length ∧ St h h' [⟨v24, 1, ints (placesT l i), true⟩]) (fun i => l.length - i) 0 (by repeat (first | exact Sub.nil _ | refine Sub.cons Look.eq ?_ | refine Sub.cons (Eq.trans Look.eq (congrArg (AV.int _) (by first | omega | (dsimp only; omega)))) ?_)) ?_ ?_
    · refine ⟨by omega, ?_⟩
      rw [placesT_zero]
      exact hS
    rintro i h1 ⟨hi, hS⟩
    have hal := placesT_len l i
    refine KA.seq ?_
    refine KA.region rfl ?_
    refine KOps.lss ?_
    refine KOps.done ?_
    refine sqQ.normal ?_
    refine KA.seq ?_
    refine KA.condD ?_ ?_
    · intro c28
      have hb := hpk.2 _ (getD_mem (show i < l.length by omega))
      refine KA.skip ?_
      refine sqQ.normal ?_
      refine KA.sub (Sub.cons (t := 0) Look.eq (Sub.cons (t := 5) Look.eq (Sub.cons (t := 25) Look.eq (Sub.cons (t := 26) Look.eq (Sub.cons (t := 27) Look.eq (Sub.nil _)))))) ?_
      refine KA.seq ?_
      refine KA.block ?_
      refine KA.seq ?_
      refine KA.region rfl ?_
      refine KOps.move ?_
      refine KOps.indexIJ (by first | assumption | exact Rd.ext hS.keeps (by assumption)) (j := i) rfl (by first | omega | (simp; omega)) ?_
      intro p30 hp30
      refine KOps.loadI hp30 (by first | assumption | exact Rd.ext hS.keeps (by assumption)) (by first | omega | (simp; omega)) ?_
      refine KOps.assign ?_
      refine KOps.assign ?_
      refine KOps.done ?_
      refine sqQ.normal ?_
      refine KA.sub (Sub.cons (t := 0) Look.eq (Sub.cons (t := 5) Look.eq (Sub.cons (t := 6) Look.eq (Sub.cons (t := 7) Look.eq (Sub.cons (t := 25) Look.eq (Sub.cons (t := 26) Look.eq (Sub.cons (t := 27) Look.eq (Sub.nil _)))))))) ?_
      refine KA.region rfl ?_
      refine KOps.move ?_
      refine KOps.move ?_
      refine KOps.move ?_
      refine KOps.indexIJ (hS.rd 0 rfl) (j := (l.getD i 0).toNat) (by omega) (by first | omega | (simp; omega)) ?_
      intro p35 hp35
      refine KOps.storeI hS rfl (i := 0) rfl hp35 (by first | omega | (simp; omega)) ?_
      intro h' hS
      refine KOps.done ?_
      refine blQ.normal ?_
      refine sqQ.normal ?_
      refine KA.sub (Sub.cons (t := 0) Look.eq (Sub.cons (t := 5) Look.eq (Sub.cons (t := 25) Look.eq (Sub.cons (t := 26) Look.eq (Sub.cons (t := 27) Look.eq (Sub.nil _)))))) ?_
      refine KA.region rfl ?_
      refine KOps.add (by omega) (by omega) ?_
      refine KOps.move ?_
      refine KOps.done ?_
      exact lpQ.normal (i + 1) (by repeat (first | exact Sub.nil _ | refine Sub.cons Look.eq ?_ | refine Sub.cons (Eq.trans Look.eq (congrArg (AV.int _) (by first | omega | (dsimp only; omega)))) ?_)) ⟨by omega, by rw [← placesT_succ hpk (by omega)]; exact hS⟩ (by omega)
    · intro c28
      have hie : i = l.length := by omega
      subst hie
      rw [placesT_full hpk] at hS
      refine KA.exit ?_
      refine sqQ.exit ?_
      refine lpQ.exit ?_
      refine blQ.here ?_
      refine sqQ.normal ?_
      refine KA.sub (Sub.cons (t := 0) Look.eq (Sub.cons (t := 5) Look.eq (Sub.nil _))) ?_
      refine KA.seq ?_
      refine KA.region rfl ?_
      refine KOps.move ?_
      refine KOps.lenI (by first | assumption | exact Rd.ext hS.keeps (by assumption)) ?_
      refine KOps.makeI hS (by omega) (by omega) (by omega) ?_
      intro v39 h' hS
      refine KOps.assign ?_
      refine KOps.done ?_
      refine sqQ.normal ?_
      refine KA.sub (Sub.cons (t := 0) Look.eq (Sub.cons (t := 5) Look.eq (Sub.cons (t := 8) Look.eq (Sub.nil _)))) ?_
      refine KA.seq ?_
      refine KA.seq ?_
      refine KA.region rfl ?_
      refine KOps.move ?_
      refine KOps.lenI (by first | assumption | exact Rd.ext hS.keeps (by assumption)) ?_
      refine KOps.sub (by omega) (by omega) ?_
      refine KOps.assign ?_
      refine KOps.done ?_
      refine sqQ.normal ?_
      refine KA.sub (Sub.cons (t := 0) Look.eq (Sub.cons (t := 5) Look.eq (Sub.cons (t := 8) Look.eq (Sub.cons (t := 9) Look.eq (Sub.nil _))))) ?_
      refine KA.block ?_
      refine KA.loop (X := Nat) (fun q => [(0, v), (5, v24), (8, v39), (9, .int .i64 ((q : Int) - 1))]) (fun q h' => q ≤ l.length ∧ St h h' [⟨v39, 1, ints (List.replicate q 0 ++ lgL false ((placesL l).drop q)), true⟩, ⟨v24, 1, ints (placesL l), true⟩]) (fun q => q) l.length (by repeat (first | exact Sub.nil _ | refine Sub.cons Look.eq ?_ | refine Sub.cons (Eq.trans Look.eq (congrArg (AV.int _) (by first | omega | (dsimp only; omega)))) ?_)) ?_ ?_
      · refine ⟨Nat.le_refl _, ?_⟩
        rw [List.drop_eq_nil_of_le (by omega)]
        simpa [lgL] using hS
      rintro q h1 ⟨hq, hS⟩
      have hal : (List.replicate q 0 ++ lgL false ((placesL l).drop q)).length = l.length := by rw [List.length_append, List.length_replicate, lgL_length, List.length_drop]; omega
      refine KA.seq ?_
      refine KA.seq ?_
      refine KA.region rfl ?_
      refine KOps.move ?_
      refine KOps.geq ?_
      refine KOps.done ?_
      refine sqQ.normal ?_
      refine KA.sub (Sub.cons (t := 0) Look.eq (Sub.cons (t := 5) Look.eq (Sub.cons (t := 8) Look.eq (Sub.cons (t := 9) Look.eq (Sub.cons (t := 44) Look.eq (Sub.nil _)))))) ?_
      refine KA.condD ?_ ?_
      · intro c44
        obtain ⟨i, rfl⟩ : ∃ i, q = i + 1 := ⟨q - 1, by omega⟩
        have hi1 : ((i + 1 : Nat) : Int) - 1 = (i : Int) := by omega
        rw [hi1]
        refine KA.skip ?_
        refine sqQ.normal ?_
        refine KA.sub (Sub.cons (t := 0) Look.eq (Sub.cons (t := 5) Look.eq (Sub.cons (t := 8) Look.eq (Sub.cons (t := 9) Look.eq (Sub.nil _))))) ?_
        refine KA.seq ?_
        refine KA.block ?_
        refine KA.seq ?_
        refine KA.region rfl ?_
        refine KOps.move ?_
        refine KOps.move ?_
        refine KOps.indexIJ (hS.rd 0 rfl) (j := i) (by omega) (by first | omega | (simp; omega)) ?_
        intro p49 hp49
        refine KOps.storeI hS rfl (i := 0) rfl hp49 (by first | omega | (simp; omega)) ?_
        intro h' hS
        simp only [List.set_cons_zero, repl_set] at hS
        refine KOps.done ?_
        refine sqQ.normal ?_
        refine KA.sub (Sub.cons (t := 0) Look.eq (Sub.cons (t := 5) Look.eq (Sub.cons (t := 8) Look.eq (Sub.cons (t := 9) Look.eq (Sub.nil _))))) ?_
        refine KA.seq ?_
        refine KA.region rfl ?_
        refine KOps.move ?_
        refine KOps.add (by omega) (by omega) ?_
        refine KOps.assign ?_
        refine KOps.done ?_
        refine sqQ.normal ?_
        refine KA.sub (Sub.cons (t := 0) Look.eq (Sub.cons (t := 5) Look.eq (Sub.cons (t := 8) Look.eq (Sub.cons (t := 9) Look.eq (Sub.cons (t := 10) Look.eq (Sub.nil _)))))) ?_
        refine KA.block ?_
        refine KA.loop (X := Nat) (fun j => [(0, v), (5, v24), (8, v39), (9, .int .i64 (i : Int)), (10, .int .i64 ((i + 1 + j : Nat) : Int))]) (fun j h' => i + 1 + j ≤ l.length ∧ St h h' [⟨v39, 1, ints (List.replicate i 0 ++ (lgStep false ((placesL l).getD i 0) ((((placesL l).drop (i + 1)).zip (lgL false ((placesL l).drop (i + 1)))).take j) 1) :: (lgL false ((placesL l).drop (i + 1)))), true⟩, ⟨v24, 1, ints (placesL l), true⟩]) (fun j => l.length - j) 0 (by repeat (first | exact Sub.nil _ | refine Sub.cons Look.eq ?_ | refine Sub.cons (Eq.trans Look.eq (congrArg (AV.int _) (by first | omega | (dsimp only; omega)))) ?_)) ⟨by omega, hS⟩ ?_
        rintro j h2 ⟨hj, hS⟩
        have ht := lgL_length false ((placesL l).drop (i + 1))
        have hdl : ((placesL l).drop (i + 1)).length = l.length - (i + 1) := by rw [List.length_drop, hpl]
        have hal : (List.replicate i 0 ++ (lgStep false ((placesL l).getD i 0) ((((placesL l).drop (i + 1)).zip (lgL false ((placesL l).drop (i + 1)))).take j) 1) :: (lgL false ((placesL l).drop (i + 1)))).length = l.length := by rw [List.length_append, List.length_replicate, List.length_cons, ht]; omega
        have hr1 := repl_at i (lgL false ((placesL l).drop (i + 1))) (lgStep false ((placesL l).getD i 0) ((((placesL l).drop (i + 1)).zip (lgL false ((placesL l).drop (i + 1)))).take j) 1)
        have hr2 := repl_at2 i j (lgL false ((placesL l).drop (i + 1))) (lgStep false ((placesL l).getD i 0) ((((placesL l).drop (i + 1)).zip (lgL false ((placesL l).drop (i + 1)))).take j) 1)
        have hdg := drop_getD (placesL l) (i + 1) j
        refine KA.seq ?_
        refine KA.seq ?_
        refine KA.region rfl ?_
        refine KOps.move ?_
        refine KOps.move ?_
        refine KOps.lenI (by first | assumption | exact Rd.ext hS.keeps (by assumption)) ?_
        refine KOps.lss ?_
        refine KOps.done ?_
        refine sqQ.normal ?_
        refine KA.sub (Sub.cons (t := 0) Look.eq (Sub.cons (t := 5) Look.eq (Sub.cons (t := 8) Look.eq (Sub.cons (t := 9) Look.eq (Sub.cons (t := 10) Look.eq (Sub.cons (t := 55) Look.eq (Sub.nil _))))))) ?_
        refine KA.condD ?_ ?_
        · intro c55
          have hlj : (lgL false ((placesL l).drop (i + 1))).getD j 0 = (lgL false (placesL l)).getD (i + 1 + j) 0 := by rw [lgL_drop, drop_getD]
          have hlrj := hlr (i + 1 + j) (by omega)
          refine KA.skip ?_
          refine sqQ.normal ?_
          refine KA.sub (Sub.cons (t := 0) Look.eq (Sub.cons (t := 5) Look.eq (Sub.cons (t := 8) Look.eq (Sub.cons (t := 9) Look.eq (Sub.cons (t := 10) Look.eq (Sub.nil _)))))) ?_
          refine KA.seq ?_
          refine KA.block ?_
          refine KA.seq ?_
          refine KA.draw [] mixed rfl (by kernel_rfl) ?_
          refine KOps.move ?_
          refine KOps.move ?_
          refine KOps.indexIJ (hS.rd 1 rfl) (j := i) rfl (by first | omega | (simp; omega)) ?_
          intro p60 hp60
          refine KOps.loadI hp60 (hS.rd 1 rfl) (by first | omega | (simp; omega)) ?_
          refine KOps.move ?_
          refine KOps.move ?_
          refine KOps.indexIJ (hS.rd 1 rfl) (j := (i + 1 + j)) rfl (by first | omega | (simp; omega)) ?_
          intro p64 hp64
          refine KOps.loadI hp64 (hS.rd 1 rfl) (by first | omega | (simp; omega)) ?_
          refine KOps.lss ?_
          refine KOps.done ?_
          refine sqQ.normal ?_
          refine KA.sub (Sub.cons (t := 0) Look.eq (Sub.cons (t := 5) Look.eq (Sub.cons (t := 8) Look.eq (Sub.cons (t := 9) Look.eq (Sub.cons (t := 10) Look.eq (Sub.cons (t := 66) Look.eq (Sub.nil _))))))) ?_
          refine KA.condD ?_ ?_
          · intro c66
            refine KA.draw [] mixed rfl (by kernel_rfl) ?_
            refine KOps.move ?_
            refine KOps.move ?_
            refine KOps.move ?_
            refine KOps.move ?_
            refine KOps.indexIJ (hS.rd 0 rfl) (j := i) rfl (by first | omega | (simp; omega)) ?_
            intro p71 hp71
            refine KOps.loadI hp71 (hS.rd 0 rfl) (by first | omega | (simp; omega)) ?_
            refine KOps.move ?_
            refine KOps.move ?_
            refine KOps.indexIJ (hS.rd 0 rfl) (j := (i + 1 + j)) rfl (by first | omega | (simp; omega)) ?_
            intro p75 hp75
            refine KOps.loadI hp75 (hS.rd 0 rfl) (by first | omega | (simp; omega)) ?_
            refine KOps.add (by omega) (by omega) ?_
            refine KOps.max ?_
            refine KOps.indexIJ (hS.rd 0 rfl) (j := i) rfl (by first | omega | (simp; omega)) ?_
            intro p79 hp79
            refine KOps.storeI hS rfl (i := 0) rfl hp79 (by first | omega | (simp; omega)) ?_
            intro h' hS
            refine KOps.done ?_
            refine blQ.normal ?_
            refine sqQ.normal ?_
            refine KA.sub (Sub.cons (t := 0) Look.eq (Sub.cons (t := 5) Look.eq (Sub.cons (t := 8) Look.eq (Sub.cons (t := 9) Look.eq (Sub.cons (t := 10) Look.eq (Sub.nil _)))))) ?_
            refine KA.region rfl ?_
            refine KOps.move ?_
            refine KOps.add (by omega) (by omega) ?_
            refine KOps.assign ?_
            refine KOps.done ?_
            have hM : (lgStep false ((placesL l).getD i 0) ((((placesL l).drop (i + 1)).zip (lgL false ((placesL l).drop (i + 1)))).take (j + 1)) 1) = max (lgStep false ((placesL l).getD i 0) ((((placesL l).drop (i + 1)).zip (lgL false ((placesL l).drop (i + 1)))).take j) 1) (1 + (lgL false ((placesL l).drop (i + 1))).getD j 0) := by rw [zip_take_snoc ht (by omega), lgStep_snoc, hdg, if_pos (by simpa only [ris, Bool.false_eq_true, if_false] using decide_eq_true c66)]
            simp only [List.set_cons_zero, hr1, hr2, repl_set2] at hS
            rw [← hM] at hS
            exact lpQ.normal (j + 1) (by repeat (first | exact Sub.nil _ | refine Sub.cons Look.eq ?_ | refine Sub.cons (Eq.trans Look.eq (congrArg (AV.int _) (by first | omega | (dsimp only; omega)))) ?_)) ⟨by omega, hS⟩ (by omega)
          · intro c66
            refine KA.skip ?_
            refine blQ.normal ?_
            refine sqQ.normal ?_
            refine KA.sub (Sub.cons (t := 0) Look.eq (Sub.cons (t := 5) Look.eq (Sub.cons (t := 8) Look.eq (Sub.cons (t := 9) Look.eq (Sub.cons (t := 10) Look.eq (Sub.nil _)))))) ?_
            refine KA.region rfl ?_
            refine KOps.move ?_
            refine KOps.add (by omega) (by omega) ?_
            refine KOps.assign ?_
            refine KOps.done ?_
            have hM : (lgStep false ((placesL l).getD i 0) ((((placesL l).drop (i + 1)).zip (lgL false ((placesL l).drop (i + 1)))).take (j + 1)) 1) = (lgStep false ((placesL l).getD i 0) ((((placesL l).drop (i + 1)).zip (lgL false ((placesL l).drop (i + 1)))).take j) 1) := by rw [zip_take_snoc ht (by omega), lgStep_snoc, hdg, if_neg (by simpa only [ris, Bool.false_eq_true, if_false, decide_eq_true_eq] using c66)]
            rw [← hM] at hS
            exact lpQ.normal (j + 1) (by repeat (first | exact Sub.nil _ | refine Sub.cons Look.eq ?_ | refine Sub.cons (Eq.trans Look.eq (congrArg (AV.int _) (by first | omega | (dsimp only; omega)))) ?_)) ⟨by omega, hS⟩ (by omega)
        · intro c55
          have hj2 : i + 1 + j = l.length := by omega
          refine KA.exit ?_
          refine sqQ.exit ?_
          refine lpQ.exit ?_
          refine blQ.here ?_
          refine blQ.normal ?_
          refine sqQ.normal ?_
          refine KA.sub (Sub.cons (t := 0) Look.eq (Sub.cons (t := 5) Look.eq (Sub.cons (t := 8) Look.eq (Sub.cons (t := 9) Look.eq (Sub.nil _))))) ?_
          refine KA.region rfl ?_
          refine KOps.move ?_
          refine KOps.sub (by omega) (by omega) ?_
          refine KOps.assign ?_
          refine KOps.done ?_
          have hz : (lgStep false ((placesL l).getD i 0) ((((placesL l).drop (i + 1)).zip (lgL false ((placesL l).drop (i + 1)))).take j) 1) :: (lgL false ((placesL l).drop (i + 1))) = lgL false ((placesL l).drop i) := by
            rw [List.take_of_length_le (by rw [List.length_zip, ht, hdl]; omega), drop_cons (by omega : i < (placesL l).length)]; rfl
          rw [hz] at hS
          exact lpQ.normal i (by repeat (first | exact Sub.nil _ | refine Sub.cons Look.eq ?_ | refine Sub.cons (Eq.trans Look.eq (congrArg (AV.int _) (by first | omega | (dsimp only; omega)))) ?_)) ⟨by omega, hS⟩ (by omega)
      · intro c44
        have hq0 : q = 0 := by omega
        subst hq0
        simp only [List.replicate_zero, List.nil_append, List.drop_zero] at hS hal
        obtain ⟨hmx1, hmx2⟩ := maxL_is (l := (lgL false (placesL l))) (by omega)
        obtain ⟨m, hm⟩ : ∃ m : Nat, maxL (lgL false (placesL l)) = (m : Int) := by
          obtain ⟨k, hk, he⟩ := hmx2
          exact ⟨((lgL false (placesL l)).getD k 0).toNat, by have := hlr k (by omega); omega⟩
        rw [hm] at hmx1 hmx2
        have hm9 : m ≤ 9 := by
          obtain ⟨k, hk, he⟩ := hmx2
          have := hlr k (by omega)
          omega
        refine KA.exit ?_
        refine sqQ.exit ?_
        refine lpQ.exit ?_
        refine blQ.here ?_
        refine sqQ.normal ?_
        refine KA.sub (Sub.cons (t := 0) Look.eq (Sub.cons (t := 5) Look.eq (Sub.cons (t := 8) Look.eq (Sub.nil _)))) ?_
        refine KA.seq ?_
        refine KA.region rfl ?_
        refine KOps.assign ?_
        refine KOps.done ?_
        refine sqQ.normal ?_
        refine KA.seq ?_
        refine KA.region rfl ?_
        refine KOps.move ?_
        refine KOps.call rfl (max_c (hS.rd 0 rfl) (by first | omega | (simp; omega)) (by first | omega | (simp; omega))) ?_
        rintro _ _ ⟨rfl, rfl⟩
        rw [hm]
        refine KOps.assign ?_
        refine KOps.assign ?_
        refine KOps.done ?_
        refine sqQ.normal ?_
        refine KA.sub (Sub.cons (t := 0) Look.eq (Sub.cons (t := 5) Look.eq (Sub.cons (t := 8) Look.eq (Sub.cons (t := 11) Look.eq (Sub.cons (t := 12) Look.eq (Sub.cons (t := 13) Look.eq (Sub.nil _))))))) ?_
        refine KA.seq ?_
        refine KA.seq ?_
        refine KA.region rfl ?_
        refine KOps.move ?_
        refine KOps.lenI (by first | assumption | exact Rd.ext hS.keeps (by assumption)) ?_
        refine KOps.move ?_
        refine KOps.done ?_
        refine sqQ.normal ?_
        refine KA.sub (Sub.cons (t := 0) Look.eq (Sub.cons (t := 5) Look.eq (Sub.cons (t := 8) Look.eq (Sub.cons (t := 11) Look.eq (Sub.cons (t := 12) Look.eq (Sub.cons (t := 13) Look.eq (Sub.cons (t := 83) Look.eq (Sub.cons (t := 84) Look.eq (Sub.nil _))))))))) ?_
        refine KA.block ?_
        refine KA.loop (X := Nat × Nat × Int × AV × List Int) (fun y => [(0, v), (5, v24), (8, v39), (11, y.2.2.2.1), (12, .int .i64 (y.2.1 : Int)), (13, .int .i64 y.2.2.1), (83, .int .i64 (l.length : Int)), (84, .int .i64 (y.1 : Int))]) (fun y h' => y.1 ≤ l.length ∧ y.2.2.2.2.length ≤ y.1 ∧ y.2.1 ≤ 9 ∧ (-1 ≤ y.2.2.1 ∧ y.2.2.1 ≤ 9) ∧ y.2.2.2.2 ++ mvG (placesL l) (l.length - y.1) y.1 y.2.1 y.2.2.1 = movedOf l ∧ St h h' [⟨y.2.2.2.1, 1, ints y.2.2.2.2, true⟩, ⟨v39, 1, ints (lgL false (placesL l)), true⟩, ⟨v24, 1, ints (placesL l), true⟩]) (fun y => l.length - y.1) (0, m, -1, .nils, []) (by repeat (first | exact Sub.nil _ | refine Sub.cons Look.eq ?_ | refine Sub.cons (Eq.trans Look.eq (congrArg (AV.int _) (by first | omega | (dsimp only; omega)))) ?_)) ?_ ?_
        · refine ⟨Nat.zero_le _, Nat.le_refl _, hm9, by dsimp only; omega, ?_, St.nil hS 1⟩
          exact mvG_is c20 (fun k hk => hmx1 k (by omega)) (by obtain ⟨k, hk, he⟩ := hmx2; exact ⟨k, by omega, he⟩)
        rintro ⟨c, left, last, vo, out⟩ h3 ⟨hc, ho, hl9, hla, hres, hS⟩
        dsimp only at hc ho hl9 hla hres hS ⊢
        refine KA.seq ?_
        refine KA.region rfl ?_
        refine KOps.lss ?_
        refine KOps.done ?_
        refine sqQ.normal ?_
        refine KA.seq ?_
        refine KA.condD ?_ ?_
        · intro c85
          have hpc := hpr c (by omega)
          refine KA.skip ?_
          refine sqQ.normal ?_
          refine KA.sub (Sub.cons (t := 0) Look.eq (Sub.cons (t := 5) Look.eq (Sub.cons (t := 8) Look.eq (Sub.cons (t := 11) Look.eq (Sub.cons (t := 12) Look.eq (Sub.cons (t := 13) Look.eq (Sub.cons (t := 83) Look.eq (Sub.cons (t := 84) Look.eq (Sub.nil _))))))))) ?_
          refine KA.seq ?_
          refine KA.block ?_
          refine KA.seq ?_
          refine KA.region rfl ?_
          refine KOps.move ?_
          refine KOps.assign ?_
          refine KOps.done ?_
          refine sqQ.normal ?_
          refine KA.sub (Sub.cons (t := 0) Look.eq (Sub.cons (t := 5) Look.eq (Sub.cons (t := 8) Look.eq (Sub.cons (t := 11) Look.eq (Sub.cons (t := 12) Look.eq (Sub.cons (t := 13) Look.eq (Sub.cons (t := 14) Look.eq (Sub.cons (t := 83) Look.eq (Sub.cons (t := 84) Look.eq (Sub.nil _)))))))))) ?_
          refine KA.seq ?_
          refine KA.region rfl ?_
          refine KOps.move ?_
          refine KOps.eql ?_
          refine KOps.assign ?_
          refine KOps.done ?_
          refine sqQ.normal ?_
          refine KA.sub (Sub.cons (t := 0) Look.eq (Sub.cons (t := 5) Look.eq (Sub.cons (t := 8) Look.eq (Sub.cons (t := 11) Look.eq (Sub.cons (t := 12) Look.eq (Sub.cons (t := 13) Look.eq (Sub.cons (t := 14) Look.eq (Sub.cons (t := 15) Look.eq (Sub.cons (t := 83) Look.eq (Sub.cons (t := 84) Look.eq (Sub.nil _))))))))))) ?_
          refine KA.seq ?_
          refine KA.seq ?_
          refine KA.region rfl ?_
          refine KOps.move ?_
          refine KOps.add (by omega) (by omega) ?_
          refine KOps.assign ?_
          refine KOps.done ?_
          refine sqQ.normal ?_
          refine KA.sub (Sub.cons (t := 0) Look.eq (Sub.cons (t := 5) Look.eq (Sub.cons (t := 8) Look.eq (Sub.cons (t := 11) Look.eq (Sub.cons (t := 12) Look.eq (Sub.cons (t := 13) Look.eq (Sub.cons (t := 14) Look.eq (Sub.cons (t := 15) Look.eq (Sub.cons (t := 16) Look.eq (Sub.cons (t := 83) Look.eq (Sub.cons (t := 84) Look.eq (Sub.nil _)))))))))))) ?_
          refine KA.block ?_
          refine KA.loop (X := Nat) (fun d => [(0, v), (5, v24), (8, v39), (11, vo), (12, .int .i64 (left : Int)), (13, .int .i64 last), (14, .int .i64 (c : Int)), (15, .bool (laterT (placesL l) c left last d)), (16, .int .i64 (d : Int)), (83, .int .i64 (l.length : Int)), (84, .int .i64 (c : Int))]) (fun d h' => h3 = h' ∧ c < d ∧ d ≤ l.length) (fun d => l.length - d) (c + 1) (by repeat (first | exact Sub.nil _ | refine Sub.cons Look.eq ?_ | refine Sub.cons (Eq.trans Look.eq (congrArg (AV.int _) (by first | omega | (dsimp only; omega)))) ?_ | refine Sub.cons (Eq.trans Look.eq (congrArg AV.bool (by rw [laterT_start]; exact decide_eq_decide.2 (by omega)))) ?_)) ⟨rfl, by omega, by omega⟩ ?_
          rintro d _ ⟨rfl, hcd, hdl⟩
          refine KA.seq ?_
          refine KA.seq ?_
          refine KA.region rfl ?_
          refine KOps.move ?_
          refine KOps.move ?_
          refine KOps.lenI (by first | assumption | exact Rd.ext hS.keeps (by assumption)) ?_
          refine KOps.lss ?_
          refine KOps.done ?_
          refine sqQ.normal ?_
          refine KA.sub (Sub.cons (t := 0) Look.eq (Sub.cons (t := 5) Look.eq (Sub.cons (t := 8) Look.eq (Sub.cons (t := 11) Look.eq (Sub.cons (t := 12) Look.eq (Sub.cons (t := 13) Look.eq (Sub.cons (t := 14) Look.eq (Sub.cons (t := 15) Look.eq (Sub.cons (t := 16) Look.eq (Sub.cons (t := 83) Look.eq (Sub.cons (t := 84) Look.eq (Sub.cons (t := 94) Look.eq (Sub.nil _))))))))))))) ?_
          refine KA.condD ?_ ?_
          · intro c94
            refine KA.skip ?_
            refine sqQ.normal ?_
            refine KA.sub (Sub.cons (t := 0) Look.eq (Sub.cons (t := 5) Look.eq (Sub.cons (t := 8) Look.eq (Sub.cons (t := 11) Look.eq (Sub.cons (t := 12) Look.eq (Sub.cons (t := 13) Look.eq (Sub.cons (t := 14) Look.eq (Sub.cons (t := 15) Look.eq (Sub.cons (t := 16) Look.eq (Sub.cons (t := 83) Look.eq (Sub.cons (t := 84) Look.eq (Sub.nil _)))))))))))) ?_
            refine KA.seq ?_
            refine KA.block ?_
            refine KA.region rfl ?_
            refine KOps.move ?_
            refine KOps.move ?_
            refine KOps.guardB (dj := 98) rfl rfl false true rfl ?_ ?_
            · intro g98
              refine KOps.move ?_
              refine KOps.guardYes (dj := 98) rfl rfl ?_
              refine KOps.move ?_
              refine KOps.guardYes (dj := 98) rfl rfl ?_
              refine KOps.indexIJ (hS.rd 1 rfl) (j := d) rfl (by first | omega | (simp; omega)) ?_
              intro p101 hp101
              refine KOps.guardYes (dj := 98) rfl rfl ?_
              refine KOps.loadI hp101 (hS.rd 1 rfl) (by first | omega | (simp; omega)) ?_
              refine KOps.guardYes (dj := 98) rfl rfl ?_
              refine KOps.move ?_
              refine KOps.guardYes (dj := 98) rfl rfl ?_
              refine KOps.eql ?_
              refine KOps.guardYes (dj := 98) rfl rfl ?_
              refine KOps.move ?_
              refine KOps.guardB (dj := 105) rfl rfl true false rfl ?_ ?_
              · intro g105
                have g105 := of_decide_eq_true g105
                refine KOps.move ?_
                refine KOps.guardYes (dj := 105) rfl rfl ?_
                refine KOps.move ?_
                refine KOps.guardYes (dj := 105) rfl rfl ?_
                refine KOps.indexIJ (hS.rd 2 rfl) (j := d) rfl (by first | omega | (simp; omega)) ?_
                intro p108 hp108
                refine KOps.guardYes (dj := 105) rfl rfl ?_
                refine KOps.loadI hp108 (hS.rd 2 rfl) (by first | omega | (simp; omega)) ?_
                refine KOps.guardYes (dj := 105) rfl rfl ?_
                refine KOps.move ?_
                refine KOps.guardYes (dj := 105) rfl rfl ?_
                refine KOps.gtr ?_
                refine KOps.guardYes (dj := 98) rfl rfl ?_
                refine KOps.pickT ?_
                refine KOps.pickF ?_
                refine KOps.assign ?_
                refine KOps.done ?_
                refine blQ.normal ?_
                refine sqQ.normal ?_
                refine KA.sub (Sub.cons (t := 0) Look.eq (Sub.cons (t := 5) Look.eq (Sub.cons (t := 8) Look.eq (Sub.cons (t := 11) Look.eq (Sub.cons (t := 12) Look.eq (Sub.cons (t := 13) Look.eq (Sub.cons (t := 14) Look.eq (Sub.cons (t := 15) Look.eq (Sub.cons (t := 16) Look.eq (Sub.cons (t := 83) Look.eq (Sub.cons (t := 84) Look.eq (Sub.cons (t := 99) Look.eq (Sub.cons (t := 100) Look.eq (Sub.cons (t := 101) Look.eq (Sub.cons (t := 102) Look.eq (Sub.cons (t := 103) Look.eq (Sub.cons (t := 104) Look.eq (Sub.cons (t := 105) Look.eq (Sub.cons (t := 106) Look.eq (Sub.cons (t := 107) Look.eq (Sub.cons (t := 108) Look.eq (Sub.cons (t := 109) Look.eq (Sub.cons (t := 110) Look.eq (Sub.cons (t := 111) Look.eq (Sub.cons (t := 112) Look.eq (Sub.nil _)))))))))))))))))))))))))) ?_
                refine KA.region rfl ?_
                refine KOps.move ?_
                refine KOps.add (by omega) (by omega) ?_
                refine KOps.assign ?_
                refine KOps.done ?_
                exact lpQ.normal (d + 1) (by repeat (first | exact Sub.nil _ | refine Sub.cons Look.eq ?_ | refine Sub.cons (Eq.trans Look.eq (congrArg (AV.int _) (by first | omega | (dsimp only; omega)))) ?_ | refine Sub.cons (Eq.trans Look.eq (congrArg AV.bool (by rw [laterT_at g98 hcd g105]))) ?_)) ⟨rfl, by omega, by omega⟩ (by omega)
              · intro g105
                have g105 := of_decide_eq_false g105
                refine KOps.guardNo (dj := 105) rfl rfl rfl ?_
                refine KOps.guardNo (dj := 105) rfl rfl rfl ?_
                refine KOps.guardNo (dj := 105) rfl rfl rfl ?_
                refine KOps.guardNo (dj := 105) rfl rfl rfl ?_
                refine KOps.guardNo (dj := 105) rfl rfl rfl ?_
                refine KOps.guardYes (dj := 98) rfl rfl ?_
                refine KOps.pickF ?_
                refine KOps.pickF ?_
                refine KOps.assign ?_
                refine KOps.done ?_
                refine blQ.normal ?_
                refine sqQ.normal ?_
                refine KA.sub (Sub.cons (t := 0) Look.eq (Sub.cons (t := 5) Look.eq (Sub.cons (t := 8) Look.eq (Sub.cons (t := 11) Look.eq (Sub.cons (t := 12) Look.eq (Sub.cons (t := 13) Look.eq (Sub.cons (t := 14) Look.eq (Sub.cons (t := 15) Look.eq (Sub.cons (t := 16) Look.eq (Sub.cons (t := 83) Look.eq (Sub.cons (t := 84) Look.eq (Sub.cons (t := 99) Look.eq (Sub.cons (t := 100) Look.eq (Sub.cons (t := 101) Look.eq (Sub.cons (t := 102) Look.eq (Sub.cons (t := 103) Look.eq (Sub.cons (t := 104) Look.eq (Sub.cons (t := 105) Look.eq (Sub.cons (t := 106) Look.eq (Sub.cons (t := 107) Look.eq (Sub.cons (t := 108) Look.eq (Sub.cons (t := 109) Look.eq (Sub.cons (t := 110) Look.eq (Sub.cons (t := 111) Look.eq (Sub.cons (t := 112) Look.eq (Sub.nil _)))))))))))))))))))))))))) ?_
                refine KA.region rfl ?_
                refine KOps.move ?_
                refine KOps.add (by omega) (by omega) ?_
                refine KOps.assign ?_
                refine KOps.done ?_
                exact lpQ.normal (d + 1) (by repeat (first | exact Sub.nil _ | refine Sub.cons Look.eq ?_ | refine Sub.cons (Eq.trans Look.eq (congrArg (AV.int _) (by first | omega | (dsimp only; omega)))) ?_ | refine Sub.cons (Eq.trans Look.eq (congrArg AV.bool (by rw [laterT_no g98 g105]))) ?_)) ⟨rfl, by omega, by omega⟩ (by omega)
            · intro g98
              refine KOps.guardNo (dj := 98) rfl rfl rfl ?_
              refine KOps.guardNo (dj := 98) rfl rfl rfl ?_
              refine KOps.guardNo (dj := 98) rfl rfl rfl ?_
              refine KOps.guardNo (dj := 98) rfl rfl rfl ?_
              refine KOps.guardNo (dj := 98) rfl rfl rfl ?_
              refine KOps.guardNo (dj := 98) rfl rfl rfl ?_
              refine KOps.guardTup (dj := 105) rfl rfl ?_
              refine KOps.guardTup (dj := 105) rfl rfl ?_
              refine KOps.guardTup (dj := 105) rfl rfl ?_
              refine KOps.guardTup (dj := 105) rfl rfl ?_
              refine KOps.guardTup (dj := 105) rfl rfl ?_
              refine KOps.guardTup (dj := 105) rfl rfl ?_
              refine KOps.guardNo (dj := 98) rfl rfl rfl ?_
              refine KOps.pickT ?_
              refine KOps.assign ?_
              refine KOps.done ?_
              refine blQ.normal ?_
              refine sqQ.normal ?_
              refine KA.sub (Sub.cons (t := 0) Look.eq (Sub.cons (t := 5) Look.eq (Sub.cons (t := 8) Look.eq (Sub.cons (t := 11) Look.eq (Sub.cons (t := 12) Look.eq (Sub.cons (t := 13) Look.eq (Sub.cons (t := 14) Look.eq (Sub.cons (t := 15) Look.eq (Sub.cons (t := 16) Look.eq (Sub.cons (t := 83) Look.eq (Sub.cons (t := 84) Look.eq (Sub.cons (t := 99) Look.eq (Sub.cons (t := 100) Look.eq (Sub.cons (t := 101) Look.eq (Sub.cons (t := 102) Look.eq (Sub.cons (t := 103) Look.eq (Sub.cons (t := 104) Look.eq (Sub.cons (t := 105) Look.eq (Sub.cons (t := 106) Look.eq (Sub.cons (t := 107) Look.eq (Sub.cons (t := 108) Look.eq (Sub.cons (t := 109) Look.eq (Sub.cons (t := 110) Look.eq (Sub.cons (t := 111) Look.eq (Sub.cons (t := 112) Look.eq (Sub.nil _)))))))))))))))))))))))))) ?_
              refine KA.region rfl ?_
              refine KOps.move ?_
              refine KOps.add (by omega) (by omega) ?_
              refine KOps.assign ?_
              refine KOps.done ?_
              exact lpQ.normal (d + 1) (by repeat (first | exact Sub.nil _ | refine Sub.cons Look.eq ?_ | refine Sub.cons (Eq.trans Look.eq (congrArg (AV.int _) (by first | omega | (dsimp only; omega)))) ?_ | refine Sub.cons (Eq.trans Look.eq (congrArg AV.bool (by rw [laterT_yes g98]))) ?_)) ⟨rfl, by omega, by omega⟩ (by omega)
          · intro c94
            have hdn : d = (placesL l).length := by omega
            subst hdn
            refine KA.exit ?_
            refine sqQ.exit ?_
            refine lpQ.exit ?_
            refine blQ.here ?_
            refine sqQ.normal ?_
            refine KA.sub (Sub.cons (t := 0) Look.eq (Sub.cons (t := 5) Look.eq (Sub.cons (t := 8) Look.eq (Sub.cons (t := 11) Look.eq (Sub.cons (t := 12) Look.eq (Sub.cons (t := 13) Look.eq (Sub.cons (t := 14) Look.eq (Sub.cons (t := 15) Look.eq (Sub.cons (t := 83) Look.eq (Sub.cons (t := 84) Look.eq (Sub.nil _))))))))))) ?_
            refine KA.seq ?_
            refine KA.seq ?_
            refine KA.region rfl ?_
            refine KOps.move ?_
            refine KOps.move ?_
            refine KOps.guardB (dj := 115) rfl rfl false true rfl ?_ ?_
            · intro g115
              refine KOps.move ?_
              refine KOps.guardYes (dj := 115) rfl rfl ?_
              refine KOps.move ?_
              refine KOps.guardYes (dj := 115) rfl rfl ?_
              refine KOps.indexIJ (hS.rd 1 rfl) (j := c) rfl (by first | omega | (simp; omega)) ?_
              intro p118 hp118
              refine KOps.guardYes (dj := 115) rfl rfl ?_
              refine KOps.loadI hp118 (hS.rd 1 rfl) (by first | omega | (simp; omega)) ?_
              refine KOps.guardYes (dj := 115) rfl rfl ?_
              refine KOps.move ?_
              refine KOps.guardYes (dj := 115) rfl rfl ?_
              refine KOps.neq ?_
              refine KOps.pickF ?_
              refine KOps.move ?_
              refine KOps.guardB (dj := 123) rfl rfl false true rfl ?_ ?_
              · intro g123
                have g123 := of_not_decide g123
                refine KOps.move ?_
                refine KOps.guardYes (dj := 123) rfl rfl ?_
                refine KOps.move ?_
                refine KOps.guardYes (dj := 123) rfl rfl ?_
                refine KOps.indexIJ (hS.rd 2 rfl) (j := c) rfl (by first | omega | (simp; omega)) ?_
                intro p126 hp126
                refine KOps.guardYes (dj := 123) rfl rfl ?_
                refine KOps.loadI hp126 (hS.rd 2 rfl) (by first | omega | (simp; omega)) ?_
                refine KOps.guardYes (dj := 123) rfl rfl ?_
                refine KOps.move ?_
                refine KOps.guardYes (dj := 123) rfl rfl ?_
                refine KOps.lss ?_
                refine KOps.pickF ?_
                refine KOps.done ?_
                refine sqQ.normal ?_
                refine KA.sub (Sub.cons (t := 0) Look.eq (Sub.cons (t := 5) Look.eq (Sub.cons (t := 8) Look.eq (Sub.cons (t := 11) Look.eq (Sub.cons (t := 12) Look.eq (Sub.cons (t := 13) Look.eq (Sub.cons (t := 14) Look.eq (Sub.cons (t := 83) Look.eq (Sub.cons (t := 84) Look.eq (Sub.cons (t := 116) Look.eq (Sub.cons (t := 117) Look.eq (Sub.cons (t := 118) Look.eq (Sub.cons (t := 119) Look.eq (Sub.cons (t := 120) Look.eq (Sub.cons (t := 121) Look.eq (Sub.cons (t := 124) Look.eq (Sub.cons (t := 125) Look.eq (Sub.cons (t := 126) Look.eq (Sub.cons (t := 127) Look.eq (Sub.cons (t := 128) Look.eq (Sub.cons (t := 129) Look.eq (Sub.cons (t := 130) Look.eq (Sub.nil _))))))))))))))))))))))) ?_
                refine KA.condD ?_ ?_
                · intro c130
                  refine KA.seq ?_
                  refine KA.region rfl ?_
                  refine KOps.move ?_
                  refine KOps.move ?_
                  refine KOps.buildSlice hS rfl (by decide) rfl ?_
                  intro v133 h' hS
                  refine KOps.appendI hS (fun _ => rfl) (i := 0) rfl (by first | omega | (simp; omega)) ?_
                  intro r134 h' hr134 hS
                  refine KOps.assign ?_
                  refine KOps.done ?_
                  refine sqQ.normal ?_
                  refine KA.sub (Sub.cons (t := 0) Look.eq (Sub.cons (t := 5) Look.eq (Sub.cons (t := 8) Look.eq (Sub.cons (t := 11) Look.eq (Sub.cons (t := 12) Look.eq (Sub.cons (t := 13) Look.eq (Sub.cons (t := 83) Look.eq (Sub.cons (t := 84) Look.eq (Sub.cons (t := 116) Look.eq (Sub.cons (t := 117) Look.eq (Sub.cons (t := 118) Look.eq (Sub.cons (t := 119) Look.eq (Sub.cons (t := 120) Look.eq (Sub.cons (t := 121) Look.eq (Sub.cons (t := 124) Look.eq (Sub.cons (t := 125) Look.eq (Sub.cons (t := 126) Look.eq (Sub.cons (t := 127) Look.eq (Sub.cons (t := 128) Look.eq (Sub.cons (t := 129) Look.eq (Sub.nil _))))))))))))))))))))) ?_
                  refine KA.exit ?_
                  refine sqQ.exit ?_
                  refine blQ.here ?_
                  refine sqQ.normal ?_
                  refine KA.region rfl ?_
                  refine KOps.add (by omega) (by omega) ?_
                  refine KOps.move ?_
                  refine KOps.done ?_
                  rw [mvG_move (by omega) (stay_low c130)] at hres
                  exact lpQ.normal (c + 1, left, last, r134, out ++ [(c : Int)]) (by repeat (first | exact Sub.nil _ | refine Sub.cons Look.eq ?_ | refine Sub.cons (Eq.trans Look.eq (congrArg (AV.int _) (by first | omega | (dsimp only; omega)))) ?_)) ⟨by dsimp only; omega, by simp only [List.length_append, List.length_singleton]; omega, hl9, hla, by simpa using hres, hS⟩ (by dsimp only; omega)
                · intro c130
                  refine KA.skip ?_
                  refine sqQ.normal ?_
                  refine KA.sub (Sub.cons (t := 0) Look.eq (Sub.cons (t := 5) Look.eq (Sub.cons (t := 8) Look.eq (Sub.cons (t := 11) Look.eq (Sub.cons (t := 12) Look.eq (Sub.cons (t := 14) Look.eq (Sub.cons (t := 83) Look.eq (Sub.cons (t := 84) Look.eq (Sub.cons (t := 116) Look.eq (Sub.cons (t := 117) Look.eq (Sub.cons (t := 118) Look.eq (Sub.cons (t := 119) Look.eq (Sub.cons (t := 120) Look.eq (Sub.cons (t := 121) Look.eq (Sub.cons (t := 124) Look.eq (Sub.cons (t := 125) Look.eq (Sub.cons (t := 126) Look.eq (Sub.cons (t := 127) Look.eq (Sub.cons (t := 128) Look.eq (Sub.cons (t := 129) Look.eq (Sub.nil _))))))))))))))))))))) ?_
                  refine KA.draw [] mixed rfl (by kernel_rfl) ?_
                  refine KOps.move ?_
                  refine KOps.sub (by omega) (by omega) ?_
                  refine KOps.move ?_
                  refine KOps.move ?_
                  refine KOps.indexIJ (hS.rd 2 rfl) (j := c) rfl (by first | omega | (simp; omega)) ?_
                  intro p139 hp139
                  refine KOps.loadI hp139 (hS.rd 2 rfl) (by first | omega | (simp; omega)) ?_
                  refine KOps.assign ?_
                  refine KOps.assign ?_
                  refine KOps.done ?_
                  refine blQ.normal ?_
                  refine sqQ.normal ?_
                  refine KA.sub (Sub.cons (t := 0) Look.eq (Sub.cons (t := 5) Look.eq (Sub.cons (t := 8) Look.eq (Sub.cons (t := 11) Look.eq (Sub.cons (t := 12) Look.eq (Sub.cons (t := 13) Look.eq (Sub.cons (t := 83) Look.eq (Sub.cons (t := 84) Look.eq (Sub.cons (t := 116) Look.eq (Sub.cons (t := 117) Look.eq (Sub.cons (t := 118) Look.eq (Sub.cons (t := 119) Look.eq (Sub.cons (t := 120) Look.eq (Sub.cons (t := 121) Look.eq (Sub.cons (t := 124) Look.eq (Sub.cons (t := 125) Look.eq (Sub.cons (t := 126) Look.eq (Sub.cons (t := 127) Look.eq (Sub.cons (t := 128) Look.eq (Sub.cons (t := 129) Look.eq (Sub.nil _))))))))))))))))))))) ?_
                  refine KA.region rfl ?_
                  refine KOps.add (by omega) (by omega) ?_
                  refine KOps.move ?_
                  refine KOps.done ?_
                  have hl1 := later_pos g115
                  rw [mvG_stay (by omega) (stay_yes g115 g123 c130)] at hres
                  exact lpQ.normal (c + 1, left - 1, (placesL l).getD c 0, vo, out) (by repeat (first | exact Sub.nil _ | refine Sub.cons Look.eq ?_ | refine Sub.cons (Eq.trans Look.eq (congrArg (AV.int _) (by first | omega | (dsimp only; omega)))) ?_)) ⟨by dsimp only; omega, by dsimp only; omega, by dsimp only; omega, by dsimp only; omega, hres, hS⟩ (by dsimp only; omega)
              · intro g123
                have g123 := not_of_not_decide g123
                refine KOps.guardNo (dj := 123) rfl rfl rfl ?_
                refine KOps.guardNo (dj := 123) rfl rfl rfl ?_
                refine KOps.guardNo (dj := 123) rfl rfl rfl ?_
                refine KOps.guardNo (dj := 123) rfl rfl rfl ?_
                refine KOps.guardNo (dj := 123) rfl rfl rfl ?_
                refine KOps.pickT ?_
                refine KOps.done ?_
                refine sqQ.normal ?_
                refine KA.sub (Sub.cons (t := 0) Look.eq (Sub.cons (t := 5) Look.eq (Sub.cons (t := 8) Look.eq (Sub.cons (t := 11) Look.eq (Sub.cons (t := 12) Look.eq (Sub.cons (t := 13) Look.eq (Sub.cons (t := 14) Look.eq (Sub.cons (t := 83) Look.eq (Sub.cons (t := 84) Look.eq (Sub.cons (t := 116) Look.eq (Sub.cons (t := 117) Look.eq (Sub.cons (t := 118) Look.eq (Sub.cons (t := 119) Look.eq (Sub.cons (t := 120) Look.eq (Sub.cons (t := 121) Look.eq (Sub.cons (t := 124) Look.eq (Sub.cons (t := 125) Look.eq (Sub.cons (t := 126) Look.eq (Sub.cons (t := 127) Look.eq (Sub.cons (t := 128) Look.eq (Sub.cons (t := 129) Look.eq (Sub.cons (t := 130) Look.eq (Sub.nil _))))))))))))))))))))))) ?_
                refine KA.condT ?_
                refine KA.seq ?_
                refine KA.region rfl ?_
                refine KOps.move ?_
                refine KOps.move ?_
                refine KOps.buildSlice hS rfl (by decide) rfl ?_
                intro v133 h' hS
                refine KOps.appendI hS (fun _ => rfl) (i := 0) rfl (by first | omega | (simp; omega)) ?_
                intro r134 h' hr134 hS
                refine KOps.assign ?_
                refine KOps.done ?_
                refine sqQ.normal ?_
                refine KA.sub (Sub.cons (t := 0) Look.eq (Sub.cons (t := 5) Look.eq (Sub.cons (t := 8) Look.eq (Sub.cons (t := 11) Look.eq (Sub.cons (t := 12) Look.eq (Sub.cons (t := 13) Look.eq (Sub.cons (t := 83) Look.eq (Sub.cons (t := 84) Look.eq (Sub.cons (t := 116) Look.eq (Sub.cons (t := 117) Look.eq (Sub.cons (t := 118) Look.eq (Sub.cons (t := 119) Look.eq (Sub.cons (t := 120) Look.eq (Sub.cons (t := 121) Look.eq (Sub.cons (t := 124) Look.eq (Sub.cons (t := 125) Look.eq (Sub.cons (t := 126) Look.eq (Sub.cons (t := 127) Look.eq (Sub.cons (t := 128) Look.eq (Sub.cons (t := 129) Look.eq (Sub.nil _))))))))))))))))))))) ?_
                refine KA.exit ?_
                refine sqQ.exit ?_
                refine blQ.here ?_
                refine sqQ.normal ?_
                refine KA.region rfl ?_
                refine KOps.add (by omega) (by omega) ?_
                refine KOps.move ?_
                refine KOps.done ?_
                rw [mvG_move (by omega) (stay_ne g123)] at hres
                exact lpQ.normal (c + 1, left, last, r134, out ++ [(c : Int)]) (by repeat (first | exact Sub.nil _ | refine Sub.cons Look.eq ?_ | refine Sub.cons (Eq.trans Look.eq (congrArg (AV.int _) (by first | omega | (dsimp only; omega)))) ?_)) ⟨by dsimp only; omega, by simp only [List.length_append, List.length_singleton]; omega, hl9, hla, by simpa using hres, hS⟩ (by dsimp only; omega)
            · intro g115
              refine KOps.guardNo (dj := 115) rfl rfl rfl ?_
              refine KOps.guardNo (dj := 115) rfl rfl rfl ?_
              refine KOps.guardNo (dj := 115) rfl rfl rfl ?_
              refine KOps.guardNo (dj := 115) rfl rfl rfl ?_
              refine KOps.guardNo (dj := 115) rfl rfl rfl ?_
              refine KOps.pickT ?_
              refine KOps.move ?_
              refine KOps.guardNo (dj := 123) rfl rfl rfl ?_
              refine KOps.guardNo (dj := 123) rfl rfl rfl ?_
              refine KOps.guardNo (dj := 123) rfl rfl rfl ?_
              refine KOps.guardNo (dj := 123) rfl rfl rfl ?_
              refine KOps.guardNo (dj := 123) rfl rfl rfl ?_
              refine KOps.guardNo (dj := 123) rfl rfl rfl ?_
              refine KOps.pickT ?_
              refine KOps.done ?_
              refine sqQ.normal ?_
              refine KA.sub (Sub.cons (t := 0) Look.eq (Sub.cons (t := 5) Look.eq (Sub.cons (t := 8) Look.eq (Sub.cons (t := 11) Look.eq (Sub.cons (t := 12) Look.eq (Sub.cons (t := 13) Look.eq (Sub.cons (t := 14) Look.eq (Sub.cons (t := 83) Look.eq (Sub.cons (t := 84) Look.eq (Sub.cons (t := 116) Look.eq (Sub.cons (t := 117) Look.eq (Sub.cons (t := 118) Look.eq (Sub.cons (t := 119) Look.eq (Sub.cons (t := 120) Look.eq (Sub.cons (t := 121) Look.eq (Sub.cons (t := 124) Look.eq (Sub.cons (t := 125) Look.eq (Sub.cons (t := 126) Look.eq (Sub.cons (t := 127) Look.eq (Sub.cons (t := 128) Look.eq (Sub.cons (t := 129) Look.eq (Sub.cons (t := 130) Look.eq (Sub.nil _))))))))))))))))))))))) ?_
              refine KA.condT ?_
              refine KA.seq ?_
              refine KA.region rfl ?_
              refine KOps.move ?_
              refine KOps.move ?_
              refine KOps.buildSlice hS rfl (by decide) rfl ?_
              intro v133 h' hS
              refine KOps.appendI hS (fun _ => rfl) (i := 0) rfl (by first | omega | (simp; omega)) ?_
              intro r134 h' hr134 hS
              refine KOps.assign ?_
              refine KOps.done ?_
              refine sqQ.normal ?_
              refine KA.sub (Sub.cons (t := 0) Look.eq (Sub.cons (t := 5) Look.eq (Sub.cons (t := 8) Look.eq (Sub.cons (t := 11) Look.eq (Sub.cons (t := 12) Look.eq (Sub.cons (t := 13) Look.eq (Sub.cons (t := 83) Look.eq (Sub.cons (t := 84) Look.eq (Sub.cons (t := 116) Look.eq (Sub.cons (t := 117) Look.eq (Sub.cons (t := 118) Look.eq (Sub.cons (t := 119) Look.eq (Sub.cons (t := 120) Look.eq (Sub.cons (t := 121) Look.eq (Sub.cons (t := 124) Look.eq (Sub.cons (t := 125) Look.eq (Sub.cons (t := 126) Look.eq (Sub.cons (t := 127) Look.eq (Sub.cons (t := 128) Look.eq (Sub.cons (t := 129) Look.eq (Sub.nil _))))))))))))))))))))) ?_
              refine KA.exit ?_
              refine sqQ.exit ?_
              refine blQ.here ?_
              refine sqQ.normal ?_
              refine KA.region rfl ?_
              refine KOps.add (by omega) (by omega) ?_
              refine KOps.move ?_
              refine KOps.done ?_
              rw [mvG_move (by omega) (stay_later g115)] at hres
              exact lpQ.normal (c + 1, left, last, r134, out ++ [(c : Int)]) (by repeat (first | exact Sub.nil _ | refine Sub.cons Look.eq ?_ | refine Sub.cons (Eq.trans Look.eq (congrArg (AV.int _) (by first | omega | (dsimp only; omega)))) ?_)) ⟨by dsimp only; omega, by simp only [List.length_append, List.length_singleton]; omega, hl9, hla, by simpa using hres, hS⟩ (by dsimp only; omega)
        · intro c85
          refine KA.exit ?_
          refine sqQ.exit ?_
          refine lpQ.exit ?_
          refine blQ.here ?_
          refine sqQ.normal ?_
          refine KA.sub (Sub.cons (t := 11) Look.eq (Sub.nil _)) ?_
          refine KA.seq ?_
          refine KA.region rfl ?_
          refine KOps.move ?_
          refine KOps.assign ?_
          refine KOps.assign ?_
          refine KOps.done ?_
          refine sqQ.normal ?_
          refine KA.sub (Sub.cons (t := 2) Look.eq (Sub.cons (t := 3) Look.eq (Sub.nil _))) ?_
          refine KA.ret ?_
          refine fnQ.retN ?_
          have hcl : c = l.length := by omega
          subst hcl
          rw [Nat.sub_self] at hres
          simp only [mvG, List.append_nil] at hres
          rw [hres] at hS
          refine ⟨vo, by rw [c20], hS.keeps, ?_⟩
          rw [okE_yes c20]
          exact hS.rd 0 rfl

end Go.Am
