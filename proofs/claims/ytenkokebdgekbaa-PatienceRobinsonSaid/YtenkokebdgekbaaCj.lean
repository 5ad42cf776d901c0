/-
  Contracts of layer 13: tables in order.
  Conditions: none.
-/
import Derived.Test.YtenkokebdgekbaaCi
import Derived.Test.YtenkokebdgekbaaPt7
namespace Go.Am
open Go.Gr

theorem grow_c {h : AHeap} {m : Nat} (hm : m ≤ 4294967296) : ACalls Go.Proofs.Try.prog 95 [.nils, .int .i64 (m : Int)] h (fun r h' => St h h' [⟨r, 1, ints [], false⟩]) := by
  refine KA.fn 27 [.tmp 4] Go.Proofs.Try.func95 rfl (by decide) rfl rfl (Nat.le_of_ble_eq_true rfl) ?_
  have hS := St.refl h
  show KA _ 27 _ _ [(0, .nils), (1, .int .i64 (m : Int))] _
  refine KA.seq ?_
  refine KA.region rfl ?_
  refine KOps.assign ?_
  refine KOps.done ?_
  refine sqQ.normal ?_
  refine KA.sub (Sub.cons (t := 0) Look.eq (Sub.cons (t := 1) Look.eq (Sub.nil _))) ?_
  refine KA.seq ?_
  refine KA.seq ?_
  refine KA.region rfl ?_
  refine KOps.move ?_
  refine KOps.lss ?_
  refine KOps.done ?_
  refine sqQ.normal ?_
  refine KA.sub (Sub.cons (t := 0) Look.eq (Sub.cons (t := 1) Look.eq (Sub.cons (t := 6) Look.eq (Sub.nil _)))) ?_
  refine KA.condD ?_ ?_
  · intro c6
    exfalso; omega
  · intro c6
    refine KA.skip ?_
    refine sqQ.normal ?_
    refine KA.sub (Sub.cons (t := 0) Look.eq (Sub.cons (t := 1) Look.eq (Sub.nil _))) ?_
    refine KA.seq ?_
    refine KA.seq ?_
    refine KA.region rfl ?_
    refine KOps.move ?_
    refine KOps.move ?_
    refine KOps.capNil ?_
    refine KOps.move ?_
    refine KOps.lenV (xs := []) (.inl ⟨rfl, rfl⟩) ?_
    rw [show ((([] : List AV).length : Nat) : Int) = 0 from rfl]
    refine KOps.sub (by first | omega | (simp only [List.length_append, List.length_singleton, List.length_set]; omega)) (by first | omega | (simp only [List.length_append, List.length_singleton, List.length_set]; omega)) ?_
    refine KOps.sub (by first | omega | (simp only [List.length_append, List.length_singleton, List.length_set]; omega)) (by first | omega | (simp only [List.length_append, List.length_singleton, List.length_set]; omega)) ?_
    refine KOps.assign ?_
    refine KOps.done ?_
    refine sqQ.normal ?_
    refine KA.sub (Sub.cons (t := 0) Look.eq (Sub.cons (t := 1) Look.eq (Sub.nil _))) ?_
    refine KA.seq ?_
    refine KA.region rfl ?_
    refine KOps.move ?_
    refine KOps.gtr ?_
    refine KOps.done ?_
    refine sqQ.normal ?_
    refine KA.sub (Sub.cons (t := 0) Look.eq (Sub.cons (t := 1) Look.eq (Sub.cons (t := 16) Look.eq (Sub.nil _)))) ?_
    refine KA.condD ?_ ?_
    · intro c16
      refine KA.region rfl ?_
      refine KOps.move ?_
      refine KOps.move ?_
      refine KOps.capNil ?_
      refine KOps.sliceHi (m := 0) (xs := []) (.inl ⟨rfl, rfl⟩) rfl (by omega) (by omega) ?_
      intro v20 hv20
      have he20 : v20 = .nils := by
        rcases hv20 with ⟨h1, _⟩ | ⟨_, _, _, _, _, h1, _⟩
        · exact h1
        · cases h1
      subst he20
      refine KOps.move ?_
      refine KOps.appendZ (by decide) hS (by omega) (by omega) rfl ?_
      intro v22 h1 hS
      refine KOps.move ?_
      refine KOps.lenV (xs := []) (.inl ⟨rfl, rfl⟩) ?_
      rw [show ((([] : List AV).length : Nat) : Int) = 0 from rfl]
      refine KOps.sliceHi (hS.rd 0 rfl) (m := ((m : Int) - (0 - 0)).toNat) (by simp [ints]) (by omega) (by omega) ?_
      intro v25 hv25
      have hS := St.slice hS (k := 0) rfl (m := ((m : Int) - (0 - 0)).toNat) (by simp [ints]) hv25 (Nat.le_refl _) (Nat.zero_le _)
      refine KOps.assign ?_
      refine KOps.done ?_
      refine sqQ.normal ?_
      refine KA.sub (Sub.cons (t := 0) Look.eq (Sub.nil _)) ?_
      refine KA.seq ?_
      refine KA.region rfl ?_
      refine KOps.move ?_
      refine KOps.assign ?_
      refine KOps.done ?_
      refine sqQ.normal ?_
      refine KA.sub (Sub.cons (t := 4) Look.eq (Sub.nil _)) ?_
      refine KA.ret ?_
      refine fnQ.ret1 ?_
      exact hS
    · intro c16
      refine KA.skip ?_
      refine sqQ.normal ?_
      refine KA.sub (Sub.cons (t := 0) Look.eq (Sub.nil _)) ?_
      refine KA.seq ?_
      refine KA.region rfl ?_
      refine KOps.move ?_
      refine KOps.assign ?_
      refine KOps.done ?_
      refine sqQ.normal ?_
      refine KA.sub (Sub.cons (t := 4) Look.eq (Sub.nil _)) ?_
      refine KA.ret ?_
      refine fnQ.ret1 ?_
      exact St.perm (List.Perm.refl _) (St.addNil 1 false hS)

theorem concat_c {h : AHeap} {v : AV} {T : List (List Int)} (hv : Mat h v T) (hs : Small T) : ACalls Go.Proofs.Try.prog 81 [v] h (fun r h' => St h h' [⟨r, 1, ints T.flatten, false⟩]) := by
  refine KA.fn 36 [.tmp 2] Go.Proofs.Try.func81 rfl (by decide) rfl rfl (Nat.le_of_ble_eq_true rfl) ?_
  have hS := St.refl h
  obtain ⟨vs, hvs, hvl, hvr⟩ := hv
  have hs1 := hs.1
  show KA _ 36 _ _ [(0, v)] _
  refine KA.seq ?_
  refine KA.region rfl ?_
  refine KOps.assign ?_
  refine KOps.done ?_
  refine sqQ.normal ?_
  refine KA.sub (Sub.cons (t := 0) Look.eq (Sub.nil _)) ?_
  refine KA.seq ?_
  refine KA.region rfl ?_
  refine KOps.assign ?_
  refine KOps.done ?_
  refine sqQ.normal ?_
  refine KA.seq ?_
  refine KA.seq ?_
  refine KA.region rfl ?_
  refine KOps.move ?_
  refine KOps.lenV (by first | exact hvs | exact Rd.ext hS.keeps hvs) ?_
  refine KOps.move ?_
  refine KOps.done ?_
  refine sqQ.normal ?_
  refine KA.block ?_
  refine KA.loop (X := Nat) (fun i => [(0, v), (3, .int .i64 ((T.take i).flatten.length : Int)), (9, v), (10, .int .i64 (T.length : Int)), (11, .int .i64 (i : Int))]) (fun i h' => h = h' ∧ i ≤ T.length) (fun i => T.length - i) 0 (by repeat (first | exact Sub.nil _ | refine Sub.cons Look.eq ?_ | refine Sub.cons (Eq.trans Look.eq (congrArg (AV.int _) (by first | omega | (dsimp only; omega)))) ?_ | refine Sub.cons (Eq.trans Look.eq (congrArg (AV.int _) (by simp))) ?_)) ⟨rfl, by omega⟩ ?_
  rintro i _ ⟨rfl, hi⟩
  have hS := St.refl h
  have hfl := flat_le hs i hi
  refine KA.seq ?_
  refine KA.region rfl ?_
  refine KOps.lss ?_
  refine KOps.done ?_
  refine sqQ.normal ?_
  refine KA.seq ?_
  refine KA.condD ?_ ?_
  · intro c12
    have hrow := hvr i (by omega)
    have hri := hs.2 i
    refine KA.skip ?_
    refine sqQ.normal ?_
    refine KA.sub (Sub.cons (t := 0) Look.eq (Sub.cons (t := 3) Look.eq (Sub.cons (t := 9) Look.eq (Sub.cons (t := 10) Look.eq (Sub.cons (t := 11) Look.eq (Sub.nil _)))))) ?_
    refine KA.seq ?_
    refine KA.block ?_
    refine KA.seq ?_
    refine KA.region rfl ?_
    refine KOps.indexVJ (by first | exact hvs | exact Rd.ext hS.keeps hvs) (j := i) rfl (by first | omega | (simp; omega)) ?_
    intro p13 hp13
    refine KOps.loadV hp13 (by first | exact hvs | exact Rd.ext hS.keeps hvs) (by first | omega | (simp only [List.length_append, List.length_singleton, List.length_set]; omega)) ?_
    refine KOps.assign ?_
    refine KOps.done ?_
    refine sqQ.normal ?_
    refine KA.sub (Sub.cons (t := 0) Look.eq (Sub.cons (t := 3) Look.eq (Sub.cons (t := 5) Look.eq (Sub.cons (t := 9) Look.eq (Sub.cons (t := 10) Look.eq (Sub.cons (t := 11) Look.eq (Sub.nil _))))))) ?_
    refine KA.seq ?_
    refine KA.region rfl ?_
    refine KOps.move ?_
    refine KOps.move ?_
    refine KOps.lenI hrow ?_
    refine KOps.add (by first | omega | (simp only [List.length_append, List.length_singleton, List.length_set]; omega)) (by first | omega | (simp only [List.length_append, List.length_singleton, List.length_set]; omega)) ?_
    refine KOps.assign ?_
    refine KOps.done ?_
    refine sqQ.normal ?_
    refine KA.sub (Sub.cons (t := 0) Look.eq (Sub.cons (t := 3) Look.eq (Sub.cons (t := 9) Look.eq (Sub.cons (t := 10) Look.eq (Sub.cons (t := 11) Look.eq (Sub.nil _)))))) ?_
    refine KA.seq ?_
    refine KA.region rfl ?_
    refine KOps.move ?_
    refine KOps.lss ?_
    refine KOps.done ?_
    refine sqQ.normal ?_
    refine KA.sub (Sub.cons (t := 0) Look.eq (Sub.cons (t := 3) Look.eq (Sub.cons (t := 9) Look.eq (Sub.cons (t := 10) Look.eq (Sub.cons (t := 11) Look.eq (Sub.cons (t := 20) Look.eq (Sub.nil _))))))) ?_
    refine KA.condD ?_ ?_
    · intro c20
      exfalso; have := flat_le hs i (by omega); have := hs.2 i; omega
    · intro c20
      refine KA.skip ?_
      refine blQ.normal ?_
      refine sqQ.normal ?_
      refine KA.sub (Sub.cons (t := 0) Look.eq (Sub.cons (t := 3) Look.eq (Sub.cons (t := 9) Look.eq (Sub.cons (t := 10) Look.eq (Sub.cons (t := 11) Look.eq (Sub.nil _)))))) ?_
      refine KA.region rfl ?_
      refine KOps.add (by first | omega | (simp only [List.length_append, List.length_singleton, List.length_set]; omega)) (by first | omega | (simp only [List.length_append, List.length_singleton, List.length_set]; omega)) ?_
      refine KOps.move ?_
      refine KOps.done ?_
      exact lpQ.normal (i + 1) (by repeat (first | exact Sub.nil _ | refine Sub.cons Look.eq ?_ | refine Sub.cons (Eq.trans Look.eq (congrArg (AV.int _) (by first | omega | (dsimp only; omega)))) ?_ | refine Sub.cons (Eq.trans Look.eq (congrArg (AV.int _) (by rw [flat_succ (by omega), List.length_append]; omega))) ?_)) ⟨rfl, by omega⟩ (by omega)
  · intro c12
    refine KA.exit ?_
    refine sqQ.exit ?_
    refine lpQ.exit ?_
    refine blQ.here ?_
    refine sqQ.normal ?_
    refine KA.sub (Sub.cons (t := 0) Look.eq (Sub.cons (t := 3) Look.eq (Sub.nil _))) ?_
    refine KA.seq ?_
    refine KA.region rfl ?_
    refine KOps.move ?_
    refine KOps.call rfl (grow_c (by first | omega | (simp; omega))) ?_
    rintro v24 h24 hS24
    have hS : St _ _ (_ :: _) := St.trans hS hS24
    refine KOps.assign ?_
    refine KOps.done ?_
    refine sqQ.normal ?_
    refine KA.sub (Sub.cons (t := 0) Look.eq (Sub.cons (t := 6) Look.eq (Sub.nil _))) ?_
    refine KA.seq ?_
    refine KA.seq ?_
    refine KA.region rfl ?_
    refine KOps.move ?_
    refine KOps.lenV (by first | exact hvs | exact Rd.ext hS.keeps hvs) ?_
    refine KOps.move ?_
    refine KOps.done ?_
    refine sqQ.normal ?_
    refine KA.sub (Sub.cons (t := 6) Look.eq (Sub.cons (t := 25) Look.eq (Sub.cons (t := 26) Look.eq (Sub.cons (t := 27) Look.eq (Sub.nil _))))) ?_
    refine KA.block ?_
    refine KA.loop (X := Nat × AV) (fun x => [(6, x.2), (25, v), (26, .int .i64 (T.length : Int)), (27, .int .i64 (x.1 : Int))]) (fun x h' => x.1 ≤ T.length ∧ St h h' [⟨x.2, 1, ints (T.take x.1).flatten, false⟩]) (fun x => T.length - x.1) (0, v24) (by repeat (first | exact Sub.nil _ | refine Sub.cons Look.eq ?_ | refine Sub.cons (Eq.trans Look.eq (congrArg (AV.int _) (by first | omega | (dsimp only; omega)))) ?_)) ⟨Nat.zero_le _, hS⟩ ?_
    rintro ⟨i, w⟩ h2 ⟨hi, hS⟩
    dsimp only at hi hS ⊢
    have hfl := flat_le hs i hi
    refine KA.seq ?_
    refine KA.region rfl ?_
    refine KOps.lss ?_
    refine KOps.done ?_
    refine sqQ.normal ?_
    refine KA.seq ?_
    refine KA.condD ?_ ?_
    · intro c28
      refine KA.skip ?_
      refine sqQ.normal ?_
      refine KA.sub (Sub.cons (t := 6) Look.eq (Sub.cons (t := 25) Look.eq (Sub.cons (t := 26) Look.eq (Sub.cons (t := 27) Look.eq (Sub.nil _))))) ?_
      refine KA.seq ?_
      refine KA.block ?_
      refine KA.seq ?_
      refine KA.region rfl ?_
      refine KOps.indexVJ (by first | exact hvs | exact Rd.ext hS.keeps hvs) (j := i) rfl (by first | omega | (simp; omega)) ?_
      intro p29 hp29
      refine KOps.loadV hp29 (by first | exact hvs | exact Rd.ext hS.keeps hvs) (by first | omega | (simp only [List.length_append, List.length_singleton, List.length_set]; omega)) ?_
      have hrow := Row.ext hS.keeps (hvr i (by omega))
      have hri := hs.2 i
      refine KOps.assign ?_
      refine KOps.done ?_
      refine sqQ.normal ?_
      refine KA.sub (Sub.cons (t := 6) Look.eq (Sub.cons (t := 8) Look.eq (Sub.cons (t := 25) Look.eq (Sub.cons (t := 26) Look.eq (Sub.cons (t := 27) Look.eq (Sub.nil _)))))) ?_
      refine KA.region rfl ?_
      refine KOps.move ?_
      refine KOps.move ?_
      refine KOps.appendAll hS (fun hc => by cases hc) (i := 0) rfl hrow (by omega) ?_
      intro r33 h3 hr33 hS
      refine KOps.assign ?_
      refine KOps.done ?_
      refine blQ.normal ?_
      refine sqQ.normal ?_
      refine KA.sub (Sub.cons (t := 6) Look.eq (Sub.cons (t := 25) Look.eq (Sub.cons (t := 26) Look.eq (Sub.cons (t := 27) Look.eq (Sub.nil _))))) ?_
      refine KA.region rfl ?_
      refine KOps.add (by first | omega | (simp only [List.length_append, List.length_singleton, List.length_set]; omega)) (by first | omega | (simp only [List.length_append, List.length_singleton, List.length_set]; omega)) ?_
      refine KOps.move ?_
      refine KOps.done ?_
      exact lpQ.normal (i + 1, r33) (by repeat (first | exact Sub.nil _ | refine Sub.cons Look.eq ?_ | refine Sub.cons (Eq.trans Look.eq (congrArg (AV.int _) (by first | omega | (dsimp only; omega)))) ?_)) ⟨by dsimp only; omega, by dsimp only; rw [flat_succ (by omega)]; exact hS⟩ (by dsimp only; omega)
    · intro c28
      refine KA.exit ?_
      refine sqQ.exit ?_
      refine lpQ.exit ?_
      refine blQ.here ?_
      refine sqQ.normal ?_
      refine KA.sub (Sub.cons (t := 6) Look.eq (Sub.nil _)) ?_
      refine KA.seq ?_
      refine KA.region rfl ?_
      refine KOps.move ?_
      refine KOps.assign ?_
      refine KOps.done ?_
      refine sqQ.normal ?_
      refine KA.sub (Sub.cons (t := 2) Look.eq (Sub.nil _)) ?_
      refine KA.ret ?_
      refine fnQ.ret1 ?_
      have hi2 : T.take i = T := List.take_of_length_le (by omega)
      rw [hi2] at hS
      exact hS

theorem standard_c {h : AHeap} {v : AV} {T : List (List Int)} (hv : Mat h v T) (hs : Small T) : ACalls Go.Proofs.Try.prog 36 [v] h (fun r h' => r = .int .i64 (stdE T) ∧ St h h' []) := by
  refine KA.fn 93 [.tmp 2] Go.Proofs.Try.func36 rfl (by decide) rfl rfl (Nat.le_of_ble_eq_true rfl) ?_
  have hS := St.refl h
  have hv0 := hv
  obtain ⟨vs, hvs, hvl, hvr⟩ := hv
  have hs1 := hs.1
  show KA _ 93 _ _ [(0, v)] _
  refine KA.seq ?_
  refine KA.region rfl ?_
  refine KOps.assign ?_
  refine KOps.done ?_
  refine sqQ.normal ?_
  refine KA.sub (Sub.cons (t := 0) Look.eq (Sub.nil _)) ?_
  refine KA.seq ?_
  refine KA.seq ?_
  refine KA.region rfl ?_
  refine KOps.move ?_
  refine KOps.lenV (by first | exact hvs | exact Rd.ext hS.keeps hvs) ?_
  refine KOps.eql ?_
  refine KOps.done ?_
  refine sqQ.normal ?_
  refine KA.sub (Sub.cons (t := 0) Look.eq (Sub.cons (t := 13) Look.eq (Sub.nil _))) ?_
  refine KA.condD ?_ ?_
  · intro c13
    refine KA.seq ?_
    refine KA.region rfl ?_
    refine KOps.assign ?_
    refine KOps.done ?_
    refine sqQ.normal ?_
    refine KA.sub (Sub.cons (t := 2) Look.eq (Sub.nil _)) ?_
    refine KA.ret ?_
    refine sqQ.ret ?_
    refine fnQ.ret1 ?_
    exact ⟨by rw [stdE, if_pos (by omega)], hS⟩
  · intro c13
    refine KA.skip ?_
    refine sqQ.normal ?_
    refine KA.sub (Sub.cons (t := 0) Look.eq (Sub.nil _)) ?_
    refine KA.seq ?_
    refine KA.seq ?_
    refine KA.region rfl ?_
    refine KOps.move ?_
    refine KOps.lenV (by first | exact hvs | exact Rd.ext hS.keeps hvs) ?_
    refine KOps.move ?_
    refine KOps.done ?_
    refine sqQ.normal ?_
    refine KA.block ?_
    refine KA.loop (X := Nat) (fun i => [(0, v), (14, v), (15, .int .i64 (T.length : Int)), (16, .int .i64 (i : Int))]) (fun i h' => h = h' ∧ i ≤ T.length ∧ ∀ j, j < i → rowBad T j = none) (fun i => T.length - i) 0 (by repeat (first | exact Sub.nil _ | refine Sub.cons Look.eq ?_ | refine Sub.cons (Eq.trans Look.eq (congrArg (AV.int _) (by first | omega | (dsimp only; omega)))) ?_)) ⟨rfl, by omega, by omega⟩ ?_
    rintro i _ ⟨rfl, hi, he⟩
    have hS := St.refl h
    refine KA.seq ?_
    refine KA.region rfl ?_
    refine KOps.lss ?_
    refine KOps.done ?_
    refine sqQ.normal ?_
    refine KA.seq ?_
    refine KA.condD ?_ ?_
    · intro c17
      have hrow := hvr i (by omega)
      have hri := hs.2 i
      have hrow1 : 0 < i → Row h (vs.getD (i - 1) .bot) (T.getD (i - 1) []) := fun h0 => hvr (i - 1) (by omega)
      refine KA.skip ?_
      refine sqQ.normal ?_
      refine KA.sub (Sub.cons (t := 0) Look.eq (Sub.cons (t := 14) Look.eq (Sub.cons (t := 15) Look.eq (Sub.cons (t := 16) Look.eq (Sub.nil _))))) ?_
      refine KA.seq ?_
      refine KA.block ?_
      refine KA.seq ?_
      refine KA.region rfl ?_
      refine KOps.move ?_
      refine KOps.indexVJ (by first | exact hvs | exact Rd.ext hS.keeps hvs) (j := i) rfl (by first | omega | (simp; omega)) ?_
      intro p19 hp19
      refine KOps.loadV hp19 (by first | exact hvs | exact Rd.ext hS.keeps hvs) (by first | omega | (simp only [List.length_append, List.length_singleton, List.length_set]; omega)) ?_
      refine KOps.assign ?_
      refine KOps.assign ?_
      refine KOps.done ?_
      refine sqQ.normal ?_
      refine KA.sub (Sub.cons (t := 0) Look.eq (Sub.cons (t := 3) Look.eq (Sub.cons (t := 4) Look.eq (Sub.cons (t := 14) Look.eq (Sub.cons (t := 15) Look.eq (Sub.cons (t := 16) Look.eq (Sub.nil _))))))) ?_
      refine KA.block ?_
      refine KA.seq ?_
      refine KA.region rfl ?_
      refine KOps.move ?_
      refine KOps.lenI hrow ?_
      refine KOps.eql ?_
      refine KOps.assign ?_
      refine KOps.done ?_
      refine sqQ.normal ?_
      refine KA.sub (Sub.cons (t := 0) Look.eq (Sub.cons (t := 3) Look.eq (Sub.cons (t := 4) Look.eq (Sub.cons (t := 14) Look.eq (Sub.cons (t := 15) Look.eq (Sub.cons (t := 16) Look.eq (Sub.cons (t := 21) Look.eq (Sub.nil _)))))))) ?_
      refine KA.condD ?_ ?_
      · intro c21
        refine KA.seq ?_
        refine KA.region rfl ?_
        refine KOps.assign ?_
        refine KOps.done ?_
        refine sqQ.normal ?_
        refine KA.sub (Sub.cons (t := 2) Look.eq (Sub.nil _)) ?_
        refine KA.ret ?_
        refine blQ.ret ?_
        refine blQ.ret ?_
        refine sqQ.ret ?_
        refine lpQ.ret ?_
        refine blQ.ret ?_
        refine sqQ.ret ?_
        refine fnQ.ret1 ?_
        have hre : rowsE T = 4 := firstE_at (by omega) he (by rw [rowBad, if_pos (by omega)])
        exact ⟨by rw [stdE, if_neg (by omega), if_neg (by omega), hre], hS⟩
      · intro c21
        refine KA.seq ?_
        refine KA.region rfl ?_
        refine KOps.move ?_
        refine KOps.gtr ?_
        refine KOps.move ?_
        refine KOps.guardB (dj := 28) rfl rfl true false rfl ?_ ?_
        · intro g28
          have g28 := of_decide_eq_true g28
          refine KOps.move ?_
          refine KOps.guardYes (dj := 28) rfl rfl ?_
          refine KOps.lenI hrow ?_
          refine KOps.guardYes (dj := 28) rfl rfl ?_
          refine KOps.move ?_
          refine KOps.guardYes (dj := 28) rfl rfl ?_
          refine KOps.move ?_
          refine KOps.guardYes (dj := 28) rfl rfl ?_
          refine KOps.sub (by first | omega | (simp only [List.length_append, List.length_singleton, List.length_set]; omega)) (by first | omega | (simp only [List.length_append, List.length_singleton, List.length_set]; omega)) ?_
          refine KOps.guardYes (dj := 28) rfl rfl ?_
          refine KOps.indexVJ (by first | exact hvs | exact Rd.ext hS.keeps hvs) (j := (i - 1)) (by first | omega | (simp only [List.length_append, List.length_singleton, List.length_set]; omega)) (by first | omega | (simp; omega)) ?_
          intro p34 hp34
          refine KOps.guardYes (dj := 28) rfl rfl ?_
          refine KOps.loadV hp34 (by first | exact hvs | exact Rd.ext hS.keeps hvs) (by first | omega | (simp only [List.length_append, List.length_singleton, List.length_set]; omega)) ?_
          have hrow1 := hrow1 (by omega)
          refine KOps.guardYes (dj := 28) rfl rfl ?_
          refine KOps.lenI hrow1 ?_
          refine KOps.guardYes (dj := 28) rfl rfl ?_
          refine KOps.gtr ?_
          refine KOps.pickT ?_
          refine KOps.assign ?_
          refine KOps.done ?_
          refine sqQ.normal ?_
          refine KA.sub (Sub.cons (t := 0) Look.eq (Sub.cons (t := 14) Look.eq (Sub.cons (t := 15) Look.eq (Sub.cons (t := 16) Look.eq (Sub.cons (t := 25) Look.eq (Sub.cons (t := 29) Look.eq (Sub.cons (t := 30) Look.eq (Sub.cons (t := 31) Look.eq (Sub.cons (t := 32) Look.eq (Sub.cons (t := 33) Look.eq (Sub.cons (t := 34) Look.eq (Sub.cons (t := 35) Look.eq (Sub.cons (t := 36) Look.eq (Sub.cons (t := 37) Look.eq (Sub.nil _))))))))))))))) ?_
          refine KA.condD ?_ ?_
          · intro c25
            refine KA.seq ?_
            refine KA.region rfl ?_
            refine KOps.assign ?_
            refine KOps.done ?_
            refine sqQ.normal ?_
            refine KA.sub (Sub.cons (t := 2) Look.eq (Sub.nil _)) ?_
            refine KA.ret ?_
            refine blQ.ret ?_
            refine blQ.ret ?_
            refine sqQ.ret ?_
            refine lpQ.ret ?_
            refine blQ.ret ?_
            refine sqQ.ret ?_
            refine fnQ.ret1 ?_
            have hre : rowsE T = 5 := firstE_at (by omega) he (by rw [rowBad, if_neg (by omega), if_pos (by omega)])
            exact ⟨by rw [stdE, if_neg (by omega), if_neg (by omega), hre], hS⟩
          · intro c25
            refine KA.skip ?_
            refine blQ.normal ?_
            refine blQ.normal ?_
            refine sqQ.normal ?_
            refine KA.sub (Sub.cons (t := 0) Look.eq (Sub.cons (t := 14) Look.eq (Sub.cons (t := 15) Look.eq (Sub.cons (t := 16) Look.eq (Sub.cons (t := 29) Look.eq (Sub.cons (t := 30) Look.eq (Sub.cons (t := 31) Look.eq (Sub.cons (t := 32) Look.eq (Sub.cons (t := 33) Look.eq (Sub.cons (t := 34) Look.eq (Sub.cons (t := 35) Look.eq (Sub.cons (t := 36) Look.eq (Sub.cons (t := 37) Look.eq (Sub.nil _)))))))))))))) ?_
            refine KA.region rfl ?_
            refine KOps.add (by first | omega | (simp only [List.length_append, List.length_singleton, List.length_set]; omega)) (by first | omega | (simp only [List.length_append, List.length_singleton, List.length_set]; omega)) ?_
            refine KOps.move ?_
            refine KOps.done ?_
            refine lpQ.normal (i + 1) (by repeat (first | exact Sub.nil _ | refine Sub.cons Look.eq ?_ | refine Sub.cons (Eq.trans Look.eq (congrArg (AV.int _) (by first | omega | (dsimp only; omega)))) ?_)) ⟨rfl, by omega, ?_⟩ (by omega)
            intro j hj; rcases Nat.lt_succ_iff_lt_or_eq.1 hj with h1 | rfl
            · exact he j h1
            · rw [rowBad, if_neg (by omega), if_neg (by omega)]
        · intro g28
          have g28 := of_decide_eq_false g28
          refine KOps.guardNo (dj := 28) rfl rfl rfl ?_
          refine KOps.guardNo (dj := 28) rfl rfl rfl ?_
          refine KOps.guardNo (dj := 28) rfl rfl rfl ?_
          refine KOps.guardNo (dj := 28) rfl rfl rfl ?_
          refine KOps.guardNo (dj := 28) rfl rfl rfl ?_
          refine KOps.guardNo (dj := 28) rfl rfl rfl ?_
          refine KOps.guardNo (dj := 28) rfl rfl rfl ?_
          refine KOps.guardNo (dj := 28) rfl rfl rfl ?_
          refine KOps.pickF ?_
          refine KOps.assign ?_
          refine KOps.done ?_
          refine sqQ.normal ?_
          refine KA.sub (Sub.cons (t := 0) Look.eq (Sub.cons (t := 14) Look.eq (Sub.cons (t := 15) Look.eq (Sub.cons (t := 16) Look.eq (Sub.cons (t := 25) Look.eq (Sub.cons (t := 29) Look.eq (Sub.cons (t := 30) Look.eq (Sub.cons (t := 31) Look.eq (Sub.cons (t := 32) Look.eq (Sub.cons (t := 33) Look.eq (Sub.cons (t := 34) Look.eq (Sub.cons (t := 35) Look.eq (Sub.cons (t := 36) Look.eq (Sub.cons (t := 37) Look.eq (Sub.nil _))))))))))))))) ?_
          refine KA.condF ?_
          refine KA.skip ?_
          refine blQ.normal ?_
          refine blQ.normal ?_
          refine sqQ.normal ?_
          refine KA.sub (Sub.cons (t := 0) Look.eq (Sub.cons (t := 14) Look.eq (Sub.cons (t := 15) Look.eq (Sub.cons (t := 16) Look.eq (Sub.cons (t := 29) Look.eq (Sub.cons (t := 30) Look.eq (Sub.cons (t := 31) Look.eq (Sub.cons (t := 32) Look.eq (Sub.cons (t := 33) Look.eq (Sub.cons (t := 34) Look.eq (Sub.cons (t := 35) Look.eq (Sub.cons (t := 36) Look.eq (Sub.cons (t := 37) Look.eq (Sub.nil _)))))))))))))) ?_
          refine KA.region rfl ?_
          refine KOps.add (by first | omega | (simp only [List.length_append, List.length_singleton, List.length_set]; omega)) (by first | omega | (simp only [List.length_append, List.length_singleton, List.length_set]; omega)) ?_
          refine KOps.move ?_
          refine KOps.done ?_
          refine lpQ.normal (i + 1) (by repeat (first | exact Sub.nil _ | refine Sub.cons Look.eq ?_ | refine Sub.cons (Eq.trans Look.eq (congrArg (AV.int _) (by first | omega | (dsimp only; omega)))) ?_)) ⟨rfl, by omega, ?_⟩ (by omega)
          intro j hj; rcases Nat.lt_succ_iff_lt_or_eq.1 hj with h1 | rfl
          · exact he j h1
          · rw [rowBad, if_neg (by omega), if_neg (by omega)]
    · intro c17
      have hre : rowsE T = 0 := firstE_none (fun j hj => he j (by omega))
      refine KA.exit ?_
      refine sqQ.exit ?_
      refine lpQ.exit ?_
      refine blQ.here ?_
      refine sqQ.normal ?_
      refine KA.sub (Sub.cons (t := 0) Look.eq (Sub.nil _)) ?_
      refine KA.seq ?_
      refine KA.region rfl ?_
      refine KOps.move ?_
      refine KOps.call rfl (concat_c hv0 hs) ?_
      rintro v41 h41 hS41
      have hS : St _ _ (_ :: _) := St.trans hS hS41
      refine KOps.assign ?_
      refine KOps.done ?_
      refine sqQ.normal ?_
      refine KA.sub (Sub.cons (t := 0) Look.eq (Sub.cons (t := 5) Look.eq (Sub.nil _))) ?_
      refine KA.seq ?_
      refine KA.seq ?_
      refine KA.region rfl ?_
      refine KOps.move ?_
      refine KOps.lenI (hS.rd 0 rfl) ?_
      refine KOps.gtr ?_
      refine KOps.done ?_
      refine sqQ.normal ?_
      refine KA.sub (Sub.cons (t := 0) Look.eq (Sub.cons (t := 5) Look.eq (Sub.cons (t := 44) Look.eq (Sub.nil _)))) ?_
      refine KA.condD ?_ ?_
      · intro c44
        refine KA.seq ?_
        refine KA.region rfl ?_
        refine KOps.assign ?_
        refine KOps.done ?_
        refine sqQ.normal ?_
        refine KA.sub (Sub.cons (t := 2) Look.eq (Sub.nil _)) ?_
        refine KA.ret ?_
        refine sqQ.ret ?_
        refine fnQ.ret1 ?_
        exact ⟨by rw [stdE, if_neg (by omega), if_pos hre, if_pos (by omega)], St.tail hS⟩
      · intro c44
        refine KA.skip ?_
        refine sqQ.normal ?_
        refine KA.sub (Sub.cons (t := 0) Look.eq (Sub.cons (t := 5) Look.eq (Sub.nil _))) ?_
        refine KA.seq ?_
        refine KA.seq ?_
        refine KA.region rfl ?_
        refine KOps.move ?_
        refine KOps.call rfl (eachP_c (hS.rd 0 rfl) (by first | omega | (simp; omega))) ?_
        rintro _ _ ⟨rfl, rfl⟩
        refine KOps.assign ?_
        refine KOps.done ?_
        refine sqQ.normal ?_
        refine KA.sub (Sub.cons (t := 0) Look.eq (Sub.cons (t := 6) Look.eq (Sub.nil _))) ?_
        refine KA.seq ?_
        refine KA.region rfl ?_
        refine KOps.move ?_
        refine KOps.neq ?_
        refine KOps.done ?_
        refine sqQ.normal ?_
        refine KA.sub (Sub.cons (t := 0) Look.eq (Sub.cons (t := 6) Look.eq (Sub.cons (t := 48) Look.eq (Sub.nil _)))) ?_
        refine KA.condN ?_ ?_
        · intro c48
          refine KA.seq ?_
          refine KA.region rfl ?_
          refine KOps.move ?_
          refine KOps.assign ?_
          refine KOps.done ?_
          refine sqQ.normal ?_
          refine KA.sub (Sub.cons (t := 2) Look.eq (Sub.nil _)) ?_
          refine KA.ret ?_
          refine sqQ.ret ?_
          refine fnQ.ret1 ?_
          exact ⟨by rw [stdE, if_neg (by omega), if_pos hre, if_neg (by omega), if_neg c48], St.tail hS⟩
        · intro c48
          have hee := c48
          refine KA.skip ?_
          refine sqQ.normal ?_
          refine KA.sub (Sub.cons (t := 0) Look.eq (Sub.nil _)) ?_
          refine KA.seq ?_
          refine KA.seq ?_
          refine KA.region rfl ?_
          refine KOps.move ?_
          refine KOps.lenV (by first | exact hvs | exact Rd.ext hS.keeps hvs) ?_
          refine KOps.move ?_
          refine KOps.done ?_
          refine sqQ.normal ?_
          refine KA.block ?_
          refine KA.loop (X := Nat) (fun i => [(0, v), (50, v), (51, .int .i64 (T.length : Int)), (52, .int .i64 (i : Int))]) (fun i h' => St h h' [] ∧ i ≤ T.length ∧ ∀ i2, i2 < i → ∀ k, k < (T.getD i2 []).length → ¬ cellBad T i2 k) (fun i => T.length - i) 0 (by repeat (first | exact Sub.nil _ | refine Sub.cons Look.eq ?_ | refine Sub.cons (Eq.trans Look.eq (congrArg (AV.int _) (by first | omega | (dsimp only; omega)))) ?_)) ⟨St.tail hS, by omega, by omega⟩ ?_
          rintro i h2 ⟨hS, hi, hb⟩
          refine KA.seq ?_
          refine KA.region rfl ?_
          refine KOps.lss ?_
          refine KOps.done ?_
          refine sqQ.normal ?_
          refine KA.seq ?_
          refine KA.condD ?_ ?_
          · intro c53
            have hrow := Row.ext hS.keeps (hvr i (by omega))
            have hri := hs.2 i
            have hrow1 : 0 < i → Row h2 (vs.getD (i - 1) .bot) (T.getD (i - 1) []) := fun h0 => Row.ext hS.keeps (hvr (i - 1) (by omega))
            have hrb := rowBad_none (firstE_zero (rowBad_ne T) hre i (by omega))
            refine KA.skip ?_
            refine sqQ.normal ?_
            refine KA.sub (Sub.cons (t := 0) Look.eq (Sub.cons (t := 50) Look.eq (Sub.cons (t := 51) Look.eq (Sub.cons (t := 52) Look.eq (Sub.nil _))))) ?_
            refine KA.seq ?_
            refine KA.block ?_
            refine KA.seq ?_
            refine KA.region rfl ?_
            refine KOps.move ?_
            refine KOps.indexVJ (by first | exact hvs | exact Rd.ext hS.keeps hvs) (j := i) rfl (by first | omega | (simp; omega)) ?_
            intro p55 hp55
            refine KOps.loadV hp55 (by first | exact hvs | exact Rd.ext hS.keeps hvs) (by first | omega | (simp only [List.length_append, List.length_singleton, List.length_set]; omega)) ?_
            refine KOps.assign ?_
            refine KOps.assign ?_
            refine KOps.done ?_
            refine sqQ.normal ?_
            refine KA.sub (Sub.cons (t := 0) Look.eq (Sub.cons (t := 7) Look.eq (Sub.cons (t := 8) Look.eq (Sub.cons (t := 50) Look.eq (Sub.cons (t := 51) Look.eq (Sub.cons (t := 52) Look.eq (Sub.nil _))))))) ?_
            refine KA.seq ?_
            refine KA.region rfl ?_
            refine KOps.move ?_
            refine KOps.lenI hrow ?_
            refine KOps.move ?_
            refine KOps.done ?_
            refine sqQ.normal ?_
            refine KA.block ?_
            refine KA.loop (X := Nat) (fun k => [(0, v), (7, .int .i64 (i : Int)), (8, (vs.getD i .bot)), (50, v), (51, .int .i64 (T.length : Int)), (52, .int .i64 (i : Int)), (57, (vs.getD i .bot)), (58, .int .i64 ((T.getD i []).length : Int)), (59, .int .i64 (k : Int))]) (fun k h' => h2 = h' ∧ k ≤ (T.getD i []).length ∧ ∀ k2, k2 < k → ¬ cellBad T i k2) (fun k => (T.getD i []).length - k) 0 (by repeat (first | exact Sub.nil _ | refine Sub.cons Look.eq ?_ | refine Sub.cons (Eq.trans Look.eq (congrArg (AV.int _) (by first | omega | (dsimp only; omega)))) ?_)) ⟨rfl, by omega, by omega⟩ ?_
            rintro k _ ⟨rfl, hkl, hk⟩
            refine KA.seq ?_
            refine KA.region rfl ?_
            refine KOps.lss ?_
            refine KOps.done ?_
            refine sqQ.normal ?_
            refine KA.seq ?_
            refine KA.condD ?_ ?_
            · intro c60
              refine KA.skip ?_
              refine sqQ.normal ?_
              refine KA.sub (Sub.cons (t := 0) Look.eq (Sub.cons (t := 7) Look.eq (Sub.cons (t := 8) Look.eq (Sub.cons (t := 50) Look.eq (Sub.cons (t := 51) Look.eq (Sub.cons (t := 52) Look.eq (Sub.cons (t := 57) Look.eq (Sub.cons (t := 58) Look.eq (Sub.cons (t := 59) Look.eq (Sub.nil _)))))))))) ?_
              refine KA.seq ?_
              refine KA.block ?_
              refine KA.seq ?_
              refine KA.region rfl ?_
              refine KOps.move ?_
              refine KOps.indexIJ hrow (j := k) rfl (by first | omega | (simp; omega)) ?_
              intro p62 hp62
              refine KOps.loadI hp62 hrow (by first | omega | (simp; omega)) ?_
              refine KOps.assign ?_
              refine KOps.assign ?_
              refine KOps.done ?_
              refine sqQ.normal ?_
              refine KA.sub (Sub.cons (t := 0) Look.eq (Sub.cons (t := 7) Look.eq (Sub.cons (t := 8) Look.eq (Sub.cons (t := 9) Look.eq (Sub.cons (t := 10) Look.eq (Sub.cons (t := 50) Look.eq (Sub.cons (t := 51) Look.eq (Sub.cons (t := 52) Look.eq (Sub.cons (t := 57) Look.eq (Sub.cons (t := 58) Look.eq (Sub.cons (t := 59) Look.eq (Sub.nil _)))))))))))) ?_
              refine KA.seq ?_
              refine KA.region rfl ?_
              refine KOps.move ?_
              refine KOps.gtr ?_
              refine KOps.move ?_
              refine KOps.guardB (dj := 66) rfl rfl true false rfl ?_ ?_
              · intro g66
                have g66 := of_decide_eq_true g66
                refine KOps.move ?_
                refine KOps.guardYes (dj := 66) rfl rfl ?_
                refine KOps.move ?_
                refine KOps.guardYes (dj := 66) rfl rfl ?_
                refine KOps.sub (by first | omega | (simp only [List.length_append, List.length_singleton, List.length_set]; omega)) (by first | omega | (simp only [List.length_append, List.length_singleton, List.length_set]; omega)) ?_
                refine KOps.guardYes (dj := 66) rfl rfl ?_
                refine KOps.indexIJ hrow (j := (k - 1)) (by first | omega | (simp only [List.length_append, List.length_singleton, List.length_set]; omega)) (by first | omega | (simp; omega)) ?_
                intro p70 hp70
                refine KOps.guardYes (dj := 66) rfl rfl ?_
                refine KOps.loadI hp70 hrow (by first | omega | (simp; omega)) ?_
                refine KOps.guardYes (dj := 66) rfl rfl ?_
                refine KOps.move ?_
                refine KOps.guardYes (dj := 66) rfl rfl ?_
                refine KOps.gtr ?_
                refine KOps.pickT ?_
                refine KOps.move ?_
                refine KOps.guardB (dj := 75) rfl rfl false true rfl ?_ ?_
                · intro g75
                  have g75 := of_decide_eq_false g75
                  refine KOps.move ?_
                  refine KOps.guardYes (dj := 75) rfl rfl ?_
                  refine KOps.gtr ?_
                  refine KOps.guardYes (dj := 75) rfl rfl ?_
                  refine KOps.move ?_
                  refine KOps.guardB (dj := 78) rfl rfl true false rfl ?_ ?_
                  · intro g78
                    have g78 := of_decide_eq_true g78
                    refine KOps.move ?_
                    refine KOps.guardYes (dj := 78) rfl rfl ?_
                    refine KOps.move ?_
                    refine KOps.guardYes (dj := 78) rfl rfl ?_
                    refine KOps.sub (by first | omega | (simp only [List.length_append, List.length_singleton, List.length_set]; omega)) (by first | omega | (simp only [List.length_append, List.length_singleton, List.length_set]; omega)) ?_
                    refine KOps.guardYes (dj := 78) rfl rfl ?_
                    refine KOps.indexVJ (by first | exact hvs | exact Rd.ext hS.keeps hvs) (j := (i - 1)) (by first | omega | (simp only [List.length_append, List.length_singleton, List.length_set]; omega)) (by first | omega | (simp; omega)) ?_
                    intro p82 hp82
                    refine KOps.guardYes (dj := 78) rfl rfl ?_
                    refine KOps.loadV hp82 (by first | exact hvs | exact Rd.ext hS.keeps hvs) (by first | omega | (simp only [List.length_append, List.length_singleton, List.length_set]; omega)) ?_
                    have hrow1 := hrow1 (by omega)
                    have hrb2 := hrb.2 (by omega)
                    refine KOps.guardYes (dj := 78) rfl rfl ?_
                    refine KOps.move ?_
                    refine KOps.guardYes (dj := 78) rfl rfl ?_
                    refine KOps.indexIJ hrow1 (j := k) rfl (by first | omega | (simp; omega)) ?_
                    intro p85 hp85
                    refine KOps.guardYes (dj := 78) rfl rfl ?_
                    refine KOps.loadI hp85 hrow1 (by first | omega | (simp; omega)) ?_
                    refine KOps.guardYes (dj := 78) rfl rfl ?_
                    refine KOps.move ?_
                    refine KOps.guardYes (dj := 78) rfl rfl ?_
                    refine KOps.gtr ?_
                    refine KOps.guardYes (dj := 75) rfl rfl ?_
                    refine KOps.pickT ?_
                    refine KOps.pickF ?_
                    refine KOps.done ?_
                    refine sqQ.normal ?_
                    refine KA.sub (Sub.cons (t := 0) Look.eq (Sub.cons (t := 7) Look.eq (Sub.cons (t := 8) Look.eq (Sub.cons (t := 50) Look.eq (Sub.cons (t := 51) Look.eq (Sub.cons (t := 52) Look.eq (Sub.cons (t := 57) Look.eq (Sub.cons (t := 58) Look.eq (Sub.cons (t := 59) Look.eq (Sub.cons (t := 67) Look.eq (Sub.cons (t := 68) Look.eq (Sub.cons (t := 69) Look.eq (Sub.cons (t := 70) Look.eq (Sub.cons (t := 71) Look.eq (Sub.cons (t := 72) Look.eq (Sub.cons (t := 73) Look.eq (Sub.cons (t := 76) Look.eq (Sub.cons (t := 77) Look.eq (Sub.cons (t := 78) Look.eq (Sub.cons (t := 79) Look.eq (Sub.cons (t := 80) Look.eq (Sub.cons (t := 81) Look.eq (Sub.cons (t := 82) Look.eq (Sub.cons (t := 83) Look.eq (Sub.cons (t := 84) Look.eq (Sub.cons (t := 85) Look.eq (Sub.cons (t := 86) Look.eq (Sub.cons (t := 87) Look.eq (Sub.cons (t := 88) Look.eq (Sub.cons (t := 89) Look.eq (Sub.cons (t := 90) Look.eq (Sub.nil _)))))))))))))))))))))))))))))))) ?_
                    refine KA.condD ?_ ?_
                    · intro c90
                      refine KA.seq ?_
                      refine KA.region rfl ?_
                      refine KOps.assign ?_
                      refine KOps.done ?_
                      refine sqQ.normal ?_
                      refine KA.sub (Sub.cons (t := 2) Look.eq (Sub.nil _)) ?_
                      refine KA.ret ?_
                      refine blQ.ret ?_
                      refine sqQ.ret ?_
                      refine lpQ.ret ?_
                      refine blQ.ret ?_
                      refine blQ.ret ?_
                      refine sqQ.ret ?_
                      refine lpQ.ret ?_
                      refine blQ.ret ?_
                      refine sqQ.ret ?_
                      refine fnQ.ret1 ?_
                      have hbad : cellBad T i k := .inr ⟨by omega, by omega⟩
                      exact ⟨by rw [stdE, if_neg (by omega), if_pos hre, if_neg (by omega), if_pos hee, if_pos (ordB_true (by omega) (by omega) hbad)], hS⟩
                    · intro c90
                      refine KA.skip ?_
                      refine blQ.normal ?_
                      refine sqQ.normal ?_
                      refine KA.sub (Sub.cons (t := 0) Look.eq (Sub.cons (t := 7) Look.eq (Sub.cons (t := 8) Look.eq (Sub.cons (t := 50) Look.eq (Sub.cons (t := 51) Look.eq (Sub.cons (t := 52) Look.eq (Sub.cons (t := 57) Look.eq (Sub.cons (t := 58) Look.eq (Sub.cons (t := 59) Look.eq (Sub.cons (t := 67) Look.eq (Sub.cons (t := 68) Look.eq (Sub.cons (t := 69) Look.eq (Sub.cons (t := 70) Look.eq (Sub.cons (t := 71) Look.eq (Sub.cons (t := 72) Look.eq (Sub.cons (t := 73) Look.eq (Sub.cons (t := 76) Look.eq (Sub.cons (t := 77) Look.eq (Sub.cons (t := 78) Look.eq (Sub.cons (t := 79) Look.eq (Sub.cons (t := 80) Look.eq (Sub.cons (t := 81) Look.eq (Sub.cons (t := 82) Look.eq (Sub.cons (t := 83) Look.eq (Sub.cons (t := 84) Look.eq (Sub.cons (t := 85) Look.eq (Sub.cons (t := 86) Look.eq (Sub.cons (t := 87) Look.eq (Sub.cons (t := 88) Look.eq (Sub.cons (t := 89) Look.eq (Sub.nil _))))))))))))))))))))))))))))))) ?_
                      refine KA.region rfl ?_
                      refine KOps.add (by first | omega | (simp only [List.length_append, List.length_singleton, List.length_set]; omega)) (by first | omega | (simp only [List.length_append, List.length_singleton, List.length_set]; omega)) ?_
                      refine KOps.move ?_
                      refine KOps.done ?_
                      refine lpQ.normal (k + 1) (by repeat (first | exact Sub.nil _ | refine Sub.cons Look.eq ?_ | refine Sub.cons (Eq.trans Look.eq (congrArg (AV.int _) (by first | omega | (dsimp only; omega)))) ?_)) ⟨rfl, by omega, ?_⟩ (by omega)
                      intro j hj; rcases Nat.lt_succ_iff_lt_or_eq.1 hj with h1 | rfl
                      · exact hk j h1
                      · rintro (⟨h1, h2⟩ | ⟨h1, h2⟩) <;> omega
                  · intro g78
                    have g78 := of_decide_eq_false g78
                    refine KOps.guardNo (dj := 78) rfl rfl rfl ?_
                    refine KOps.guardNo (dj := 78) rfl rfl rfl ?_
                    refine KOps.guardNo (dj := 78) rfl rfl rfl ?_
                    refine KOps.guardNo (dj := 78) rfl rfl rfl ?_
                    refine KOps.guardNo (dj := 78) rfl rfl rfl ?_
                    refine KOps.guardNo (dj := 78) rfl rfl rfl ?_
                    refine KOps.guardNo (dj := 78) rfl rfl rfl ?_
                    refine KOps.guardNo (dj := 78) rfl rfl rfl ?_
                    refine KOps.guardNo (dj := 78) rfl rfl rfl ?_
                    refine KOps.guardYes (dj := 75) rfl rfl ?_
                    refine KOps.pickF ?_
                    refine KOps.pickF ?_
                    refine KOps.done ?_
                    refine sqQ.normal ?_
                    refine KA.sub (Sub.cons (t := 0) Look.eq (Sub.cons (t := 7) Look.eq (Sub.cons (t := 8) Look.eq (Sub.cons (t := 50) Look.eq (Sub.cons (t := 51) Look.eq (Sub.cons (t := 52) Look.eq (Sub.cons (t := 57) Look.eq (Sub.cons (t := 58) Look.eq (Sub.cons (t := 59) Look.eq (Sub.cons (t := 67) Look.eq (Sub.cons (t := 68) Look.eq (Sub.cons (t := 69) Look.eq (Sub.cons (t := 70) Look.eq (Sub.cons (t := 71) Look.eq (Sub.cons (t := 72) Look.eq (Sub.cons (t := 73) Look.eq (Sub.cons (t := 76) Look.eq (Sub.cons (t := 77) Look.eq (Sub.cons (t := 78) Look.eq (Sub.cons (t := 79) Look.eq (Sub.cons (t := 80) Look.eq (Sub.cons (t := 81) Look.eq (Sub.cons (t := 82) Look.eq (Sub.cons (t := 83) Look.eq (Sub.cons (t := 84) Look.eq (Sub.cons (t := 85) Look.eq (Sub.cons (t := 86) Look.eq (Sub.cons (t := 87) Look.eq (Sub.cons (t := 88) Look.eq (Sub.cons (t := 89) Look.eq (Sub.cons (t := 90) Look.eq (Sub.nil _)))))))))))))))))))))))))))))))) ?_
                    refine KA.condF ?_
                    refine KA.skip ?_
                    refine blQ.normal ?_
                    refine sqQ.normal ?_
                    refine KA.sub (Sub.cons (t := 0) Look.eq (Sub.cons (t := 7) Look.eq (Sub.cons (t := 8) Look.eq (Sub.cons (t := 50) Look.eq (Sub.cons (t := 51) Look.eq (Sub.cons (t := 52) Look.eq (Sub.cons (t := 57) Look.eq (Sub.cons (t := 58) Look.eq (Sub.cons (t := 59) Look.eq (Sub.cons (t := 67) Look.eq (Sub.cons (t := 68) Look.eq (Sub.cons (t := 69) Look.eq (Sub.cons (t := 70) Look.eq (Sub.cons (t := 71) Look.eq (Sub.cons (t := 72) Look.eq (Sub.cons (t := 73) Look.eq (Sub.cons (t := 76) Look.eq (Sub.cons (t := 77) Look.eq (Sub.cons (t := 78) Look.eq (Sub.cons (t := 79) Look.eq (Sub.cons (t := 80) Look.eq (Sub.cons (t := 81) Look.eq (Sub.cons (t := 82) Look.eq (Sub.cons (t := 83) Look.eq (Sub.cons (t := 84) Look.eq (Sub.cons (t := 85) Look.eq (Sub.cons (t := 86) Look.eq (Sub.cons (t := 87) Look.eq (Sub.cons (t := 88) Look.eq (Sub.cons (t := 89) Look.eq (Sub.nil _))))))))))))))))))))))))))))))) ?_
                    refine KA.region rfl ?_
                    refine KOps.add (by first | omega | (simp only [List.length_append, List.length_singleton, List.length_set]; omega)) (by first | omega | (simp only [List.length_append, List.length_singleton, List.length_set]; omega)) ?_
                    refine KOps.move ?_
                    refine KOps.done ?_
                    refine lpQ.normal (k + 1) (by repeat (first | exact Sub.nil _ | refine Sub.cons Look.eq ?_ | refine Sub.cons (Eq.trans Look.eq (congrArg (AV.int _) (by first | omega | (dsimp only; omega)))) ?_)) ⟨rfl, by omega, ?_⟩ (by omega)
                    intro j hj; rcases Nat.lt_succ_iff_lt_or_eq.1 hj with h1 | rfl
                    · exact hk j h1
                    · rintro (⟨h1, h2⟩ | ⟨h1, h2⟩) <;> omega
                · intro g75
                  have g75 := of_decide_eq_true g75
                  refine KOps.guardNo (dj := 75) rfl rfl rfl ?_
                  refine KOps.guardNo (dj := 75) rfl rfl rfl ?_
                  refine KOps.guardTup (dj := 78) rfl rfl ?_
                  refine KOps.guardTup (dj := 78) rfl rfl ?_
                  refine KOps.guardTup (dj := 78) rfl rfl ?_
                  refine KOps.guardTup (dj := 78) rfl rfl ?_
                  refine KOps.guardTup (dj := 78) rfl rfl ?_
                  refine KOps.guardTup (dj := 78) rfl rfl ?_
                  refine KOps.guardTup (dj := 78) rfl rfl ?_
                  refine KOps.guardTup (dj := 78) rfl rfl ?_
                  refine KOps.guardTup (dj := 78) rfl rfl ?_
                  refine KOps.guardTup (dj := 78) rfl rfl ?_
                  refine KOps.guardNo (dj := 75) rfl rfl rfl ?_
                  refine KOps.pickT ?_
                  refine KOps.done ?_
                  refine sqQ.normal ?_
                  refine KA.sub (Sub.cons (t := 0) Look.eq (Sub.cons (t := 7) Look.eq (Sub.cons (t := 8) Look.eq (Sub.cons (t := 50) Look.eq (Sub.cons (t := 51) Look.eq (Sub.cons (t := 52) Look.eq (Sub.cons (t := 57) Look.eq (Sub.cons (t := 58) Look.eq (Sub.cons (t := 59) Look.eq (Sub.cons (t := 67) Look.eq (Sub.cons (t := 68) Look.eq (Sub.cons (t := 69) Look.eq (Sub.cons (t := 70) Look.eq (Sub.cons (t := 71) Look.eq (Sub.cons (t := 72) Look.eq (Sub.cons (t := 73) Look.eq (Sub.cons (t := 76) Look.eq (Sub.cons (t := 77) Look.eq (Sub.cons (t := 78) Look.eq (Sub.cons (t := 79) Look.eq (Sub.cons (t := 80) Look.eq (Sub.cons (t := 81) Look.eq (Sub.cons (t := 82) Look.eq (Sub.cons (t := 83) Look.eq (Sub.cons (t := 84) Look.eq (Sub.cons (t := 85) Look.eq (Sub.cons (t := 86) Look.eq (Sub.cons (t := 87) Look.eq (Sub.cons (t := 88) Look.eq (Sub.cons (t := 89) Look.eq (Sub.cons (t := 90) Look.eq (Sub.nil _)))))))))))))))))))))))))))))))) ?_
                  refine KA.condT ?_
                  refine KA.seq ?_
                  refine KA.region rfl ?_
                  refine KOps.assign ?_
                  refine KOps.done ?_
                  refine sqQ.normal ?_
                  refine KA.sub (Sub.cons (t := 2) Look.eq (Sub.nil _)) ?_
                  refine KA.ret ?_
                  refine blQ.ret ?_
                  refine sqQ.ret ?_
                  refine lpQ.ret ?_
                  refine blQ.ret ?_
                  refine blQ.ret ?_
                  refine sqQ.ret ?_
                  refine lpQ.ret ?_
                  refine blQ.ret ?_
                  refine sqQ.ret ?_
                  refine fnQ.ret1 ?_
                  have hbad : cellBad T i k := .inl ⟨by omega, by omega⟩
                  exact ⟨by rw [stdE, if_neg (by omega), if_pos hre, if_neg (by omega), if_pos hee, if_pos (ordB_true (by omega) (by omega) hbad)], hS⟩
              · intro g66
                have g66 := of_decide_eq_false g66
                refine KOps.guardNo (dj := 66) rfl rfl rfl ?_
                refine KOps.guardNo (dj := 66) rfl rfl rfl ?_
                refine KOps.guardNo (dj := 66) rfl rfl rfl ?_
                refine KOps.guardNo (dj := 66) rfl rfl rfl ?_
                refine KOps.guardNo (dj := 66) rfl rfl rfl ?_
                refine KOps.guardNo (dj := 66) rfl rfl rfl ?_
                refine KOps.pickF ?_
                refine KOps.move ?_
                refine KOps.guardYes (dj := 75) rfl rfl ?_
                refine KOps.move ?_
                refine KOps.guardYes (dj := 75) rfl rfl ?_
                refine KOps.gtr ?_
                refine KOps.guardYes (dj := 75) rfl rfl ?_
                refine KOps.move ?_
                refine KOps.guardB (dj := 78) rfl rfl true false rfl ?_ ?_
                · intro g78
                  have g78 := of_decide_eq_true g78
                  refine KOps.move ?_
                  refine KOps.guardYes (dj := 78) rfl rfl ?_
                  refine KOps.move ?_
                  refine KOps.guardYes (dj := 78) rfl rfl ?_
                  refine KOps.sub (by first | omega | (simp only [List.length_append, List.length_singleton, List.length_set]; omega)) (by first | omega | (simp only [List.length_append, List.length_singleton, List.length_set]; omega)) ?_
                  refine KOps.guardYes (dj := 78) rfl rfl ?_
                  refine KOps.indexVJ (by first | exact hvs | exact Rd.ext hS.keeps hvs) (j := (i - 1)) (by first | omega | (simp only [List.length_append, List.length_singleton, List.length_set]; omega)) (by first | omega | (simp; omega)) ?_
                  intro p82 hp82
                  refine KOps.guardYes (dj := 78) rfl rfl ?_
                  refine KOps.loadV hp82 (by first | exact hvs | exact Rd.ext hS.keeps hvs) (by first | omega | (simp only [List.length_append, List.length_singleton, List.length_set]; omega)) ?_
                  have hrow1 := hrow1 (by omega)
                  have hrb2 := hrb.2 (by omega)
                  refine KOps.guardYes (dj := 78) rfl rfl ?_
                  refine KOps.move ?_
                  refine KOps.guardYes (dj := 78) rfl rfl ?_
                  refine KOps.indexIJ hrow1 (j := k) rfl (by first | omega | (simp; omega)) ?_
                  intro p85 hp85
                  refine KOps.guardYes (dj := 78) rfl rfl ?_
                  refine KOps.loadI hp85 hrow1 (by first | omega | (simp; omega)) ?_
                  refine KOps.guardYes (dj := 78) rfl rfl ?_
                  refine KOps.move ?_
                  refine KOps.guardYes (dj := 78) rfl rfl ?_
                  refine KOps.gtr ?_
                  refine KOps.guardYes (dj := 75) rfl rfl ?_
                  refine KOps.pickT ?_
                  refine KOps.pickF ?_
                  refine KOps.done ?_
                  refine sqQ.normal ?_
                  refine KA.sub (Sub.cons (t := 0) Look.eq (Sub.cons (t := 7) Look.eq (Sub.cons (t := 8) Look.eq (Sub.cons (t := 50) Look.eq (Sub.cons (t := 51) Look.eq (Sub.cons (t := 52) Look.eq (Sub.cons (t := 57) Look.eq (Sub.cons (t := 58) Look.eq (Sub.cons (t := 59) Look.eq (Sub.cons (t := 67) Look.eq (Sub.cons (t := 68) Look.eq (Sub.cons (t := 69) Look.eq (Sub.cons (t := 70) Look.eq (Sub.cons (t := 71) Look.eq (Sub.cons (t := 72) Look.eq (Sub.cons (t := 73) Look.eq (Sub.cons (t := 76) Look.eq (Sub.cons (t := 77) Look.eq (Sub.cons (t := 78) Look.eq (Sub.cons (t := 79) Look.eq (Sub.cons (t := 80) Look.eq (Sub.cons (t := 81) Look.eq (Sub.cons (t := 82) Look.eq (Sub.cons (t := 83) Look.eq (Sub.cons (t := 84) Look.eq (Sub.cons (t := 85) Look.eq (Sub.cons (t := 86) Look.eq (Sub.cons (t := 87) Look.eq (Sub.cons (t := 88) Look.eq (Sub.cons (t := 89) Look.eq (Sub.cons (t := 90) Look.eq (Sub.nil _)))))))))))))))))))))))))))))))) ?_
                  refine KA.condD ?_ ?_
                  · intro c90
                    refine KA.seq ?_
                    refine KA.region rfl ?_
                    refine KOps.assign ?_
                    refine KOps.done ?_
                    refine sqQ.normal ?_
                    refine KA.sub (Sub.cons (t := 2) Look.eq (Sub.nil _)) ?_
                    refine KA.ret ?_
                    refine blQ.ret ?_
                    refine sqQ.ret ?_
                    refine lpQ.ret ?_
                    refine blQ.ret ?_
                    refine blQ.ret ?_
                    refine sqQ.ret ?_
                    refine lpQ.ret ?_
                    refine blQ.ret ?_
                    refine sqQ.ret ?_
                    refine fnQ.ret1 ?_
                    have hbad : cellBad T i k := .inr ⟨by omega, by omega⟩
                    exact ⟨by rw [stdE, if_neg (by omega), if_pos hre, if_neg (by omega), if_pos hee, if_pos (ordB_true (by omega) (by omega) hbad)], hS⟩
                  · intro c90
                    refine KA.skip ?_
                    refine blQ.normal ?_
                    refine sqQ.normal ?_
                    refine KA.sub (Sub.cons (t := 0) Look.eq (Sub.cons (t := 7) Look.eq (Sub.cons (t := 8) Look.eq (Sub.cons (t := 50) Look.eq (Sub.cons (t := 51) Look.eq (Sub.cons (t := 52) Look.eq (Sub.cons (t := 57) Look.eq (Sub.cons (t := 58) Look.eq (Sub.cons (t := 59) Look.eq (Sub.cons (t := 67) Look.eq (Sub.cons (t := 68) Look.eq (Sub.cons (t := 69) Look.eq (Sub.cons (t := 70) Look.eq (Sub.cons (t := 71) Look.eq (Sub.cons (t := 72) Look.eq (Sub.cons (t := 73) Look.eq (Sub.cons (t := 76) Look.eq (Sub.cons (t := 77) Look.eq (Sub.cons (t := 78) Look.eq (Sub.cons (t := 79) Look.eq (Sub.cons (t := 80) Look.eq (Sub.cons (t := 81) Look.eq (Sub.cons (t := 82) Look.eq (Sub.cons (t := 83) Look.eq (Sub.cons (t := 84) Look.eq (Sub.cons (t := 85) Look.eq (Sub.cons (t := 86) Look.eq (Sub.cons (t := 87) Look.eq (Sub.cons (t := 88) Look.eq (Sub.cons (t := 89) Look.eq (Sub.nil _))))))))))))))))))))))))))))))) ?_
                    refine KA.region rfl ?_
                    refine KOps.add (by first | omega | (simp only [List.length_append, List.length_singleton, List.length_set]; omega)) (by first | omega | (simp only [List.length_append, List.length_singleton, List.length_set]; omega)) ?_
                    refine KOps.move ?_
                    refine KOps.done ?_
                    refine lpQ.normal (k + 1) (by repeat (first | exact Sub.nil _ | refine Sub.cons Look.eq ?_ | refine Sub.cons (Eq.trans Look.eq (congrArg (AV.int _) (by first | omega | (dsimp only; omega)))) ?_)) ⟨rfl, by omega, ?_⟩ (by omega)
                    intro j hj; rcases Nat.lt_succ_iff_lt_or_eq.1 hj with h1 | rfl
                    · exact hk j h1
                    · rintro (⟨h1, h2⟩ | ⟨h1, h2⟩) <;> omega
                · intro g78
                  have g78 := of_decide_eq_false g78
                  refine KOps.guardNo (dj := 78) rfl rfl rfl ?_
                  refine KOps.guardNo (dj := 78) rfl rfl rfl ?_
                  refine KOps.guardNo (dj := 78) rfl rfl rfl ?_
                  refine KOps.guardNo (dj := 78) rfl rfl rfl ?_
                  refine KOps.guardNo (dj := 78) rfl rfl rfl ?_
                  refine KOps.guardNo (dj := 78) rfl rfl rfl ?_
                  refine KOps.guardNo (dj := 78) rfl rfl rfl ?_
                  refine KOps.guardNo (dj := 78) rfl rfl rfl ?_
                  refine KOps.guardNo (dj := 78) rfl rfl rfl ?_
                  refine KOps.guardYes (dj := 75) rfl rfl ?_
                  refine KOps.pickF ?_
                  refine KOps.pickF ?_
                  refine KOps.done ?_
                  refine sqQ.normal ?_
                  refine KA.sub (Sub.cons (t := 0) Look.eq (Sub.cons (t := 7) Look.eq (Sub.cons (t := 8) Look.eq (Sub.cons (t := 50) Look.eq (Sub.cons (t := 51) Look.eq (Sub.cons (t := 52) Look.eq (Sub.cons (t := 57) Look.eq (Sub.cons (t := 58) Look.eq (Sub.cons (t := 59) Look.eq (Sub.cons (t := 67) Look.eq (Sub.cons (t := 68) Look.eq (Sub.cons (t := 69) Look.eq (Sub.cons (t := 70) Look.eq (Sub.cons (t := 71) Look.eq (Sub.cons (t := 72) Look.eq (Sub.cons (t := 73) Look.eq (Sub.cons (t := 76) Look.eq (Sub.cons (t := 77) Look.eq (Sub.cons (t := 78) Look.eq (Sub.cons (t := 79) Look.eq (Sub.cons (t := 80) Look.eq (Sub.cons (t := 81) Look.eq (Sub.cons (t := 82) Look.eq (Sub.cons (t := 83) Look.eq (Sub.cons (t := 84) Look.eq (Sub.cons (t := 85) Look.eq (Sub.cons (t := 86) Look.eq (Sub.cons (t := 87) Look.eq (Sub.cons (t := 88) Look.eq (Sub.cons (t := 89) Look.eq (Sub.cons (t := 90) Look.eq (Sub.nil _)))))))))))))))))))))))))))))))) ?_
                  refine KA.condF ?_
                  refine KA.skip ?_
                  refine blQ.normal ?_
                  refine sqQ.normal ?_
                  refine KA.sub (Sub.cons (t := 0) Look.eq (Sub.cons (t := 7) Look.eq (Sub.cons (t := 8) Look.eq (Sub.cons (t := 50) Look.eq (Sub.cons (t := 51) Look.eq (Sub.cons (t := 52) Look.eq (Sub.cons (t := 57) Look.eq (Sub.cons (t := 58) Look.eq (Sub.cons (t := 59) Look.eq (Sub.cons (t := 67) Look.eq (Sub.cons (t := 68) Look.eq (Sub.cons (t := 69) Look.eq (Sub.cons (t := 70) Look.eq (Sub.cons (t := 71) Look.eq (Sub.cons (t := 72) Look.eq (Sub.cons (t := 73) Look.eq (Sub.cons (t := 76) Look.eq (Sub.cons (t := 77) Look.eq (Sub.cons (t := 78) Look.eq (Sub.cons (t := 79) Look.eq (Sub.cons (t := 80) Look.eq (Sub.cons (t := 81) Look.eq (Sub.cons (t := 82) Look.eq (Sub.cons (t := 83) Look.eq (Sub.cons (t := 84) Look.eq (Sub.cons (t := 85) Look.eq (Sub.cons (t := 86) Look.eq (Sub.cons (t := 87) Look.eq (Sub.cons (t := 88) Look.eq (Sub.cons (t := 89) Look.eq (Sub.nil _))))))))))))))))))))))))))))))) ?_
                  refine KA.region rfl ?_
                  refine KOps.add (by first | omega | (simp only [List.length_append, List.length_singleton, List.length_set]; omega)) (by first | omega | (simp only [List.length_append, List.length_singleton, List.length_set]; omega)) ?_
                  refine KOps.move ?_
                  refine KOps.done ?_
                  refine lpQ.normal (k + 1) (by repeat (first | exact Sub.nil _ | refine Sub.cons Look.eq ?_ | refine Sub.cons (Eq.trans Look.eq (congrArg (AV.int _) (by first | omega | (dsimp only; omega)))) ?_)) ⟨rfl, by omega, ?_⟩ (by omega)
                  intro j hj; rcases Nat.lt_succ_iff_lt_or_eq.1 hj with h1 | rfl
                  · exact hk j h1
                  · rintro (⟨h1, h2⟩ | ⟨h1, h2⟩) <;> omega
            · intro c60
              refine KA.exit ?_
              refine sqQ.exit ?_
              refine lpQ.exit ?_
              refine blQ.here ?_
              refine blQ.normal ?_
              refine sqQ.normal ?_
              refine KA.sub (Sub.cons (t := 0) Look.eq (Sub.cons (t := 50) Look.eq (Sub.cons (t := 51) Look.eq (Sub.cons (t := 52) Look.eq (Sub.nil _))))) ?_
              refine KA.region rfl ?_
              refine KOps.add (by first | omega | (simp only [List.length_append, List.length_singleton, List.length_set]; omega)) (by first | omega | (simp only [List.length_append, List.length_singleton, List.length_set]; omega)) ?_
              refine KOps.move ?_
              refine KOps.done ?_
              refine lpQ.normal (i + 1) (by repeat (first | exact Sub.nil _ | refine Sub.cons Look.eq ?_ | refine Sub.cons (Eq.trans Look.eq (congrArg (AV.int _) (by first | omega | (dsimp only; omega)))) ?_)) ⟨hS, by omega, ?_⟩ (by omega)
              intro i2 hi2; rcases Nat.lt_succ_iff_lt_or_eq.1 hi2 with h1 | rfl
              · exact hb i2 h1
              · exact fun k2 hk2 => hk k2 (by omega)
          · intro c53
            refine KA.exit ?_
            refine sqQ.exit ?_
            refine lpQ.exit ?_
            refine blQ.here ?_
            refine sqQ.normal ?_
            refine KA.sub (Sub.nil _) ?_
            refine KA.seq ?_
            refine KA.region rfl ?_
            refine KOps.assign ?_
            refine KOps.done ?_
            refine sqQ.normal ?_
            refine KA.ret ?_
            refine fnQ.ret1 ?_
            exact ⟨by rw [stdE, if_neg (by omega), if_pos hre, if_neg (by omega), if_pos hee, if_neg (by rw [ordB_false (fun i2 hi2 => hb i2 (by omega))]; exact Bool.false_ne_true)], hS⟩

end Go.Am
