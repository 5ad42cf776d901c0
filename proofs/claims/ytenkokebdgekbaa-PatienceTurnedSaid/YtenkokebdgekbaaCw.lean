/-
  Layer 13: tables are in order (a set of the numbers that were met); lists as numbers.
  Conditions: none.
-/
import Derived.Test.YtenkokebdgekbaaAmI
import Derived.Test.YtenkokebdgekbaaCo
import Derived.Test.YtenkokebdgekbaaPt5
import Derived.Test.YtenkokebdgekbaaPt15
namespace Go.Am
open Go.Gr
instance mp54 : MpT Go.Proofs.Try.prog 54 3 (.bool false) := MpT.of (by kernel_rfl)
instance key3 : KeyT Go.Proofs.Try.prog 3 (AV.int .i64) := KeyT.int (by kernel_rfl)

theorem ordered_c {h : AHeap} {v : AV} {T : List (List Int)} (hv : Mat h v T) (ht : Tab T) (hp : IsPack T.flatten) (h9 : T.flatten.length ≤ 9) : ACalls Go.Proofs.Try.prog 45 [v, .int .i64 (T.flatten.length : Int)] h (fun r h' => r = .bool true ∧ St h h' []) := by
  refine KA.fn 92 [.tmp 4] Go.Proofs.Try.func45 rfl (by decide) rfl rfl (Nat.le_of_ble_eq_true rfl) ?_
  have hS := St.refl h
  obtain ⟨vs, hvs, hvl, hvr⟩ := hv
  have hT9 : T.length ≤ 9 := by
    have := rows_flat (tab_ne ht)
    omega
  show KA _ 92 _ _ [(0, v), (1, .int .i64 (T.flatten.length : Int))] _
  refine KA.seq ?_
  refine KA.region rfl ?_
  refine KOps.assign ?_
  refine KOps.done ?_
  refine sqQ.normal ?_
  refine KA.sub (Sub.cons (t := 0) Look.eq (Sub.cons (t := 1) Look.eq (Sub.nil _))) ?_
  refine KA.seq ?_
  refine KA.region rfl ?_
  refine KOps.makeMap hS rfl ?_
  intro v10 h' hv10 hS
  refine KOps.assign ?_
  refine KOps.done ?_
  refine sqQ.normal ?_
  refine KA.sub (Sub.cons (t := 0) Look.eq (Sub.cons (t := 1) Look.eq (Sub.cons (t := 5) Look.eq (Sub.nil _)))) ?_
  refine KA.seq ?_
  refine KA.seq ?_
  refine KA.region rfl ?_
  refine KOps.move ?_
  refine KOps.lenV (Rd.ext hS.keeps hvs) ?_
  refine KOps.move ?_
  refine KOps.done ?_
  refine sqQ.normal ?_
  refine KA.block ?_
  refine KA.loop (X := Nat × Unit) (fun x => [(0, v), (1, .int .i64 (T.flatten.length : Int)), (5, v10), (11, v), (12, .int .i64 (T.length : Int)), (13, .int .i64 (x.1 : Int))]) (fun x h' => x.1 ≤ T.length ∧ St h h' [mapO v10 (entL (AV.int .i64) AV.bool (((T.take x.1).flatten).map fun x : Int => (x, true)))]) (fun x => T.length - x.1) (0, ()) (by repeat (first | exact Sub.nil _ | refine Sub.cons Look.eq ?_ | refine Sub.cons (Eq.trans Look.eq (congrArg (AV.int _) (by first | omega | (dsimp only; omega)))) ?_)) ?_ ?_
  · exact ⟨Nat.zero_le _, hS⟩
  rintro ⟨i, _⟩ h5 ⟨hi, hS⟩
  dsimp only at hi hS ⊢
  refine KA.seq ?_
  refine KA.region rfl ?_
  refine KOps.lss ?_
  refine KOps.done ?_
  refine sqQ.normal ?_
  refine KA.seq ?_
  refine KA.condD ?_ ?_
  · intro c14
    obtain ⟨hr1, hr2, hr3⟩ := ord_row ht (i := i) (by omega)
    have hri : Row h5 (vs.getD i .bot) (T.getD i []) := Rd.ext hS.keeps (hvr i (by omega))
    refine KA.skip ?_
    refine sqQ.normal ?_
    refine KA.sub (Sub.cons (t := 0) Look.eq (Sub.cons (t := 1) Look.eq (Sub.cons (t := 5) Look.eq (Sub.cons (t := 11) Look.eq (Sub.cons (t := 12) Look.eq (Sub.cons (t := 13) Look.eq (Sub.nil _))))))) ?_
    refine KA.seq ?_
    refine KA.block ?_
    refine KA.seq ?_
    refine KA.region rfl ?_
    refine KOps.move ?_
    refine KOps.indexVJ (Rd.ext hS.keeps hvs) (j := i) rfl (by first | omega | (simp; omega)) ?_
    intro p16 hp16
    refine KOps.loadV hp16 (Rd.ext hS.keeps hvs) (by first | omega | (simp; omega)) ?_
    refine KOps.assign ?_
    refine KOps.assign ?_
    refine KOps.done ?_
    refine sqQ.normal ?_
    refine KA.sub (Sub.cons (t := 0) Look.eq (Sub.cons (t := 1) Look.eq (Sub.cons (t := 5) Look.eq (Sub.cons (t := 6) Look.eq (Sub.cons (t := 7) Look.eq (Sub.cons (t := 11) Look.eq (Sub.cons (t := 12) Look.eq (Sub.cons (t := 13) Look.eq (Sub.nil _))))))))) ?_
    refine KA.seq ?_
    refine KA.seq ?_
    refine KA.region rfl ?_
    refine KOps.move ?_
    refine KOps.lenI (by first | assumption | exact Rd.ext hS.keeps (by assumption)) ?_
    refine KOps.eql ?_
    refine KOps.move ?_
    refine KOps.guardB (dj := 21) rfl rfl false true rfl ?_ ?_
    · intro g21
      have g21 := of_decide_eq_false g21
      refine KOps.move ?_
      refine KOps.guardYes (dj := 21) rfl rfl ?_
      refine KOps.gtr ?_
      refine KOps.guardYes (dj := 21) rfl rfl ?_
      refine KOps.move ?_
      refine KOps.guardB (dj := 24) rfl rfl true false rfl ?_ ?_
      · intro g24
        have g24 := of_decide_eq_true g24
        refine KOps.move ?_
        refine KOps.guardYes (dj := 24) rfl rfl ?_
        refine KOps.lenI (by first | assumption | exact Rd.ext hS.keeps (by assumption)) ?_
        refine KOps.guardYes (dj := 24) rfl rfl ?_
        refine KOps.move ?_
        refine KOps.guardYes (dj := 24) rfl rfl ?_
        refine KOps.move ?_
        have hrp : Row h5 (vs.getD (i - 1) .bot) (T.getD (i - 1) []) := Rd.ext hS.keeps (hvr (i - 1) (by omega))
        refine KOps.guardYes (dj := 24) rfl rfl ?_
        refine KOps.sub (by first | omega | (simp only [List.length_append, List.length_singleton, List.length_set]; omega)) (by first | omega | (simp only [List.length_append, List.length_singleton, List.length_set]; omega)) ?_
        refine KOps.guardYes (dj := 24) rfl rfl ?_
        refine KOps.indexVJ (Rd.ext hS.keeps hvs) (j := (i - 1)) (by first | omega | (simp only [List.length_append, List.length_singleton, List.length_set]; omega)) (by first | omega | (simp; omega)) ?_
        intro p30 hp30
        refine KOps.guardYes (dj := 24) rfl rfl ?_
        refine KOps.loadV hp30 (Rd.ext hS.keeps hvs) (by first | omega | (simp; omega)) ?_
        refine KOps.guardYes (dj := 24) rfl rfl ?_
        refine KOps.lenI (by first | assumption | exact Rd.ext hS.keeps (by assumption)) ?_
        refine KOps.guardYes (dj := 24) rfl rfl ?_
        refine KOps.gtr ?_
        refine KOps.guardYes (dj := 21) rfl rfl ?_
        refine KOps.pickT ?_
        refine KOps.pickF ?_
        refine KOps.done ?_
        refine sqQ.normal ?_
        refine KA.sub (Sub.cons (t := 0) Look.eq (Sub.cons (t := 1) Look.eq (Sub.cons (t := 5) Look.eq (Sub.cons (t := 6) Look.eq (Sub.cons (t := 7) Look.eq (Sub.cons (t := 11) Look.eq (Sub.cons (t := 12) Look.eq (Sub.cons (t := 13) Look.eq (Sub.cons (t := 22) Look.eq (Sub.cons (t := 23) Look.eq (Sub.cons (t := 24) Look.eq (Sub.cons (t := 25) Look.eq (Sub.cons (t := 26) Look.eq (Sub.cons (t := 27) Look.eq (Sub.cons (t := 28) Look.eq (Sub.cons (t := 29) Look.eq (Sub.cons (t := 30) Look.eq (Sub.cons (t := 31) Look.eq (Sub.cons (t := 32) Look.eq (Sub.cons (t := 33) Look.eq (Sub.cons (t := 34) Look.eq (Sub.cons (t := 35) Look.eq (Sub.nil _))))))))))))))))))))))) ?_
        refine KA.condD ?_ ?_
        · intro c35
          exfalso; omega
        · intro c35
          refine KA.skip ?_
          refine sqQ.normal ?_
          refine KA.sub (Sub.cons (t := 0) Look.eq (Sub.cons (t := 1) Look.eq (Sub.cons (t := 5) Look.eq (Sub.cons (t := 6) Look.eq (Sub.cons (t := 7) Look.eq (Sub.cons (t := 11) Look.eq (Sub.cons (t := 12) Look.eq (Sub.cons (t := 13) Look.eq (Sub.cons (t := 22) Look.eq (Sub.cons (t := 23) Look.eq (Sub.cons (t := 24) Look.eq (Sub.cons (t := 25) Look.eq (Sub.cons (t := 26) Look.eq (Sub.cons (t := 27) Look.eq (Sub.cons (t := 28) Look.eq (Sub.cons (t := 29) Look.eq (Sub.cons (t := 30) Look.eq (Sub.cons (t := 31) Look.eq (Sub.cons (t := 32) Look.eq (Sub.cons (t := 33) Look.eq (Sub.cons (t := 34) Look.eq (Sub.nil _)))))))))))))))))))))) ?_
          refine KA.seq ?_
          refine KA.region rfl ?_
          refine KOps.move ?_
          refine KOps.lenI (by first | assumption | exact Rd.ext hS.keeps (by assumption)) ?_
          refine KOps.move ?_
          refine KOps.done ?_
          refine sqQ.normal ?_
          refine KA.block ?_
          -- live but not in the pattern: [22, 23, 24, 25, 26, 27, 28, 29, 30, 31, 32, 33, 34]
          refine KA.loop (X := Nat × Unit) (fun x => [(0, v), (1, .int .i64 (T.flatten.length : Int)), (5, v10), (6, .int .i64 (i : Int)), (7, vs.getD i .bot), (11, v), (12, .int .i64 (T.length : Int)), (13, .int .i64 (i : Int)), (36, vs.getD i .bot), (37, .int .i64 ((T.getD i []).length : Int)), (38, .int .i64 (x.1 : Int))]) (fun x h' => x.1 ≤ (T.getD i []).length ∧ St h h' [mapO v10 (entL (AV.int .i64) AV.bool ((((T.take i).flatten ++ (T.getD i []).take x.1)).map fun x : Int => (x, true)))]) (fun x => (T.getD i []).length - x.1) (0, ()) (by repeat (first | exact Sub.nil _ | refine Sub.cons Look.eq ?_ | refine Sub.cons (Eq.trans Look.eq (congrArg (AV.int _) (by first | omega | (dsimp only; omega)))) ?_)) ?_ ?_
          · refine ⟨Nat.zero_le _, ?_⟩
            rw [List.take_zero, List.append_nil]; exact hS
          rintro ⟨k, _⟩ h6 ⟨hk, hS⟩
          dsimp only at hk hS ⊢
          refine KA.seq ?_
          refine KA.region rfl ?_
          refine KOps.lss ?_
          refine KOps.done ?_
          refine sqQ.normal ?_
          refine KA.seq ?_
          refine KA.condD ?_ ?_
          · intro c39
            obtain ⟨hc1, hc2, hc3, hc4, hc5⟩ := ord_cell ht hp (i := i) (k := k) (by omega) (by omega)
            refine KA.skip ?_
            refine sqQ.normal ?_
            refine KA.sub (Sub.cons (t := 0) Look.eq (Sub.cons (t := 1) Look.eq (Sub.cons (t := 5) Look.eq (Sub.cons (t := 6) Look.eq (Sub.cons (t := 7) Look.eq (Sub.cons (t := 11) Look.eq (Sub.cons (t := 12) Look.eq (Sub.cons (t := 13) Look.eq (Sub.cons (t := 36) Look.eq (Sub.cons (t := 37) Look.eq (Sub.cons (t := 38) Look.eq (Sub.nil _)))))))))))) ?_
            refine KA.seq ?_
            refine KA.block ?_
            refine KA.seq ?_
            refine KA.region rfl ?_
            refine KOps.move ?_
            refine KOps.indexIJ (Rd.ext hS.keeps (hvr i (by omega))) (j := k) rfl (by first | omega | (simp; omega)) ?_
            intro p41 hp41
            refine KOps.loadI hp41 (Rd.ext hS.keeps (hvr i (by omega))) (by first | omega | (simp; omega)) ?_
            refine KOps.assign ?_
            refine KOps.assign ?_
            refine KOps.done ?_
            refine sqQ.normal ?_
            refine KA.sub (Sub.cons (t := 0) Look.eq (Sub.cons (t := 1) Look.eq (Sub.cons (t := 5) Look.eq (Sub.cons (t := 6) Look.eq (Sub.cons (t := 7) Look.eq (Sub.cons (t := 8) Look.eq (Sub.cons (t := 9) Look.eq (Sub.cons (t := 11) Look.eq (Sub.cons (t := 12) Look.eq (Sub.cons (t := 13) Look.eq (Sub.cons (t := 36) Look.eq (Sub.cons (t := 37) Look.eq (Sub.cons (t := 38) Look.eq (Sub.nil _)))))))))))))) ?_
            refine KA.meet (X := Unit) (fun x => [(0, v), (1, .int .i64 (T.flatten.length : Int)), (5, v10), (6, .int .i64 (i : Int)), (7, vs.getD i .bot), (9, .int .i64 ((T.getD i []).getD k 0)), (11, v), (12, .int .i64 (T.length : Int)), (13, .int .i64 (i : Int)), (36, vs.getD i .bot), (37, .int .i64 ((T.getD i []).length : Int)), (38, .int .i64 (k : Int))]) (fun x h' => St h h' [mapO v10 (entL (AV.int .i64) AV.bool ((((T.take i).flatten ++ (T.getD i []).take k)).map fun x : Int => (x, true)))]) ?_ ?_
            ·
              refine KA.seq ?_
              refine KA.region rfl ?_
              refine KOps.move ?_
              refine KOps.lss ?_
              refine KOps.move ?_
              refine KOps.guardB (dj := 45) rfl rfl false true rfl ?_ ?_
              · intro g45
                have g45 := of_decide_eq_false g45
                refine KOps.move ?_
                refine KOps.guardYes (dj := 45) rfl rfl ?_
                refine KOps.move ?_
                refine KOps.guardYes (dj := 45) rfl rfl ?_
                refine KOps.geq ?_
                refine KOps.pickF ?_
                refine KOps.move ?_
                refine KOps.guardB (dj := 50) rfl rfl false true rfl ?_ ?_
                · intro g50
                  have g50 := of_decide_eq_false g50
                  refine KOps.move ?_
                  refine KOps.guardYes (dj := 50) rfl rfl ?_
                  refine KOps.move ?_
                  refine KOps.guardYes (dj := 50) rfl rfl ?_
                  refine KOps.lookupN (kf := AV.int .i64) (vf := AV.bool) EvK.eq (St.rdM hS 0 rfl hv10) rfl (by rw [mget_set, if_neg hc3]) ?_
                  refine KOps.pickF ?_
                  refine KOps.move ?_
                  refine KOps.guardYes (dj := 55) rfl rfl ?_
                  refine KOps.move ?_
                  refine KOps.guardYes (dj := 55) rfl rfl ?_
                  refine KOps.gtr ?_
                  refine KOps.guardYes (dj := 55) rfl rfl ?_
                  refine KOps.move ?_
                  refine KOps.guardB (dj := 58) rfl rfl true false rfl ?_ ?_
                  · intro g58
                    have g58 := of_decide_eq_true g58
                    refine KOps.move ?_
                    refine KOps.guardYes (dj := 58) rfl rfl ?_
                    refine KOps.move ?_
                    refine KOps.guardYes (dj := 58) rfl rfl ?_
                    refine KOps.sub (by first | omega | (simp only [List.length_append, List.length_singleton, List.length_set]; omega)) (by first | omega | (simp only [List.length_append, List.length_singleton, List.length_set]; omega)) ?_
                    refine KOps.guardYes (dj := 58) rfl rfl ?_
                    refine KOps.indexIJ (Rd.ext hS.keeps (hvr i (by omega))) (j := (k - 1)) (by first | omega | (simp only [List.length_append, List.length_singleton, List.length_set]; omega)) (by first | omega | (simp; omega)) ?_
                    intro p62 hp62
                    refine KOps.guardYes (dj := 58) rfl rfl ?_
                    refine KOps.loadI hp62 (Rd.ext hS.keeps (hvr i (by omega))) (by first | omega | (simp; omega)) ?_
                    refine KOps.guardYes (dj := 58) rfl rfl ?_
                    refine KOps.move ?_
                    refine KOps.guardYes (dj := 58) rfl rfl ?_
                    refine KOps.gtr ?_
                    refine KOps.guardYes (dj := 55) rfl rfl ?_
                    refine KOps.pickT ?_
                    refine KOps.pickF ?_
                    refine KOps.move ?_
                    refine KOps.guardB (dj := 68) rfl rfl false true rfl ?_ ?_
                    · intro g68
                      have g68 := of_decide_eq_false g68
                      refine KOps.move ?_
                      refine KOps.guardYes (dj := 68) rfl rfl ?_
                      refine KOps.gtr ?_
                      refine KOps.guardYes (dj := 68) rfl rfl ?_
                      refine KOps.move ?_
                      refine KOps.guardB (dj := 71) rfl rfl true false rfl ?_ ?_
                      · intro g71
                        have g71 := of_decide_eq_true g71
                        refine KOps.move ?_
                        refine KOps.guardYes (dj := 71) rfl rfl ?_
                        refine KOps.move ?_
                        refine KOps.guardYes (dj := 71) rfl rfl ?_
                        refine KOps.sub (by first | omega | (simp only [List.length_append, List.length_singleton, List.length_set]; omega)) (by first | omega | (simp only [List.length_append, List.length_singleton, List.length_set]; omega)) ?_
                        have hrp : Row h6 (vs.getD (i - 1) .bot) (T.getD (i - 1) []) := Rd.ext hS.keeps (hvr (i - 1) (by omega))
                        refine KOps.guardYes (dj := 71) rfl rfl ?_
                        refine KOps.indexVJ (Rd.ext hS.keeps hvs) (j := (i - 1)) (by first | omega | (simp only [List.length_append, List.length_singleton, List.length_set]; omega)) (by first | omega | (simp; omega)) ?_
                        intro p75 hp75
                        refine KOps.guardYes (dj := 71) rfl rfl ?_
                        refine KOps.loadV hp75 (Rd.ext hS.keeps hvs) (by first | omega | (simp; omega)) ?_
                        refine KOps.guardYes (dj := 71) rfl rfl ?_
                        refine KOps.move ?_
                        refine KOps.guardYes (dj := 71) rfl rfl ?_
                        refine KOps.indexIJ (by first | assumption | exact Rd.ext hS.keeps (by assumption)) (j := k) rfl (by first | omega | (simp; omega)) ?_
                        intro p78 hp78
                        refine KOps.guardYes (dj := 71) rfl rfl ?_
                        refine KOps.loadI hp78 (by first | assumption | exact Rd.ext hS.keeps (by assumption)) (by first | omega | (simp; omega)) ?_
                        refine KOps.guardYes (dj := 71) rfl rfl ?_
                        refine KOps.move ?_
                        refine KOps.guardYes (dj := 71) rfl rfl ?_
                        refine KOps.gtr ?_
                        refine KOps.guardYes (dj := 68) rfl rfl ?_
                        refine KOps.pickT ?_
                        refine KOps.pickF ?_
                        refine KOps.done ?_
                        refine sqQ.normal ?_
                        refine KA.sub (Sub.cons (t := 0) Look.eq (Sub.cons (t := 1) Look.eq (Sub.cons (t := 5) Look.eq (Sub.cons (t := 6) Look.eq (Sub.cons (t := 7) Look.eq (Sub.cons (t := 9) Look.eq (Sub.cons (t := 11) Look.eq (Sub.cons (t := 12) Look.eq (Sub.cons (t := 13) Look.eq (Sub.cons (t := 36) Look.eq (Sub.cons (t := 37) Look.eq (Sub.cons (t := 38) Look.eq (Sub.cons (t := 46) Look.eq (Sub.cons (t := 47) Look.eq (Sub.cons (t := 48) Look.eq (Sub.cons (t := 51) Look.eq (Sub.cons (t := 52) Look.eq (Sub.cons (t := 53) Look.eq (Sub.cons (t := 56) Look.eq (Sub.cons (t := 57) Look.eq (Sub.cons (t := 58) Look.eq (Sub.cons (t := 59) Look.eq (Sub.cons (t := 60) Look.eq (Sub.cons (t := 61) Look.eq (Sub.cons (t := 62) Look.eq (Sub.cons (t := 63) Look.eq (Sub.cons (t := 64) Look.eq (Sub.cons (t := 65) Look.eq (Sub.cons (t := 66) Look.eq (Sub.cons (t := 69) Look.eq (Sub.cons (t := 70) Look.eq (Sub.cons (t := 71) Look.eq (Sub.cons (t := 72) Look.eq (Sub.cons (t := 73) Look.eq (Sub.cons (t := 74) Look.eq (Sub.cons (t := 75) Look.eq (Sub.cons (t := 76) Look.eq (Sub.cons (t := 77) Look.eq (Sub.cons (t := 78) Look.eq (Sub.cons (t := 79) Look.eq (Sub.cons (t := 80) Look.eq (Sub.cons (t := 81) Look.eq (Sub.cons (t := 82) Look.eq (Sub.cons (t := 83) Look.eq (Sub.nil _))))))))))))))))))))))))))))))))))))))))))))) ?_
                        refine KA.condD ?_ ?_
                        · intro c83
                          exfalso; omega
                        · intro c83
                          refine KA.skip ?_
                          exact mtQ.normal () (by repeat (first | exact Sub.nil _ | refine Sub.cons Look.eq ?_ | refine Sub.cons (Eq.trans Look.eq (congrArg (AV.int _) (by first | omega | (dsimp only; omega)))) ?_)) hS
                      · intro g71
                        have g71 := of_decide_eq_false g71
                        refine KOps.guardNo (dj := 71) rfl rfl rfl ?_
                        refine KOps.guardNo (dj := 71) rfl rfl rfl ?_
                        have hrp : Row h6 (vs.getD (i - 1) .bot) (T.getD (i - 1) []) := Rd.ext hS.keeps (hvr (i - 1) (by omega))
                        refine KOps.guardNo (dj := 71) rfl rfl rfl ?_
                        refine KOps.guardNo (dj := 71) rfl rfl rfl ?_
                        refine KOps.guardNo (dj := 71) rfl rfl rfl ?_
                        refine KOps.guardNo (dj := 71) rfl rfl rfl ?_
                        refine KOps.guardNo (dj := 71) rfl rfl rfl ?_
                        refine KOps.guardNo (dj := 71) rfl rfl rfl ?_
                        refine KOps.guardNo (dj := 71) rfl rfl rfl ?_
                        refine KOps.guardYes (dj := 68) rfl rfl ?_
                        refine KOps.pickF ?_
                        refine KOps.pickF ?_
                        refine KOps.done ?_
                        refine sqQ.normal ?_
                        refine KA.sub (Sub.cons (t := 0) Look.eq (Sub.cons (t := 1) Look.eq (Sub.cons (t := 5) Look.eq (Sub.cons (t := 6) Look.eq (Sub.cons (t := 7) Look.eq (Sub.cons (t := 9) Look.eq (Sub.cons (t := 11) Look.eq (Sub.cons (t := 12) Look.eq (Sub.cons (t := 13) Look.eq (Sub.cons (t := 36) Look.eq (Sub.cons (t := 37) Look.eq (Sub.cons (t := 38) Look.eq (Sub.cons (t := 46) Look.eq (Sub.cons (t := 47) Look.eq (Sub.cons (t := 48) Look.eq (Sub.cons (t := 51) Look.eq (Sub.cons (t := 52) Look.eq (Sub.cons (t := 53) Look.eq (Sub.cons (t := 56) Look.eq (Sub.cons (t := 57) Look.eq (Sub.cons (t := 58) Look.eq (Sub.cons (t := 59) Look.eq (Sub.cons (t := 60) Look.eq (Sub.cons (t := 61) Look.eq (Sub.cons (t := 62) Look.eq (Sub.cons (t := 63) Look.eq (Sub.cons (t := 64) Look.eq (Sub.cons (t := 65) Look.eq (Sub.cons (t := 66) Look.eq (Sub.cons (t := 69) Look.eq (Sub.cons (t := 70) Look.eq (Sub.cons (t := 71) Look.eq (Sub.cons (t := 72) Look.eq (Sub.cons (t := 73) Look.eq (Sub.cons (t := 74) Look.eq (Sub.cons (t := 75) Look.eq (Sub.cons (t := 76) Look.eq (Sub.cons (t := 77) Look.eq (Sub.cons (t := 78) Look.eq (Sub.cons (t := 79) Look.eq (Sub.cons (t := 80) Look.eq (Sub.cons (t := 81) Look.eq (Sub.cons (t := 82) Look.eq (Sub.cons (t := 83) Look.eq (Sub.nil _))))))))))))))))))))))))))))))))))))))))))))) ?_
                        refine KA.condF ?_
                        refine KA.skip ?_
                        exact mtQ.normal () (by repeat (first | exact Sub.nil _ | refine Sub.cons Look.eq ?_ | refine Sub.cons (Eq.trans Look.eq (congrArg (AV.int _) (by first | omega | (dsimp only; omega)))) ?_)) hS
                    · intro g68
                      have g68 := of_decide_eq_true g68
                      exfalso; omega
                  · intro g58
                    have g58 := of_decide_eq_false g58
                    refine KOps.guardNo (dj := 58) rfl rfl rfl ?_
                    refine KOps.guardNo (dj := 58) rfl rfl rfl ?_
                    refine KOps.guardNo (dj := 58) rfl rfl rfl ?_
                    refine KOps.guardNo (dj := 58) rfl rfl rfl ?_
                    refine KOps.guardNo (dj := 58) rfl rfl rfl ?_
                    refine KOps.guardNo (dj := 58) rfl rfl rfl ?_
                    refine KOps.guardYes (dj := 55) rfl rfl ?_
                    refine KOps.pickF ?_
                    refine KOps.pickF ?_
                    refine KOps.move ?_
                    refine KOps.guardYes (dj := 68) rfl rfl ?_
                    refine KOps.move ?_
                    refine KOps.guardYes (dj := 68) rfl rfl ?_
                    refine KOps.gtr ?_
                    refine KOps.guardYes (dj := 68) rfl rfl ?_
                    refine KOps.move ?_
                    refine KOps.guardB (dj := 71) rfl rfl true false rfl ?_ ?_
                    · intro g71
                      have g71 := of_decide_eq_true g71
                      refine KOps.move ?_
                      refine KOps.guardYes (dj := 71) rfl rfl ?_
                      refine KOps.move ?_
                      refine KOps.guardYes (dj := 71) rfl rfl ?_
                      refine KOps.sub (by first | omega | (simp only [List.length_append, List.length_singleton, List.length_set]; omega)) (by first | omega | (simp only [List.length_append, List.length_singleton, List.length_set]; omega)) ?_
                      have hrp : Row h6 (vs.getD (i - 1) .bot) (T.getD (i - 1) []) := Rd.ext hS.keeps (hvr (i - 1) (by omega))
                      refine KOps.guardYes (dj := 71) rfl rfl ?_
                      refine KOps.indexVJ (Rd.ext hS.keeps hvs) (j := (i - 1)) (by first | omega | (simp only [List.length_append, List.length_singleton, List.length_set]; omega)) (by first | omega | (simp; omega)) ?_
                      intro p75 hp75
                      refine KOps.guardYes (dj := 71) rfl rfl ?_
                      refine KOps.loadV hp75 (Rd.ext hS.keeps hvs) (by first | omega | (simp; omega)) ?_
                      refine KOps.guardYes (dj := 71) rfl rfl ?_
                      refine KOps.move ?_
                      refine KOps.guardYes (dj := 71) rfl rfl ?_
                      refine KOps.indexIJ (by first | assumption | exact Rd.ext hS.keeps (by assumption)) (j := k) rfl (by first | omega | (simp; omega)) ?_
                      intro p78 hp78
                      refine KOps.guardYes (dj := 71) rfl rfl ?_
                      refine KOps.loadI hp78 (by first | assumption | exact Rd.ext hS.keeps (by assumption)) (by first | omega | (simp; omega)) ?_
                      refine KOps.guardYes (dj := 71) rfl rfl ?_
                      refine KOps.move ?_
                      refine KOps.guardYes (dj := 71) rfl rfl ?_
                      refine KOps.gtr ?_
                      refine KOps.guardYes (dj := 68) rfl rfl ?_
                      refine KOps.pickT ?_
                      refine KOps.pickF ?_
                      refine KOps.done ?_
                      refine sqQ.normal ?_
                      refine KA.sub (Sub.cons (t := 0) Look.eq (Sub.cons (t := 1) Look.eq (Sub.cons (t := 5) Look.eq (Sub.cons (t := 6) Look.eq (Sub.cons (t := 7) Look.eq (Sub.cons (t := 9) Look.eq (Sub.cons (t := 11) Look.eq (Sub.cons (t := 12) Look.eq (Sub.cons (t := 13) Look.eq (Sub.cons (t := 36) Look.eq (Sub.cons (t := 37) Look.eq (Sub.cons (t := 38) Look.eq (Sub.cons (t := 46) Look.eq (Sub.cons (t := 47) Look.eq (Sub.cons (t := 48) Look.eq (Sub.cons (t := 51) Look.eq (Sub.cons (t := 52) Look.eq (Sub.cons (t := 53) Look.eq (Sub.cons (t := 56) Look.eq (Sub.cons (t := 57) Look.eq (Sub.cons (t := 58) Look.eq (Sub.cons (t := 59) Look.eq (Sub.cons (t := 60) Look.eq (Sub.cons (t := 61) Look.eq (Sub.cons (t := 62) Look.eq (Sub.cons (t := 63) Look.eq (Sub.cons (t := 64) Look.eq (Sub.cons (t := 65) Look.eq (Sub.cons (t := 66) Look.eq (Sub.cons (t := 69) Look.eq (Sub.cons (t := 70) Look.eq (Sub.cons (t := 71) Look.eq (Sub.cons (t := 72) Look.eq (Sub.cons (t := 73) Look.eq (Sub.cons (t := 74) Look.eq (Sub.cons (t := 75) Look.eq (Sub.cons (t := 76) Look.eq (Sub.cons (t := 77) Look.eq (Sub.cons (t := 78) Look.eq (Sub.cons (t := 79) Look.eq (Sub.cons (t := 80) Look.eq (Sub.cons (t := 81) Look.eq (Sub.cons (t := 82) Look.eq (Sub.cons (t := 83) Look.eq (Sub.nil _))))))))))))))))))))))))))))))))))))))))))))) ?_
                      refine KA.condD ?_ ?_
                      · intro c83
                        exfalso; omega
                      · intro c83
                        refine KA.skip ?_
                        exact mtQ.normal () (by repeat (first | exact Sub.nil _ | refine Sub.cons Look.eq ?_ | refine Sub.cons (Eq.trans Look.eq (congrArg (AV.int _) (by first | omega | (dsimp only; omega)))) ?_)) hS
                    · intro g71
                      have g71 := of_decide_eq_false g71
                      refine KOps.guardNo (dj := 71) rfl rfl rfl ?_
                      refine KOps.guardNo (dj := 71) rfl rfl rfl ?_
                      have hrp : Row h6 (vs.getD (i - 1) .bot) (T.getD (i - 1) []) := Rd.ext hS.keeps (hvr (i - 1) (by omega))
                      refine KOps.guardNo (dj := 71) rfl rfl rfl ?_
                      refine KOps.guardNo (dj := 71) rfl rfl rfl ?_
                      refine KOps.guardNo (dj := 71) rfl rfl rfl ?_
                      refine KOps.guardNo (dj := 71) rfl rfl rfl ?_
                      refine KOps.guardNo (dj := 71) rfl rfl rfl ?_
                      refine KOps.guardNo (dj := 71) rfl rfl rfl ?_
                      refine KOps.guardNo (dj := 71) rfl rfl rfl ?_
                      refine KOps.guardYes (dj := 68) rfl rfl ?_
                      refine KOps.pickF ?_
                      refine KOps.pickF ?_
                      refine KOps.done ?_
                      refine sqQ.normal ?_
                      refine KA.sub (Sub.cons (t := 0) Look.eq (Sub.cons (t := 1) Look.eq (Sub.cons (t := 5) Look.eq (Sub.cons (t := 6) Look.eq (Sub.cons (t := 7) Look.eq (Sub.cons (t := 9) Look.eq (Sub.cons (t := 11) Look.eq (Sub.cons (t := 12) Look.eq (Sub.cons (t := 13) Look.eq (Sub.cons (t := 36) Look.eq (Sub.cons (t := 37) Look.eq (Sub.cons (t := 38) Look.eq (Sub.cons (t := 46) Look.eq (Sub.cons (t := 47) Look.eq (Sub.cons (t := 48) Look.eq (Sub.cons (t := 51) Look.eq (Sub.cons (t := 52) Look.eq (Sub.cons (t := 53) Look.eq (Sub.cons (t := 56) Look.eq (Sub.cons (t := 57) Look.eq (Sub.cons (t := 58) Look.eq (Sub.cons (t := 59) Look.eq (Sub.cons (t := 60) Look.eq (Sub.cons (t := 61) Look.eq (Sub.cons (t := 62) Look.eq (Sub.cons (t := 63) Look.eq (Sub.cons (t := 64) Look.eq (Sub.cons (t := 65) Look.eq (Sub.cons (t := 66) Look.eq (Sub.cons (t := 69) Look.eq (Sub.cons (t := 70) Look.eq (Sub.cons (t := 71) Look.eq (Sub.cons (t := 72) Look.eq (Sub.cons (t := 73) Look.eq (Sub.cons (t := 74) Look.eq (Sub.cons (t := 75) Look.eq (Sub.cons (t := 76) Look.eq (Sub.cons (t := 77) Look.eq (Sub.cons (t := 78) Look.eq (Sub.cons (t := 79) Look.eq (Sub.cons (t := 80) Look.eq (Sub.cons (t := 81) Look.eq (Sub.cons (t := 82) Look.eq (Sub.cons (t := 83) Look.eq (Sub.nil _))))))))))))))))))))))))))))))))))))))))))))) ?_
                      refine KA.condF ?_
                      refine KA.skip ?_
                      exact mtQ.normal () (by repeat (first | exact Sub.nil _ | refine Sub.cons Look.eq ?_ | refine Sub.cons (Eq.trans Look.eq (congrArg (AV.int _) (by first | omega | (dsimp only; omega)))) ?_)) hS
                · intro g50
                  have g50 := of_decide_eq_true g50
                  exfalso; omega
              · intro g45
                have g45 := of_decide_eq_true g45
                exfalso; omega
            ·
              rintro ⟨⟩ h7 hS
              refine KA.region rfl ?_
              refine KOps.move ?_
              refine KOps.move ?_
              refine KOps.mapPutK (kf := AV.int .i64) (vf := AV.bool) (i := 0) (b := true) EvK.eq rfl hS hv10 rfl rfl ?_
              intro h' hS
              refine KOps.done ?_
              refine blQ.normal ?_
              refine sqQ.normal ?_
              refine KA.sub (Sub.cons (t := 0) Look.eq (Sub.cons (t := 1) Look.eq (Sub.cons (t := 5) Look.eq (Sub.cons (t := 6) Look.eq (Sub.cons (t := 7) Look.eq (Sub.cons (t := 11) Look.eq (Sub.cons (t := 12) Look.eq (Sub.cons (t := 13) Look.eq (Sub.cons (t := 36) Look.eq (Sub.cons (t := 37) Look.eq (Sub.cons (t := 38) Look.eq (Sub.nil _)))))))))))) ?_
              refine KA.region rfl ?_
              refine KOps.add (by first | omega | (simp only [List.length_append, List.length_singleton, List.length_set]; omega)) (by first | omega | (simp only [List.length_append, List.length_singleton, List.length_set]; omega)) ?_
              refine KOps.move ?_
              refine KOps.done ?_
              rw [mput_set hc3, List.append_assoc, ← take_snoc (by omega)] at hS
              exact lpQ.normal (k + 1, ()) (by repeat (first | exact Sub.nil _ | refine Sub.cons Look.eq ?_ | refine Sub.cons (Eq.trans Look.eq (congrArg (AV.int _) (by first | omega | (dsimp only; omega)))) ?_)) ⟨by dsimp only; omega, hS⟩ (by dsimp only; omega)
          · intro c39
            refine KA.exit ?_
            refine sqQ.exit ?_
            refine lpQ.exit ?_
            refine blQ.here ?_
            refine blQ.normal ?_
            refine sqQ.normal ?_
            refine KA.sub (Sub.cons (t := 0) Look.eq (Sub.cons (t := 1) Look.eq (Sub.cons (t := 5) Look.eq (Sub.cons (t := 11) Look.eq (Sub.cons (t := 12) Look.eq (Sub.cons (t := 13) Look.eq (Sub.nil _))))))) ?_
            refine KA.region rfl ?_
            refine KOps.add (by first | omega | (simp only [List.length_append, List.length_singleton, List.length_set]; omega)) (by first | omega | (simp only [List.length_append, List.length_singleton, List.length_set]; omega)) ?_
            refine KOps.move ?_
            refine KOps.done ?_
            have hki : k = (T.getD i []).length := by omega
            rw [hki, List.take_length, ← flat_succ (by omega)] at hS
            exact lpQ.normal (i + 1, ()) (by repeat (first | exact Sub.nil _ | refine Sub.cons Look.eq ?_ | refine Sub.cons (Eq.trans Look.eq (congrArg (AV.int _) (by first | omega | (dsimp only; omega)))) ?_)) ⟨by dsimp only; omega, hS⟩ (by dsimp only; omega)
      · intro g24
        have g24 := of_decide_eq_false g24
        refine KOps.guardNo (dj := 24) rfl rfl rfl ?_
        refine KOps.guardNo (dj := 24) rfl rfl rfl ?_
        refine KOps.guardNo (dj := 24) rfl rfl rfl ?_
        have hrp : Row h5 (vs.getD (i - 1) .bot) (T.getD (i - 1) []) := Rd.ext hS.keeps (hvr (i - 1) (by omega))
        refine KOps.guardNo (dj := 24) rfl rfl rfl ?_
        refine KOps.guardNo (dj := 24) rfl rfl rfl ?_
        refine KOps.guardNo (dj := 24) rfl rfl rfl ?_
        refine KOps.guardNo (dj := 24) rfl rfl rfl ?_
        refine KOps.guardNo (dj := 24) rfl rfl rfl ?_
        refine KOps.guardYes (dj := 21) rfl rfl ?_
        refine KOps.pickF ?_
        refine KOps.pickF ?_
        refine KOps.done ?_
        refine sqQ.normal ?_
        refine KA.sub (Sub.cons (t := 0) Look.eq (Sub.cons (t := 1) Look.eq (Sub.cons (t := 5) Look.eq (Sub.cons (t := 6) Look.eq (Sub.cons (t := 7) Look.eq (Sub.cons (t := 11) Look.eq (Sub.cons (t := 12) Look.eq (Sub.cons (t := 13) Look.eq (Sub.cons (t := 22) Look.eq (Sub.cons (t := 23) Look.eq (Sub.cons (t := 24) Look.eq (Sub.cons (t := 25) Look.eq (Sub.cons (t := 26) Look.eq (Sub.cons (t := 27) Look.eq (Sub.cons (t := 28) Look.eq (Sub.cons (t := 29) Look.eq (Sub.cons (t := 30) Look.eq (Sub.cons (t := 31) Look.eq (Sub.cons (t := 32) Look.eq (Sub.cons (t := 33) Look.eq (Sub.cons (t := 34) Look.eq (Sub.cons (t := 35) Look.eq (Sub.nil _))))))))))))))))))))))) ?_
        refine KA.condF ?_
        refine KA.skip ?_
        refine sqQ.normal ?_
        refine KA.sub (Sub.cons (t := 0) Look.eq (Sub.cons (t := 1) Look.eq (Sub.cons (t := 5) Look.eq (Sub.cons (t := 6) Look.eq (Sub.cons (t := 7) Look.eq (Sub.cons (t := 11) Look.eq (Sub.cons (t := 12) Look.eq (Sub.cons (t := 13) Look.eq (Sub.cons (t := 22) Look.eq (Sub.cons (t := 23) Look.eq (Sub.cons (t := 24) Look.eq (Sub.cons (t := 25) Look.eq (Sub.cons (t := 26) Look.eq (Sub.cons (t := 27) Look.eq (Sub.cons (t := 28) Look.eq (Sub.cons (t := 29) Look.eq (Sub.cons (t := 30) Look.eq (Sub.cons (t := 31) Look.eq (Sub.cons (t := 32) Look.eq (Sub.cons (t := 33) Look.eq (Sub.cons (t := 34) Look.eq (Sub.nil _)))))))))))))))))))))) ?_
        refine KA.seq ?_
        refine KA.region rfl ?_
        refine KOps.move ?_
        refine KOps.lenI (by first | assumption | exact Rd.ext hS.keeps (by assumption)) ?_
        refine KOps.move ?_
        refine KOps.done ?_
        refine sqQ.normal ?_
        refine KA.block ?_
        -- live but not in the pattern: [22, 23, 24, 25, 26, 27, 28, 29, 30, 31, 32, 33, 34]
        refine KA.loop (X := Nat × Unit) (fun x => [(0, v), (1, .int .i64 (T.flatten.length : Int)), (5, v10), (6, .int .i64 (i : Int)), (7, vs.getD i .bot), (11, v), (12, .int .i64 (T.length : Int)), (13, .int .i64 (i : Int)), (36, vs.getD i .bot), (37, .int .i64 ((T.getD i []).length : Int)), (38, .int .i64 (x.1 : Int))]) (fun x h' => x.1 ≤ (T.getD i []).length ∧ St h h' [mapO v10 (entL (AV.int .i64) AV.bool ((((T.take i).flatten ++ (T.getD i []).take x.1)).map fun x : Int => (x, true)))]) (fun x => (T.getD i []).length - x.1) (0, ()) (by repeat (first | exact Sub.nil _ | refine Sub.cons Look.eq ?_ | refine Sub.cons (Eq.trans Look.eq (congrArg (AV.int _) (by first | omega | (dsimp only; omega)))) ?_)) ?_ ?_
        · refine ⟨Nat.zero_le _, ?_⟩
          rw [List.take_zero, List.append_nil]; exact hS
        rintro ⟨k, _⟩ h6 ⟨hk, hS⟩
        dsimp only at hk hS ⊢
        refine KA.seq ?_
        refine KA.region rfl ?_
        refine KOps.lss ?_
        refine KOps.done ?_
        refine sqQ.normal ?_
        refine KA.seq ?_
        refine KA.condD ?_ ?_
        · intro c39
          obtain ⟨hc1, hc2, hc3, hc4, hc5⟩ := ord_cell ht hp (i := i) (k := k) (by omega) (by omega)
          refine KA.skip ?_
          refine sqQ.normal ?_
          refine KA.sub (Sub.cons (t := 0) Look.eq (Sub.cons (t := 1) Look.eq (Sub.cons (t := 5) Look.eq (Sub.cons (t := 6) Look.eq (Sub.cons (t := 7) Look.eq (Sub.cons (t := 11) Look.eq (Sub.cons (t := 12) Look.eq (Sub.cons (t := 13) Look.eq (Sub.cons (t := 36) Look.eq (Sub.cons (t := 37) Look.eq (Sub.cons (t := 38) Look.eq (Sub.nil _)))))))))))) ?_
          refine KA.seq ?_
          refine KA.block ?_
          refine KA.seq ?_
          refine KA.region rfl ?_
          refine KOps.move ?_
          refine KOps.indexIJ (Rd.ext hS.keeps (hvr i (by omega))) (j := k) rfl (by first | omega | (simp; omega)) ?_
          intro p41 hp41
          refine KOps.loadI hp41 (Rd.ext hS.keeps (hvr i (by omega))) (by first | omega | (simp; omega)) ?_
          refine KOps.assign ?_
          refine KOps.assign ?_
          refine KOps.done ?_
          refine sqQ.normal ?_
          refine KA.sub (Sub.cons (t := 0) Look.eq (Sub.cons (t := 1) Look.eq (Sub.cons (t := 5) Look.eq (Sub.cons (t := 6) Look.eq (Sub.cons (t := 7) Look.eq (Sub.cons (t := 8) Look.eq (Sub.cons (t := 9) Look.eq (Sub.cons (t := 11) Look.eq (Sub.cons (t := 12) Look.eq (Sub.cons (t := 13) Look.eq (Sub.cons (t := 36) Look.eq (Sub.cons (t := 37) Look.eq (Sub.cons (t := 38) Look.eq (Sub.nil _)))))))))))))) ?_
          refine KA.meet (X := Unit) (fun x => [(0, v), (1, .int .i64 (T.flatten.length : Int)), (5, v10), (6, .int .i64 (i : Int)), (7, vs.getD i .bot), (9, .int .i64 ((T.getD i []).getD k 0)), (11, v), (12, .int .i64 (T.length : Int)), (13, .int .i64 (i : Int)), (36, vs.getD i .bot), (37, .int .i64 ((T.getD i []).length : Int)), (38, .int .i64 (k : Int))]) (fun x h' => St h h' [mapO v10 (entL (AV.int .i64) AV.bool ((((T.take i).flatten ++ (T.getD i []).take k)).map fun x : Int => (x, true)))]) ?_ ?_
          ·
            refine KA.seq ?_
            refine KA.region rfl ?_
            refine KOps.move ?_
            refine KOps.lss ?_
            refine KOps.move ?_
            refine KOps.guardB (dj := 45) rfl rfl false true rfl ?_ ?_
            · intro g45
              have g45 := of_decide_eq_false g45
              refine KOps.move ?_
              refine KOps.guardYes (dj := 45) rfl rfl ?_
              refine KOps.move ?_
              refine KOps.guardYes (dj := 45) rfl rfl ?_
              refine KOps.geq ?_
              refine KOps.pickF ?_
              refine KOps.move ?_
              refine KOps.guardB (dj := 50) rfl rfl false true rfl ?_ ?_
              · intro g50
                have g50 := of_decide_eq_false g50
                refine KOps.move ?_
                refine KOps.guardYes (dj := 50) rfl rfl ?_
                refine KOps.move ?_
                refine KOps.guardYes (dj := 50) rfl rfl ?_
                refine KOps.lookupN (kf := AV.int .i64) (vf := AV.bool) EvK.eq (St.rdM hS 0 rfl hv10) rfl (by rw [mget_set, if_neg hc3]) ?_
                refine KOps.pickF ?_
                refine KOps.move ?_
                refine KOps.guardYes (dj := 55) rfl rfl ?_
                refine KOps.move ?_
                refine KOps.guardYes (dj := 55) rfl rfl ?_
                refine KOps.gtr ?_
                refine KOps.guardYes (dj := 55) rfl rfl ?_
                refine KOps.move ?_
                refine KOps.guardB (dj := 58) rfl rfl true false rfl ?_ ?_
                · intro g58
                  have g58 := of_decide_eq_true g58
                  refine KOps.move ?_
                  refine KOps.guardYes (dj := 58) rfl rfl ?_
                  refine KOps.move ?_
                  refine KOps.guardYes (dj := 58) rfl rfl ?_
                  refine KOps.sub (by first | omega | (simp only [List.length_append, List.length_singleton, List.length_set]; omega)) (by first | omega | (simp only [List.length_append, List.length_singleton, List.length_set]; omega)) ?_
                  refine KOps.guardYes (dj := 58) rfl rfl ?_
                  refine KOps.indexIJ (Rd.ext hS.keeps (hvr i (by omega))) (j := (k - 1)) (by first | omega | (simp only [List.length_append, List.length_singleton, List.length_set]; omega)) (by first | omega | (simp; omega)) ?_
                  intro p62 hp62
                  refine KOps.guardYes (dj := 58) rfl rfl ?_
                  refine KOps.loadI hp62 (Rd.ext hS.keeps (hvr i (by omega))) (by first | omega | (simp; omega)) ?_
                  refine KOps.guardYes (dj := 58) rfl rfl ?_
                  refine KOps.move ?_
                  refine KOps.guardYes (dj := 58) rfl rfl ?_
                  refine KOps.gtr ?_
                  refine KOps.guardYes (dj := 55) rfl rfl ?_
                  refine KOps.pickT ?_
                  refine KOps.pickF ?_
                  refine KOps.move ?_
                  refine KOps.guardB (dj := 68) rfl rfl false true rfl ?_ ?_
                  · intro g68
                    have g68 := of_decide_eq_false g68
                    refine KOps.move ?_
                    refine KOps.guardYes (dj := 68) rfl rfl ?_
                    refine KOps.gtr ?_
                    refine KOps.guardYes (dj := 68) rfl rfl ?_
                    refine KOps.move ?_
                    refine KOps.guardB (dj := 71) rfl rfl true false rfl ?_ ?_
                    · intro g71
                      have g71 := of_decide_eq_true g71
                      refine KOps.move ?_
                      refine KOps.guardYes (dj := 71) rfl rfl ?_
                      refine KOps.move ?_
                      refine KOps.guardYes (dj := 71) rfl rfl ?_
                      refine KOps.sub (by first | omega | (simp only [List.length_append, List.length_singleton, List.length_set]; omega)) (by first | omega | (simp only [List.length_append, List.length_singleton, List.length_set]; omega)) ?_
                      have hrp : Row h6 (vs.getD (i - 1) .bot) (T.getD (i - 1) []) := Rd.ext hS.keeps (hvr (i - 1) (by omega))
                      refine KOps.guardYes (dj := 71) rfl rfl ?_
                      refine KOps.indexVJ (Rd.ext hS.keeps hvs) (j := (i - 1)) (by first | omega | (simp only [List.length_append, List.length_singleton, List.length_set]; omega)) (by first | omega | (simp; omega)) ?_
                      intro p75 hp75
                      refine KOps.guardYes (dj := 71) rfl rfl ?_
                      refine KOps.loadV hp75 (Rd.ext hS.keeps hvs) (by first | omega | (simp; omega)) ?_
                      refine KOps.guardYes (dj := 71) rfl rfl ?_
                      refine KOps.move ?_
                      refine KOps.guardYes (dj := 71) rfl rfl ?_
                      refine KOps.indexIJ (by first | assumption | exact Rd.ext hS.keeps (by assumption)) (j := k) rfl (by first | omega | (simp; omega)) ?_
                      intro p78 hp78
                      refine KOps.guardYes (dj := 71) rfl rfl ?_
                      refine KOps.loadI hp78 (by first | assumption | exact Rd.ext hS.keeps (by assumption)) (by first | omega | (simp; omega)) ?_
                      refine KOps.guardYes (dj := 71) rfl rfl ?_
                      refine KOps.move ?_
                      refine KOps.guardYes (dj := 71) rfl rfl ?_
                      refine KOps.gtr ?_
                      refine KOps.guardYes (dj := 68) rfl rfl ?_
                      refine KOps.pickT ?_
                      refine KOps.pickF ?_
                      refine KOps.done ?_
                      refine sqQ.normal ?_
                      refine KA.sub (Sub.cons (t := 0) Look.eq (Sub.cons (t := 1) Look.eq (Sub.cons (t := 5) Look.eq (Sub.cons (t := 6) Look.eq (Sub.cons (t := 7) Look.eq (Sub.cons (t := 9) Look.eq (Sub.cons (t := 11) Look.eq (Sub.cons (t := 12) Look.eq (Sub.cons (t := 13) Look.eq (Sub.cons (t := 36) Look.eq (Sub.cons (t := 37) Look.eq (Sub.cons (t := 38) Look.eq (Sub.cons (t := 46) Look.eq (Sub.cons (t := 47) Look.eq (Sub.cons (t := 48) Look.eq (Sub.cons (t := 51) Look.eq (Sub.cons (t := 52) Look.eq (Sub.cons (t := 53) Look.eq (Sub.cons (t := 56) Look.eq (Sub.cons (t := 57) Look.eq (Sub.cons (t := 58) Look.eq (Sub.cons (t := 59) Look.eq (Sub.cons (t := 60) Look.eq (Sub.cons (t := 61) Look.eq (Sub.cons (t := 62) Look.eq (Sub.cons (t := 63) Look.eq (Sub.cons (t := 64) Look.eq (Sub.cons (t := 65) Look.eq (Sub.cons (t := 66) Look.eq (Sub.cons (t := 69) Look.eq (Sub.cons (t := 70) Look.eq (Sub.cons (t := 71) Look.eq (Sub.cons (t := 72) Look.eq (Sub.cons (t := 73) Look.eq (Sub.cons (t := 74) Look.eq (Sub.cons (t := 75) Look.eq (Sub.cons (t := 76) Look.eq (Sub.cons (t := 77) Look.eq (Sub.cons (t := 78) Look.eq (Sub.cons (t := 79) Look.eq (Sub.cons (t := 80) Look.eq (Sub.cons (t := 81) Look.eq (Sub.cons (t := 82) Look.eq (Sub.cons (t := 83) Look.eq (Sub.nil _))))))))))))))))))))))))))))))))))))))))))))) ?_
                      refine KA.condD ?_ ?_
                      · intro c83
                        exfalso; omega
                      · intro c83
                        refine KA.skip ?_
                        exact mtQ.normal () (by repeat (first | exact Sub.nil _ | refine Sub.cons Look.eq ?_ | refine Sub.cons (Eq.trans Look.eq (congrArg (AV.int _) (by first | omega | (dsimp only; omega)))) ?_)) hS
                    · intro g71
                      have g71 := of_decide_eq_false g71
                      refine KOps.guardNo (dj := 71) rfl rfl rfl ?_
                      refine KOps.guardNo (dj := 71) rfl rfl rfl ?_
                      have hrp : Row h6 (vs.getD (i - 1) .bot) (T.getD (i - 1) []) := Rd.ext hS.keeps (hvr (i - 1) (by omega))
                      refine KOps.guardNo (dj := 71) rfl rfl rfl ?_
                      refine KOps.guardNo (dj := 71) rfl rfl rfl ?_
                      refine KOps.guardNo (dj := 71) rfl rfl rfl ?_
                      refine KOps.guardNo (dj := 71) rfl rfl rfl ?_
                      refine KOps.guardNo (dj := 71) rfl rfl rfl ?_
                      refine KOps.guardNo (dj := 71) rfl rfl rfl ?_
                      refine KOps.guardNo (dj := 71) rfl rfl rfl ?_
                      refine KOps.guardYes (dj := 68) rfl rfl ?_
                      refine KOps.pickF ?_
                      refine KOps.pickF ?_
                      refine KOps.done ?_
                      refine sqQ.normal ?_
                      refine KA.sub (Sub.cons (t := 0) Look.eq (Sub.cons (t := 1) Look.eq (Sub.cons (t := 5) Look.eq (Sub.cons (t := 6) Look.eq (Sub.cons (t := 7) Look.eq (Sub.cons (t := 9) Look.eq (Sub.cons (t := 11) Look.eq (Sub.cons (t := 12) Look.eq (Sub.cons (t := 13) Look.eq (Sub.cons (t := 36) Look.eq (Sub.cons (t := 37) Look.eq (Sub.cons (t := 38) Look.eq (Sub.cons (t := 46) Look.eq (Sub.cons (t := 47) Look.eq (Sub.cons (t := 48) Look.eq (Sub.cons (t := 51) Look.eq (Sub.cons (t := 52) Look.eq (Sub.cons (t := 53) Look.eq (Sub.cons (t := 56) Look.eq (Sub.cons (t := 57) Look.eq (Sub.cons (t := 58) Look.eq (Sub.cons (t := 59) Look.eq (Sub.cons (t := 60) Look.eq (Sub.cons (t := 61) Look.eq (Sub.cons (t := 62) Look.eq (Sub.cons (t := 63) Look.eq (Sub.cons (t := 64) Look.eq (Sub.cons (t := 65) Look.eq (Sub.cons (t := 66) Look.eq (Sub.cons (t := 69) Look.eq (Sub.cons (t := 70) Look.eq (Sub.cons (t := 71) Look.eq (Sub.cons (t := 72) Look.eq (Sub.cons (t := 73) Look.eq (Sub.cons (t := 74) Look.eq (Sub.cons (t := 75) Look.eq (Sub.cons (t := 76) Look.eq (Sub.cons (t := 77) Look.eq (Sub.cons (t := 78) Look.eq (Sub.cons (t := 79) Look.eq (Sub.cons (t := 80) Look.eq (Sub.cons (t := 81) Look.eq (Sub.cons (t := 82) Look.eq (Sub.cons (t := 83) Look.eq (Sub.nil _))))))))))))))))))))))))))))))))))))))))))))) ?_
                      refine KA.condF ?_
                      refine KA.skip ?_
                      exact mtQ.normal () (by repeat (first | exact Sub.nil _ | refine Sub.cons Look.eq ?_ | refine Sub.cons (Eq.trans Look.eq (congrArg (AV.int _) (by first | omega | (dsimp only; omega)))) ?_)) hS
                  · intro g68
                    have g68 := of_decide_eq_true g68
                    exfalso; omega
                · intro g58
                  have g58 := of_decide_eq_false g58
                  refine KOps.guardNo (dj := 58) rfl rfl rfl ?_
                  refine KOps.guardNo (dj := 58) rfl rfl rfl ?_
                  refine KOps.guardNo (dj := 58) rfl rfl rfl ?_
                  refine KOps.guardNo (dj := 58) rfl rfl rfl ?_
                  refine KOps.guardNo (dj := 58) rfl rfl rfl ?_
                  refine KOps.guardNo (dj := 58) rfl rfl rfl ?_
                  refine KOps.guardYes (dj := 55) rfl rfl ?_
                  refine KOps.pickF ?_
                  refine KOps.pickF ?_
                  refine KOps.move ?_
                  refine KOps.guardYes (dj := 68) rfl rfl ?_
                  refine KOps.move ?_
                  refine KOps.guardYes (dj := 68) rfl rfl ?_
                  refine KOps.gtr ?_
                  refine KOps.guardYes (dj := 68) rfl rfl ?_
                  refine KOps.move ?_
                  refine KOps.guardB (dj := 71) rfl rfl true false rfl ?_ ?_
                  · intro g71
                    have g71 := of_decide_eq_true g71
                    refine KOps.move ?_
                    refine KOps.guardYes (dj := 71) rfl rfl ?_
                    refine KOps.move ?_
                    refine KOps.guardYes (dj := 71) rfl rfl ?_
                    refine KOps.sub (by first | omega | (simp only [List.length_append, List.length_singleton, List.length_set]; omega)) (by first | omega | (simp only [List.length_append, List.length_singleton, List.length_set]; omega)) ?_
                    have hrp : Row h6 (vs.getD (i - 1) .bot) (T.getD (i - 1) []) := Rd.ext hS.keeps (hvr (i - 1) (by omega))
                    refine KOps.guardYes (dj := 71) rfl rfl ?_
                    refine KOps.indexVJ (Rd.ext hS.keeps hvs) (j := (i - 1)) (by first | omega | (simp only [List.length_append, List.length_singleton, List.length_set]; omega)) (by first | omega | (simp; omega)) ?_
                    intro p75 hp75
                    refine KOps.guardYes (dj := 71) rfl rfl ?_
                    refine KOps.loadV hp75 (Rd.ext hS.keeps hvs) (by first | omega | (simp; omega)) ?_
                    refine KOps.guardYes (dj := 71) rfl rfl ?_
                    refine KOps.move ?_
                    refine KOps.guardYes (dj := 71) rfl rfl ?_
                    refine KOps.indexIJ (by first | assumption | exact Rd.ext hS.keeps (by assumption)) (j := k) rfl (by first | omega | (simp; omega)) ?_
                    intro p78 hp78
                    refine KOps.guardYes (dj := 71) rfl rfl ?_
                    refine KOps.loadI hp78 (by first | assumption | exact Rd.ext hS.keeps (by assumption)) (by first | omega | (simp; omega)) ?_
                    refine KOps.guardYes (dj := 71) rfl rfl ?_
                    refine KOps.move ?_
                    refine KOps.guardYes (dj := 71) rfl rfl ?_
                    refine KOps.gtr ?_
                    refine KOps.guardYes (dj := 68) rfl rfl ?_
                    refine KOps.pickT ?_
                    refine KOps.pickF ?_
                    refine KOps.done ?_
                    refine sqQ.normal ?_
                    refine KA.sub (Sub.cons (t := 0) Look.eq (Sub.cons (t := 1) Look.eq (Sub.cons (t := 5) Look.eq (Sub.cons (t := 6) Look.eq (Sub.cons (t := 7) Look.eq (Sub.cons (t := 9) Look.eq (Sub.cons (t := 11) Look.eq (Sub.cons (t := 12) Look.eq (Sub.cons (t := 13) Look.eq (Sub.cons (t := 36) Look.eq (Sub.cons (t := 37) Look.eq (Sub.cons (t := 38) Look.eq (Sub.cons (t := 46) Look.eq (Sub.cons (t := 47) Look.eq (Sub.cons (t := 48) Look.eq (Sub.cons (t := 51) Look.eq (Sub.cons (t := 52) Look.eq (Sub.cons (t := 53) Look.eq (Sub.cons (t := 56) Look.eq (Sub.cons (t := 57) Look.eq (Sub.cons (t := 58) Look.eq (Sub.cons (t := 59) Look.eq (Sub.cons (t := 60) Look.eq (Sub.cons (t := 61) Look.eq (Sub.cons (t := 62) Look.eq (Sub.cons (t := 63) Look.eq (Sub.cons (t := 64) Look.eq (Sub.cons (t := 65) Look.eq (Sub.cons (t := 66) Look.eq (Sub.cons (t := 69) Look.eq (Sub.cons (t := 70) Look.eq (Sub.cons (t := 71) Look.eq (Sub.cons (t := 72) Look.eq (Sub.cons (t := 73) Look.eq (Sub.cons (t := 74) Look.eq (Sub.cons (t := 75) Look.eq (Sub.cons (t := 76) Look.eq (Sub.cons (t := 77) Look.eq (Sub.cons (t := 78) Look.eq (Sub.cons (t := 79) Look.eq (Sub.cons (t := 80) Look.eq (Sub.cons (t := 81) Look.eq (Sub.cons (t := 82) Look.eq (Sub.cons (t := 83) Look.eq (Sub.nil _))))))))))))))))))))))))))))))))))))))))))))) ?_
                    refine KA.condD ?_ ?_
                    · intro c83
                      exfalso; omega
                    · intro c83
                      refine KA.skip ?_
                      exact mtQ.normal () (by repeat (first | exact Sub.nil _ | refine Sub.cons Look.eq ?_ | refine Sub.cons (Eq.trans Look.eq (congrArg (AV.int _) (by first | omega | (dsimp only; omega)))) ?_)) hS
                  · intro g71
                    have g71 := of_decide_eq_false g71
                    refine KOps.guardNo (dj := 71) rfl rfl rfl ?_
                    refine KOps.guardNo (dj := 71) rfl rfl rfl ?_
                    have hrp : Row h6 (vs.getD (i - 1) .bot) (T.getD (i - 1) []) := Rd.ext hS.keeps (hvr (i - 1) (by omega))
                    refine KOps.guardNo (dj := 71) rfl rfl rfl ?_
                    refine KOps.guardNo (dj := 71) rfl rfl rfl ?_
                    refine KOps.guardNo (dj := 71) rfl rfl rfl ?_
                    refine KOps.guardNo (dj := 71) rfl rfl rfl ?_
                    refine KOps.guardNo (dj := 71) rfl rfl rfl ?_
                    refine KOps.guardNo (dj := 71) rfl rfl rfl ?_
                    refine KOps.guardNo (dj := 71) rfl rfl rfl ?_
                    refine KOps.guardYes (dj := 68) rfl rfl ?_
                    refine KOps.pickF ?_
                    refine KOps.pickF ?_
                    refine KOps.done ?_
                    refine sqQ.normal ?_
                    refine KA.sub (Sub.cons (t := 0) Look.eq (Sub.cons (t := 1) Look.eq (Sub.cons (t := 5) Look.eq (Sub.cons (t := 6) Look.eq (Sub.cons (t := 7) Look.eq (Sub.cons (t := 9) Look.eq (Sub.cons (t := 11) Look.eq (Sub.cons (t := 12) Look.eq (Sub.cons (t := 13) Look.eq (Sub.cons (t := 36) Look.eq (Sub.cons (t := 37) Look.eq (Sub.cons (t := 38) Look.eq (Sub.cons (t := 46) Look.eq (Sub.cons (t := 47) Look.eq (Sub.cons (t := 48) Look.eq (Sub.cons (t := 51) Look.eq (Sub.cons (t := 52) Look.eq (Sub.cons (t := 53) Look.eq (Sub.cons (t := 56) Look.eq (Sub.cons (t := 57) Look.eq (Sub.cons (t := 58) Look.eq (Sub.cons (t := 59) Look.eq (Sub.cons (t := 60) Look.eq (Sub.cons (t := 61) Look.eq (Sub.cons (t := 62) Look.eq (Sub.cons (t := 63) Look.eq (Sub.cons (t := 64) Look.eq (Sub.cons (t := 65) Look.eq (Sub.cons (t := 66) Look.eq (Sub.cons (t := 69) Look.eq (Sub.cons (t := 70) Look.eq (Sub.cons (t := 71) Look.eq (Sub.cons (t := 72) Look.eq (Sub.cons (t := 73) Look.eq (Sub.cons (t := 74) Look.eq (Sub.cons (t := 75) Look.eq (Sub.cons (t := 76) Look.eq (Sub.cons (t := 77) Look.eq (Sub.cons (t := 78) Look.eq (Sub.cons (t := 79) Look.eq (Sub.cons (t := 80) Look.eq (Sub.cons (t := 81) Look.eq (Sub.cons (t := 82) Look.eq (Sub.cons (t := 83) Look.eq (Sub.nil _))))))))))))))))))))))))))))))))))))))))))))) ?_
                    refine KA.condF ?_
                    refine KA.skip ?_
                    exact mtQ.normal () (by repeat (first | exact Sub.nil _ | refine Sub.cons Look.eq ?_ | refine Sub.cons (Eq.trans Look.eq (congrArg (AV.int _) (by first | omega | (dsimp only; omega)))) ?_)) hS
              · intro g50
                have g50 := of_decide_eq_true g50
                exfalso; omega
            · intro g45
              have g45 := of_decide_eq_true g45
              exfalso; omega
          ·
            rintro ⟨⟩ h7 hS
            refine KA.region rfl ?_
            refine KOps.move ?_
            refine KOps.move ?_
            refine KOps.mapPutK (kf := AV.int .i64) (vf := AV.bool) (i := 0) (b := true) EvK.eq rfl hS hv10 rfl rfl ?_
            intro h' hS
            refine KOps.done ?_
            refine blQ.normal ?_
            refine sqQ.normal ?_
            refine KA.sub (Sub.cons (t := 0) Look.eq (Sub.cons (t := 1) Look.eq (Sub.cons (t := 5) Look.eq (Sub.cons (t := 6) Look.eq (Sub.cons (t := 7) Look.eq (Sub.cons (t := 11) Look.eq (Sub.cons (t := 12) Look.eq (Sub.cons (t := 13) Look.eq (Sub.cons (t := 36) Look.eq (Sub.cons (t := 37) Look.eq (Sub.cons (t := 38) Look.eq (Sub.nil _)))))))))))) ?_
            refine KA.region rfl ?_
            refine KOps.add (by first | omega | (simp only [List.length_append, List.length_singleton, List.length_set]; omega)) (by first | omega | (simp only [List.length_append, List.length_singleton, List.length_set]; omega)) ?_
            refine KOps.move ?_
            refine KOps.done ?_
            rw [mput_set hc3, List.append_assoc, ← take_snoc (by omega)] at hS
            exact lpQ.normal (k + 1, ()) (by repeat (first | exact Sub.nil _ | refine Sub.cons Look.eq ?_ | refine Sub.cons (Eq.trans Look.eq (congrArg (AV.int _) (by first | omega | (dsimp only; omega)))) ?_)) ⟨by dsimp only; omega, hS⟩ (by dsimp only; omega)
        · intro c39
          refine KA.exit ?_
          refine sqQ.exit ?_
          refine lpQ.exit ?_
          refine blQ.here ?_
          refine blQ.normal ?_
          refine sqQ.normal ?_
          refine KA.sub (Sub.cons (t := 0) Look.eq (Sub.cons (t := 1) Look.eq (Sub.cons (t := 5) Look.eq (Sub.cons (t := 11) Look.eq (Sub.cons (t := 12) Look.eq (Sub.cons (t := 13) Look.eq (Sub.nil _))))))) ?_
          refine KA.region rfl ?_
          refine KOps.add (by first | omega | (simp only [List.length_append, List.length_singleton, List.length_set]; omega)) (by first | omega | (simp only [List.length_append, List.length_singleton, List.length_set]; omega)) ?_
          refine KOps.move ?_
          refine KOps.done ?_
          have hki : k = (T.getD i []).length := by omega
          rw [hki, List.take_length, ← flat_succ (by omega)] at hS
          exact lpQ.normal (i + 1, ()) (by repeat (first | exact Sub.nil _ | refine Sub.cons Look.eq ?_ | refine Sub.cons (Eq.trans Look.eq (congrArg (AV.int _) (by first | omega | (dsimp only; omega)))) ?_)) ⟨by dsimp only; omega, hS⟩ (by dsimp only; omega)
    · intro g21
      have g21 := of_decide_eq_true g21
      exfalso; omega
  · intro c14
    refine KA.exit ?_
    refine sqQ.exit ?_
    refine lpQ.exit ?_
    refine blQ.here ?_
    refine sqQ.normal ?_
    refine KA.sub (Sub.cons (t := 1) Look.eq (Sub.cons (t := 5) Look.eq (Sub.nil _))) ?_
    refine KA.seq ?_
    refine KA.region rfl ?_
    refine KOps.move ?_
    refine KOps.mapLen (St.rdM hS 0 rfl hv10) ?_
    refine KOps.move ?_
    refine KOps.eql ?_
    refine KOps.assign ?_
    refine KOps.done ?_
    refine sqQ.normal ?_
    refine KA.sub (Sub.cons (t := 4) Look.eq (Sub.nil _)) ?_
    refine KA.ret ?_
    refine fnQ.ret1 ?_
    refine ⟨?_, St.tail hS⟩
    have hie : i = T.length := by omega
    subst hie
    rw [List.take_length, List.length_map, List.length_map]
    congr 1
    exact decide_eq_true rfl

end Go.Am
