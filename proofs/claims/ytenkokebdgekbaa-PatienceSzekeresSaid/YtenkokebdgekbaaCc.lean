/-
  Contracts of layer 13: piles.
  Conditions: none.
-/
import Derived.Test.YtenkokebdgekbaaCb
import Derived.Test.YtenkokebdgekbaaPt1
namespace Go.Am
open Go.Gr

theorem refPiles_c {h : AHeap} {v : AV} {l : List Int} (hv : Row h v l) (hlen : l.length ≤ 4294967296) : ACalls Go.Proofs.Try.prog 18 [v] h (fun r h' => ∃ vo vs, r = .tup [vo, .int .i64 (checkE l)] ∧ vs.length = (okE l [] (pilesOf l)).length ∧ St h h' (matObjs true vo vs (okE l [] (pilesOf l)) ++ [])) := by
  refine KA.fn 65 [.tmp 2, .tmp 3] Go.Proofs.Try.func18 rfl (by decide) rfl rfl (Nat.le_of_ble_eq_true rfl) ?_
  have hS := St.refl h
  show KA _ 65 _ _ [(0, v)] _
  refine KA.seq ?_
  refine KA.region rfl ?_
  refine KOps.assign ?_
  refine KOps.assign ?_
  refine KOps.done ?_
  refine sqQ.normal ?_
  refine KA.sub (Sub.cons (t := 0) Look.eq (Sub.nil _)) ?_
  refine KA.seq ?_
  refine KA.region rfl ?_
  refine KOps.move ?_
  refine KOps.call rfl (refCheck_c (by first | assumption | exact Rd.ext hS.keeps (by assumption)) (by first | omega | (simp; omega))) ?_
  rintro _ _ ⟨rfl, rfl⟩
  refine KOps.assign ?_
  refine KOps.done ?_
  refine sqQ.normal ?_
  refine KA.sub (Sub.cons (t := 0) Look.eq (Sub.cons (t := 4) Look.eq (Sub.nil _))) ?_
  refine KA.seq ?_
  refine KA.seq ?_
  refine KA.region rfl ?_
  refine KOps.move ?_
  refine KOps.neq ?_
  refine KOps.done ?_
  refine sqQ.normal ?_
  refine KA.sub (Sub.cons (t := 0) Look.eq (Sub.cons (t := 4) Look.eq (Sub.cons (t := 11) Look.eq (Sub.nil _)))) ?_
  refine KA.condN ?_ ?_
  · intro c11
    refine KA.seq ?_
    refine KA.region rfl ?_
    refine KOps.move ?_
    refine KOps.assign ?_
    refine KOps.assign ?_
    refine KOps.done ?_
    refine sqQ.normal ?_
    refine KA.sub (Sub.cons (t := 2) Look.eq (Sub.cons (t := 3) Look.eq (Sub.nil _))) ?_
    refine KA.ret ?_
    refine sqQ.ret ?_
    refine fnQ.retN ?_
    refine ⟨.nils, [], rfl, by rw [okE_no c11]; rfl, ?_⟩
    rw [okE_no c11]
    exact St.nilT hS true
  · intro c11
    obtain ⟨hl0, hl9, hpk⟩ := checkE_ok c11
    refine KA.skip ?_
    refine sqQ.normal ?_
    refine KA.sub (Sub.cons (t := 0) Look.eq (Sub.nil _)) ?_
    refine KA.seq ?_
    refine KA.region rfl ?_
    refine KOps.assign ?_
    refine KOps.done ?_
    refine sqQ.normal ?_
    refine KA.seq ?_
    refine KA.seq ?_
    refine KA.region rfl ?_
    refine KOps.assign ?_
    refine KOps.done ?_
    refine sqQ.normal ?_
    refine KA.block ?_
    refine KA.loop (X := Nat × AV × List AV) (fun x => [(0, v), (5, x.2.1), (6, .int .i64 (x.1 : Int))]) (fun x h' => x.1 ≤ l.length ∧ x.2.2.length = (pilesOf (l.take x.1)).length ∧ St h h' (matObjs true x.2.1 x.2.2 (pilesOf (l.take x.1)) ++ [])) (fun x => l.length - x.1) (0, .nils, []) (by repeat (first | exact Sub.nil _ | refine Sub.cons Look.eq ?_ | refine Sub.cons (Eq.trans Look.eq (congrArg (AV.int _) (by first | omega | (dsimp only; omega)))) ?_)) ?_ ?_
    · exact ⟨by omega, rfl, St.nilT hS true⟩
    rintro ⟨i, vo, vs⟩ h1 ⟨hi, hl, hS⟩
    dsimp only at hi hl hS ⊢
    have hq1 := pilesOf_len (l.take i)
    have hq2 := pilesOf_row (l.take i)
    rw [List.length_take] at hq1 hq2
    refine KA.seq ?_
    refine KA.seq ?_
    refine KA.region rfl ?_
    refine KOps.move ?_
    refine KOps.move ?_
    refine KOps.lenI (by first | assumption | exact Rd.ext hS.keeps (by assumption)) ?_
    refine KOps.lss ?_
    refine KOps.done ?_
    refine sqQ.normal ?_
    refine KA.sub (Sub.cons (t := 0) Look.eq (Sub.cons (t := 5) Look.eq (Sub.cons (t := 6) Look.eq (Sub.cons (t := 16) Look.eq (Sub.nil _))))) ?_
    refine KA.condD ?_ ?_
    · intro c16
      refine KA.skip ?_
      refine sqQ.normal ?_
      refine KA.sub (Sub.cons (t := 0) Look.eq (Sub.cons (t := 5) Look.eq (Sub.cons (t := 6) Look.eq (Sub.nil _)))) ?_
      refine KA.seq ?_
      refine KA.block ?_
      refine KA.seq ?_
      refine KA.region rfl ?_
      refine KOps.assign ?_
      refine KOps.done ?_
      refine sqQ.normal ?_
      refine KA.meet (X := Nat) (fun k => [(0, v), (5, vo), (6, .int .i64 (i : Int)), (7, .int .i64 (k : Int))]) (fun k h' => h1 = h' ∧ k = (pileAt (pilesOf (l.take i)) (l.getD i 0))) ?_ ?_
      ·
        refine KA.block ?_
        refine KA.loop (X := Nat) (fun k => [(0, v), (5, vo), (6, .int .i64 (i : Int)), (7, .int .i64 (k : Int))]) (fun k h' => h1 = h' ∧ k ≤ (pilesOf (l.take i)).length ∧ ∀ j, j < k → lastD ((pilesOf (l.take i)).getD j []) < (l.getD i 0)) (fun k => (pilesOf (l.take i)).length - k) 0 (by repeat (first | exact Sub.nil _ | refine Sub.cons Look.eq ?_ | refine Sub.cons (Eq.trans Look.eq (congrArg (AV.int _) (by first | omega | (dsimp only; omega)))) ?_)) ⟨rfl, by omega, by omega⟩ ?_
        rintro k _ ⟨rfl, hk, hkl⟩
        refine KA.seq ?_
        refine KA.seq ?_
        refine KA.draw [] mixed rfl (by kernel_rfl) ?_
        refine KOps.move ?_
        refine KOps.move ?_
        refine KOps.lenV (St.outer (pre := []) hS) ?_
        refine KOps.lss ?_
        refine KOps.move ?_
        refine KOps.guardB (dj := 23) rfl rfl true false rfl ?_ ?_
        · intro g23
          have g23 := of_decide_eq_true g23
          have hqk := hq2 k
          have hqp := (hq2 k).2 (by omega)
          refine KOps.move ?_
          refine KOps.guardYes (dj := 23) rfl rfl ?_
          refine KOps.move ?_
          refine KOps.guardYes (dj := 23) rfl rfl ?_
          refine KOps.indexVJ (St.outer (pre := []) hS) (j := k) rfl (by first | omega | (simp; omega)) ?_
          intro p26 hp26
          refine KOps.guardYes (dj := 23) rfl rfl ?_
          refine KOps.loadV hp26 (St.outer (pre := []) hS) (by first | omega | (simp; omega)) ?_
          refine KOps.guardYes (dj := 23) rfl rfl ?_
          refine KOps.move ?_
          refine KOps.guardYes (dj := 23) rfl rfl ?_
          refine KOps.move ?_
          refine KOps.guardYes (dj := 23) rfl rfl ?_
          refine KOps.indexVJ (St.outer (pre := []) hS) (j := k) rfl (by first | omega | (simp; omega)) ?_
          intro p30 hp30
          refine KOps.guardYes (dj := 23) rfl rfl ?_
          refine KOps.loadV hp30 (St.outer (pre := []) hS) (by first | omega | (simp; omega)) ?_
          refine KOps.guardYes (dj := 23) rfl rfl ?_
          refine KOps.lenI (St.rowAt (pre := []) hS (by first | assumption | (simp; omega)) (by first | omega | (simp; omega))) ?_
          refine KOps.guardYes (dj := 23) rfl rfl ?_
          refine KOps.sub (by omega) (by omega) ?_
          refine KOps.guardYes (dj := 23) rfl rfl ?_
          refine KOps.indexIJ (St.rowAt (pre := []) hS (by first | assumption | (simp; omega)) (by first | omega | (simp; omega))) (j := (((pilesOf (l.take i)).getD k []).length - 1)) (by omega) (by first | omega | (simp; omega)) ?_
          intro p34 hp34
          refine KOps.guardYes (dj := 23) rfl rfl ?_
          refine KOps.loadI hp34 (St.rowAt (pre := []) hS (by first | assumption | (simp; omega)) (by first | omega | (simp; omega))) (by first | omega | (simp; omega)) ?_
          refine KOps.guardYes (dj := 23) rfl rfl ?_
          refine KOps.move ?_
          refine KOps.guardYes (dj := 23) rfl rfl ?_
          refine KOps.move ?_
          refine KOps.guardYes (dj := 23) rfl rfl ?_
          refine KOps.indexIJ (by first | assumption | exact Rd.ext hS.keeps (by assumption)) (j := i) rfl (by first | omega | (simp; omega)) ?_
          intro p38 hp38
          refine KOps.guardYes (dj := 23) rfl rfl ?_
          refine KOps.loadI hp38 (by first | assumption | exact Rd.ext hS.keeps (by assumption)) (by first | omega | (simp; omega)) ?_
          refine KOps.guardYes (dj := 23) rfl rfl ?_
          refine KOps.lss ?_
          refine KOps.pickT ?_
          refine KOps.done ?_
          refine sqQ.normal ?_
          refine KA.sub (Sub.cons (t := 0) Look.eq (Sub.cons (t := 5) Look.eq (Sub.cons (t := 6) Look.eq (Sub.cons (t := 7) Look.eq (Sub.cons (t := 24) Look.eq (Sub.cons (t := 25) Look.eq (Sub.cons (t := 26) Look.eq (Sub.cons (t := 27) Look.eq (Sub.cons (t := 28) Look.eq (Sub.cons (t := 29) Look.eq (Sub.cons (t := 30) Look.eq (Sub.cons (t := 31) Look.eq (Sub.cons (t := 32) Look.eq (Sub.cons (t := 33) Look.eq (Sub.cons (t := 34) Look.eq (Sub.cons (t := 35) Look.eq (Sub.cons (t := 36) Look.eq (Sub.cons (t := 37) Look.eq (Sub.cons (t := 38) Look.eq (Sub.cons (t := 39) Look.eq (Sub.cons (t := 40) Look.eq (Sub.cons (t := 41) Look.eq (Sub.nil _))))))))))))))))))))))) ?_
          refine KA.condD ?_ ?_
          · intro c41
            refine KA.skip ?_
            refine sqQ.normal ?_
            refine KA.sub (Sub.cons (t := 0) Look.eq (Sub.cons (t := 5) Look.eq (Sub.cons (t := 6) Look.eq (Sub.cons (t := 7) Look.eq (Sub.cons (t := 24) Look.eq (Sub.cons (t := 25) Look.eq (Sub.cons (t := 26) Look.eq (Sub.cons (t := 27) Look.eq (Sub.cons (t := 28) Look.eq (Sub.cons (t := 29) Look.eq (Sub.cons (t := 30) Look.eq (Sub.cons (t := 31) Look.eq (Sub.cons (t := 32) Look.eq (Sub.cons (t := 33) Look.eq (Sub.cons (t := 34) Look.eq (Sub.cons (t := 35) Look.eq (Sub.cons (t := 36) Look.eq (Sub.cons (t := 37) Look.eq (Sub.cons (t := 38) Look.eq (Sub.cons (t := 39) Look.eq (Sub.cons (t := 40) Look.eq (Sub.nil _)))))))))))))))))))))) ?_
            refine KA.block ?_
            refine KA.region rfl ?_
            refine KOps.move ?_
            refine KOps.add (by omega) (by omega) ?_
            refine KOps.assign ?_
            refine KOps.done ?_
            refine blQ.normal ?_
            refine lpQ.normal (k + 1) (by repeat (first | exact Sub.nil _ | refine Sub.cons Look.eq ?_ | refine Sub.cons (Eq.trans Look.eq (congrArg (AV.int _) (by first | omega | (dsimp only; omega)))) ?_)) ⟨rfl, by omega, ?_⟩ (by omega)
            intro j hj; rcases Nat.lt_succ_iff_lt_or_eq.1 hj with h1 | rfl
            · exact hkl j h1
            · exact c41
          · intro c41
            refine KA.exit ?_
            refine sqQ.exit ?_
            refine lpQ.exit ?_
            refine blQ.here ?_
            exact mtQ.normal k (by repeat (first | exact Sub.nil _ | refine Sub.cons Look.eq ?_ | refine Sub.cons (Eq.trans Look.eq (congrArg (AV.int _) (by first | omega | (dsimp only; omega)))) ?_)) ⟨rfl, pileAt_eq hkl (fun _ => c41) hk⟩
        · intro g23
          have g23 := of_decide_eq_false g23
          refine KOps.guardNo (dj := 23) rfl rfl rfl ?_
          refine KOps.guardNo (dj := 23) rfl rfl rfl ?_
          refine KOps.guardNo (dj := 23) rfl rfl rfl ?_
          refine KOps.guardNo (dj := 23) rfl rfl rfl ?_
          refine KOps.guardNo (dj := 23) rfl rfl rfl ?_
          refine KOps.guardNo (dj := 23) rfl rfl rfl ?_
          refine KOps.guardNo (dj := 23) rfl rfl rfl ?_
          refine KOps.guardNo (dj := 23) rfl rfl rfl ?_
          refine KOps.guardNo (dj := 23) rfl rfl rfl ?_
          refine KOps.guardNo (dj := 23) rfl rfl rfl ?_
          refine KOps.guardNo (dj := 23) rfl rfl rfl ?_
          refine KOps.guardNo (dj := 23) rfl rfl rfl ?_
          refine KOps.guardNo (dj := 23) rfl rfl rfl ?_
          refine KOps.guardNo (dj := 23) rfl rfl rfl ?_
          refine KOps.guardNo (dj := 23) rfl rfl rfl ?_
          refine KOps.guardNo (dj := 23) rfl rfl rfl ?_
          refine KOps.pickF ?_
          refine KOps.done ?_
          refine sqQ.normal ?_
          refine KA.sub (Sub.cons (t := 0) Look.eq (Sub.cons (t := 5) Look.eq (Sub.cons (t := 6) Look.eq (Sub.cons (t := 7) Look.eq (Sub.cons (t := 24) Look.eq (Sub.cons (t := 25) Look.eq (Sub.cons (t := 26) Look.eq (Sub.cons (t := 27) Look.eq (Sub.cons (t := 28) Look.eq (Sub.cons (t := 29) Look.eq (Sub.cons (t := 30) Look.eq (Sub.cons (t := 31) Look.eq (Sub.cons (t := 32) Look.eq (Sub.cons (t := 33) Look.eq (Sub.cons (t := 34) Look.eq (Sub.cons (t := 35) Look.eq (Sub.cons (t := 36) Look.eq (Sub.cons (t := 37) Look.eq (Sub.cons (t := 38) Look.eq (Sub.cons (t := 39) Look.eq (Sub.cons (t := 40) Look.eq (Sub.cons (t := 41) Look.eq (Sub.nil _))))))))))))))))))))))) ?_
          refine KA.condF ?_
          refine KA.exit ?_
          refine sqQ.exit ?_
          refine lpQ.exit ?_
          refine blQ.here ?_
          exact mtQ.normal k (by repeat (first | exact Sub.nil _ | refine Sub.cons Look.eq ?_ | refine Sub.cons (Eq.trans Look.eq (congrArg (AV.int _) (by first | omega | (dsimp only; omega)))) ?_)) ⟨rfl, pileAt_eq hkl (fun hq => by omega) hk⟩
      ·
        rintro k _ ⟨rfl, hk⟩
        have hkl := pileAt_le (pilesOf (l.take i)) (l.getD i 0)
        rw [← hk] at hkl
        refine KA.meet (X := AV × List AV) (fun y => [(0, v), (5, y.1), (6, .int .i64 (i : Int)), (7, .int .i64 (k : Int))]) (fun y h' => y.2.length = (roomy (pilesOf (l.take i)) k).length ∧ St h h' (matObjs true y.1 y.2 (roomy (pilesOf (l.take i)) k) ++ [])) ?_ ?_
        ·
          refine KA.seq ?_
          refine KA.region rfl ?_
          refine KOps.move ?_
          refine KOps.move ?_
          refine KOps.lenV (St.outer (pre := []) hS) ?_
          refine KOps.eql ?_
          refine KOps.done ?_
          refine sqQ.normal ?_
          refine KA.sub (Sub.cons (t := 0) Look.eq (Sub.cons (t := 5) Look.eq (Sub.cons (t := 6) Look.eq (Sub.cons (t := 7) Look.eq (Sub.cons (t := 47) Look.eq (Sub.nil _)))))) ?_
          refine KA.condD ?_ ?_
          · intro c47
            refine KA.region rfl ?_
            refine KOps.move ?_
            refine KOps.buildSlice hS rfl (by decide) rfl ?_
            intro v49 h' hS
            refine KOps.appendNil (pre := []) hS (by first | assumption | (simp; omega)) (by first | omega | (simp; omega)) ?_
            intro r50 h' hr50 hS
            refine KOps.assign ?_
            refine KOps.done ?_
            have hkq : k = (pilesOf (l.take i)).length := by omega
            refine mtQ.normal (r50, vs ++ [.nils]) (by repeat (first | exact Sub.nil _ | refine Sub.cons Look.eq ?_ | refine Sub.cons (Eq.trans Look.eq (congrArg (AV.int _) (by first | omega | (dsimp only; omega)))) ?_)) ⟨?_, ?_⟩
            · rw [roomy_yes hkq]; simp only [List.length_append, List.length_singleton]; omega
            · rw [roomy_yes hkq]; exact hS
          · intro c47
            refine KA.skip ?_
            have hkq : ¬ k = (pilesOf (l.take i)).length := by omega
            refine mtQ.normal (vo, vs) (by repeat (first | exact Sub.nil _ | refine Sub.cons Look.eq ?_ | refine Sub.cons (Eq.trans Look.eq (congrArg (AV.int _) (by first | omega | (dsimp only; omega)))) ?_)) ⟨?_, ?_⟩
            · rw [roomy_no hkq]; exact hl
            · rw [roomy_no hkq]; exact hS
        ·
          rintro ⟨wo, ws⟩ h2 ⟨hl2, hS⟩
          dsimp only at hl2 hS ⊢
          have hk2 := roomy_lt hkl
          have hq4 := roomy_getD (pilesOf (l.take i)) k k
          have hq3 := (hq2 k).1
          rw [← hq4] at hq3
          refine KA.draw [11] mixed rfl (by kernel_rfl) ?_
          refine KOps.move ?_
          refine KOps.move ?_
          refine KOps.move ?_
          refine KOps.move ?_
          refine KOps.indexVJ (St.outer (pre := []) hS) (j := k) rfl (by first | omega | (simp; omega)) ?_
          intro p55 hp55
          refine KOps.loadV hp55 (St.outer (pre := []) hS) (by first | omega | (simp; omega)) ?_
          refine KOps.move ?_
          refine KOps.move ?_
          refine KOps.indexIJ (by first | assumption | exact Rd.ext hS.keeps (by assumption)) (j := i) rfl (by first | omega | (simp; omega)) ?_
          intro p59 hp59
          refine KOps.loadI hp59 (by first | assumption | exact Rd.ext hS.keeps (by assumption)) (by first | omega | (simp; omega)) ?_
          refine KOps.buildSlice hS rfl (by decide) rfl ?_
          intro v61 h' hS
          refine KOps.appendAt (j := k) (pre := []) hS (fun _ => rfl) (by first | assumption | (simp; omega)) (by first | omega | (simp; omega)) (by first | omega | (simp; omega)) ?_
          intro r62 h' hr62 hS
          refine KOps.indexVJ (St.hole (pre := []) hS) (j := k) rfl (by first | omega | (simp; omega)) ?_
          intro p63 hp63
          refine KOps.storeAt (pre := []) hS rfl hp63 (by assumption) (by first | omega | (simp; omega)) rfl ?_
          intro h' hS
          refine KOps.done ?_
          refine blQ.normal ?_
          refine sqQ.normal ?_
          refine KA.sub (Sub.cons (t := 0) Look.eq (Sub.cons (t := 5) Look.eq (Sub.cons (t := 6) Look.eq (Sub.nil _)))) ?_
          refine KA.region rfl ?_
          refine KOps.move ?_
          refine KOps.add (by omega) (by omega) ?_
          refine KOps.assign ?_
          refine KOps.done ?_
          refine lpQ.normal (i + 1, wo, ws.set k r62) (by repeat (first | exact Sub.nil _ | refine Sub.cons Look.eq ?_ | refine Sub.cons (Eq.trans Look.eq (congrArg (AV.int _) (by first | omega | (dsimp only; omega)))) ?_)) ⟨by omega, ?_, ?_⟩ (by dsimp only; omega)
          · dsimp only; rw [pilesOf_take (by omega)]; unfold pilesStep; rw [← hk]; simp only [List.length_set]; exact hl2
          · dsimp only; rw [pilesOf_take (by omega)]; unfold pilesStep; rw [← hk]; exact hS
    · intro c16
      refine KA.exit ?_
      refine sqQ.exit ?_
      refine lpQ.exit ?_
      refine blQ.here ?_
      refine sqQ.normal ?_
      refine KA.sub (Sub.cons (t := 5) Look.eq (Sub.nil _)) ?_
      refine KA.seq ?_
      refine KA.region rfl ?_
      refine KOps.move ?_
      refine KOps.assign ?_
      refine KOps.assign ?_
      refine KOps.done ?_
      refine sqQ.normal ?_
      refine KA.sub (Sub.cons (t := 2) Look.eq (Sub.cons (t := 3) Look.eq (Sub.nil _))) ?_
      refine KA.ret ?_
      refine fnQ.retN ?_
      have hi2 : l.take i = l := List.take_of_length_le (by omega)
      rw [hi2] at hl hS
      refine ⟨vo, vs, by rw [c11], ?_, ?_⟩
      · rw [okE_yes c11]; exact hl
      · rw [okE_yes c11]; exact hS

theorem piles_c {h : AHeap} {v : AV} {l : List Int} (hv : Row h v l) : ACalls Go.Proofs.Try.prog 17 [v] h (fun r h' => ∃ vo vs, r = .tup [vo, .int .i64 (checkE l)] ∧ vs.length = (okE l [] (pilesOf l)).length ∧ St h h' (matObjs true vo vs (okE l [] (pilesOf l)) ++ [])) := by
  refine KA.fn 55 [.tmp 2, .tmp 3] Go.Proofs.Try.func17 rfl (by decide) rfl rfl (Nat.le_of_ble_eq_true rfl) ?_
  have hS := St.refl h
  show KA _ 55 _ _ [(0, v)] _
  refine KA.seq ?_
  refine KA.region rfl ?_
  refine KOps.assign ?_
  refine KOps.assign ?_
  refine KOps.done ?_
  refine sqQ.normal ?_
  refine KA.sub (Sub.cons (t := 0) Look.eq (Sub.nil _)) ?_
  refine KA.seq ?_
  refine KA.seq ?_
  refine KA.region rfl ?_
  refine KOps.move ?_
  refine KOps.call rfl (check_c (by first | assumption | exact Rd.ext hS.keeps (by assumption))) ?_
  rintro _ _ ⟨rfl, rfl⟩
  refine KOps.assign ?_
  refine KOps.done ?_
  refine sqQ.normal ?_
  refine KA.sub (Sub.cons (t := 0) Look.eq (Sub.cons (t := 4) Look.eq (Sub.nil _))) ?_
  refine KA.seq ?_
  refine KA.region rfl ?_
  refine KOps.move ?_
  refine KOps.neq ?_
  refine KOps.done ?_
  refine sqQ.normal ?_
  refine KA.sub (Sub.cons (t := 0) Look.eq (Sub.cons (t := 4) Look.eq (Sub.cons (t := 14) Look.eq (Sub.nil _)))) ?_
  refine KA.condN ?_ ?_
  · intro c14
    refine KA.seq ?_
    refine KA.region rfl ?_
    refine KOps.move ?_
    refine KOps.assign ?_
    refine KOps.assign ?_
    refine KOps.done ?_
    refine sqQ.normal ?_
    refine KA.sub (Sub.cons (t := 2) Look.eq (Sub.cons (t := 3) Look.eq (Sub.nil _))) ?_
    refine KA.ret ?_
    refine sqQ.ret ?_
    refine fnQ.retN ?_
    refine ⟨.nils, [], rfl, by rw [okE_no c14]; rfl, ?_⟩
    rw [okE_no c14]
    exact St.nilT hS true
  · intro c14
    obtain ⟨hl0, hl9, hpk⟩ := checkE_ok c14
    refine KA.skip ?_
    refine sqQ.normal ?_
    refine KA.sub (Sub.cons (t := 0) Look.eq (Sub.nil _)) ?_
    refine KA.seq ?_
    refine KA.region rfl ?_
    refine KOps.assign ?_
    refine KOps.done ?_
    refine sqQ.normal ?_
    refine KA.seq ?_
    refine KA.region rfl ?_
    refine KOps.assign ?_
    refine KOps.done ?_
    refine sqQ.normal ?_
    refine KA.seq ?_
    refine KA.seq ?_
    refine KA.region rfl ?_
    refine KOps.move ?_
    refine KOps.lenI (by first | assumption | exact Rd.ext hS.keeps (by assumption)) ?_
    refine KOps.move ?_
    refine KOps.done ?_
    refine sqQ.normal ?_
    refine KA.sub (Sub.cons (t := 5) Look.eq (Sub.cons (t := 6) Look.eq (Sub.cons (t := 16) Look.eq (Sub.cons (t := 17) Look.eq (Sub.cons (t := 18) Look.eq (Sub.nil _)))))) ?_
    refine KA.block ?_
    refine KA.loop (X := Nat × AV × AV × List AV) (fun x => [(5, x.2.1), (6, x.2.2.1), (16, v), (17, .int .i64 (l.length : Int)), (18, .int .i64 (x.1 : Int))]) (fun x h' => x.1 ≤ l.length ∧ x.2.2.2.length = (pilesOf (l.take x.1)).length ∧ St h h' (⟨x.2.1, 1, ints (topsOf (pilesOf (l.take x.1))), true⟩ :: (matObjs true x.2.2.1 x.2.2.2 (pilesOf (l.take x.1)) ++ []))) (fun x => l.length - x.1) (0, .nils, .nils, []) (by repeat (first | exact Sub.nil _ | refine Sub.cons Look.eq ?_ | refine Sub.cons (Eq.trans Look.eq (congrArg (AV.int _) (by first | omega | (dsimp only; omega)))) ?_)) ?_ ?_
    · exact ⟨by omega, rfl, St.nil (St.nilT hS true) 1⟩
    rintro ⟨i, vt, vo, vs⟩ h1 ⟨hi, hl, hS⟩
    dsimp only at hi hl hS ⊢
    have hq1 := pilesOf_len (l.take i)
    have hq2 := pilesOf_row (l.take i)
    have hmo := topsOf_mono (l.take i)
    have htl := topsOf_len (pilesOf (l.take i))
    rw [List.length_take] at hq1 hq2
    refine KA.seq ?_
    refine KA.region rfl ?_
    refine KOps.lss ?_
    refine KOps.done ?_
    refine sqQ.normal ?_
    refine KA.seq ?_
    refine KA.condD ?_ ?_
    · intro c19
      refine KA.skip ?_
      refine sqQ.normal ?_
      refine KA.sub (Sub.cons (t := 5) Look.eq (Sub.cons (t := 6) Look.eq (Sub.cons (t := 16) Look.eq (Sub.cons (t := 17) Look.eq (Sub.cons (t := 18) Look.eq (Sub.nil _)))))) ?_
      refine KA.seq ?_
      refine KA.block ?_
      refine KA.seq ?_
      refine KA.region rfl ?_
      refine KOps.indexIJ (by first | assumption | exact Rd.ext hS.keeps (by assumption)) (j := _) rfl (by first | omega | (simp; omega)) ?_
      intro p20 hp20
      refine KOps.loadI hp20 (by first | assumption | exact Rd.ext hS.keeps (by assumption)) (by first | omega | (simp; omega)) ?_
      refine KOps.assign ?_
      refine KOps.done ?_
      refine sqQ.normal ?_
      refine KA.sub (Sub.cons (t := 5) Look.eq (Sub.cons (t := 6) Look.eq (Sub.cons (t := 8) Look.eq (Sub.cons (t := 16) Look.eq (Sub.cons (t := 17) Look.eq (Sub.cons (t := 18) Look.eq (Sub.nil _))))))) ?_
      refine KA.seq ?_
      refine KA.region rfl ?_
      refine KOps.move ?_
      refine KOps.move ?_
      refine KOps.call rfl (search_c (c := l.getD i 0) (hS.rd 0 rfl) (by first | omega | (simp; omega)) hmo) ?_
      rintro _ _ ⟨⟨b61, rfl⟩, rfl⟩
      have hpe := topsOf_pos (pilesOf (l.take i)) (l.getD i 0)
      have hkl := pileAt_le (pilesOf (l.take i)) (l.getD i 0)
      rw [hpe]
      refine KOps.move ?_
      refine KOps.extract ?_
      refine KOps.extract ?_
      refine KOps.assign ?_
      refine KOps.assign ?_
      refine KOps.done ?_
      refine sqQ.normal ?_
      refine KA.sub (Sub.cons (t := 5) Look.eq (Sub.cons (t := 6) Look.eq (Sub.cons (t := 8) Look.eq (Sub.cons (t := 9) Look.eq (Sub.cons (t := 16) Look.eq (Sub.cons (t := 17) Look.eq (Sub.cons (t := 18) Look.eq (Sub.nil _)))))))) ?_
      refine KA.meet (X := AV × AV × List AV × List Int) (fun y => [(5, y.1), (6, y.2.1), (8, .int .i64 (l.getD i 0)), (9, .int .i64 ((pileAt (pilesOf (l.take i)) (l.getD i 0)) : Int)), (16, v), (17, .int .i64 (l.length : Int)), (18, .int .i64 (i : Int))]) (fun y h' => y.2.2.1.length = (roomy (pilesOf (l.take i)) (pileAt (pilesOf (l.take i)) (l.getD i 0))).length ∧ y.2.2.2.length = (roomy (pilesOf (l.take i)) (pileAt (pilesOf (l.take i)) (l.getD i 0))).length ∧ y.2.2.2 = (if (pileAt (pilesOf (l.take i)) (l.getD i 0)) = (pilesOf (l.take i)).length then topsOf (pilesOf (l.take i)) ++ [(l.getD i 0)] else topsOf (pilesOf (l.take i))) ∧ St h h' (⟨y.1, 1, ints y.2.2.2, true⟩ :: (matObjs true y.2.1 y.2.2.1 (roomy (pilesOf (l.take i)) (pileAt (pilesOf (l.take i)) (l.getD i 0))) ++ []))) ?_ ?_
      ·
        refine KA.seq ?_
        refine KA.region rfl ?_
        refine KOps.move ?_
        refine KOps.move ?_
        refine KOps.lenI (hS.rd 0 rfl) ?_
        refine KOps.eql ?_
        refine KOps.done ?_
        refine sqQ.normal ?_
        refine KA.sub (Sub.cons (t := 5) Look.eq (Sub.cons (t := 6) Look.eq (Sub.cons (t := 8) Look.eq (Sub.cons (t := 9) Look.eq (Sub.cons (t := 16) Look.eq (Sub.cons (t := 17) Look.eq (Sub.cons (t := 18) Look.eq (Sub.cons (t := 31) Look.eq (Sub.nil _))))))))) ?_
        refine KA.condD ?_ ?_
        · intro c31
          refine KA.region rfl ?_
          refine KOps.move ?_
          refine KOps.move ?_
          refine KOps.buildSlice hS rfl (by decide) rfl ?_
          intro v34 h' hS
          refine KOps.appendI hS (fun _ => rfl) (i := 0) rfl (by first | omega | (simp; omega)) ?_
          intro r35 h' hr35 hS
          refine KOps.move ?_
          refine KOps.buildSlice hS rfl (by decide) rfl ?_
          intro v37 h' hS
          refine KOps.appendNil (pre := [_]) hS (by first | assumption | (simp; omega)) (by first | omega | (simp; omega)) ?_
          intro r38 h' hr38 hS
          refine KOps.assign ?_
          refine KOps.assign ?_
          refine KOps.done ?_
          have hkq : (pileAt (pilesOf (l.take i)) (l.getD i 0)) = (pilesOf (l.take i)).length := by omega
          refine mtQ.normal (r35, r38, vs ++ [.nils], topsOf (pilesOf (l.take i)) ++ [(l.getD i 0)]) (by repeat (first | exact Sub.nil _ | refine Sub.cons Look.eq ?_ | refine Sub.cons (Eq.trans Look.eq (congrArg (AV.int _) (by first | omega | (dsimp only; omega)))) ?_)) ⟨?_, ?_, ?_, ?_⟩
          · rw [roomy_yes hkq]; simp only [List.length_append, List.length_singleton]; omega
          · rw [roomy_yes hkq]; simp only [List.length_append, List.length_singleton]; omega
          · rw [if_pos hkq]
          · rw [roomy_yes hkq]; exact hS
        · intro c31
          refine KA.skip ?_
          have hkq : ¬ (pileAt (pilesOf (l.take i)) (l.getD i 0)) = (pilesOf (l.take i)).length := by omega
          refine mtQ.normal (vt, vo, vs, topsOf (pilesOf (l.take i))) (by repeat (first | exact Sub.nil _ | refine Sub.cons Look.eq ?_ | refine Sub.cons (Eq.trans Look.eq (congrArg (AV.int _) (by first | omega | (dsimp only; omega)))) ?_)) ⟨?_, ?_, ?_, ?_⟩
          · rw [roomy_no hkq]; exact hl
          · rw [roomy_no hkq]; exact htl
          · rw [if_neg hkq]
          · rw [roomy_no hkq]; exact hS
      ·
        rintro ⟨wt, wo, ws, tp⟩ h2 ⟨hl2, hl3, htp, hS⟩
        dsimp only at hl2 hl3 htp hS ⊢
        have hk2 := roomy_lt hkl
        have hq4 := roomy_getD (pilesOf (l.take i)) (pileAt (pilesOf (l.take i)) (l.getD i 0)) (pileAt (pilesOf (l.take i)) (l.getD i 0))
        have hq3 := (hq2 (pileAt (pilesOf (l.take i)) (l.getD i 0))).1
        rw [← hq4] at hq3
        refine KA.region rfl ?_
        refine KOps.move ?_
        refine KOps.move ?_
        refine KOps.move ?_
        refine KOps.move ?_
        refine KOps.move ?_
        refine KOps.move ?_
        refine KOps.move ?_
        refine KOps.indexVJ (St.outer (pre := [_]) hS) (j := (pileAt (pilesOf (l.take i)) (l.getD i 0))) rfl (by first | omega | (simp; omega)) ?_
        intro p46 hp46
        refine KOps.loadV hp46 (St.outer (pre := [_]) hS) (by first | omega | (simp; omega)) ?_
        refine KOps.move ?_
        refine KOps.buildSlice hS rfl (by decide) rfl ?_
        intro v49 h' hS
        refine KOps.appendAt (j := (pileAt (pilesOf (l.take i)) (l.getD i 0))) (pre := [_]) hS (fun _ => rfl) (by first | assumption | (simp; omega)) (by first | omega | (simp; omega)) (by first | omega | (simp; omega)) ?_
        intro r50 h' hr50 hS
        refine KOps.indexIJ (hS.rd 0 rfl) (j := (pileAt (pilesOf (l.take i)) (l.getD i 0))) rfl (by first | omega | (simp; omega)) ?_
        intro p51 hp51
        refine KOps.storeI hS rfl (i := 0) rfl hp51 (by first | omega | (simp; omega)) ?_
        intro h' hS
        refine KOps.indexVJ (St.hole (pre := [_]) hS) (j := (pileAt (pilesOf (l.take i)) (l.getD i 0))) rfl (by first | omega | (simp; omega)) ?_
        intro p52 hp52
        refine KOps.storeAt (pre := [_]) hS rfl hp52 (by assumption) (by first | omega | (simp; omega)) rfl ?_
        intro h' hS
        refine KOps.done ?_
        refine blQ.normal ?_
        refine sqQ.normal ?_
        refine KA.sub (Sub.cons (t := 5) Look.eq (Sub.cons (t := 6) Look.eq (Sub.cons (t := 16) Look.eq (Sub.cons (t := 17) Look.eq (Sub.cons (t := 18) Look.eq (Sub.nil _)))))) ?_
        refine KA.region rfl ?_
        refine KOps.add (by omega) (by omega) ?_
        refine KOps.move ?_
        refine KOps.done ?_
        refine lpQ.normal (i + 1, wt, wo, ws.set (pileAt (pilesOf (l.take i)) (l.getD i 0)) r50) (by repeat (first | exact Sub.nil _ | refine Sub.cons Look.eq ?_ | refine Sub.cons (Eq.trans Look.eq (congrArg (AV.int _) (by first | omega | (dsimp only; omega)))) ?_)) ⟨by omega, ?_, ?_⟩ (by dsimp only; omega)
        · dsimp only; rw [pilesOf_take (by omega)]; unfold pilesStep; simp only [List.length_set]; exact hl2
        · dsimp only; rw [pilesOf_take (by omega), topsOf_step, ← htp]; unfold pilesStep; exact hS
    · intro c19
      refine KA.exit ?_
      refine sqQ.exit ?_
      refine lpQ.exit ?_
      refine blQ.here ?_
      refine sqQ.normal ?_
      refine KA.sub (Sub.cons (t := 6) Look.eq (Sub.nil _)) ?_
      refine KA.seq ?_
      refine KA.region rfl ?_
      refine KOps.move ?_
      refine KOps.assign ?_
      refine KOps.assign ?_
      refine KOps.done ?_
      refine sqQ.normal ?_
      refine KA.sub (Sub.cons (t := 2) Look.eq (Sub.cons (t := 3) Look.eq (Sub.nil _))) ?_
      refine KA.ret ?_
      refine fnQ.retN ?_
      have hi2 : l.take i = l := List.take_of_length_le (by omega)
      rw [hi2] at hl hS
      refine ⟨vo, vs, by rw [c14], ?_, ?_⟩
      · rw [okE_yes c14]; exact hl
      · rw [okE_yes c14]; exact hS.tail

end Go.Am
