/-
  Layer 08: contracts: what can have been cut, and was.
  Conditions: none.
-/
import Derived.Test.YtfoiccnlcheklaaDoorWn
namespace Go.Am
theorem words_j {h : AHeap} {a : Int} {n : Nat} (ha : a = (n : Int)) (hn : n ≤ 11) : ACalls Go.Proofs.Tryd.prog 52 [.int .i64 a] h (fun v h' => St h h' [⟨v, 1, wcs (allW n), true⟩]) := by
  subst ha
  exact words_c hn
theorem asked_c {h : AHeap} {n : Int} {s : ByteArray} : ACalls Go.Proofs.Tryd.prog 58 [.int .i64 n, .str s] h (fun q h' => q = .int .i64 (askE n s) ∧ h = h') := by
  refine KA.fn 31 [.tmp 4] Go.Proofs.Tryd.func58 rfl (by decide) rfl rfl (Nat.le_of_ble_eq_true rfl) ?_
  show KA _ 31 _ _ [(0, .int .i64 n), (1, .str s)] _
  refine KA.seq ?_
  refine KA.region rfl ?_
  refine KOps.assign ?_
  refine KOps.done ?_
  refine sqQ.normal ?_
  refine KA.sub (Sub.cons (t := 0) Look.eq (Sub.cons (t := 1) Look.eq (Sub.nil _))) ?_
  refine KA.seq ?_
  refine KA.region rfl ?_
  refine KOps.move ?_
  refine KOps.call rfl (checkF_c) ?_
  rintro _ _ ⟨rfl, rfl⟩
  refine KOps.assign ?_
  refine KOps.done ?_
  refine sqQ.normal ?_
  refine KA.sub (Sub.cons (t := 0) Look.eq (Sub.cons (t := 1) Look.eq (Sub.cons (t := 5) Look.eq (Sub.nil _)))) ?_
  refine KA.seq ?_
  refine KA.seq ?_
  refine KA.region rfl ?_
  refine KOps.move ?_
  refine KOps.lenStr ?_
  refine KOps.move ?_
  refine KOps.int (v := .int .i64 (IntKind.i64.wrap ((s.size : Int) - n))) (.inr (.inr rfl)) rfl ?_
  refine KOps.assign ?_
  refine KOps.done ?_
  refine sqQ.normal ?_
  refine KA.sub (Sub.cons (t := 0) Look.eq (Sub.cons (t := 5) Look.eq (Sub.cons (t := 6) Look.eq (Sub.nil _)))) ?_
  refine KA.block ?_
  refine KA.seq ?_
  refine KA.region rfl ?_
  refine KOps.move ?_
  refine KOps.neq ?_
  refine KOps.assign ?_
  refine KOps.done ?_
  refine sqQ.normal ?_
  refine KA.sub (Sub.cons (t := 0) Look.eq (Sub.cons (t := 5) Look.eq (Sub.cons (t := 6) Look.eq (Sub.cons (t := 13) Look.eq (Sub.nil _))))) ?_
  refine KA.condN ?_ ?_
  · intro c13
    refine KA.seq ?_
    refine KA.region rfl ?_
    refine KOps.move ?_
    refine KOps.assign ?_
    refine KOps.done ?_
    refine sqQ.normal ?_
    refine KA.sub (Sub.cons (t := 4) Look.eq (Sub.nil _)) ?_
    refine KA.ret ?_
    refine blQ.ret ?_
    refine sqQ.ret ?_
    refine fnQ.ret1 ?_
    first | exact ⟨congrArg (AV.int .i64) (askE_bad c13).symm, rfl⟩ | exact ⟨congrArg (AV.int .i64) (askE_1 (by omega) (by omega)).symm, rfl⟩ | exact ⟨congrArg (AV.int .i64) (askE_5 (by omega) (by omega) (by omega)).symm, rfl⟩ | exact ⟨congrArg (AV.int .i64) (askE_0 (by omega) (by omega) (by omega)).symm, rfl⟩
  · intro c13
    have hsz : s.size ≤ 10 := by
      obtain ⟨l, rfl, hl⟩ := chk_zero c13
      rw [wd_size]; exact hl
    refine KA.seq ?_
    refine KA.region rfl ?_
    refine KOps.move ?_
    refine KOps.lss ?_
    refine KOps.move ?_
    refine KOps.guardB (dj := 20) rfl rfl false true rfl ?_ ?_
    · intro g20
      have g20 := of_decide_eq_false g20
      refine KOps.move ?_
      refine KOps.guardYes (dj := 20) rfl rfl ?_
      refine KOps.gtr ?_
      refine KOps.pickF ?_
      refine KOps.assign ?_
      refine KOps.done ?_
      refine sqQ.normal ?_
      refine KA.sub (Sub.cons (t := 6) Look.eq (Sub.cons (t := 17) Look.eq (Sub.nil _))) ?_
      refine KA.condD ?_ ?_
      · intro c17
        refine KA.seq ?_
        refine KA.region rfl ?_
        refine KOps.assign ?_
        refine KOps.done ?_
        refine sqQ.normal ?_
        refine KA.sub (Sub.cons (t := 4) Look.eq (Sub.nil _)) ?_
        refine KA.ret ?_
        refine blQ.ret ?_
        refine sqQ.ret ?_
        refine fnQ.ret1 ?_
        first | exact ⟨congrArg (AV.int .i64) (askE_bad c13).symm, rfl⟩ | exact ⟨congrArg (AV.int .i64) (askE_1 (by omega) (by omega)).symm, rfl⟩ | exact ⟨congrArg (AV.int .i64) (askE_5 (by omega) (by omega) (by omega)).symm, rfl⟩ | exact ⟨congrArg (AV.int .i64) (askE_0 (by omega) (by omega) (by omega)).symm, rfl⟩
      · intro c17
        have hw : IntKind.i64.wrap ((s.size : Int) - n) = (s.size : Int) - n := wrap64 (by omega) (by omega)
        rw [hw]
        refine KA.seq ?_
        refine KA.region rfl ?_
        refine KOps.move ?_
        refine KOps.lss ?_
        refine KOps.move ?_
        refine KOps.guardB (dj := 27) rfl rfl false true rfl ?_ ?_
        · intro g27
          have g27 := of_decide_eq_false g27
          refine KOps.move ?_
          refine KOps.guardYes (dj := 27) rfl rfl ?_
          refine KOps.gtr ?_
          refine KOps.pickF ?_
          refine KOps.assign ?_
          refine KOps.done ?_
          refine sqQ.normal ?_
          refine KA.sub (Sub.cons (t := 24) Look.eq (Sub.nil _)) ?_
          refine KA.condD ?_ ?_
          · intro c24
            refine KA.seq ?_
            refine KA.region rfl ?_
            refine KOps.assign ?_
            refine KOps.done ?_
            refine sqQ.normal ?_
            refine KA.sub (Sub.cons (t := 4) Look.eq (Sub.nil _)) ?_
            refine KA.ret ?_
            refine blQ.ret ?_
            refine sqQ.ret ?_
            refine fnQ.ret1 ?_
            first | exact ⟨congrArg (AV.int .i64) (askE_bad c13).symm, rfl⟩ | exact ⟨congrArg (AV.int .i64) (askE_1 (by omega) (by omega)).symm, rfl⟩ | exact ⟨congrArg (AV.int .i64) (askE_5 (by omega) (by omega) (by omega)).symm, rfl⟩ | exact ⟨congrArg (AV.int .i64) (askE_0 (by omega) (by omega) (by omega)).symm, rfl⟩
          · intro c24
            refine KA.skip ?_
            refine blQ.normal ?_
            refine sqQ.normal ?_
            refine KA.sub (Sub.nil _) ?_
            refine KA.seq ?_
            refine KA.region rfl ?_
            refine KOps.assign ?_
            refine KOps.done ?_
            refine sqQ.normal ?_
            refine KA.ret ?_
            refine fnQ.ret1 ?_
            first | exact ⟨congrArg (AV.int .i64) (askE_bad c13).symm, rfl⟩ | exact ⟨congrArg (AV.int .i64) (askE_1 (by omega) (by omega)).symm, rfl⟩ | exact ⟨congrArg (AV.int .i64) (askE_5 (by omega) (by omega) (by omega)).symm, rfl⟩ | exact ⟨congrArg (AV.int .i64) (askE_0 (by omega) (by omega) (by omega)).symm, rfl⟩
        · intro g27
          have g27 := of_decide_eq_true g27
          refine KOps.guardNo (dj := 27) rfl rfl rfl ?_
          refine KOps.pickT ?_
          refine KOps.assign ?_
          refine KOps.done ?_
          refine sqQ.normal ?_
          refine KA.sub (Sub.cons (t := 24) Look.eq (Sub.nil _)) ?_
          refine KA.condT ?_
          refine KA.seq ?_
          refine KA.region rfl ?_
          refine KOps.assign ?_
          refine KOps.done ?_
          refine sqQ.normal ?_
          refine KA.sub (Sub.cons (t := 4) Look.eq (Sub.nil _)) ?_
          refine KA.ret ?_
          refine blQ.ret ?_
          refine sqQ.ret ?_
          refine fnQ.ret1 ?_
          first | exact ⟨congrArg (AV.int .i64) (askE_bad c13).symm, rfl⟩ | exact ⟨congrArg (AV.int .i64) (askE_1 (by omega) (by omega)).symm, rfl⟩ | exact ⟨congrArg (AV.int .i64) (askE_5 (by omega) (by omega) (by omega)).symm, rfl⟩ | exact ⟨congrArg (AV.int .i64) (askE_0 (by omega) (by omega) (by omega)).symm, rfl⟩
    · intro g20
      have g20 := of_decide_eq_true g20
      refine KOps.guardNo (dj := 20) rfl rfl rfl ?_
      refine KOps.pickT ?_
      refine KOps.assign ?_
      refine KOps.done ?_
      refine sqQ.normal ?_
      refine KA.sub (Sub.cons (t := 6) Look.eq (Sub.cons (t := 17) Look.eq (Sub.nil _))) ?_
      refine KA.condT ?_
      refine KA.seq ?_
      refine KA.region rfl ?_
      refine KOps.assign ?_
      refine KOps.done ?_
      refine sqQ.normal ?_
      refine KA.sub (Sub.cons (t := 4) Look.eq (Sub.nil _)) ?_
      refine KA.ret ?_
      refine blQ.ret ?_
      refine sqQ.ret ?_
      refine fnQ.ret1 ?_
      first | exact ⟨congrArg (AV.int .i64) (askE_bad c13).symm, rfl⟩ | exact ⟨congrArg (AV.int .i64) (askE_1 (by omega) (by omega)).symm, rfl⟩ | exact ⟨congrArg (AV.int .i64) (askE_5 (by omega) (by omega) (by omega)).symm, rfl⟩ | exact ⟨congrArg (AV.int .i64) (askE_0 (by omega) (by omega) (by omega)).symm, rfl⟩

theorem cutP_c {h : AHeap} {n : Int} {s : ByteArray} : ACalls Go.Proofs.Tryd.prog 27 [.int .i64 n, .str s] h (fun q h' => ∃ v, q = .tup [v, .int .i64 (askE n s)] ∧ St h h' [⟨v, 1, wcs (cutS n s), true⟩]) := by
  refine KA.fn 30 [.tmp 4, .tmp 5] Go.Proofs.Tryd.func27 rfl (by decide) rfl rfl (Nat.le_of_ble_eq_true rfl) ?_
  have hS := St.refl h
  show KA _ 30 _ _ [(0, .int .i64 n), (1, .str s)] _
  refine KA.seq ?_
  refine KA.region rfl ?_
  refine KOps.assign ?_
  refine KOps.assign ?_
  refine KOps.done ?_
  refine sqQ.normal ?_
  refine KA.sub (Sub.cons (t := 0) Look.eq (Sub.cons (t := 1) Look.eq (Sub.nil _))) ?_
  refine KA.seq ?_
  refine KA.seq ?_
  refine KA.region rfl ?_
  refine KOps.move ?_
  refine KOps.move ?_
  refine KOps.call rfl (asked_c) ?_
  rintro _ _ ⟨rfl, rfl⟩
  refine KOps.assign ?_
  refine KOps.done ?_
  refine sqQ.normal ?_
  refine KA.sub (Sub.cons (t := 0) Look.eq (Sub.cons (t := 1) Look.eq (Sub.cons (t := 6) Look.eq (Sub.nil _)))) ?_
  refine KA.block ?_
  refine KA.seq ?_
  refine KA.region rfl ?_
  refine KOps.move ?_
  refine KOps.neq ?_
  refine KOps.assign ?_
  refine KOps.done ?_
  refine sqQ.normal ?_
  refine KA.sub (Sub.cons (t := 0) Look.eq (Sub.cons (t := 1) Look.eq (Sub.cons (t := 6) Look.eq (Sub.cons (t := 10) Look.eq (Sub.nil _))))) ?_
  refine KA.condN ?_ ?_
  · intro c10
    refine KA.seq ?_
    refine KA.region rfl ?_
    refine KOps.move ?_
    refine KOps.assign ?_
    refine KOps.assign ?_
    refine KOps.done ?_
    refine sqQ.normal ?_
    refine KA.sub (Sub.cons (t := 4) Look.eq (Sub.cons (t := 5) Look.eq (Sub.nil _))) ?_
    refine KA.ret ?_
    refine blQ.ret ?_
    refine sqQ.ret ?_
    refine fnQ.retN ?_
    refine ⟨_, rfl, ?_⟩
    rw [cutS_bad c10]
    exact St.pick [0] (by decide) rfl (hS.nil 1)
  · intro c10
    obtain ⟨a, l, rfl, rfl, ha, hl, h1, h2⟩ := askE_zero c10
    have hcs := cutS_wd c10
    refine KA.seq ?_
    refine KA.region rfl ?_
    refine KOps.move ?_
    refine KOps.lenW ?_
    refine KOps.move ?_
    refine KOps.lss ?_
    refine KOps.assign ?_
    refine KOps.done ?_
    refine sqQ.normal ?_
    refine KA.sub (Sub.cons (t := 0) Look.eq (Sub.cons (t := 1) Look.eq (Sub.cons (t := 14) Look.eq (Sub.nil _)))) ?_
    refine KA.condD ?_ ?_
    · intro c14
      refine KA.seq ?_
      refine KA.region rfl ?_
      refine KOps.move ?_
      refine KOps.call rfl (more_w (by omega)) ?_
      rintro v20 h20 hS20
      have hS0 : St _ _ (_ :: _) := St.trans hS hS20
      clear hS
      have hS := hS0
      clear hS0
      refine KOps.assign ?_
      refine KOps.assign ?_
      refine KOps.done ?_
      refine sqQ.normal ?_
      refine KA.sub (Sub.cons (t := 4) Look.eq (Sub.cons (t := 5) Look.eq (Sub.nil _))) ?_
      refine KA.ret ?_
      refine blQ.ret ?_
      refine sqQ.ret ?_
      refine fnQ.retN ?_
      refine ⟨_, by rw [c10], ?_⟩
      rw [hcs, cut_long (by omega)]
      exact hS
    · intro c14
      refine KA.seq ?_
      refine KA.region rfl ?_
      refine KOps.move ?_
      refine KOps.lenW ?_
      refine KOps.move ?_
      refine KOps.gtr ?_
      refine KOps.assign ?_
      refine KOps.done ?_
      refine sqQ.normal ?_
      refine KA.sub (Sub.cons (t := 1) Look.eq (Sub.cons (t := 21) Look.eq (Sub.nil _))) ?_
      refine KA.condD ?_ ?_
      · intro c21
        refine KA.seq ?_
        refine KA.region rfl ?_
        refine KOps.move ?_
        refine KOps.call rfl (less_w (by omega)) ?_
        rintro v27 h27 hS27
        have hS0 : St _ _ (_ :: _) := St.trans hS hS27
        clear hS
        have hS := hS0
        clear hS0
        refine KOps.assign ?_
        refine KOps.assign ?_
        refine KOps.done ?_
        refine sqQ.normal ?_
        refine KA.sub (Sub.cons (t := 4) Look.eq (Sub.cons (t := 5) Look.eq (Sub.nil _))) ?_
        refine KA.ret ?_
        refine blQ.ret ?_
        refine sqQ.ret ?_
        refine fnQ.retN ?_
        refine ⟨_, by rw [c10], ?_⟩
        rw [hcs, cut_short (by omega)]
        exact hS
      · intro c21
        refine KA.skip ?_
        refine blQ.normal ?_
        refine sqQ.normal ?_
        refine KA.sub (Sub.cons (t := 1) Look.eq (Sub.nil _)) ?_
        refine KA.seq ?_
        refine KA.region rfl ?_
        refine KOps.move ?_
        refine KOps.buildSlice hS rfl (by decide) rfl ?_
        intro v29 h' hS
        refine KOps.assign ?_
        refine KOps.assign ?_
        refine KOps.done ?_
        refine sqQ.normal ?_
        refine KA.sub (Sub.cons (t := 4) Look.eq (Sub.cons (t := 5) Look.eq (Sub.nil _))) ?_
        refine KA.ret ?_
        refine fnQ.retN ?_
        refine ⟨_, by rw [c10], ?_⟩
        have hel : l.length = a := by omega
        subst hel
        rw [hcs, cut_same]
        exact hS

theorem cutR_c {h : AHeap} {n : Int} {s : ByteArray} : ACalls Go.Proofs.Tryd.prog 28 [.int .i64 n, .str s] h (fun q h' => ∃ v, q = .tup [v, .int .i64 (askE n s)] ∧ St h h' [⟨v, 1, wcs (cutS n s), true⟩]) := by
  refine KA.fn 72 [.tmp 4, .tmp 5] Go.Proofs.Tryd.func28 rfl (by decide) rfl rfl (Nat.le_of_ble_eq_true rfl) ?_
  have hS := St.refl h
  show KA _ 72 _ _ [(0, .int .i64 n), (1, .str s)] _
  refine KA.seq ?_
  refine KA.region rfl ?_
  refine KOps.assign ?_
  refine KOps.assign ?_
  refine KOps.done ?_
  refine sqQ.normal ?_
  refine KA.sub (Sub.cons (t := 0) Look.eq (Sub.cons (t := 1) Look.eq (Sub.nil _))) ?_
  refine KA.seq ?_
  refine KA.region rfl ?_
  refine KOps.move ?_
  refine KOps.call rfl (refCheck_c) ?_
  rintro _ _ ⟨rfl, rfl⟩
  refine KOps.assign ?_
  refine KOps.done ?_
  refine sqQ.normal ?_
  refine KA.sub (Sub.cons (t := 0) Look.eq (Sub.cons (t := 1) Look.eq (Sub.cons (t := 6) Look.eq (Sub.nil _)))) ?_
  refine KA.meet (X := Int) (fun x => [(0, .int .i64 n), (1, .str s), (6, .int .i64 x)]) (fun x h' => x = askE1 n s ∧ St h h' []) ?_ ?_
  ·
    refine KA.seq ?_
    refine KA.region rfl ?_
    refine KOps.move ?_
    refine KOps.eql ?_
    refine KOps.move ?_
    refine KOps.guardB (dj := 14) rfl rfl true false rfl ?_ ?_
    · intro g14
      have g14 := of_decide_eq_true g14
      rw [g14]
      refine KOps.move ?_
      refine KOps.guardYes (dj := 14) rfl rfl ?_
      refine KOps.call rfl (is_c) ?_
      rintro _ _ ⟨rfl, rfl⟩
      refine KOps.guardYes (dj := 14) rfl rfl ?_
      refine KOps.not ?_
      refine KOps.pickT ?_
      refine KOps.done ?_
      refine sqQ.normal ?_
      refine KA.sub (Sub.cons (t := 0) Look.eq (Sub.cons (t := 1) Look.eq (Sub.cons (t := 6) Look.eq (Sub.cons (t := 18) Look.eq (Sub.nil _))))) ?_
      refine KA.condN ?_ ?_
      · intro c18
        refine KA.region rfl ?_
        refine KOps.assign ?_
        refine KOps.done ?_
        exact mtQ.normal 1 (by repeat (first | exact Sub.nil _ | refine Sub.cons Look.eq ?_ | refine Sub.cons (Eq.trans Look.eq (congrArg (AV.int _) (by first | omega | (dsimp only; omega)))) ?_)) ⟨by rw [askE1, if_pos g14, if_neg (by omega)], hS⟩
      · intro c18
        refine KA.skip ?_
        exact mtQ.normal 0 (by repeat (first | exact Sub.nil _ | refine Sub.cons Look.eq ?_ | refine Sub.cons (Eq.trans Look.eq (congrArg (AV.int _) (by first | omega | (dsimp only; omega)))) ?_)) ⟨by rw [askE1, if_pos g14, if_pos (by omega)], hS⟩
    · intro g14
      have g14 := of_decide_eq_false g14
      refine KOps.guardNo (dj := 14) rfl rfl rfl ?_
      refine KOps.guardNo (dj := 14) rfl rfl rfl ?_
      refine KOps.pickF ?_
      refine KOps.done ?_
      refine sqQ.normal ?_
      refine KA.sub (Sub.cons (t := 0) Look.eq (Sub.cons (t := 1) Look.eq (Sub.cons (t := 6) Look.eq (Sub.cons (t := 18) Look.eq (Sub.nil _))))) ?_
      refine KA.condF ?_
      refine KA.skip ?_
      exact mtQ.normal (chkS s) (by repeat (first | exact Sub.nil _ | refine Sub.cons Look.eq ?_ | refine Sub.cons (Eq.trans Look.eq (congrArg (AV.int _) (by first | omega | (dsimp only; omega)))) ?_)) ⟨by rw [askE1, if_neg g14], hS⟩
  ·
    rintro e h2 ⟨rfl, hS⟩
    refine KA.meet (X := Int) (fun x => [(0, .int .i64 n), (1, .str s), (6, .int .i64 x)]) (fun x h' => x = askE n s ∧ St h h' []) ?_ ?_
    ·
      refine KA.seq ?_
      refine KA.region rfl ?_
      refine KOps.move ?_
      refine KOps.eql ?_
      refine KOps.move ?_
      refine KOps.guardB (dj := 21) rfl rfl true false rfl ?_ ?_
      · intro g21
        have g21 := of_decide_eq_true g21
        obtain ⟨hq1, hq2⟩ := askE1_zero g21
        have hq3 := g21
        rw [g21]
        refine KOps.move ?_
        refine KOps.guardYes (dj := 21) rfl rfl ?_
        refine KOps.lenStr ?_
        refine KOps.guardYes (dj := 21) rfl rfl ?_
        refine KOps.move ?_
        refine KOps.guardYes (dj := 21) rfl rfl ?_
        refine KOps.sub (by first | omega | (simp; omega)) (by first | omega | (simp; omega)) ?_
        refine KOps.guardYes (dj := 21) rfl rfl ?_
        refine KOps.move ?_
        refine KOps.guardYes (dj := 21) rfl rfl ?_
        refine KOps.add (by first | omega | (simp; omega)) (by first | omega | (simp; omega)) ?_
        refine KOps.guardYes (dj := 21) rfl rfl ?_
        refine KOps.call rfl (is_c) ?_
        rintro _ _ ⟨rfl, rfl⟩
        refine KOps.guardYes (dj := 21) rfl rfl ?_
        refine KOps.not ?_
        refine KOps.pickT ?_
        refine KOps.done ?_
        refine sqQ.normal ?_
        refine KA.sub (Sub.cons (t := 0) Look.eq (Sub.cons (t := 1) Look.eq (Sub.cons (t := 6) Look.eq (Sub.cons (t := 30) Look.eq (Sub.nil _))))) ?_
        refine KA.condN ?_ ?_
        · intro c30
          refine KA.region rfl ?_
          refine KOps.assign ?_
          refine KOps.done ?_
          exact mtQ.normal 5 (by repeat (first | exact Sub.nil _ | refine Sub.cons Look.eq ?_ | refine Sub.cons (Eq.trans Look.eq (congrArg (AV.int _) (by first | omega | (dsimp only; omega)))) ?_)) ⟨(askE_5 hq1 hq2 (by omega)).symm, hS⟩
        · intro c30
          refine KA.skip ?_
          exact mtQ.normal 0 (by repeat (first | exact Sub.nil _ | refine Sub.cons Look.eq ?_ | refine Sub.cons (Eq.trans Look.eq (congrArg (AV.int _) (by first | omega | (dsimp only; omega)))) ?_)) ⟨(askE_0 hq1 hq2 (by omega)).symm, hS⟩
      · intro g21
        have g21 := of_decide_eq_false g21
        refine KOps.guardNo (dj := 21) rfl rfl rfl ?_
        refine KOps.guardNo (dj := 21) rfl rfl rfl ?_
        refine KOps.guardNo (dj := 21) rfl rfl rfl ?_
        refine KOps.guardNo (dj := 21) rfl rfl rfl ?_
        refine KOps.guardNo (dj := 21) rfl rfl rfl ?_
        refine KOps.guardNo (dj := 21) rfl rfl rfl ?_
        refine KOps.guardNo (dj := 21) rfl rfl rfl ?_
        refine KOps.pickF ?_
        refine KOps.done ?_
        refine sqQ.normal ?_
        refine KA.sub (Sub.cons (t := 0) Look.eq (Sub.cons (t := 1) Look.eq (Sub.cons (t := 6) Look.eq (Sub.cons (t := 30) Look.eq (Sub.nil _))))) ?_
        refine KA.condF ?_
        refine KA.skip ?_
        exact mtQ.normal (askE1 n s) (by repeat (first | exact Sub.nil _ | refine Sub.cons Look.eq ?_ | refine Sub.cons (Eq.trans Look.eq (congrArg (AV.int _) (by first | omega | (dsimp only; omega)))) ?_)) ⟨(askE1_ne g21).symm, hS⟩
    ·
      rintro e h2 ⟨rfl, hS⟩
      refine KA.seq ?_
      refine KA.seq ?_
      refine KA.region rfl ?_
      refine KOps.move ?_
      refine KOps.neq ?_
      refine KOps.done ?_
      refine sqQ.normal ?_
      refine KA.sub (Sub.cons (t := 0) Look.eq (Sub.cons (t := 1) Look.eq (Sub.cons (t := 6) Look.eq (Sub.cons (t := 32) Look.eq (Sub.nil _))))) ?_
      refine KA.condN ?_ ?_
      · intro c32
        refine KA.seq ?_
        refine KA.region rfl ?_
        refine KOps.move ?_
        refine KOps.assign ?_
        refine KOps.assign ?_
        refine KOps.done ?_
        refine sqQ.normal ?_
        refine KA.sub (Sub.cons (t := 4) Look.eq (Sub.cons (t := 5) Look.eq (Sub.nil _))) ?_
        refine KA.ret ?_
        refine sqQ.ret ?_
        refine fnQ.retN ?_
        refine ⟨_, rfl, ?_⟩
        rw [cutS_bad c32]
        exact St.pick [0] (by decide) rfl (hS.nil 1)
      · intro c32
        obtain ⟨a, l, rfl, rfl, ha, hl, h1, h2⟩ := askE_zero c32
        have hcs := cutS_wd c32
        refine KA.skip ?_
        refine sqQ.normal ?_
        refine KA.sub (Sub.cons (t := 0) Look.eq (Sub.cons (t := 1) Look.eq (Sub.nil _))) ?_
        refine KA.seq ?_
        refine KA.region rfl ?_
        refine KOps.assign ?_
        refine KOps.done ?_
        refine sqQ.normal ?_
        refine KA.seq ?_
        refine KA.region rfl ?_
        refine KOps.move ?_
        refine KOps.call rfl (words_j (n := a) (by omega) (by omega)) ?_
        rintro v35 h35 hS35
        have hS0 : St _ _ (_ :: _) := St.trans hS hS35
        clear hS
        have hS := hS0
        clear hS0
        refine KOps.assign ?_
        refine KOps.done ?_
        refine sqQ.normal ?_
        refine KA.sub (Sub.cons (t := 1) Look.eq (Sub.cons (t := 7) Look.eq (Sub.cons (t := 8) Look.eq (Sub.nil _)))) ?_
        refine KA.seq ?_
        refine KA.seq ?_
        refine KA.region rfl ?_
        refine KOps.assign ?_
        refine KOps.done ?_
        refine sqQ.normal ?_
        refine KA.block ?_
        refine KA.loop (X := Nat × AV) (fun x => [(1, .str (wd l)), (7, x.2), (8, v35), (9, .int .i64 (x.1 : Int))]) (fun x h' => x.1 ≤ (allW a).length ∧ St h h' [⟨x.2, 1, wcs (((allW a).take x.1).filter (fun x => decide (x = l) || isDel x l || isDel l x)), true⟩, ⟨v35, 1, wcs (allW a), true⟩]) (fun x => (allW a).length - x.1) (0, .nils) (by repeat (first | exact Sub.nil _ | refine Sub.cons Look.eq ?_ | refine Sub.cons (Eq.trans Look.eq (congrArg (AV.int _) (by first | omega | (dsimp only; omega)))) ?_)) ?_ ?_
        · exact ⟨Nat.zero_le _, hS.nil 1⟩
        rintro ⟨i, vo⟩ h3 ⟨hi, hS⟩
        dsimp only at hi hS ⊢
        have hsm := allW_small (n := a) (by omega)
        have hfl := filt_len (allW a) (fun x => decide (x = l) || isDel x l || isDel l x) i
        have hwl := @allW_mem (a) i
        refine KA.seq ?_
        refine KA.seq ?_
        refine KA.region rfl ?_
        refine KOps.move ?_
        refine KOps.move ?_
        refine KOps.lenI (hS.rd 1 rfl) ?_
        refine KOps.lss ?_
        refine KOps.done ?_
        refine sqQ.normal ?_
        refine KA.sub (Sub.cons (t := 1) Look.eq (Sub.cons (t := 7) Look.eq (Sub.cons (t := 8) Look.eq (Sub.cons (t := 9) Look.eq (Sub.cons (t := 39) Look.eq (Sub.nil _)))))) ?_
        refine KA.condD ?_ ?_
        · intro c39
          refine KA.skip ?_
          refine sqQ.normal ?_
          refine KA.sub (Sub.cons (t := 1) Look.eq (Sub.cons (t := 7) Look.eq (Sub.cons (t := 8) Look.eq (Sub.cons (t := 9) Look.eq (Sub.nil _))))) ?_
          refine KA.seq ?_
          refine KA.block ?_
          refine KA.seq ?_
          refine KA.region rfl ?_
          have hwl := hwl (by omega)
          refine KOps.move ?_
          refine KOps.move ?_
          refine KOps.indexIJ (hS.rd 1 rfl) (j := i) rfl (by first | omega | (simp; omega)) ?_
          intro p44 hp44
          refine KOps.loadW hp44 (hS.rd 1 rfl) (by first | omega | (simp; omega)) ?_
          refine KOps.move ?_
          refine KOps.wEql ?_
          refine KOps.move ?_
          refine KOps.guardB (dj := 48) rfl rfl false true rfl ?_ ?_
          · intro g48
            have g48 := of_decide_eq_false g48
            refine KOps.move ?_
            refine KOps.guardYes (dj := 48) rfl rfl ?_
            refine KOps.move ?_
            refine KOps.guardYes (dj := 48) rfl rfl ?_
            refine KOps.indexIJ (hS.rd 1 rfl) (j := i) rfl (by first | omega | (simp; omega)) ?_
            intro p51 hp51
            refine KOps.guardYes (dj := 48) rfl rfl ?_
            refine KOps.loadW hp51 (hS.rd 1 rfl) (by first | omega | (simp; omega)) ?_
            refine KOps.guardYes (dj := 48) rfl rfl ?_
            refine KOps.move ?_
            refine KOps.guardYes (dj := 48) rfl rfl ?_
            refine KOps.call rfl (short_c (by omega)) ?_
            rintro _ _ ⟨rfl, rfl⟩
            refine KOps.pickF ?_
            refine KOps.move ?_
            refine KOps.guardB (dj := 56) rfl rfl false true rfl ?_ ?_
            · intro g56
              refine KOps.move ?_
              refine KOps.guardYes (dj := 56) rfl rfl ?_
              refine KOps.move ?_
              refine KOps.guardYes (dj := 56) rfl rfl ?_
              refine KOps.move ?_
              refine KOps.guardYes (dj := 56) rfl rfl ?_
              refine KOps.indexIJ (hS.rd 1 rfl) (j := i) rfl (by first | omega | (simp; omega)) ?_
              intro p60 hp60
              refine KOps.guardYes (dj := 56) rfl rfl ?_
              refine KOps.loadW hp60 (hS.rd 1 rfl) (by first | omega | (simp; omega)) ?_
              refine KOps.guardYes (dj := 56) rfl rfl ?_
              refine KOps.call rfl (short_c (by omega)) ?_
              rintro _ _ ⟨rfl, rfl⟩
              refine KOps.pickF ?_
              refine KOps.done ?_
              refine sqQ.normal ?_
              refine KA.sub (Sub.cons (t := 1) Look.eq (Sub.cons (t := 7) Look.eq (Sub.cons (t := 8) Look.eq (Sub.cons (t := 9) Look.eq (Sub.cons (t := 49) Look.eq (Sub.cons (t := 50) Look.eq (Sub.cons (t := 51) Look.eq (Sub.cons (t := 52) Look.eq (Sub.cons (t := 53) Look.eq (Sub.cons (t := 54) Look.eq (Sub.cons (t := 57) Look.eq (Sub.cons (t := 58) Look.eq (Sub.cons (t := 59) Look.eq (Sub.cons (t := 60) Look.eq (Sub.cons (t := 61) Look.eq (Sub.cons (t := 62) Look.eq (Sub.cons (t := 63) Look.eq (Sub.nil _)))))))))))))))))) ?_
              refine KA.condB ?_ ?_
              · intro c63
                refine KA.region rfl ?_
                refine KOps.move ?_
                refine KOps.move ?_
                refine KOps.move ?_
                refine KOps.indexIJ (hS.rd 1 rfl) (j := i) rfl (by first | omega | (simp; omega)) ?_
                intro p67 hp67
                refine KOps.loadW hp67 (hS.rd 1 rfl) (by first | omega | (simp; omega)) ?_
                refine KOps.buildSlice hS rfl (by decide) rfl ?_
                intro v69 h' hS
                refine KOps.appendW1 hS (fun _ => rfl) (i := 0) rfl (by first | omega | (simp; omega)) ?_
                intro r70 h' hr70 hS
                refine KOps.assign ?_
                refine KOps.done ?_
                refine blQ.normal ?_
                refine sqQ.normal ?_
                refine KA.sub (Sub.cons (t := 1) Look.eq (Sub.cons (t := 7) Look.eq (Sub.cons (t := 8) Look.eq (Sub.cons (t := 9) Look.eq (Sub.cons (t := 49) Look.eq (Sub.cons (t := 50) Look.eq (Sub.cons (t := 51) Look.eq (Sub.cons (t := 52) Look.eq (Sub.cons (t := 53) Look.eq (Sub.cons (t := 54) Look.eq (Sub.cons (t := 57) Look.eq (Sub.cons (t := 58) Look.eq (Sub.cons (t := 59) Look.eq (Sub.cons (t := 60) Look.eq (Sub.cons (t := 61) Look.eq (Sub.cons (t := 62) Look.eq (Sub.nil _))))))))))))))))) ?_
                refine KA.region rfl ?_
                refine KOps.move ?_
                refine KOps.add (by first | omega | (simp; omega)) (by first | omega | (simp; omega)) ?_
                refine KOps.assign ?_
                refine KOps.done ?_
                rw [← filt_yes (p := (fun x => decide (x = l) || isDel x l || isDel l x)) (by omega) (by rw [Bool.or_eq_true]; exact Or.inr c63)] at hS
                exact lpQ.normal (i + 1, _) (by repeat (first | exact Sub.nil _ | refine Sub.cons Look.eq ?_ | refine Sub.cons (Eq.trans Look.eq (congrArg (AV.int _) (by first | omega | (dsimp only; omega)))) ?_)) ⟨by dsimp only; omega, hS⟩ (by dsimp only; omega)
              · intro c63
                refine KA.skip ?_
                refine blQ.normal ?_
                refine sqQ.normal ?_
                refine KA.sub (Sub.cons (t := 1) Look.eq (Sub.cons (t := 7) Look.eq (Sub.cons (t := 8) Look.eq (Sub.cons (t := 9) Look.eq (Sub.cons (t := 49) Look.eq (Sub.cons (t := 50) Look.eq (Sub.cons (t := 51) Look.eq (Sub.cons (t := 52) Look.eq (Sub.cons (t := 53) Look.eq (Sub.cons (t := 54) Look.eq (Sub.cons (t := 57) Look.eq (Sub.cons (t := 58) Look.eq (Sub.cons (t := 59) Look.eq (Sub.cons (t := 60) Look.eq (Sub.cons (t := 61) Look.eq (Sub.cons (t := 62) Look.eq (Sub.nil _))))))))))))))))) ?_
                refine KA.region rfl ?_
                refine KOps.move ?_
                refine KOps.add (by first | omega | (simp; omega)) (by first | omega | (simp; omega)) ?_
                refine KOps.assign ?_
                refine KOps.done ?_
                rw [← filt_no (p := (fun x => decide (x = l) || isDel x l || isDel l x)) (by omega) (by rw [decide_eq_false g48, g56, c63]; decide)] at hS
                exact lpQ.normal (i + 1, _) (by repeat (first | exact Sub.nil _ | refine Sub.cons Look.eq ?_ | refine Sub.cons (Eq.trans Look.eq (congrArg (AV.int _) (by first | omega | (dsimp only; omega)))) ?_)) ⟨by dsimp only; omega, hS⟩ (by dsimp only; omega)
            · intro g56
              refine KOps.guardNo (dj := 56) rfl rfl rfl ?_
              refine KOps.guardNo (dj := 56) rfl rfl rfl ?_
              refine KOps.guardNo (dj := 56) rfl rfl rfl ?_
              refine KOps.guardNo (dj := 56) rfl rfl rfl ?_
              refine KOps.guardNo (dj := 56) rfl rfl rfl ?_
              refine KOps.pickT ?_
              refine KOps.done ?_
              refine sqQ.normal ?_
              refine KA.sub (Sub.cons (t := 1) Look.eq (Sub.cons (t := 7) Look.eq (Sub.cons (t := 8) Look.eq (Sub.cons (t := 9) Look.eq (Sub.cons (t := 49) Look.eq (Sub.cons (t := 50) Look.eq (Sub.cons (t := 51) Look.eq (Sub.cons (t := 52) Look.eq (Sub.cons (t := 53) Look.eq (Sub.cons (t := 54) Look.eq (Sub.cons (t := 57) Look.eq (Sub.cons (t := 58) Look.eq (Sub.cons (t := 59) Look.eq (Sub.cons (t := 60) Look.eq (Sub.cons (t := 61) Look.eq (Sub.cons (t := 62) Look.eq (Sub.cons (t := 63) Look.eq (Sub.nil _)))))))))))))))))) ?_
              refine KA.condT ?_
              refine KA.region rfl ?_
              refine KOps.move ?_
              refine KOps.move ?_
              refine KOps.move ?_
              refine KOps.indexIJ (hS.rd 1 rfl) (j := i) rfl (by first | omega | (simp; omega)) ?_
              intro p67 hp67
              refine KOps.loadW hp67 (hS.rd 1 rfl) (by first | omega | (simp; omega)) ?_
              refine KOps.buildSlice hS rfl (by decide) rfl ?_
              intro v69 h' hS
              refine KOps.appendW1 hS (fun _ => rfl) (i := 0) rfl (by first | omega | (simp; omega)) ?_
              intro r70 h' hr70 hS
              refine KOps.assign ?_
              refine KOps.done ?_
              refine blQ.normal ?_
              refine sqQ.normal ?_
              refine KA.sub (Sub.cons (t := 1) Look.eq (Sub.cons (t := 7) Look.eq (Sub.cons (t := 8) Look.eq (Sub.cons (t := 9) Look.eq (Sub.cons (t := 49) Look.eq (Sub.cons (t := 50) Look.eq (Sub.cons (t := 51) Look.eq (Sub.cons (t := 52) Look.eq (Sub.cons (t := 53) Look.eq (Sub.cons (t := 54) Look.eq (Sub.cons (t := 57) Look.eq (Sub.cons (t := 58) Look.eq (Sub.cons (t := 59) Look.eq (Sub.cons (t := 60) Look.eq (Sub.cons (t := 61) Look.eq (Sub.cons (t := 62) Look.eq (Sub.nil _))))))))))))))))) ?_
              refine KA.region rfl ?_
              refine KOps.move ?_
              refine KOps.add (by first | omega | (simp; omega)) (by first | omega | (simp; omega)) ?_
              refine KOps.assign ?_
              refine KOps.done ?_
              rw [← filt_yes (p := (fun x => decide (x = l) || isDel x l || isDel l x)) (by omega) (by rw [Bool.or_eq_true, Bool.or_eq_true]; exact Or.inl (Or.inr g56))] at hS
              exact lpQ.normal (i + 1, _) (by repeat (first | exact Sub.nil _ | refine Sub.cons Look.eq ?_ | refine Sub.cons (Eq.trans Look.eq (congrArg (AV.int _) (by first | omega | (dsimp only; omega)))) ?_)) ⟨by dsimp only; omega, hS⟩ (by dsimp only; omega)
          · intro g48
            have g48 := of_decide_eq_true g48
            refine KOps.guardNo (dj := 48) rfl rfl rfl ?_
            refine KOps.guardNo (dj := 48) rfl rfl rfl ?_
            refine KOps.guardNo (dj := 48) rfl rfl rfl ?_
            refine KOps.guardNo (dj := 48) rfl rfl rfl ?_
            refine KOps.guardNo (dj := 48) rfl rfl rfl ?_
            refine KOps.pickT ?_
            refine KOps.move ?_
            refine KOps.guardNo (dj := 56) rfl rfl rfl ?_
            refine KOps.guardNo (dj := 56) rfl rfl rfl ?_
            refine KOps.guardNo (dj := 56) rfl rfl rfl ?_
            refine KOps.guardNo (dj := 56) rfl rfl rfl ?_
            refine KOps.guardNo (dj := 56) rfl rfl rfl ?_
            refine KOps.guardNo (dj := 56) rfl rfl rfl ?_
            refine KOps.pickT ?_
            refine KOps.done ?_
            refine sqQ.normal ?_
            refine KA.sub (Sub.cons (t := 1) Look.eq (Sub.cons (t := 7) Look.eq (Sub.cons (t := 8) Look.eq (Sub.cons (t := 9) Look.eq (Sub.cons (t := 49) Look.eq (Sub.cons (t := 50) Look.eq (Sub.cons (t := 51) Look.eq (Sub.cons (t := 52) Look.eq (Sub.cons (t := 53) Look.eq (Sub.cons (t := 54) Look.eq (Sub.cons (t := 57) Look.eq (Sub.cons (t := 58) Look.eq (Sub.cons (t := 59) Look.eq (Sub.cons (t := 60) Look.eq (Sub.cons (t := 61) Look.eq (Sub.cons (t := 62) Look.eq (Sub.cons (t := 63) Look.eq (Sub.nil _)))))))))))))))))) ?_
            refine KA.condT ?_
            refine KA.region rfl ?_
            refine KOps.move ?_
            refine KOps.move ?_
            refine KOps.move ?_
            refine KOps.indexIJ (hS.rd 1 rfl) (j := i) rfl (by first | omega | (simp; omega)) ?_
            intro p67 hp67
            refine KOps.loadW hp67 (hS.rd 1 rfl) (by first | omega | (simp; omega)) ?_
            refine KOps.buildSlice hS rfl (by decide) rfl ?_
            intro v69 h' hS
            refine KOps.appendW1 hS (fun _ => rfl) (i := 0) rfl (by first | omega | (simp; omega)) ?_
            intro r70 h' hr70 hS
            refine KOps.assign ?_
            refine KOps.done ?_
            refine blQ.normal ?_
            refine sqQ.normal ?_
            refine KA.sub (Sub.cons (t := 1) Look.eq (Sub.cons (t := 7) Look.eq (Sub.cons (t := 8) Look.eq (Sub.cons (t := 9) Look.eq (Sub.cons (t := 49) Look.eq (Sub.cons (t := 50) Look.eq (Sub.cons (t := 51) Look.eq (Sub.cons (t := 52) Look.eq (Sub.cons (t := 53) Look.eq (Sub.cons (t := 54) Look.eq (Sub.cons (t := 57) Look.eq (Sub.cons (t := 58) Look.eq (Sub.cons (t := 59) Look.eq (Sub.cons (t := 60) Look.eq (Sub.cons (t := 61) Look.eq (Sub.cons (t := 62) Look.eq (Sub.nil _))))))))))))))))) ?_
            refine KA.region rfl ?_
            refine KOps.move ?_
            refine KOps.add (by first | omega | (simp; omega)) (by first | omega | (simp; omega)) ?_
            refine KOps.assign ?_
            refine KOps.done ?_
            rw [← filt_yes (p := (fun x => decide (x = l) || isDel x l || isDel l x)) (by omega) (by rw [Bool.or_eq_true, Bool.or_eq_true]; exact Or.inl (Or.inl (decide_eq_true g48)))] at hS
            exact lpQ.normal (i + 1, _) (by repeat (first | exact Sub.nil _ | refine Sub.cons Look.eq ?_ | refine Sub.cons (Eq.trans Look.eq (congrArg (AV.int _) (by first | omega | (dsimp only; omega)))) ?_)) ⟨by dsimp only; omega, hS⟩ (by dsimp only; omega)
        · intro c39
          refine KA.exit ?_
          refine sqQ.exit ?_
          refine lpQ.exit ?_
          refine blQ.here ?_
          refine sqQ.normal ?_
          refine KA.sub (Sub.cons (t := 7) Look.eq (Sub.nil _)) ?_
          refine KA.seq ?_
          refine KA.region rfl ?_
          refine KOps.move ?_
          refine KOps.assign ?_
          refine KOps.assign ?_
          refine KOps.done ?_
          refine sqQ.normal ?_
          refine KA.sub (Sub.cons (t := 4) Look.eq (Sub.cons (t := 5) Look.eq (Sub.nil _))) ?_
          refine KA.ret ?_
          refine fnQ.retN ?_
          have he : i = (allW a).length := by omega
          subst he
          rw [List.take_length] at hS
          refine ⟨_, by rw [c32], ?_⟩
          rw [hcs]
          exact St.pick [0] (by decide) rfl hS

theorem restR_c {h : AHeap} {n k : Int} {s : ByteArray} : ACalls Go.Proofs.Tryd.prog 30 [.int .i64 n, .int .i64 k, .str s] h (fun q h' => q = .tup [.str (wd (restS n k s)), .int .i64 (restE n k s)] ∧ Keeps h h') := by
  refine KA.fn 45 [.tmp 6, .tmp 7] Go.Proofs.Tryd.func30 rfl (by decide) rfl rfl (Nat.le_of_ble_eq_true rfl) ?_
  have hS := St.refl h
  show KA _ 45 _ _ [(0, .int .i64 n), (1, .int .i64 k), (2, .str s)] _
  refine KA.seq ?_
  refine KA.region rfl ?_
  refine KOps.assign ?_
  refine KOps.assign ?_
  refine KOps.done ?_
  refine sqQ.normal ?_
  refine KA.sub (Sub.cons (t := 0) Look.eq (Sub.cons (t := 1) Look.eq (Sub.cons (t := 2) Look.eq (Sub.nil _)))) ?_
  refine KA.seq ?_
  refine KA.region rfl ?_
  refine KOps.move ?_
  refine KOps.move ?_
  refine KOps.call rfl (cutR_c) ?_
  rintro _ h14 ⟨v14, rfl, hS14⟩
  have hS0 : St _ _ (_ :: _) := St.trans hS hS14
  clear hS
  have hS := hS0
  clear hS0
  refine KOps.move ?_
  refine KOps.extract ?_
  refine KOps.extract ?_
  refine KOps.assign ?_
  refine KOps.assign ?_
  refine KOps.done ?_
  refine sqQ.normal ?_
  refine KA.sub (Sub.cons (t := 0) Look.eq (Sub.cons (t := 1) Look.eq (Sub.cons (t := 8) Look.eq (Sub.cons (t := 9) Look.eq (Sub.nil _))))) ?_
  refine KA.meet (X := AV × Int) (fun x => [(1, .int .i64 k), (8, x.1), (9, .int .i64 x.2)]) (fun x h' => x.2 = restE1 n k s ∧ St h h' [⟨x.1, 1, wcs (cutS n s), true⟩]) ?_ ?_
  ·
    refine KA.seq ?_
    refine KA.region rfl ?_
    refine KOps.move ?_
    refine KOps.eql ?_
    refine KOps.move ?_
    refine KOps.guardB (dj := 19) rfl rfl true false rfl ?_ ?_
    · intro g19
      have g19 := of_decide_eq_true g19
      rw [g19]
      refine KOps.move ?_
      refine KOps.guardYes (dj := 19) rfl rfl ?_
      refine KOps.move ?_
      refine KOps.guardYes (dj := 19) rfl rfl ?_
      refine KOps.call rfl (is_c) ?_
      rintro _ _ ⟨rfl, rfl⟩
      refine KOps.guardYes (dj := 19) rfl rfl ?_
      refine KOps.not ?_
      refine KOps.pickT ?_
      refine KOps.done ?_
      refine sqQ.normal ?_
      refine KA.sub (Sub.cons (t := 1) Look.eq (Sub.cons (t := 8) Look.eq (Sub.cons (t := 9) Look.eq (Sub.cons (t := 24) Look.eq (Sub.nil _))))) ?_
      refine KA.condN ?_ ?_
      · intro c24
        refine KA.region rfl ?_
        refine KOps.assign ?_
        refine KOps.done ?_
        exact mtQ.normal (_, 1) (by repeat (first | exact Sub.nil _ | refine Sub.cons Look.eq ?_ | refine Sub.cons (Eq.trans Look.eq (congrArg (AV.int _) (by first | omega | (dsimp only; omega)))) ?_)) ⟨by dsimp only; rw [restE1, if_pos g19, if_neg (by omega)], hS⟩
      · intro c24
        refine KA.skip ?_
        exact mtQ.normal (_, 0) (by repeat (first | exact Sub.nil _ | refine Sub.cons Look.eq ?_ | refine Sub.cons (Eq.trans Look.eq (congrArg (AV.int _) (by first | omega | (dsimp only; omega)))) ?_)) ⟨by dsimp only; rw [restE1, if_pos g19, if_pos (by omega)], hS⟩
    · intro g19
      have g19 := of_decide_eq_false g19
      refine KOps.guardNo (dj := 19) rfl rfl rfl ?_
      refine KOps.guardNo (dj := 19) rfl rfl rfl ?_
      refine KOps.guardNo (dj := 19) rfl rfl rfl ?_
      refine KOps.pickF ?_
      refine KOps.done ?_
      refine sqQ.normal ?_
      refine KA.sub (Sub.cons (t := 1) Look.eq (Sub.cons (t := 8) Look.eq (Sub.cons (t := 9) Look.eq (Sub.cons (t := 24) Look.eq (Sub.nil _))))) ?_
      refine KA.condF ?_
      refine KA.skip ?_
      exact mtQ.normal (_, askE n s) (by repeat (first | exact Sub.nil _ | refine Sub.cons Look.eq ?_ | refine Sub.cons (Eq.trans Look.eq (congrArg (AV.int _) (by first | omega | (dsimp only; omega)))) ?_)) ⟨by dsimp only; rw [restE1, if_neg g19], hS⟩
  ·
    rintro ⟨v8, e⟩ h2 ⟨he, hS⟩
    dsimp only at he hS ⊢
    subst he
    refine KA.seq ?_
    refine KA.seq ?_
    refine KA.region rfl ?_
    refine KOps.move ?_
    refine KOps.neq ?_
    refine KOps.done ?_
    refine sqQ.normal ?_
    refine KA.sub (Sub.cons (t := 1) Look.eq (Sub.cons (t := 8) Look.eq (Sub.cons (t := 9) Look.eq (Sub.cons (t := 26) Look.eq (Sub.nil _))))) ?_
    refine KA.condN ?_ ?_
    · intro c26
      refine KA.seq ?_
      refine KA.region rfl ?_
      refine KOps.move ?_
      refine KOps.assign ?_
      refine KOps.assign ?_
      refine KOps.done ?_
      refine sqQ.normal ?_
      refine KA.sub (Sub.cons (t := 6) Look.eq (Sub.cons (t := 7) Look.eq (Sub.nil _))) ?_
      refine KA.ret ?_
      refine sqQ.ret ?_
      refine fnQ.retN ?_
      exact ⟨by rw [(restE1_ne c26).1, (restE1_ne c26).2], hS.keeps⟩
    · intro c26
      obtain ⟨hz1, hz2, hz3⟩ := restE1_zero c26
      obtain ⟨a, l, rfl, rfl, ha, hl, h1, h2⟩ := askE_zero hz1
      obtain ⟨b, rfl⟩ : ∃ b : Nat, k = (b : Int) := ⟨k.toNat, by omega⟩
      rw [cutS_wd hz1] at hS
      have hcl := cutW_len a l
      have hpw : 2 ^ a ≤ 2 ^ 10 := Nat.pow_le_pow_right (by decide) ha
      refine KA.skip ?_
      refine sqQ.normal ?_
      refine KA.sub (Sub.cons (t := 1) Look.eq (Sub.cons (t := 8) Look.eq (Sub.nil _))) ?_
      refine KA.seq ?_
      refine KA.seq ?_
      refine KA.region rfl ?_
      refine KOps.assign ?_
      refine KOps.done ?_
      refine sqQ.normal ?_
      refine KA.block ?_
      refine KA.loop (X := Nat) (fun i => [(1, .int .i64 (b : Int)), (8, v8), (10, .int .i64 (i : Int))]) (fun i h' => i ≤ (cutW a l).length ∧ (∀ j, j < i → ¬ decide (cls ((cutW a l).getD j []) = b) = true) ∧ St h h' [⟨v8, 1, wcs (cutW a l), true⟩]) (fun i => (cutW a l).length - i) 0 (by repeat (first | exact Sub.nil _ | refine Sub.cons Look.eq ?_ | refine Sub.cons (Eq.trans Look.eq (congrArg (AV.int _) (by first | omega | (dsimp only; omega)))) ?_)) ?_ ?_
      · exact ⟨Nat.zero_le _, fun j hj => absurd hj (Nat.not_lt_zero _), hS⟩
      rintro i h3 ⟨hi, hno, hS⟩
      have hwl := @cutW_mem a i l
      refine KA.seq ?_
      refine KA.seq ?_
      refine KA.region rfl ?_
      refine KOps.move ?_
      refine KOps.move ?_
      refine KOps.lenI (hS.rd 0 rfl) ?_
      refine KOps.lss ?_
      refine KOps.done ?_
      refine sqQ.normal ?_
      refine KA.sub (Sub.cons (t := 1) Look.eq (Sub.cons (t := 8) Look.eq (Sub.cons (t := 10) Look.eq (Sub.cons (t := 31) Look.eq (Sub.nil _))))) ?_
      refine KA.condD ?_ ?_
      · intro c31
        refine KA.skip ?_
        refine sqQ.normal ?_
        refine KA.sub (Sub.cons (t := 1) Look.eq (Sub.cons (t := 8) Look.eq (Sub.cons (t := 10) Look.eq (Sub.nil _)))) ?_
        refine KA.seq ?_
        refine KA.block ?_
        refine KA.seq ?_
        refine KA.region rfl ?_
        refine KOps.move ?_
        refine KOps.move ?_
        refine KOps.indexIJ (hS.rd 0 rfl) (j := i) rfl (by first | omega | (simp; omega)) ?_
        intro p36 hp36
        refine KOps.loadW hp36 (hS.rd 0 rfl) (by first | omega | (simp; omega)) ?_
        refine KOps.call rfl (class_c (by omega)) ?_
        rintro _ _ ⟨rfl, rfl⟩
        refine KOps.move ?_
        refine KOps.eql ?_
        refine KOps.done ?_
        refine sqQ.normal ?_
        refine KA.sub (Sub.cons (t := 1) Look.eq (Sub.cons (t := 8) Look.eq (Sub.cons (t := 10) Look.eq (Sub.cons (t := 40) Look.eq (Sub.nil _))))) ?_
        refine KA.condD ?_ ?_
        · intro c40
          refine KA.seq ?_
          refine KA.region rfl ?_
          refine KOps.move ?_
          refine KOps.move ?_
          refine KOps.indexIJ (hS.rd 0 rfl) (j := i) rfl (by first | omega | (simp; omega)) ?_
          intro p43 hp43
          refine KOps.loadW hp43 (hS.rd 0 rfl) (by first | omega | (simp; omega)) ?_
          refine KOps.assign ?_
          refine KOps.assign ?_
          refine KOps.done ?_
          refine sqQ.normal ?_
          refine KA.sub (Sub.cons (t := 6) Look.eq (Sub.cons (t := 7) Look.eq (Sub.nil _))) ?_
          refine KA.ret ?_
          refine blQ.ret ?_
          refine sqQ.ret ?_
          refine lpQ.ret ?_
          refine blQ.ret ?_
          refine sqQ.ret ?_
          refine fnQ.retN ?_
          have hf := rest_some hz1 (by omega) (find_take (p := fun x => decide (cls x = b)) (by omega) hno (decide_eq_true (by omega)))
          exact ⟨by rw [hf.1, hf.2], hS.keeps⟩
        · intro c40
          refine KA.skip ?_
          refine blQ.normal ?_
          refine sqQ.normal ?_
          refine KA.sub (Sub.cons (t := 1) Look.eq (Sub.cons (t := 8) Look.eq (Sub.cons (t := 10) Look.eq (Sub.nil _)))) ?_
          refine KA.region rfl ?_
          refine KOps.move ?_
          refine KOps.add (by first | omega | (simp; omega)) (by first | omega | (simp; omega)) ?_
          refine KOps.assign ?_
          refine KOps.done ?_
          exact lpQ.normal (i + 1) (by repeat (first | exact Sub.nil _ | refine Sub.cons Look.eq ?_ | refine Sub.cons (Eq.trans Look.eq (congrArg (AV.int _) (by first | omega | (dsimp only; omega)))) ?_)) ⟨by omega, fun j hj => by
            rcases Nat.lt_succ_iff_lt_or_eq.1 hj with h | rfl
            · exact hno j h
            · rw [decide_eq_false (by omega)]; decide, hS⟩ (by omega)
      · intro c31
        refine KA.exit ?_
        refine sqQ.exit ?_
        refine lpQ.exit ?_
        refine blQ.here ?_
        refine sqQ.normal ?_
        refine KA.sub (Sub.nil _) ?_
        refine KA.seq ?_
        refine KA.region rfl ?_
        refine KOps.assign ?_
        refine KOps.assign ?_
        refine KOps.done ?_
        refine sqQ.normal ?_
        refine KA.ret ?_
        refine fnQ.retN ?_
        have hf := rest_none (b := b) hz1 (by omega) (find_none (p := fun x => decide (cls x = b)) (fun j hj => hno j (by omega)))
        exact ⟨by rw [hf.1, hf.2], hS.keeps⟩

theorem shorter_c {h : AHeap} {l : List Bool} {b : Nat} (hl : l.length ≤ 10) : ACalls Go.Proofs.Tryd.prog 60 [.str (wd l), .int .i64 (b : Int)] h (fun q h' => q = .tup [.str (wd (((shortW l).find? fun x => decide (cls x = b)).getD [])), .int .i64 (if ((shortW l).find? fun x => decide (cls x = b)).isSome = true then 0 else 12)] ∧ Keeps h h') := by
  refine KA.fn 25 [.tmp 4, .tmp 5] Go.Proofs.Tryd.func60 rfl (by decide) rfl rfl (Nat.le_of_ble_eq_true rfl) ?_
  have hS := St.refl h
  have hcl := shortW_len l
  have hpw : 2 ^ (l.length - 1) ≤ 2 ^ 10 := Nat.pow_le_pow_right (by decide) (by omega)
  show KA _ 25 _ _ [(0, .str (wd l)), (1, .int .i64 (b : Int))] _
  refine KA.seq ?_
  refine KA.region rfl ?_
  refine KOps.assign ?_
  refine KOps.assign ?_
  refine KOps.done ?_
  refine sqQ.normal ?_
  refine KA.sub (Sub.cons (t := 0) Look.eq (Sub.cons (t := 1) Look.eq (Sub.nil _))) ?_
  refine KA.seq ?_
  refine KA.seq ?_
  refine KA.region rfl ?_
  refine KOps.move ?_
  refine KOps.call rfl (less_w (by omega)) ?_
  rintro v9 h9 hS9
  have hS0 : St _ _ (_ :: _) := St.trans hS hS9
  clear hS
  have hS := hS0
  clear hS0
  refine KOps.lenI (hS.rd 0 rfl) ?_
  refine KOps.move ?_
  refine KOps.done ?_
  refine sqQ.normal ?_
  refine KA.sub (Sub.cons (t := 1) Look.eq (Sub.cons (t := 9) Look.eq (Sub.cons (t := 10) Look.eq (Sub.cons (t := 11) Look.eq (Sub.nil _))))) ?_
  refine KA.block ?_
  refine KA.loop (X := Nat) (fun i => [(1, .int .i64 (b : Int)), (9, v9), (10, .int .i64 ((shortW l).length : Int)), (11, .int .i64 (i : Int))]) (fun i h' => i ≤ (shortW l).length ∧ (∀ j, j < i → ¬ decide (cls ((shortW l).getD j []) = b) = true) ∧ St h h' [⟨v9, 1, wcs (shortW l), true⟩]) (fun i => (shortW l).length - i) 0 (by repeat (first | exact Sub.nil _ | refine Sub.cons Look.eq ?_ | refine Sub.cons (Eq.trans Look.eq (congrArg (AV.int _) (by first | omega | (dsimp only; omega)))) ?_)) ?_ ?_
  · exact ⟨Nat.zero_le _, fun j hj => absurd hj (Nat.not_lt_zero _), hS⟩
  rintro i h3 ⟨hi, hno, hS⟩
  have hwl := @shortW_get i l
  refine KA.seq ?_
  refine KA.region rfl ?_
  refine KOps.lss ?_
  refine KOps.done ?_
  refine sqQ.normal ?_
  refine KA.seq ?_
  refine KA.condD ?_ ?_
  · intro c12
    refine KA.skip ?_
    refine sqQ.normal ?_
    refine KA.sub (Sub.cons (t := 1) Look.eq (Sub.cons (t := 9) Look.eq (Sub.cons (t := 10) Look.eq (Sub.cons (t := 11) Look.eq (Sub.nil _))))) ?_
    refine KA.seq ?_
    refine KA.block ?_
    refine KA.seq ?_
    refine KA.region rfl ?_
    refine KOps.indexIJ (hS.rd 0 rfl) (j := i) rfl (by first | omega | (simp; omega)) ?_
    intro p13 hp13
    refine KOps.loadW hp13 (hS.rd 0 rfl) (by first | omega | (simp; omega)) ?_
    refine KOps.assign ?_
    refine KOps.done ?_
    refine sqQ.normal ?_
    refine KA.sub (Sub.cons (t := 1) Look.eq (Sub.cons (t := 7) Look.eq (Sub.cons (t := 9) Look.eq (Sub.cons (t := 10) Look.eq (Sub.cons (t := 11) Look.eq (Sub.nil _)))))) ?_
    refine KA.seq ?_
    refine KA.region rfl ?_
    have hwl := hwl (by omega)
    have hsm := wtTo_small ((shortW l).getD i []) (k := ((shortW l).getD i []).length) (by omega)
    refine KOps.move ?_
    refine KOps.call rfl (heavyF_c (by omega)) ?_
    rintro _ _ ⟨rfl, rfl⟩
    refine KOps.move ?_
    refine KOps.lenW ?_
    refine KOps.add (by first | omega | (simp; omega)) (by first | omega | (simp; omega)) ?_
    refine KOps.remN (i := wtTo ((shortW l).getD i []) ((shortW l).getD i []).length) (j := ((shortW l).getD i []).length + 1) (by first | rfl | omega | (simp; done)) (by first | rfl | omega | (simp; omega)) (by omega) (by omega) ?_
    refine KOps.move ?_
    refine KOps.eql ?_
    refine KOps.done ?_
    refine sqQ.normal ?_
    refine KA.sub (Sub.cons (t := 1) Look.eq (Sub.cons (t := 7) Look.eq (Sub.cons (t := 9) Look.eq (Sub.cons (t := 10) Look.eq (Sub.cons (t := 11) Look.eq (Sub.cons (t := 22) Look.eq (Sub.nil _))))))) ?_
    refine KA.condD ?_ ?_
    · intro c22
      refine KA.seq ?_
      refine KA.region rfl ?_
      refine KOps.move ?_
      refine KOps.assign ?_
      refine KOps.assign ?_
      refine KOps.done ?_
      refine sqQ.normal ?_
      refine KA.sub (Sub.cons (t := 4) Look.eq (Sub.cons (t := 5) Look.eq (Sub.nil _))) ?_
      refine KA.ret ?_
      refine blQ.ret ?_
      refine sqQ.ret ?_
      refine lpQ.ret ?_
      refine blQ.ret ?_
      refine sqQ.ret ?_
      refine fnQ.retN ?_
      have hf := find_take (p := fun x => decide (cls x = b)) (by omega : i < (shortW l).length) hno (decide_eq_true (show cls ((shortW l).getD i []) = b from Int.natCast_inj.1 c22))
      exact ⟨by rw [hf]; rfl, hS.keeps⟩
    · intro c22
      refine KA.skip ?_
      refine blQ.normal ?_
      refine sqQ.normal ?_
      refine KA.sub (Sub.cons (t := 1) Look.eq (Sub.cons (t := 9) Look.eq (Sub.cons (t := 10) Look.eq (Sub.cons (t := 11) Look.eq (Sub.nil _))))) ?_
      refine KA.region rfl ?_
      refine KOps.add (by first | omega | (simp; omega)) (by first | omega | (simp; omega)) ?_
      refine KOps.move ?_
      refine KOps.done ?_
      exact lpQ.normal (i + 1) (by repeat (first | exact Sub.nil _ | refine Sub.cons Look.eq ?_ | refine Sub.cons (Eq.trans Look.eq (congrArg (AV.int _) (by first | omega | (dsimp only; omega)))) ?_)) ⟨by omega, fun j hj => by
        rcases Nat.lt_succ_iff_lt_or_eq.1 hj with h | rfl
        · exact hno j h
        · exact fun q => c22 (congrArg (Nat.cast (R := Int)) (of_decide_eq_true q)), hS⟩ (by omega)
  · intro c12
    refine KA.exit ?_
    refine sqQ.exit ?_
    refine lpQ.exit ?_
    refine blQ.here ?_
    refine sqQ.normal ?_
    refine KA.sub (Sub.nil _) ?_
    refine KA.seq ?_
    refine KA.region rfl ?_
    refine KOps.assign ?_
    refine KOps.assign ?_
    refine KOps.done ?_
    refine sqQ.normal ?_
    refine KA.ret ?_
    refine fnQ.retN ?_
    have hf := find_none (l := shortW l) (p := fun x => decide (cls x = b)) (fun j hj => hno j (by omega))
    exact ⟨by rw [hf]; rfl, hS.keeps⟩

theorem before_c {h : AHeap} {l : List Bool} {m : Nat} (hl : l.length ≤ 10) (hm : m ≤ cntTo l l.length) : ACalls Go.Proofs.Tryd.prog 61 [.str (wd l), .int .i32 49, .int .i64 (m : Int)] h (fun q h' => q = .int .i64 ((befTo l l.length m : Nat) : Int) ∧ h = h') := by
  refine KA.fn 23 [.tmp 6] Go.Proofs.Tryd.func61 rfl (by decide) rfl rfl (Nat.le_of_ble_eq_true rfl) ?_
  have hml := Nat.le_trans hm (cntTo_le l l.length)
  show KA _ 23 _ _ [(0, .str (wd l)), (1, .int .i32 49), (2, .int .i64 (m : Int))] _
  refine KA.seq ?_
  refine KA.region rfl ?_
  refine KOps.assign ?_
  refine KOps.done ?_
  refine sqQ.normal ?_
  refine KA.sub (Sub.cons (t := 0) Look.eq (Sub.cons (t := 1) Look.eq (Sub.cons (t := 2) Look.eq (Sub.nil _)))) ?_
  refine KA.seq ?_
  refine KA.region rfl ?_
  refine KOps.move ?_
  refine KOps.lenW ?_
  refine KOps.assign ?_
  refine KOps.done ?_
  refine sqQ.normal ?_
  refine KA.sub (Sub.cons (t := 0) Look.eq (Sub.cons (t := 1) Look.eq (Sub.cons (t := 2) Look.eq (Sub.cons (t := 7) Look.eq (Sub.nil _))))) ?_
  refine KA.seq ?_
  refine KA.block ?_
  refine KA.loop (X := Nat × Nat) (fun x => [(0, .str (wd l)), (1, .int .i32 49), (2, .int .i64 (x.2 : Int)), (7, .int .i64 (x.1 : Int))]) (fun x h' => h = h' ∧ x.1 ≤ l.length ∧ x.2 ≤ m ∧ x.2 ≤ cntTo l x.1 ∧ befTo l x.1 x.2 = befTo l l.length m) (fun x => x.1) (l.length, m) (by repeat (first | exact Sub.nil _ | refine Sub.cons Look.eq ?_ | refine Sub.cons (Eq.trans Look.eq (congrArg (AV.int _) (by first | omega | (dsimp only; omega)))) ?_)) ?_ ?_
  · exact ⟨rfl, Nat.le_refl _, Nat.le_refl _, hm, rfl⟩
  rintro ⟨at_, r⟩ h2 ⟨rfl, h1, hr, h3, h4⟩
  dsimp only at h1 hr h3 h4 ⊢
  refine KA.seq ?_
  refine KA.seq ?_
  refine KA.region rfl ?_
  refine KOps.move ?_
  refine KOps.gtr ?_
  refine KOps.done ?_
  refine sqQ.normal ?_
  refine KA.sub (Sub.cons (t := 0) Look.eq (Sub.cons (t := 1) Look.eq (Sub.cons (t := 2) Look.eq (Sub.cons (t := 7) Look.eq (Sub.cons (t := 11) Look.eq (Sub.nil _)))))) ?_
  refine KA.condD ?_ ?_
  · intro c11
    refine KA.skip ?_
    refine sqQ.normal ?_
    refine KA.sub (Sub.cons (t := 0) Look.eq (Sub.cons (t := 1) Look.eq (Sub.cons (t := 2) Look.eq (Sub.cons (t := 7) Look.eq (Sub.nil _))))) ?_
    refine KA.block ?_
    refine KA.seq ?_
    refine KA.region rfl ?_
    have h5 := cntTo_le l at_
    have hct : cntTo l at_ = cntTo l (at_ - 1) + if l.getD (at_ - 1) false = true then 1 else 0 := by
      obtain ⟨q, rfl⟩ : ∃ q, at_ = q + 1 := ⟨at_ - 1, by omega⟩
      rfl
    have hst : 0 < at_ ∧ (0 < r → befTo l at_ r = befTo l (at_ - 1) (if l.getD (at_ - 1) false = true then r - 1 else r)) := by
      refine ⟨by omega, fun hr0 => ?_⟩
      obtain ⟨q, rfl⟩ : ∃ q, at_ = q + 1 := ⟨at_ - 1, by omega⟩
      rw [befTo, if_neg (by omega)]; rfl
    have hbv := bch_cases (l.getD (at_ - 1) false)
    refine KOps.move ?_
    refine KOps.sub (by first | omega | (simp; omega)) (by first | omega | (simp; omega)) ?_
    refine KOps.assign ?_
    refine KOps.done ?_
    refine sqQ.normal ?_
    refine KA.sub (Sub.cons (t := 0) Look.eq (Sub.cons (t := 1) Look.eq (Sub.cons (t := 2) Look.eq (Sub.cons (t := 7) Look.eq (Sub.nil _))))) ?_
    refine KA.seq ?_
    refine KA.region rfl ?_
    refine KOps.move ?_
    refine KOps.move ?_
    refine KOps.wAt (j := at_ - 1) (by first | omega | (simp; omega)) (by first | omega | (simp; omega)) ?_
    refine KOps.convIn (wrap32 (by omega) (by omega)) ?_
    refine KOps.move ?_
    refine KOps.eql ?_
    refine KOps.done ?_
    refine sqQ.normal ?_
    refine KA.sub (Sub.cons (t := 0) Look.eq (Sub.cons (t := 1) Look.eq (Sub.cons (t := 2) Look.eq (Sub.cons (t := 7) Look.eq (Sub.cons (t := 19) Look.eq (Sub.nil _)))))) ?_
    refine KA.condD ?_ ?_
    · intro c19
      refine KA.region rfl ?_
      refine KOps.move ?_
      refine KOps.sub (by first | omega | (simp; omega)) (by first | omega | (simp; omega)) ?_
      refine KOps.assign ?_
      refine KOps.done ?_
      refine blQ.normal ?_
      exact lpQ.normal (at_ - 1, r - 1) (by repeat (first | exact Sub.nil _ | refine Sub.cons Look.eq ?_ | refine Sub.cons (Eq.trans Look.eq (congrArg (AV.int _) (by first | omega | (dsimp only; omega)))) ?_)) ⟨rfl, by dsimp only; omega, by dsimp only; omega, by dsimp only; rw [if_pos (bit1 (by omega))] at hct; omega, by dsimp only; rw [← h4, hst.2 (by omega), if_pos (bit1 (by omega))]⟩ (by dsimp only; omega)
    · intro c19
      refine KA.skip ?_
      refine blQ.normal ?_
      exact lpQ.normal (at_ - 1, r) (by repeat (first | exact Sub.nil _ | refine Sub.cons Look.eq ?_ | refine Sub.cons (Eq.trans Look.eq (congrArg (AV.int _) (by first | omega | (dsimp only; omega)))) ?_)) ⟨rfl, by dsimp only; omega, by dsimp only; omega, by dsimp only; rw [if_neg (bit0 (by omega))] at hct; omega, by dsimp only; rw [← h4, hst.2 (by omega), if_neg (bit0 (by omega))]⟩ (by dsimp only; omega)
  · intro c11
    refine KA.exit ?_
    refine sqQ.exit ?_
    refine lpQ.exit ?_
    refine blQ.here ?_
    refine sqQ.normal ?_
    refine KA.sub (Sub.cons (t := 7) Look.eq (Sub.nil _)) ?_
    refine KA.seq ?_
    refine KA.region rfl ?_
    refine KOps.move ?_
    refine KOps.assign ?_
    refine KOps.done ?_
    refine sqQ.normal ?_
    refine KA.sub (Sub.cons (t := 6) Look.eq (Sub.nil _)) ?_
    refine KA.ret ?_
    refine fnQ.ret1 ?_
    have hr0 : r = 0 := by omega
    subst hr0
    rw [befTo_done] at h4
    exact ⟨by rw [h4], rfl⟩

theorem behind_c {h : AHeap} {l : List Bool} {m : Nat} (hl : l.length ≤ 10) (hm : m + cntTo l l.length ≤ l.length) : ACalls Go.Proofs.Tryd.prog 62 [.str (wd l), .int .i64 (m : Int)] h (fun q h' => ∃ p : Nat, q = .int .i64 (p : Int) ∧ p ≤ l.length ∧ p - cntTo l p = m ∧ h = h') := by
  refine KA.fn 17 [.tmp 4] Go.Proofs.Tryd.func62 rfl (by decide) rfl rfl (Nat.le_of_ble_eq_true rfl) ?_
  show KA _ 17 _ _ [(0, .str (wd l)), (1, .int .i64 (m : Int))] _
  refine KA.seq ?_
  refine KA.region rfl ?_
  refine KOps.assign ?_
  refine KOps.done ?_
  refine sqQ.normal ?_
  refine KA.sub (Sub.cons (t := 0) Look.eq (Sub.cons (t := 1) Look.eq (Sub.nil _))) ?_
  refine KA.seq ?_
  refine KA.region rfl ?_
  refine KOps.assign ?_
  refine KOps.done ?_
  refine sqQ.normal ?_
  refine KA.seq ?_
  refine KA.block ?_
  refine KA.loop (X := Nat × Nat) (fun x => [(0, .str (wd l)), (1, .int .i64 (x.2 : Int)), (5, .int .i64 (x.1 : Int))]) (fun x h' => h = h' ∧ x.1 ≤ l.length ∧ x.1 - cntTo l x.1 + x.2 = m) (fun x => l.length - x.1) (0, m) (by repeat (first | exact Sub.nil _ | refine Sub.cons Look.eq ?_ | refine Sub.cons (Eq.trans Look.eq (congrArg (AV.int _) (by first | omega | (dsimp only; omega)))) ?_)) ?_ ?_
  · exact ⟨rfl, Nat.zero_le _, Nat.zero_add m⟩
  rintro ⟨p, r⟩ h2 ⟨rfl, h1, h3⟩
  dsimp only at h1 h3 ⊢
  have h5 := cntTo_le l p
  refine KA.seq ?_
  refine KA.seq ?_
  refine KA.region rfl ?_
  refine KOps.move ?_
  refine KOps.gtr ?_
  refine KOps.done ?_
  refine sqQ.normal ?_
  refine KA.sub (Sub.cons (t := 0) Look.eq (Sub.cons (t := 1) Look.eq (Sub.cons (t := 5) Look.eq (Sub.cons (t := 7) Look.eq (Sub.nil _))))) ?_
  refine KA.condD ?_ ?_
  · intro c7
    refine KA.skip ?_
    refine sqQ.normal ?_
    refine KA.sub (Sub.cons (t := 0) Look.eq (Sub.cons (t := 1) Look.eq (Sub.cons (t := 5) Look.eq (Sub.nil _)))) ?_
    refine KA.seq ?_
    refine KA.block ?_
    refine KA.seq ?_
    refine KA.region rfl ?_
    have hlt : p < l.length := by
      rcases Nat.lt_or_ge p l.length with q | q
      · exact q
      · have : p = l.length := by omega
        subst this
        omega
    have hct : cntTo l (p + 1) = cntTo l p + if l.getD p false = true then 1 else 0 := rfl
    have hbv := bch_cases (l.getD p false)
    refine KOps.move ?_
    refine KOps.move ?_
    refine KOps.wAt (j := p) rfl (by first | omega | (simp; omega)) ?_
    refine KOps.eql ?_
    refine KOps.done ?_
    refine sqQ.normal ?_
    refine KA.sub (Sub.cons (t := 0) Look.eq (Sub.cons (t := 1) Look.eq (Sub.cons (t := 5) Look.eq (Sub.cons (t := 13) Look.eq (Sub.nil _))))) ?_
    refine KA.condD ?_ ?_
    · intro c13
      refine KA.region rfl ?_
      refine KOps.move ?_
      refine KOps.sub (by first | omega | (simp; omega)) (by first | omega | (simp; omega)) ?_
      refine KOps.assign ?_
      refine KOps.done ?_
      refine blQ.normal ?_
      refine sqQ.normal ?_
      refine KA.sub (Sub.cons (t := 0) Look.eq (Sub.cons (t := 1) Look.eq (Sub.cons (t := 5) Look.eq (Sub.nil _)))) ?_
      refine KA.region rfl ?_
      refine KOps.move ?_
      refine KOps.add (by first | omega | (simp; omega)) (by first | omega | (simp; omega)) ?_
      refine KOps.assign ?_
      refine KOps.done ?_
      exact lpQ.normal (p + 1, r - 1) (by repeat (first | exact Sub.nil _ | refine Sub.cons Look.eq ?_ | refine Sub.cons (Eq.trans Look.eq (congrArg (AV.int _) (by first | omega | (dsimp only; omega)))) ?_)) ⟨rfl, by dsimp only; omega, by dsimp only; rw [hct, if_neg (bit0 (by omega))]; omega⟩ (by dsimp only; omega)
    · intro c13
      refine KA.skip ?_
      refine blQ.normal ?_
      refine sqQ.normal ?_
      refine KA.sub (Sub.cons (t := 0) Look.eq (Sub.cons (t := 1) Look.eq (Sub.cons (t := 5) Look.eq (Sub.nil _)))) ?_
      refine KA.region rfl ?_
      refine KOps.move ?_
      refine KOps.add (by first | omega | (simp; omega)) (by first | omega | (simp; omega)) ?_
      refine KOps.assign ?_
      refine KOps.done ?_
      exact lpQ.normal (p + 1, r) (by repeat (first | exact Sub.nil _ | refine Sub.cons Look.eq ?_ | refine Sub.cons (Eq.trans Look.eq (congrArg (AV.int _) (by first | omega | (dsimp only; omega)))) ?_)) ⟨rfl, by dsimp only; omega, by dsimp only; rw [hct, if_pos (bit1 (by omega))]; omega⟩ (by dsimp only; omega)
  · intro c7
    refine KA.exit ?_
    refine sqQ.exit ?_
    refine lpQ.exit ?_
    refine blQ.here ?_
    refine sqQ.normal ?_
    refine KA.sub (Sub.cons (t := 5) Look.eq (Sub.nil _)) ?_
    refine KA.seq ?_
    refine KA.region rfl ?_
    refine KOps.move ?_
    refine KOps.assign ?_
    refine KOps.done ?_
    refine sqQ.normal ?_
    refine KA.sub (Sub.cons (t := 4) Look.eq (Sub.nil _)) ?_
    refine KA.ret ?_
    refine fnQ.ret1 ?_
    exact ⟨p, rfl, h1, by omega, rfl⟩

theorem count_c {h : AHeap} {l : List Bool} (hl : l.length ≤ 12) : ACalls Go.Proofs.Tryd.prog 59 [.str (wd l), .str (wd [true])] h (fun q h' => q = .int .i64 ((cnt l : Nat) : Int) ∧ h = h') := by
  refine KA.fn 34 [.tmp 4] Go.Proofs.Tryd.func59 rfl (by decide) rfl rfl (Nat.le_of_ble_eq_true rfl) ?_
  show KA _ 34 _ _ [(0, .str (wd l)), (1, .str (wd [true]))] _
  refine KA.seq ?_
  refine KA.region rfl ?_
  refine KOps.assign ?_
  refine KOps.done ?_
  refine sqQ.normal ?_
  refine KA.sub (Sub.cons (t := 0) Look.eq (Sub.cons (t := 1) Look.eq (Sub.nil _))) ?_
  refine KA.seq ?_
  refine KA.seq ?_
  refine KA.region rfl ?_
  refine KOps.move ?_
  refine KOps.lenW ?_
  refine KOps.eql ?_
  rw [decide_eq_false (by simp)]
  refine KOps.done ?_
  refine sqQ.normal ?_
  refine KA.sub (Sub.cons (t := 0) Look.eq (Sub.cons (t := 1) Look.eq (Sub.cons (t := 9) Look.eq (Sub.nil _)))) ?_
  refine KA.condF ?_
  refine KA.skip ?_
  refine sqQ.normal ?_
  refine KA.sub (Sub.cons (t := 0) Look.eq (Sub.cons (t := 1) Look.eq (Sub.nil _))) ?_
  refine KA.seq ?_
  refine KA.seq ?_
  refine KA.region rfl ?_
  refine KOps.move ?_
  refine KOps.lenW ?_
  refine KOps.eql ?_
  rw [decide_eq_true (by simp)]
  refine KOps.done ?_
  refine sqQ.normal ?_
  refine KA.sub (Sub.cons (t := 0) Look.eq (Sub.cons (t := 1) Look.eq (Sub.cons (t := 15) Look.eq (Sub.nil _)))) ?_
  refine KA.condT ?_
  refine KA.seq ?_
  refine KA.region rfl ?_
  refine KOps.move ?_
  refine KOps.move ?_
  refine KOps.wAt (j := 0) rfl (by decide) ?_
  refine KOps.countS Go.Proofs.Tryd.func74 (by decide) rfl (by decide +kernel) (by kernel_rfl) ?_
  rw [show ((bch ([true].getD 0 false)).toNat : Int).toNat.toUInt8 = 49 from rfl, cnt_bytes]
  refine KOps.assign ?_
  refine KOps.done ?_
  refine sqQ.normal ?_
  refine KA.sub (Sub.cons (t := 4) Look.eq (Sub.nil _)) ?_
  refine KA.ret ?_
  refine sqQ.ret ?_
  refine fnQ.ret1 ?_
  exact ⟨rfl, rfl⟩

end Go.Am
