/-
  Layer 08: each word of a length is in just one code, and codes are safe: the Go function returns true.
  Conditions: none.
-/
import Derived.Test.YtfoiccnlcheklaaDoorWu
namespace Go.Am
set_option synthInstance.maxSize 4000
set_option synthInstance.maxHeartbeats 2000000
set_option maxHeartbeats 4000000 in
theorem law_classes {h : AHeap} {a b : Nat} (hTab : Tab h) (ha : a < 256) (hb : b < 256) : NCalls Go.Proofs.Tryd.prog 9 [.int .u8 (a : Int), .int .u8 (b : Int)] h (fun r _ => r = .bool true) := by
  refine NA.fn 161 [.tmp 4] Go.Proofs.Tryd.func9 rfl rfl rfl (Nat.le_of_ble_eq_true rfl) ?_
  have hS := St.refl h
  have hn9 : a % 9 < 9 := Nat.mod_lt _ (by decide)
  show NA _ 161 _ _ [(0, .int .u8 (a : Int)), (1, .int .u8 (b : Int))] _
  refine NA.seq ?_
  refine NA.region rfl ?_
  refine KOps.assign ?_
  refine KOps.done ?_
  refine sqN.normal ?_
  refine NA.sub (Sub.cons (t := 0) Look.eq (Sub.cons (t := 1) Look.eq (Sub.nil _))) ?_
  refine NA.seq ?_
  refine NA.region rfl ?_
  refine KOps.move ?_
  refine KOps.convU (by omega) (by omega) ?_
  refine KOps.remN (i := a) (j := 9) rfl rfl (by omega) (by omega) ?_
  obtain ⟨m, hm0⟩ : ∃ m : Nat, m = a % 9 := ⟨_, rfl⟩
  rw [← hm0] at hn9 ⊢
  clear hm0
  refine KOps.assign ?_
  refine KOps.done ?_
  refine sqN.normal ?_
  refine NA.sub (Sub.cons (t := 1) Look.eq (Sub.cons (t := 5) Look.eq (Sub.nil _))) ?_
  refine NA.seq ?_
  refine NA.region rfl ?_
  refine KOps.makeMap hS rfl ?_
  intro v22 h' hv22 hS
  obtain ⟨bm22, rfl⟩ := hv22
  refine KOps.assign ?_
  refine KOps.done ?_
  refine sqN.normal ?_
  refine NA.sub (Sub.cons (t := 1) Look.eq (Sub.cons (t := 5) Look.eq (Sub.cons (t := 6) Look.eq (Sub.nil _)))) ?_
  refine NA.seq ?_
  refine NA.region rfl ?_
  refine KOps.move ?_
  refine KOps.call rfl (sizePF_c (n := (m : Int)) (k := ((0 : Nat) : Int))) ?_
  rintro _ _ ⟨rfl, rfl⟩
  refine KOps.move ?_
  refine KOps.extract ?_
  refine KOps.extract ?_
  refine KOps.assign ?_
  refine KOps.assign ?_
  refine KOps.done ?_
  refine sqN.normal ?_
  refine NA.sub (Sub.cons (t := 1) Look.eq (Sub.cons (t := 5) Look.eq (Sub.cons (t := 6) Look.eq (Sub.cons (t := 7) Look.eq (Sub.cons (t := 8) Look.eq (Sub.nil _)))))) ?_
  refine NA.seq ?_
  refine NA.seq ?_
  refine NA.region rfl ?_
  have hmx := (code_max (n := m) (k := 0) (by omega) (by omega)).2
  have hml : ((codeW m 0).length : Int) * ((m : Int) + 1) = (((codeW m 0).length * (m + 1) : Nat) : Int) := by push_cast; rfl
  have hp8 : 2 ^ m ≤ 2 ^ 8 := Nat.pow_le_pow_right (by decide) (by omega)
  have hc8 : (codeW m 0).length ≤ 2 ^ m := by rw [codeW_len]; exact numC_le _ _ _
  have hmm : (codeW m 0).length * (m + 1) ≤ 256 * 9 := Nat.mul_le_mul (by omega) (by omega)
  rw [codeS_nat (by omega) (by omega)]
  refine KOps.move ?_
  refine KOps.neqF (codeE_nat (by omega) (by omega)) ?_
  refine KOps.move ?_
  refine KOps.guardYes (dj := 30) rfl rfl ?_
  refine KOps.move ?_
  refine KOps.guardYes (dj := 30) rfl rfl ?_
  refine KOps.move ?_
  refine KOps.guardYes (dj := 30) rfl rfl ?_
  refine KOps.add (by first | omega | (simp; omega)) (by first | omega | (simp; omega)) ?_
  refine KOps.guardYes (dj := 30) rfl rfl ?_
  refine KOps.mul (by rw [hml]; omega) (by rw [hml]; omega) ?_
  rw [hml]
  refine KOps.guardYes (dj := 30) rfl rfl ?_
  refine KOps.move ?_
  refine KOps.guardYes (dj := 30) rfl rfl ?_
  refine KOps.shl (by omega) ?_
  rw [shl64 m (by omega)]
  refine KOps.guardYes (dj := 30) rfl rfl ?_
  refine KOps.lss ?_
  rw [decide_eq_false (by omega)]
  refine KOps.pickF ?_
  refine KOps.done ?_
  refine sqN.normal ?_
  refine NA.sub (Sub.cons (t := 1) Look.eq (Sub.cons (t := 5) Look.eq (Sub.cons (t := 6) Look.eq (Sub.cons (t := 7) Look.eq (Sub.cons (t := 38) Look.eq (Sub.nil _)))))) ?_
  refine NA.condF ?_
  refine NA.skip ?_
  refine sqN.normal ?_
  refine NA.sub (Sub.cons (t := 1) Look.eq (Sub.cons (t := 5) Look.eq (Sub.cons (t := 6) Look.eq (Sub.cons (t := 7) Look.eq (Sub.nil _))))) ?_
  refine NA.seq ?_
  refine NA.seq ?_
  refine NA.region rfl ?_
  refine KOps.move ?_
  refine KOps.add (by first | omega | (simp; omega)) (by first | omega | (simp; omega)) ?_
  refine KOps.move ?_
  refine KOps.done ?_
  refine sqN.normal ?_
  refine NA.sub (Sub.cons (t := 1) Look.eq (Sub.cons (t := 5) Look.eq (Sub.cons (t := 6) Look.eq (Sub.cons (t := 7) Look.eq (Sub.cons (t := 40) Look.eq (Sub.cons (t := 41) Look.eq (Sub.nil _))))))) ?_
  refine NA.block ?_
  refine NA.loop (X := Nat × List (List Bool)) (fun x_ => [(1, .int .u8 (b : Int)), (5, .int .i64 (m : Int)), (6, .mp bm22), (7, .int .i64 ((codeW m 0).length : Int)), (40, .int .i64 ((m : Int) + 1)), (41, .int .i64 (x_.1 : Int))]) (fun x_ h' => x_.1 ≤ m + 1 ∧ x_.2.Nodup ∧ (∀ y, y ∈ x_.2 ↔ y.length = m ∧ cls y < x_.1) ∧ St h h' [setO (.mp bm22) x_.2]) (fun x_ => m + 1 - x_.1) (0, []) (by repeat (first | exact Sub.nil _ | refine Sub.cons Look.eq ?_ | refine Sub.cons (Eq.trans Look.eq (congrArg (AV.int _) (by first | omega | (dsimp only; omega)))) ?_)) ?_ ?_
  · exact ⟨Nat.zero_le _, List.nodup_nil, fun y => ⟨fun q => (by cases q), fun q => absurd q.2 (Nat.not_lt_zero _)⟩, hS⟩
  rintro ⟨k, P⟩ h2 ⟨hk, hnd, hm, hS⟩
  dsimp only at hk hnd hm hS ⊢
  refine NA.seq ?_
  refine NA.region rfl ?_
  refine KOps.lss ?_
  refine KOps.done ?_
  refine sqN.normal ?_
  refine NA.seq ?_
  refine NA.condD ?_ ?_
  · intro c42
    refine NA.skip ?_
    refine sqN.normal ?_
    refine NA.sub (Sub.cons (t := 1) Look.eq (Sub.cons (t := 5) Look.eq (Sub.cons (t := 6) Look.eq (Sub.cons (t := 7) Look.eq (Sub.cons (t := 40) Look.eq (Sub.cons (t := 41) Look.eq (Sub.nil _))))))) ?_
    refine NA.seq ?_
    refine NA.block ?_
    refine NA.seq ?_
    refine NA.region rfl ?_
    refine KOps.move ?_
    refine KOps.assign ?_
    refine KOps.done ?_
    refine sqN.normal ?_
    refine NA.sub (Sub.cons (t := 1) Look.eq (Sub.cons (t := 5) Look.eq (Sub.cons (t := 6) Look.eq (Sub.cons (t := 7) Look.eq (Sub.cons (t := 9) Look.eq (Sub.cons (t := 40) Look.eq (Sub.cons (t := 41) Look.eq (Sub.nil _)))))))) ?_
    refine NA.seq ?_
    refine NA.region rfl ?_
    have hmx := (code_max (n := m) (k := k) (by omega) (by omega)).1
    refine KOps.move ?_
    refine KOps.move ?_
    refine KOps.call rfl (codeP_c (n := (m : Int)) (k := (k : Int))) ?_
    rintro _ h47 ⟨v47, rfl, hS47⟩
    have hS0 : St _ _ (_ :: _) := St.trans hS hS47
    clear hS
    have hS := hS0
    clear hS0
    rw [codeS_nat (by omega) (by omega)] at hS
    refine KOps.move ?_
    refine KOps.extract ?_
    refine KOps.extract ?_
    refine KOps.assign ?_
    refine KOps.assign ?_
    refine KOps.done ?_
    refine sqN.normal ?_
    refine NA.sub (Sub.cons (t := 1) Look.eq (Sub.cons (t := 5) Look.eq (Sub.cons (t := 6) Look.eq (Sub.cons (t := 7) Look.eq (Sub.cons (t := 9) Look.eq (Sub.cons (t := 10) Look.eq (Sub.cons (t := 11) Look.eq (Sub.cons (t := 40) Look.eq (Sub.cons (t := 41) Look.eq (Sub.nil _)))))))))) ?_
    refine NA.seq ?_
    refine NA.region rfl ?_
    refine KOps.move ?_
    refine KOps.move ?_
    refine KOps.call rfl (sizePF_c (n := (m : Int)) (k := (k : Int))) ?_
    rintro _ _ ⟨rfl, rfl⟩
    rw [codeS_nat (by omega) (by omega)]
    refine KOps.move ?_
    refine KOps.extract ?_
    refine KOps.extract ?_
    refine KOps.assign ?_
    refine KOps.assign ?_
    refine KOps.done ?_
    refine sqN.normal ?_
    refine NA.sub (Sub.cons (t := 1) Look.eq (Sub.cons (t := 5) Look.eq (Sub.cons (t := 6) Look.eq (Sub.cons (t := 7) Look.eq (Sub.cons (t := 9) Look.eq (Sub.cons (t := 10) Look.eq (Sub.cons (t := 11) Look.eq (Sub.cons (t := 12) Look.eq (Sub.cons (t := 13) Look.eq (Sub.cons (t := 40) Look.eq (Sub.cons (t := 41) Look.eq (Sub.nil _)))))))))))) ?_
    refine NA.seq ?_
    refine NA.seq ?_
    refine NA.region rfl ?_
    refine KOps.move ?_
    refine KOps.neqF (codeE_nat (by omega) (by omega)) ?_
    refine KOps.move ?_
    refine KOps.guardYes (dj := 58) rfl rfl ?_
    refine KOps.move ?_
    refine KOps.guardYes (dj := 58) rfl rfl ?_
    refine KOps.neqF (codeE_nat (by omega) (by omega)) ?_
    refine KOps.pickF ?_
    refine KOps.move ?_
    refine KOps.guardYes (dj := 62) rfl rfl ?_
    refine KOps.move ?_
    refine KOps.guardYes (dj := 62) rfl rfl ?_
    refine KOps.move ?_
    refine KOps.guardYes (dj := 62) rfl rfl ?_
    refine KOps.lenI (hS.rd 0 rfl) ?_
    refine KOps.guardYes (dj := 62) rfl rfl ?_
    refine KOps.neqF (rfl) ?_
    refine KOps.pickF ?_
    refine KOps.move ?_
    refine KOps.guardYes (dj := 68) rfl rfl ?_
    refine KOps.move ?_
    refine KOps.guardYes (dj := 68) rfl rfl ?_
    refine KOps.move ?_
    refine KOps.guardYes (dj := 68) rfl rfl ?_
    refine KOps.gtr ?_
    rw [decide_eq_false (by omega)]
    refine KOps.pickF ?_
    refine KOps.done ?_
    refine sqN.normal ?_
    refine NA.sub (Sub.cons (t := 1) Look.eq (Sub.cons (t := 5) Look.eq (Sub.cons (t := 6) Look.eq (Sub.cons (t := 7) Look.eq (Sub.cons (t := 9) Look.eq (Sub.cons (t := 10) Look.eq (Sub.cons (t := 40) Look.eq (Sub.cons (t := 41) Look.eq (Sub.cons (t := 59) Look.eq (Sub.cons (t := 60) Look.eq (Sub.cons (t := 63) Look.eq (Sub.cons (t := 64) Look.eq (Sub.cons (t := 65) Look.eq (Sub.cons (t := 66) Look.eq (Sub.cons (t := 69) Look.eq (Sub.cons (t := 70) Look.eq (Sub.cons (t := 71) Look.eq (Sub.cons (t := 72) Look.eq (Sub.nil _))))))))))))))))))) ?_
    refine NA.condF ?_
    refine NA.skip ?_
    refine sqN.normal ?_
    refine NA.sub (Sub.cons (t := 1) Look.eq (Sub.cons (t := 5) Look.eq (Sub.cons (t := 6) Look.eq (Sub.cons (t := 7) Look.eq (Sub.cons (t := 9) Look.eq (Sub.cons (t := 10) Look.eq (Sub.cons (t := 40) Look.eq (Sub.cons (t := 41) Look.eq (Sub.cons (t := 59) Look.eq (Sub.cons (t := 60) Look.eq (Sub.cons (t := 63) Look.eq (Sub.cons (t := 64) Look.eq (Sub.cons (t := 65) Look.eq (Sub.cons (t := 66) Look.eq (Sub.cons (t := 69) Look.eq (Sub.cons (t := 70) Look.eq (Sub.cons (t := 71) Look.eq (Sub.nil _)))))))))))))))))) ?_
    refine NA.seq ?_
    refine NA.seq ?_
    refine NA.region rfl ?_
    refine KOps.move ?_
    refine KOps.lenI (hS.rd 0 rfl) ?_
    refine KOps.move ?_
    refine KOps.done ?_
    refine sqN.normal ?_
    refine NA.block ?_
    -- live but not in the pattern: [59, 60, 63, 64, 65, 66, 69, 70, 71]
    refine NA.loop (X := Nat × List (List Bool)) (fun y_ => [(1, .int .u8 (b : Int)), (5, .int .i64 (m : Int)), (6, .mp bm22), (7, .int .i64 ((codeW m 0).length : Int)), (9, .int .i64 (k : Int)), (40, .int .i64 ((m : Int) + 1)), (41, .int .i64 (k : Int)), (10, v47), (73, v47), (74, .int .i64 ((codeW m k).length : Int)), (75, .int .i64 (y_.1 : Int))]) (fun y_ h' => y_.1 ≤ (codeW m k).length ∧ y_.2.Nodup ∧ (∀ y, y ∈ y_.2 ↔ (y.length = m ∧ cls y < k) ∨ y ∈ (codeW m k).take y_.1) ∧ St h h' [⟨v47, 1, wcs (codeW m k), true⟩, setO (.mp bm22) y_.2]) (fun y_ => (codeW m k).length - y_.1) (0, P) (by repeat (first | exact Sub.nil _ | refine Sub.cons Look.eq ?_ | refine Sub.cons (Eq.trans Look.eq (congrArg (AV.int _) (by first | omega | (dsimp only; omega)))) ?_)) ?_ ?_
    · exact ⟨Nat.zero_le _, hnd, fun y => by rw [hm y]; simp, hS⟩
    rintro ⟨i, Q⟩ h3 ⟨hi, hnd2, hm2, hS⟩
    dsimp only at hi hnd2 hm2 hS ⊢
    refine NA.seq ?_
    refine NA.region rfl ?_
    refine KOps.lss ?_
    refine KOps.done ?_
    refine sqN.normal ?_
    refine NA.seq ?_
    refine NA.condD ?_ ?_
    · intro c76
      refine NA.skip ?_
      refine sqN.normal ?_
      refine NA.sub (Sub.cons (t := 1) Look.eq (Sub.cons (t := 5) Look.eq (Sub.cons (t := 6) Look.eq (Sub.cons (t := 7) Look.eq (Sub.cons (t := 9) Look.eq (Sub.cons (t := 10) Look.eq (Sub.cons (t := 40) Look.eq (Sub.cons (t := 41) Look.eq (Sub.cons (t := 73) Look.eq (Sub.cons (t := 74) Look.eq (Sub.cons (t := 75) Look.eq (Sub.nil _)))))))))))) ?_
      refine NA.seq ?_
      refine NA.block ?_
      refine NA.seq ?_
      refine NA.region rfl ?_
      refine KOps.move ?_
      refine KOps.indexIJ (hS.rd 0 rfl) (j := i) rfl (by first | omega | (simp; done) | (simp; omega)) ?_
      intro p78 hp78
      refine KOps.loadW hp78 (hS.rd 0 rfl) (by first | omega | (simp; done) | (simp; omega)) ?_
      refine KOps.assign ?_
      refine KOps.assign ?_
      refine KOps.done ?_
      refine sqN.normal ?_
      refine NA.sub (Sub.cons (t := 1) Look.eq (Sub.cons (t := 5) Look.eq (Sub.cons (t := 6) Look.eq (Sub.cons (t := 7) Look.eq (Sub.cons (t := 9) Look.eq (Sub.cons (t := 10) Look.eq (Sub.cons (t := 14) Look.eq (Sub.cons (t := 15) Look.eq (Sub.cons (t := 40) Look.eq (Sub.cons (t := 41) Look.eq (Sub.cons (t := 73) Look.eq (Sub.cons (t := 74) Look.eq (Sub.cons (t := 75) Look.eq (Sub.nil _)))))))))))))) ?_
      refine NA.seq ?_
      refine NA.seq ?_
      refine NA.region rfl ?_
      have hil : i < (codeW m k).length := by omega
      obtain ⟨hf1, hf2, hf3⟩ := code_fresh hm2 hil
      refine KOps.move ?_
      refine KOps.lenW ?_
      refine KOps.move ?_
      refine KOps.neqF (by rw [hf1]) ?_
      refine KOps.move ?_
      refine KOps.guardYes (dj := 84) rfl rfl ?_
      refine KOps.move ?_
      refine KOps.guardYes (dj := 84) rfl rfl ?_
      refine KOps.call rfl (kindF_c (by omega)) ?_
      rintro _ _ ⟨rfl, rfl⟩
      refine KOps.guardYes (dj := 84) rfl rfl ?_
      refine KOps.move ?_
      refine KOps.guardYes (dj := 84) rfl rfl ?_
      refine KOps.neqF (by rw [hf2]) ?_
      refine KOps.pickF ?_
      refine KOps.move ?_
      refine KOps.guardYes (dj := 90) rfl rfl ?_
      refine KOps.move ?_
      refine KOps.guardYes (dj := 90) rfl rfl ?_
      refine KOps.move ?_
      refine KOps.guardYes (dj := 90) rfl rfl ?_
      refine KOps.setHas (St.rdM hS 1 rfl ⟨_, rfl⟩) rfl ?_
      rw [decide_eq_false hf3]
      refine KOps.pickF ?_
      refine KOps.move ?_
      refine KOps.guardYes (dj := 95) rfl rfl ?_
      refine KOps.move ?_
      refine KOps.guardYes (dj := 95) rfl rfl ?_
      refine KOps.gtr ?_
      refine KOps.guardYes (dj := 95) rfl rfl ?_
      refine KOps.move ?_
      refine KOps.guardB (dj := 98) rfl rfl true false rfl ?_ ?_
      · intro g98
        have g98 := of_decide_eq_true g98
        refine KOps.move ?_
        refine KOps.guardYes (dj := 98) rfl rfl ?_
        refine KOps.move ?_
        refine KOps.guardYes (dj := 98) rfl rfl ?_
        refine KOps.sub (by first | omega | (simp; omega)) (by first | omega | (simp; omega)) ?_
        refine KOps.guardYes (dj := 98) rfl rfl ?_
        refine KOps.indexIJ (hS.rd 0 rfl) (j := i - 1) (by first | omega | (simp; omega)) (by first | omega | (simp; done) | (simp; omega)) ?_
        intro p102 hp102
        refine KOps.guardYes (dj := 98) rfl rfl ?_
        refine KOps.loadW hp102 (hS.rd 0 rfl) (by first | omega | (simp; done) | (simp; omega)) ?_
        refine KOps.guardYes (dj := 98) rfl rfl ?_
        refine KOps.move ?_
        refine KOps.guardYes (dj := 98) rfl rfl ?_
        refine KOps.wGeqF (asc_get (code_asc m k) (by omega) hil) ?_
        refine KOps.guardYes (dj := 95) rfl rfl ?_
        refine KOps.pickT ?_
        refine KOps.pickF ?_
        refine KOps.done ?_
        refine sqN.normal ?_
        refine NA.sub (Sub.cons (t := 1) Look.eq (Sub.cons (t := 5) Look.eq (Sub.cons (t := 6) Look.eq (Sub.cons (t := 7) Look.eq (Sub.cons (t := 9) Look.eq (Sub.cons (t := 10) Look.eq (Sub.cons (t := 15) Look.eq (Sub.cons (t := 40) Look.eq (Sub.cons (t := 41) Look.eq (Sub.cons (t := 73) Look.eq (Sub.cons (t := 74) Look.eq (Sub.cons (t := 75) Look.eq (Sub.cons (t := 85) Look.eq (Sub.cons (t := 86) Look.eq (Sub.cons (t := 87) Look.eq (Sub.cons (t := 88) Look.eq (Sub.cons (t := 91) Look.eq (Sub.cons (t := 92) Look.eq (Sub.cons (t := 93) Look.eq (Sub.cons (t := 96) Look.eq (Sub.cons (t := 97) Look.eq (Sub.cons (t := 98) Look.eq (Sub.cons (t := 99) Look.eq (Sub.cons (t := 100) Look.eq (Sub.cons (t := 101) Look.eq (Sub.cons (t := 102) Look.eq (Sub.cons (t := 103) Look.eq (Sub.cons (t := 104) Look.eq (Sub.cons (t := 105) Look.eq (Sub.cons (t := 106) Look.eq (Sub.cons (t := 107) Look.eq (Sub.nil _)))))))))))))))))))))))))))))))) ?_
        refine NA.condF ?_
        refine NA.skip ?_
        refine sqN.normal ?_
        refine NA.sub (Sub.cons (t := 1) Look.eq (Sub.cons (t := 5) Look.eq (Sub.cons (t := 6) Look.eq (Sub.cons (t := 7) Look.eq (Sub.cons (t := 9) Look.eq (Sub.cons (t := 10) Look.eq (Sub.cons (t := 15) Look.eq (Sub.cons (t := 40) Look.eq (Sub.cons (t := 41) Look.eq (Sub.cons (t := 73) Look.eq (Sub.cons (t := 74) Look.eq (Sub.cons (t := 75) Look.eq (Sub.cons (t := 85) Look.eq (Sub.cons (t := 86) Look.eq (Sub.cons (t := 87) Look.eq (Sub.cons (t := 88) Look.eq (Sub.cons (t := 91) Look.eq (Sub.cons (t := 92) Look.eq (Sub.cons (t := 93) Look.eq (Sub.cons (t := 96) Look.eq (Sub.cons (t := 97) Look.eq (Sub.cons (t := 98) Look.eq (Sub.cons (t := 99) Look.eq (Sub.cons (t := 100) Look.eq (Sub.cons (t := 101) Look.eq (Sub.cons (t := 102) Look.eq (Sub.cons (t := 103) Look.eq (Sub.cons (t := 104) Look.eq (Sub.cons (t := 105) Look.eq (Sub.cons (t := 106) Look.eq (Sub.nil _))))))))))))))))))))))))))))))) ?_
        refine NA.region rfl ?_
        refine KOps.move ?_
        refine KOps.move ?_
        refine KOps.setPut hS ⟨_, rfl⟩ (i := 1) rfl rfl ?_
        intro h' hS
        simp only [List.set_cons_zero, List.set_cons_succ, Nat.zero_add] at hS
        refine KOps.done ?_
        refine blQ.normal ?_
        refine sqN.normal ?_
        refine NA.sub (Sub.cons (t := 1) Look.eq (Sub.cons (t := 5) Look.eq (Sub.cons (t := 6) Look.eq (Sub.cons (t := 7) Look.eq (Sub.cons (t := 9) Look.eq (Sub.cons (t := 10) Look.eq (Sub.cons (t := 40) Look.eq (Sub.cons (t := 41) Look.eq (Sub.cons (t := 73) Look.eq (Sub.cons (t := 74) Look.eq (Sub.cons (t := 75) Look.eq (Sub.cons (t := 85) Look.eq (Sub.cons (t := 86) Look.eq (Sub.cons (t := 87) Look.eq (Sub.cons (t := 88) Look.eq (Sub.cons (t := 91) Look.eq (Sub.cons (t := 92) Look.eq (Sub.cons (t := 93) Look.eq (Sub.cons (t := 96) Look.eq (Sub.cons (t := 97) Look.eq (Sub.cons (t := 98) Look.eq (Sub.cons (t := 99) Look.eq (Sub.cons (t := 100) Look.eq (Sub.cons (t := 101) Look.eq (Sub.cons (t := 102) Look.eq (Sub.cons (t := 103) Look.eq (Sub.cons (t := 104) Look.eq (Sub.cons (t := 105) Look.eq (Sub.cons (t := 106) Look.eq (Sub.nil _)))))))))))))))))))))))))))))) ?_
        refine NA.region rfl ?_
        refine KOps.add (by first | omega | (simp; omega)) (by first | omega | (simp; omega)) ?_
        refine KOps.move ?_
        refine KOps.done ?_
        exact lpQ.normal (i + 1, _) (by repeat (first | exact Sub.nil _ | refine Sub.cons Look.eq ?_ | refine Sub.cons (Eq.trans Look.eq (congrArg (AV.int _) (by first | omega | (dsimp only; omega)))) ?_)) ⟨by dsimp only; omega, addW_nodup hnd2, code_step hm2 hil, hS⟩ (by dsimp only; omega)
      · intro g98
        have g98 := of_decide_eq_false g98
        refine KOps.guardNo (dj := 98) rfl rfl rfl ?_
        refine KOps.guardNo (dj := 98) rfl rfl rfl ?_
        refine KOps.guardNo (dj := 98) rfl rfl rfl ?_
        refine KOps.guardNo (dj := 98) rfl rfl rfl ?_
        refine KOps.guardNo (dj := 98) rfl rfl rfl ?_
        refine KOps.guardNo (dj := 98) rfl rfl rfl ?_
        refine KOps.guardYes (dj := 95) rfl rfl ?_
        refine KOps.pickF ?_
        refine KOps.pickF ?_
        refine KOps.done ?_
        refine sqN.normal ?_
        refine NA.sub (Sub.cons (t := 1) Look.eq (Sub.cons (t := 5) Look.eq (Sub.cons (t := 6) Look.eq (Sub.cons (t := 7) Look.eq (Sub.cons (t := 9) Look.eq (Sub.cons (t := 10) Look.eq (Sub.cons (t := 15) Look.eq (Sub.cons (t := 40) Look.eq (Sub.cons (t := 41) Look.eq (Sub.cons (t := 73) Look.eq (Sub.cons (t := 74) Look.eq (Sub.cons (t := 75) Look.eq (Sub.cons (t := 85) Look.eq (Sub.cons (t := 86) Look.eq (Sub.cons (t := 87) Look.eq (Sub.cons (t := 88) Look.eq (Sub.cons (t := 91) Look.eq (Sub.cons (t := 92) Look.eq (Sub.cons (t := 93) Look.eq (Sub.cons (t := 96) Look.eq (Sub.cons (t := 97) Look.eq (Sub.cons (t := 98) Look.eq (Sub.cons (t := 99) Look.eq (Sub.cons (t := 100) Look.eq (Sub.cons (t := 101) Look.eq (Sub.cons (t := 102) Look.eq (Sub.cons (t := 103) Look.eq (Sub.cons (t := 104) Look.eq (Sub.cons (t := 105) Look.eq (Sub.cons (t := 106) Look.eq (Sub.cons (t := 107) Look.eq (Sub.nil _)))))))))))))))))))))))))))))))) ?_
        refine NA.condF ?_
        refine NA.skip ?_
        refine sqN.normal ?_
        refine NA.sub (Sub.cons (t := 1) Look.eq (Sub.cons (t := 5) Look.eq (Sub.cons (t := 6) Look.eq (Sub.cons (t := 7) Look.eq (Sub.cons (t := 9) Look.eq (Sub.cons (t := 10) Look.eq (Sub.cons (t := 15) Look.eq (Sub.cons (t := 40) Look.eq (Sub.cons (t := 41) Look.eq (Sub.cons (t := 73) Look.eq (Sub.cons (t := 74) Look.eq (Sub.cons (t := 75) Look.eq (Sub.cons (t := 85) Look.eq (Sub.cons (t := 86) Look.eq (Sub.cons (t := 87) Look.eq (Sub.cons (t := 88) Look.eq (Sub.cons (t := 91) Look.eq (Sub.cons (t := 92) Look.eq (Sub.cons (t := 93) Look.eq (Sub.cons (t := 96) Look.eq (Sub.cons (t := 97) Look.eq (Sub.cons (t := 98) Look.eq (Sub.cons (t := 99) Look.eq (Sub.cons (t := 100) Look.eq (Sub.cons (t := 101) Look.eq (Sub.cons (t := 102) Look.eq (Sub.cons (t := 103) Look.eq (Sub.cons (t := 104) Look.eq (Sub.cons (t := 105) Look.eq (Sub.cons (t := 106) Look.eq (Sub.nil _))))))))))))))))))))))))))))))) ?_
        refine NA.region rfl ?_
        refine KOps.move ?_
        refine KOps.move ?_
        refine KOps.setPut hS ⟨_, rfl⟩ (i := 1) rfl rfl ?_
        intro h' hS
        simp only [List.set_cons_zero, List.set_cons_succ, Nat.zero_add] at hS
        refine KOps.done ?_
        refine blQ.normal ?_
        refine sqN.normal ?_
        refine NA.sub (Sub.cons (t := 1) Look.eq (Sub.cons (t := 5) Look.eq (Sub.cons (t := 6) Look.eq (Sub.cons (t := 7) Look.eq (Sub.cons (t := 9) Look.eq (Sub.cons (t := 10) Look.eq (Sub.cons (t := 40) Look.eq (Sub.cons (t := 41) Look.eq (Sub.cons (t := 73) Look.eq (Sub.cons (t := 74) Look.eq (Sub.cons (t := 75) Look.eq (Sub.cons (t := 85) Look.eq (Sub.cons (t := 86) Look.eq (Sub.cons (t := 87) Look.eq (Sub.cons (t := 88) Look.eq (Sub.cons (t := 91) Look.eq (Sub.cons (t := 92) Look.eq (Sub.cons (t := 93) Look.eq (Sub.cons (t := 96) Look.eq (Sub.cons (t := 97) Look.eq (Sub.cons (t := 98) Look.eq (Sub.cons (t := 99) Look.eq (Sub.cons (t := 100) Look.eq (Sub.cons (t := 101) Look.eq (Sub.cons (t := 102) Look.eq (Sub.cons (t := 103) Look.eq (Sub.cons (t := 104) Look.eq (Sub.cons (t := 105) Look.eq (Sub.cons (t := 106) Look.eq (Sub.nil _)))))))))))))))))))))))))))))) ?_
        refine NA.region rfl ?_
        refine KOps.add (by first | omega | (simp; omega)) (by first | omega | (simp; omega)) ?_
        refine KOps.move ?_
        refine KOps.done ?_
        exact lpQ.normal (i + 1, _) (by repeat (first | exact Sub.nil _ | refine Sub.cons Look.eq ?_ | refine Sub.cons (Eq.trans Look.eq (congrArg (AV.int _) (by first | omega | (dsimp only; omega)))) ?_)) ⟨by dsimp only; omega, addW_nodup hnd2, code_step hm2 hil, hS⟩ (by dsimp only; omega)
    · intro c76
      refine NA.exit ?_
      refine sqN.exit ?_
      refine lpQ.exit ?_
      refine blQ.here ?_
      refine sqN.normal ?_
      refine NA.sub (Sub.cons (t := 1) Look.eq (Sub.cons (t := 5) Look.eq (Sub.cons (t := 6) Look.eq (Sub.cons (t := 7) Look.eq (Sub.cons (t := 9) Look.eq (Sub.cons (t := 10) Look.eq (Sub.cons (t := 40) Look.eq (Sub.cons (t := 41) Look.eq (Sub.nil _))))))))) ?_
      refine NA.seq ?_
      refine NA.seq ?_
      refine NA.region rfl ?_
      obtain rfl : i = (codeW m k).length := by omega
      refine KOps.move ?_
      refine KOps.move ?_
      refine KOps.convU (by omega) (by omega) ?_
      refine KOps.move ?_
      refine KOps.add (by first | omega | (simp; omega)) (by first | omega | (simp; omega)) ?_
      refine KOps.remN (i := b) (j := m + 1) rfl (by omega) (by omega) (by omega) ?_
      refine KOps.neq ?_
      refine KOps.move ?_
      refine KOps.guardB (dj := 118) rfl rfl false true rfl ?_ ?_
      · intro g118
        have g118 := of_not_decide g118
        refine KOps.move ?_
        refine KOps.guardYes (dj := 118) rfl rfl ?_
        refine KOps.eql ?_
        refine KOps.pickF ?_
        refine KOps.move ?_
        refine KOps.guardB (dj := 122) rfl rfl false true rfl ?_ ?_
        · intro g122
          have g122 := of_decide_eq_false g122
          refine KOps.move ?_
          refine KOps.guardYes (dj := 122) rfl rfl ?_
          refine KOps.lenI (hS.rd 0 rfl) ?_
          refine KOps.guardYes (dj := 122) rfl rfl ?_
          refine KOps.gtr ?_
          refine KOps.pickF ?_
          refine KOps.done ?_
          refine sqN.normal ?_
          refine NA.sub (Sub.cons (t := 1) Look.eq (Sub.cons (t := 5) Look.eq (Sub.cons (t := 6) Look.eq (Sub.cons (t := 7) Look.eq (Sub.cons (t := 10) Look.eq (Sub.cons (t := 40) Look.eq (Sub.cons (t := 41) Look.eq (Sub.cons (t := 119) Look.eq (Sub.cons (t := 120) Look.eq (Sub.cons (t := 123) Look.eq (Sub.cons (t := 124) Look.eq (Sub.cons (t := 125) Look.eq (Sub.cons (t := 126) Look.eq (Sub.nil _)))))))))))))) ?_
          refine NA.condD ?_ ?_
          · intro c126
            refine NA.exit ?_
            refine sqN.exit ?_
            refine blQ.here ?_
            refine sqN.normal ?_
            refine NA.sub (Sub.cons (t := 1) Look.eq (Sub.cons (t := 5) Look.eq (Sub.cons (t := 6) Look.eq (Sub.cons (t := 7) Look.eq (Sub.cons (t := 40) Look.eq (Sub.cons (t := 41) Look.eq (Sub.cons (t := 119) Look.eq (Sub.cons (t := 120) Look.eq (Sub.cons (t := 123) Look.eq (Sub.cons (t := 124) Look.eq (Sub.cons (t := 125) Look.eq (Sub.nil _)))))))))))) ?_
            refine NA.region rfl ?_
            refine KOps.add (by first | omega | (simp; omega)) (by first | omega | (simp; omega)) ?_
            refine KOps.move ?_
            refine KOps.done ?_
            first
             | exact lpQ.normal (k + 1, Q) (by repeat (first | exact Sub.nil _ | refine Sub.cons Look.eq ?_ | refine Sub.cons (Eq.trans Look.eq (congrArg (AV.int _) (by first | omega | (dsimp only; omega)))) ?_)) ⟨by dsimp only; omega, hnd2, code_done hm2, hS⟩ (by dsimp only; omega)
             | exact lpQ.normal (k + 1, Q) (by repeat (first | exact Sub.nil _ | refine Sub.cons Look.eq ?_ | refine Sub.cons (Eq.trans Look.eq (congrArg (AV.int _) (by first | omega | (dsimp only; omega)))) ?_)) ⟨by dsimp only; omega, hnd2, code_done hm2, St.drop (A := [_]) hS⟩ (by dsimp only; omega)
             | exact lpQ.normal (k + 1, Q) (by repeat (first | exact Sub.nil _ | refine Sub.cons Look.eq ?_ | refine Sub.cons (Eq.trans Look.eq (congrArg (AV.int _) (by first | omega | (dsimp only; omega)))) ?_)) ⟨by dsimp only; omega, hnd2, code_done hm2, St.pick [1] (by decide) rfl hS⟩ (by dsimp only; omega)
          · intro c126
            refine NA.skip ?_
            refine sqN.normal ?_
            refine NA.sub (Sub.cons (t := 1) Look.eq (Sub.cons (t := 5) Look.eq (Sub.cons (t := 6) Look.eq (Sub.cons (t := 7) Look.eq (Sub.cons (t := 10) Look.eq (Sub.cons (t := 40) Look.eq (Sub.cons (t := 41) Look.eq (Sub.cons (t := 119) Look.eq (Sub.cons (t := 120) Look.eq (Sub.cons (t := 123) Look.eq (Sub.cons (t := 124) Look.eq (Sub.cons (t := 125) Look.eq (Sub.nil _))))))))))))) ?_
            refine NA.seq ?_
            refine NA.region rfl ?_
            refine KOps.move ?_
            refine KOps.call rfl (safeP_c (ss := (codeW m k).map wd) (WRow.s (hS.rd 0 rfl)) (by rw [List.length_map]; omega)) ?_
            rintro _ hx ⟨rfl, hK⟩
            have hS0 : St _ _ _ := St.trans hS (St.ofK hK)
            clear hS
            have hS := hS0
            clear hS0
            simp only [List.nil_append] at hS
            rw [code_safe (by omega) (by omega)]
            refine KOps.move ?_
            refine KOps.extract ?_
            refine KOps.extract ?_
            refine KOps.extract ?_
            refine KOps.assign ?_
            refine KOps.assign ?_
            refine KOps.assign ?_
            refine KOps.done ?_
            refine sqN.normal ?_
            refine NA.sub (Sub.cons (t := 1) Look.eq (Sub.cons (t := 5) Look.eq (Sub.cons (t := 6) Look.eq (Sub.cons (t := 7) Look.eq (Sub.cons (t := 12) Look.eq (Sub.cons (t := 16) Look.eq (Sub.cons (t := 17) Look.eq (Sub.cons (t := 40) Look.eq (Sub.cons (t := 41) Look.eq (Sub.cons (t := 119) Look.eq (Sub.cons (t := 120) Look.eq (Sub.cons (t := 123) Look.eq (Sub.cons (t := 124) Look.eq (Sub.cons (t := 125) Look.eq (Sub.nil _))))))))))))))) ?_
            refine NA.seq ?_
            refine NA.region rfl ?_
            refine KOps.move ?_
            refine KOps.neqF (rfl) ?_
            refine KOps.move ?_
            refine KOps.guardYes (dj := 135) rfl rfl ?_
            refine KOps.move ?_
            refine KOps.guardYes (dj := 135) rfl rfl ?_
            refine KOps.neqF (rfl) ?_
            refine KOps.pickF ?_
            refine KOps.move ?_
            refine KOps.guardYes (dj := 139) rfl rfl ?_
            refine KOps.move ?_
            refine KOps.guardYes (dj := 139) rfl rfl ?_
            refine KOps.neqF (rfl) ?_
            refine KOps.pickF ?_
            refine KOps.done ?_
            refine sqN.normal ?_
            refine NA.sub (Sub.cons (t := 1) Look.eq (Sub.cons (t := 5) Look.eq (Sub.cons (t := 6) Look.eq (Sub.cons (t := 7) Look.eq (Sub.cons (t := 40) Look.eq (Sub.cons (t := 41) Look.eq (Sub.cons (t := 119) Look.eq (Sub.cons (t := 120) Look.eq (Sub.cons (t := 123) Look.eq (Sub.cons (t := 124) Look.eq (Sub.cons (t := 125) Look.eq (Sub.cons (t := 136) Look.eq (Sub.cons (t := 137) Look.eq (Sub.cons (t := 140) Look.eq (Sub.cons (t := 141) Look.eq (Sub.cons (t := 142) Look.eq (Sub.nil _))))))))))))))))) ?_
            refine NA.condF ?_
            refine NA.skip ?_
            refine blQ.normal ?_
            refine sqN.normal ?_
            refine NA.sub (Sub.cons (t := 1) Look.eq (Sub.cons (t := 5) Look.eq (Sub.cons (t := 6) Look.eq (Sub.cons (t := 7) Look.eq (Sub.cons (t := 40) Look.eq (Sub.cons (t := 41) Look.eq (Sub.cons (t := 119) Look.eq (Sub.cons (t := 120) Look.eq (Sub.cons (t := 123) Look.eq (Sub.cons (t := 124) Look.eq (Sub.cons (t := 125) Look.eq (Sub.cons (t := 136) Look.eq (Sub.cons (t := 137) Look.eq (Sub.cons (t := 140) Look.eq (Sub.cons (t := 141) Look.eq (Sub.nil _)))))))))))))))) ?_
            refine NA.region rfl ?_
            refine KOps.add (by first | omega | (simp; omega)) (by first | omega | (simp; omega)) ?_
            refine KOps.move ?_
            refine KOps.done ?_
            first
             | exact lpQ.normal (k + 1, Q) (by repeat (first | exact Sub.nil _ | refine Sub.cons Look.eq ?_ | refine Sub.cons (Eq.trans Look.eq (congrArg (AV.int _) (by first | omega | (dsimp only; omega)))) ?_)) ⟨by dsimp only; omega, hnd2, code_done hm2, hS⟩ (by dsimp only; omega)
             | exact lpQ.normal (k + 1, Q) (by repeat (first | exact Sub.nil _ | refine Sub.cons Look.eq ?_ | refine Sub.cons (Eq.trans Look.eq (congrArg (AV.int _) (by first | omega | (dsimp only; omega)))) ?_)) ⟨by dsimp only; omega, hnd2, code_done hm2, St.drop (A := [_]) hS⟩ (by dsimp only; omega)
             | exact lpQ.normal (k + 1, Q) (by repeat (first | exact Sub.nil _ | refine Sub.cons Look.eq ?_ | refine Sub.cons (Eq.trans Look.eq (congrArg (AV.int _) (by first | omega | (dsimp only; omega)))) ?_)) ⟨by dsimp only; omega, hnd2, code_done hm2, St.pick [1] (by decide) rfl hS⟩ (by dsimp only; omega)
        · intro g122
          have g122 := of_decide_eq_true g122
          refine KOps.guardNo (dj := 122) rfl rfl rfl ?_
          refine KOps.guardNo (dj := 122) rfl rfl rfl ?_
          refine KOps.pickT ?_
          refine KOps.done ?_
          refine sqN.normal ?_
          refine NA.sub (Sub.cons (t := 1) Look.eq (Sub.cons (t := 5) Look.eq (Sub.cons (t := 6) Look.eq (Sub.cons (t := 7) Look.eq (Sub.cons (t := 10) Look.eq (Sub.cons (t := 40) Look.eq (Sub.cons (t := 41) Look.eq (Sub.cons (t := 119) Look.eq (Sub.cons (t := 120) Look.eq (Sub.cons (t := 123) Look.eq (Sub.cons (t := 124) Look.eq (Sub.cons (t := 125) Look.eq (Sub.cons (t := 126) Look.eq (Sub.nil _)))))))))))))) ?_
          refine NA.condT ?_
          refine NA.exit ?_
          refine sqN.exit ?_
          refine blQ.here ?_
          refine sqN.normal ?_
          refine NA.sub (Sub.cons (t := 1) Look.eq (Sub.cons (t := 5) Look.eq (Sub.cons (t := 6) Look.eq (Sub.cons (t := 7) Look.eq (Sub.cons (t := 40) Look.eq (Sub.cons (t := 41) Look.eq (Sub.cons (t := 119) Look.eq (Sub.cons (t := 120) Look.eq (Sub.cons (t := 123) Look.eq (Sub.cons (t := 124) Look.eq (Sub.cons (t := 125) Look.eq (Sub.nil _)))))))))))) ?_
          refine NA.region rfl ?_
          refine KOps.add (by first | omega | (simp; omega)) (by first | omega | (simp; omega)) ?_
          refine KOps.move ?_
          refine KOps.done ?_
          first
           | exact lpQ.normal (k + 1, Q) (by repeat (first | exact Sub.nil _ | refine Sub.cons Look.eq ?_ | refine Sub.cons (Eq.trans Look.eq (congrArg (AV.int _) (by first | omega | (dsimp only; omega)))) ?_)) ⟨by dsimp only; omega, hnd2, code_done hm2, hS⟩ (by dsimp only; omega)
           | exact lpQ.normal (k + 1, Q) (by repeat (first | exact Sub.nil _ | refine Sub.cons Look.eq ?_ | refine Sub.cons (Eq.trans Look.eq (congrArg (AV.int _) (by first | omega | (dsimp only; omega)))) ?_)) ⟨by dsimp only; omega, hnd2, code_done hm2, St.drop (A := [_]) hS⟩ (by dsimp only; omega)
           | exact lpQ.normal (k + 1, Q) (by repeat (first | exact Sub.nil _ | refine Sub.cons Look.eq ?_ | refine Sub.cons (Eq.trans Look.eq (congrArg (AV.int _) (by first | omega | (dsimp only; omega)))) ?_)) ⟨by dsimp only; omega, hnd2, code_done hm2, St.pick [1] (by decide) rfl hS⟩ (by dsimp only; omega)
      · intro g118
        have g118 := not_of_not_decide g118
        refine KOps.guardNo (dj := 118) rfl rfl rfl ?_
        refine KOps.pickT ?_
        refine KOps.move ?_
        refine KOps.guardNo (dj := 122) rfl rfl rfl ?_
        refine KOps.guardNo (dj := 122) rfl rfl rfl ?_
        refine KOps.guardNo (dj := 122) rfl rfl rfl ?_
        refine KOps.pickT ?_
        refine KOps.done ?_
        refine sqN.normal ?_
        refine NA.sub (Sub.cons (t := 1) Look.eq (Sub.cons (t := 5) Look.eq (Sub.cons (t := 6) Look.eq (Sub.cons (t := 7) Look.eq (Sub.cons (t := 10) Look.eq (Sub.cons (t := 40) Look.eq (Sub.cons (t := 41) Look.eq (Sub.cons (t := 119) Look.eq (Sub.cons (t := 120) Look.eq (Sub.cons (t := 123) Look.eq (Sub.cons (t := 124) Look.eq (Sub.cons (t := 125) Look.eq (Sub.cons (t := 126) Look.eq (Sub.nil _)))))))))))))) ?_
        refine NA.condT ?_
        refine NA.exit ?_
        refine sqN.exit ?_
        refine blQ.here ?_
        refine sqN.normal ?_
        refine NA.sub (Sub.cons (t := 1) Look.eq (Sub.cons (t := 5) Look.eq (Sub.cons (t := 6) Look.eq (Sub.cons (t := 7) Look.eq (Sub.cons (t := 40) Look.eq (Sub.cons (t := 41) Look.eq (Sub.cons (t := 119) Look.eq (Sub.cons (t := 120) Look.eq (Sub.cons (t := 123) Look.eq (Sub.cons (t := 124) Look.eq (Sub.cons (t := 125) Look.eq (Sub.nil _)))))))))))) ?_
        refine NA.region rfl ?_
        refine KOps.add (by first | omega | (simp; omega)) (by first | omega | (simp; omega)) ?_
        refine KOps.move ?_
        refine KOps.done ?_
        first
         | exact lpQ.normal (k + 1, Q) (by repeat (first | exact Sub.nil _ | refine Sub.cons Look.eq ?_ | refine Sub.cons (Eq.trans Look.eq (congrArg (AV.int _) (by first | omega | (dsimp only; omega)))) ?_)) ⟨by dsimp only; omega, hnd2, code_done hm2, hS⟩ (by dsimp only; omega)
         | exact lpQ.normal (k + 1, Q) (by repeat (first | exact Sub.nil _ | refine Sub.cons Look.eq ?_ | refine Sub.cons (Eq.trans Look.eq (congrArg (AV.int _) (by first | omega | (dsimp only; omega)))) ?_)) ⟨by dsimp only; omega, hnd2, code_done hm2, St.drop (A := [_]) hS⟩ (by dsimp only; omega)
         | exact lpQ.normal (k + 1, Q) (by repeat (first | exact Sub.nil _ | refine Sub.cons Look.eq ?_ | refine Sub.cons (Eq.trans Look.eq (congrArg (AV.int _) (by first | omega | (dsimp only; omega)))) ?_)) ⟨by dsimp only; omega, hnd2, code_done hm2, St.pick [1] (by decide) rfl hS⟩ (by dsimp only; omega)
  · intro c42
    refine NA.exit ?_
    refine sqN.exit ?_
    refine lpQ.exit ?_
    refine blQ.here ?_
    refine sqN.normal ?_
    refine NA.sub (Sub.cons (t := 5) Look.eq (Sub.cons (t := 6) Look.eq (Sub.nil _))) ?_
    refine NA.seq ?_
    refine NA.seq ?_
    refine NA.region rfl ?_
    obtain ⟨R, hR⟩ : ∃ R, R = P := ⟨_, rfl⟩
    subst hR
    obtain rfl : k = m + 1 := by omega
    have hRl := code_all hnd hm
    refine KOps.move ?_
    refine KOps.mrange hS (St.rdM hS 0 rfl ⟨_, rfl⟩) ?_
    intro v145 h' hv145 hS
    refine KOps.done ?_
    refine sqN.normal ?_
    refine NA.sub (Sub.cons (t := 5) Look.eq (Sub.cons (t := 6) Look.eq (Sub.cons (t := 145) Look.eq (Sub.nil _)))) ?_
    refine NA.block ?_
    refine NA.loop (X := List Nat) (fun x_ => [(5, .int .i64 (m : Int)), (6, .mp bm22), (145, v145)]) (fun x_ h' => OkD (setE R).length x_ ∧ St h h' [mwalkO v145 bm22 (setE R).length x_, setO (.mp bm22) R]) (fun x_ => (setE R).length + 1 - x_.length) [] (by repeat (first | exact Sub.nil _ | refine Sub.cons Look.eq ?_ | refine Sub.cons (Eq.trans Look.eq (congrArg (AV.int _) (by first | omega | (dsimp only; omega)))) ?_)) ?_ ?_
    · exact ⟨OkD.nil _, hS⟩
    rintro D h3 ⟨hD, hS⟩
    have hDl := hD.len
    refine NA.seq ?_
    refine NA.regionNext (es := setE R) (D := D) rfl hD hS hv145 (i := 0) rfl (St.rdM hS 1 rfl ⟨_, rfl⟩) ?_ ?_
    · intro nj nk nu hnj hnk h' hS
      simp only [List.set_cons_zero, List.set_cons_succ, Nat.zero_add] at hS
      obtain ⟨z, hz, rfl, rfl⟩ := set_at hnk
      have hzl : z.length = m := ((hm z).1 (List.mem_of_getElem? hz)).1
      refine KOps.extract ?_
      refine KOps.done ?_
      refine sqN.normal ?_
      refine NA.sub (Sub.cons (t := 5) Look.eq (Sub.cons (t := 6) Look.eq (Sub.cons (t := 145) Look.eq (Sub.cons (t := 147) Look.eq (Sub.nil _))))) ?_
      refine NA.seq ?_
      refine NA.condT ?_
      refine NA.skip ?_
      refine sqN.normal ?_
      refine NA.sub (Sub.cons (t := 5) Look.eq (Sub.cons (t := 6) Look.eq (Sub.cons (t := 145) Look.eq (Sub.nil _)))) ?_
      refine NA.block ?_
      refine NA.seq ?_
      refine NA.region rfl ?_
      refine KOps.mentry hS hv145 (i := 0) rfl (St.rdM hS 1 rfl ⟨_, rfl⟩) rfl hnk ?_
      refine KOps.extract ?_
      refine KOps.assign ?_
      refine KOps.done ?_
      refine sqN.normal ?_
      refine NA.sub (Sub.cons (t := 5) Look.eq (Sub.cons (t := 6) Look.eq (Sub.cons (t := 18) Look.eq (Sub.cons (t := 145) Look.eq (Sub.nil _))))) ?_
      refine NA.seq ?_
      refine NA.region rfl ?_
      refine KOps.move ?_
      refine KOps.call rfl (checkF_c) ?_
      rintro _ _ ⟨rfl, rfl⟩
      refine KOps.neqF (chk_wd (by omega)) ?_
      refine KOps.done ?_
      refine sqN.normal ?_
      refine NA.sub (Sub.cons (t := 5) Look.eq (Sub.cons (t := 6) Look.eq (Sub.cons (t := 145) Look.eq (Sub.cons (t := 152) Look.eq (Sub.nil _))))) ?_
      refine NA.condF ?_
      refine NA.skip ?_
      refine blQ.normal ?_
      have hDs := hD.snoc hnj (List.getElem?_eq_some_iff.1 hnk).1
      have hDl2 := hDs.len
      rw [List.length_append] at hDl2
      exact lpQ.normal (D ++ [nj]) (by repeat (first | exact Sub.nil _ | refine Sub.cons Look.eq ?_ | refine Sub.cons (Eq.trans Look.eq (congrArg (AV.int _) (by first | omega | (dsimp only; omega)))) ?_)) ⟨hDs, hS⟩ (by rw [List.length_append]; simp only [List.length_cons, List.length_nil] at hDl2 ⊢; omega)
    · intro hall
      refine KOps.extract ?_
      refine KOps.done ?_
      refine sqN.normal ?_
      refine NA.sub (Sub.cons (t := 5) Look.eq (Sub.cons (t := 6) Look.eq (Sub.cons (t := 145) Look.eq (Sub.cons (t := 147) Look.eq (Sub.nil _))))) ?_
      refine NA.seq ?_
      refine NA.condF ?_
      refine NA.exit ?_
      refine sqN.exit ?_
      refine lpQ.exit ?_
      refine blQ.here ?_
      refine sqN.normal ?_
      refine NA.sub (Sub.cons (t := 5) Look.eq (Sub.cons (t := 6) Look.eq (Sub.nil _))) ?_
      refine NA.seq ?_
      refine NA.drawL (c := 1) (d := 154) [1001] mixed rfl rfl rfl (by kernel_rfl) (by decide) ?_
      refine KOps.move ?_
      refine KOps.mapLenD (St.rdM hS 1 rfl ⟨_, rfl⟩) ?_
      rw [setE_len, hRl]
      refine KOps.move ?_
      refine KOps.shl (by omega) ?_
      rw [shl64 m (by omega)]
      refine KOps.eqlY (by omega) ?_
      refine KOps.move ?_
      refine KOps.guardYes (dj := 158) rfl rfl ?_
      refine KOps.call rfl (works_c (hTab.ext hS.keeps)) ?_
      rintro _ hx ⟨rfl, hK⟩
      have hS0 : St _ _ _ := St.trans hS (St.ofK hK)
      clear hS
      have hS := hS0
      clear hS0
      simp only [List.nil_append] at hS
      refine KOps.pickT ?_
      refine KOps.assign ?_
      refine KOps.done ?_
      refine sqN.normal ?_
      refine NA.sub (Sub.cons (t := 4) Look.eq (Sub.nil _)) ?_
      refine NA.ret ?_
      refine fnQ.ret1 ?_
      exact rfl

theorem law_classes_i {h : AHeap} {x n : Int} (hTab : Tab h) (h0 : 0 ≤ x) (h1 : x ≤ 255) (h4 : 0 ≤ n) (h5 : n ≤ 255) : NCalls Go.Proofs.Tryd.prog 9 [.int .u8 x, .int .u8 n] h (fun r _ => r = .bool true) := by
  obtain ⟨a, rfl⟩ : ∃ a : Nat, x = (a : Int) := ⟨x.toNat, by omega⟩
  obtain ⟨c, rfl⟩ : ∃ c : Nat, n = (c : Int) := ⟨n.toNat, by omega⟩
  exact law_classes hTab (by omega) (by omega)
end Go.Am
