/-
  Layer 13: the law that a pack rises without the cards that are returned.
  Conditions: none.
-/
import Derived.Test.YtenkokebdgekbaaCp
import Derived.Test.YtenkokebdgekbaaCh
import Derived.Test.YtenkokebdgekbaaPt12
namespace Go.Am
open Go.Gr
theorem ok_step {r : List Int} {k : Nat} : decide ((k : Int) > (if r = [] then -1 else lastD r)) = (decide (r = []) || (decide (lastD r < (k : Int)) != false)) := by
  by_cases h : r = []
  · rw [if_pos h, decide_eq_true h, Bool.true_or]; exact decide_eq_true (by omega)
  · rw [if_neg h, decide_eq_false h, Bool.false_or]; simp

theorem law_sorted {h : AHeap} {a : Int} {c : List Int} (ha : (Lit.int .u8 a).wf = true) (hc : c.length = 9) (hw : ∀ x ∈ c, (Lit.int .u8 x).wf = true) : ACalls Go.Proofs.Try.prog 11 [.int .u8 a, .agg (bytes c)] h (fun r _ => r = .bool true) := by
  refine KA.fn 133 [.tmp 4] Go.Proofs.Try.func11 rfl (by decide) rfl rfl (Nat.le_of_ble_eq_true rfl) ?_
  have hS := St.refl h
  have hab := wf_u8 ha
  have ht0 := Int.tmod_nonneg 8 hab.1
  have ht1 := Int.tmod_lt_of_pos a (show (0 : Int) < 8 by decide)
  show KA _ 133 _ _ [(0, .int .u8 a), (1, .agg (bytes c))] _
  refine KA.seq ?_
  refine KA.region rfl ?_
  refine KOps.boxU hS ?_
  intro p3 h1 hp3 hS
  refine KOps.assign ?_
  refine KOps.done ?_
  refine sqQ.normal ?_
  refine KA.sub (Sub.cons (t := 0) Look.eq (Sub.cons (t := 3) Look.eq (Sub.nil _))) ?_
  refine KA.seq ?_
  refine KA.region rfl ?_
  refine KOps.move ?_
  refine KOps.convU hab.1 hab.2 ?_
  refine KOps.rem (by decide) (by omega) (by omega) ?_
  refine KOps.add (by omega) (by omega) ?_
  obtain ⟨n, hn⟩ : ∃ n : Nat, 1 + a.tmod 8 = (n : Int) := ⟨(1 + a.tmod 8).toNat, by omega⟩
  rw [hn]
  refine KOps.loadArr hS (i := 0) rfl hp3 hc (by decide) ?_
  refine KOps.call rfl (mixed_c (n := n) (by omega) (by omega) hc hw) ?_
  rintro v5 h2 ⟨l, hS2, hln, hch⟩
  have hv5 : Row h2 v5 l := hS2.rd 0 rfl
  have hpk := (checkE_ok hch).2.2
  have hl8 : l.length ≤ 8 := by omega
  have hms := moved_size hch
  have hpw : 2 ^ l.length ≤ 2 ^ 9 := Nat.pow_le_pow_right (by decide) (by omega)
  have hsh := i64_shl l.length (by omega)
  refine KOps.assign ?_
  refine KOps.done ?_
  refine sqQ.normal ?_
  refine KA.sub (Sub.cons (t := 5) Look.eq (Sub.nil _)) ?_
  refine KA.seq ?_
  refine KA.region rfl ?_
  refine KOps.move ?_
  refine KOps.lenI hv5 ?_
  refine KOps.assign ?_
  refine KOps.done ?_
  refine sqQ.normal ?_
  refine KA.sub (Sub.cons (t := 5) Look.eq (Sub.cons (t := 6) Look.eq (Sub.nil _))) ?_
  refine KA.seq ?_
  refine KA.region rfl ?_
  refine KOps.move ?_
  refine KOps.call rfl (moved_c hv5) ?_
  rintro _ h3 ⟨vm, rfl, hK3, hm⟩
  rw [okE_yes hch] at hm
  rw [hch]
  have hv5 := Row.ext hK3 hv5
  refine KOps.move ?_
  refine KOps.extract ?_
  refine KOps.extract ?_
  refine KOps.assign ?_
  refine KOps.assign ?_
  refine KOps.done ?_
  refine sqQ.normal ?_
  refine KA.sub (Sub.cons (t := 5) Look.eq (Sub.cons (t := 6) Look.eq (Sub.cons (t := 7) Look.eq (Sub.cons (t := 8) Look.eq (Sub.nil _))))) ?_
  refine KA.seq ?_
  refine KA.region rfl ?_
  refine KOps.move ?_
  refine KOps.call rfl (rising_c hv5) ?_
  rintro _ h4 ⟨vr, rfl, hS4⟩
  rw [okE_yes hch] at hS4
  rw [hch]
  have hr4 : Row h4 vr (bestOf l false) := hS4.rd 0 rfl
  have hv5 := Row.ext hS4.keeps hv5
  have hm := Row.ext hS4.keeps hm
  refine KOps.move ?_
  refine KOps.extract ?_
  refine KOps.extract ?_
  refine KOps.assign ?_
  refine KOps.assign ?_
  refine KOps.done ?_
  refine sqQ.normal ?_
  refine KA.sub (Sub.cons (t := 5) Look.eq (Sub.cons (t := 6) Look.eq (Sub.cons (t := 7) Look.eq (Sub.cons (t := 8) Look.eq (Sub.cons (t := 9) Look.eq (Sub.cons (t := 10) Look.eq (Sub.nil _))))))) ?_
  refine KA.seq ?_
  refine KA.seq ?_
  refine KA.region rfl ?_
  refine KOps.move ?_
  refine KOps.neqF rfl ?_
  refine KOps.move ?_
  refine KOps.guardYes (dj := 40) rfl rfl ?_
  refine KOps.move ?_
  refine KOps.guardYes (dj := 40) rfl rfl ?_
  refine KOps.neqF rfl ?_
  refine KOps.pickF ?_
  refine KOps.move ?_
  refine KOps.guardYes (dj := 44) rfl rfl ?_
  refine KOps.move ?_
  refine KOps.guardYes (dj := 44) rfl rfl ?_
  refine KOps.lenI hm ?_
  refine KOps.guardYes (dj := 44) rfl rfl ?_
  refine KOps.move ?_
  refine KOps.guardYes (dj := 44) rfl rfl ?_
  refine KOps.move ?_
  refine KOps.guardYes (dj := 44) rfl rfl ?_
  refine KOps.lenI hr4 ?_
  refine KOps.guardYes (dj := 44) rfl rfl ?_
  refine KOps.sub (by first | omega | (simp only [List.length_append, List.length_singleton, List.length_set]; omega)) (by first | omega | (simp only [List.length_append, List.length_singleton, List.length_set]; omega)) ?_
  refine KOps.guardYes (dj := 44) rfl rfl ?_
  refine KOps.neqF (by omega) ?_
  refine KOps.pickF ?_
  refine KOps.done ?_
  refine sqQ.normal ?_
  refine KA.sub (Sub.cons (t := 5) Look.eq (Sub.cons (t := 6) Look.eq (Sub.cons (t := 7) Look.eq (Sub.cons (t := 52) Look.eq (Sub.nil _))))) ?_
  refine KA.condF ?_
  refine KA.skip ?_
  refine sqQ.normal ?_
  refine KA.sub (Sub.cons (t := 5) Look.eq (Sub.cons (t := 6) Look.eq (Sub.cons (t := 7) Look.eq (Sub.nil _)))) ?_
  refine KA.seq ?_
  refine KA.region rfl ?_
  refine KOps.assign ?_
  refine KOps.done ?_
  refine sqQ.normal ?_
  refine KA.seq ?_
  refine KA.region rfl ?_
  refine KOps.assign ?_
  refine KOps.done ?_
  refine sqQ.normal ?_
  refine KA.seq ?_
  refine KA.seq ?_
  refine KA.region rfl ?_
  refine KOps.assign ?_
  refine KOps.done ?_
  refine sqQ.normal ?_
  refine KA.block ?_
  refine KA.loop (X := Nat × AV) (fun x => [(5, v5), (6, .int .i64 (l.length : Int)), (7, vm), (11, x.2), (12, .bool (fstTo l x.1).isSome), (13, .int .i64 (x.1 : Int))]) (fun x h' => x.1 ≤ 2 ^ l.length ∧ Keeps h4 h' ∧ Row h' x.2 ((fstTo l x.1).getD [])) (fun x => 2 ^ l.length - x.1) (0, .nils) (by repeat (first | exact Sub.nil _ | refine Sub.cons Look.eq ?_ | refine Sub.cons (Eq.trans Look.eq (congrArg (AV.int _) (by first | omega | (dsimp only; omega)))) ?_)) ⟨Nat.zero_le _, Keeps.refl h4, .inl ⟨rfl, rfl⟩⟩ ?_
  rintro ⟨s, vf⟩ h5 ⟨hs, hk, hf⟩
  dsimp only at hs hk hf ⊢
  have hS := St.refl h5
  have hv := Row.ext hk hv5
  have hm5 := Row.ext hk hm
  have hfl := fst_len l s
  refine KA.seq ?_
  refine KA.seq ?_
  refine KA.region rfl ?_
  refine KOps.move ?_
  refine KOps.move ?_
  refine KOps.shl (by omega) ?_
  rw [hsh]
  refine KOps.lss ?_
  refine KOps.done ?_
  refine sqQ.normal ?_
  refine KA.sub (Sub.cons (t := 5) Look.eq (Sub.cons (t := 6) Look.eq (Sub.cons (t := 7) Look.eq (Sub.cons (t := 11) Look.eq (Sub.cons (t := 12) Look.eq (Sub.cons (t := 13) Look.eq (Sub.cons (t := 56) Look.eq (Sub.nil _)))))))) ?_
  refine KA.condD ?_ ?_
  · intro c56
    refine KA.skip ?_
    refine sqQ.normal ?_
    refine KA.sub (Sub.cons (t := 5) Look.eq (Sub.cons (t := 6) Look.eq (Sub.cons (t := 7) Look.eq (Sub.cons (t := 11) Look.eq (Sub.cons (t := 12) Look.eq (Sub.cons (t := 13) Look.eq (Sub.nil _))))))) ?_
    refine KA.seq ?_
    refine KA.block ?_
    refine KA.seq ?_
    refine KA.region rfl ?_
    refine KOps.assign ?_
    refine KOps.done ?_
    refine sqQ.normal ?_
    refine KA.seq ?_
    refine KA.region rfl ?_
    refine KOps.assign ?_
    refine KOps.assign ?_
    refine KOps.done ?_
    refine sqQ.normal ?_
    refine KA.seq ?_
    refine KA.seq ?_
    refine KA.region rfl ?_
    refine KOps.move ?_
    refine KOps.move ?_
    refine KOps.done ?_
    refine sqQ.normal ?_
    refine KA.block ?_
    refine KA.loop (X := Nat × AV) (fun x => [(5, v5), (6, .int .i64 (l.length : Int)), (7, vm), (11, vf), (12, .bool (fstTo l s).isSome), (13, .int .i64 (s : Int)), (14, x.2), (15, .bool true), (16, .int .i64 (-1)), (59, .int .i64 (l.length : Int)), (60, .int .i64 (x.1 : Int))]) (fun x h' => x.1 ≤ l.length ∧ St h5 h' [⟨x.2, 1, ints (rowT (iota l.length) s x.1), true⟩]) (fun x => l.length - x.1) (0, .nils) (by repeat (first | exact Sub.nil _ | refine Sub.cons Look.eq ?_ | refine Sub.cons (Eq.trans Look.eq (congrArg (AV.int _) (by first | omega | (dsimp only; omega)))) ?_)) ?_ ?_
    · exact ⟨Nat.zero_le _, St.nil hS 1⟩
    rintro ⟨i, vc⟩ h6 ⟨hi, hS⟩
    dsimp only at hi hS ⊢
    have hrl := rowT_len (iota l.length) s i
    have hsc := rowT_succ (iota l.length) s i
    refine KA.seq ?_
    refine KA.region rfl ?_
    refine KOps.lss ?_
    refine KOps.done ?_
    refine sqQ.normal ?_
    refine KA.seq ?_
    refine KA.condD ?_ ?_
    · intro c61
      refine KA.skip ?_
      refine sqQ.normal ?_
      refine KA.sub (Sub.cons (t := 5) Look.eq (Sub.cons (t := 6) Look.eq (Sub.cons (t := 7) Look.eq (Sub.cons (t := 11) Look.eq (Sub.cons (t := 12) Look.eq (Sub.cons (t := 13) Look.eq (Sub.cons (t := 14) Look.eq (Sub.cons (t := 15) Look.eq (Sub.cons (t := 16) Look.eq (Sub.cons (t := 59) Look.eq (Sub.cons (t := 60) Look.eq (Sub.nil _)))))))))))) ?_
      refine KA.seq ?_
      refine KA.block ?_
      refine KA.seq ?_
      refine KA.region rfl ?_
      refine KOps.move ?_
      refine KOps.assign ?_
      refine KOps.done ?_
      refine sqQ.normal ?_
      refine KA.sub (Sub.cons (t := 5) Look.eq (Sub.cons (t := 6) Look.eq (Sub.cons (t := 7) Look.eq (Sub.cons (t := 11) Look.eq (Sub.cons (t := 12) Look.eq (Sub.cons (t := 13) Look.eq (Sub.cons (t := 14) Look.eq (Sub.cons (t := 15) Look.eq (Sub.cons (t := 16) Look.eq (Sub.cons (t := 17) Look.eq (Sub.cons (t := 59) Look.eq (Sub.cons (t := 60) Look.eq (Sub.nil _))))))))))))) ?_
      refine KA.seq ?_
      refine KA.region rfl ?_
      refine KOps.move ?_
      refine KOps.move ?_
      refine KOps.shr (by first | omega | (simp only [List.length_append, List.length_singleton, List.length_set]; omega)) ?_
      refine KOps.bits (by simp) ?_
      refine KOps.eql ?_
      refine KOps.done ?_
      refine sqQ.normal ?_
      refine KA.sub (Sub.cons (t := 5) Look.eq (Sub.cons (t := 6) Look.eq (Sub.cons (t := 7) Look.eq (Sub.cons (t := 11) Look.eq (Sub.cons (t := 12) Look.eq (Sub.cons (t := 13) Look.eq (Sub.cons (t := 14) Look.eq (Sub.cons (t := 15) Look.eq (Sub.cons (t := 16) Look.eq (Sub.cons (t := 17) Look.eq (Sub.cons (t := 59) Look.eq (Sub.cons (t := 60) Look.eq (Sub.cons (t := 67) Look.eq (Sub.nil _)))))))))))))) ?_
      refine KA.condD ?_ ?_
      · intro c67
        refine KA.region rfl ?_
        refine KOps.move ?_
        refine KOps.move ?_
        refine KOps.buildSlice hS rfl (by decide) rfl ?_
        intro v70 h' hS
        refine KOps.appendI hS (fun _ => rfl) (i := 0) rfl (by first | omega | (simp; omega)) ?_
        intro r71 h' hr71 hS
        refine KOps.assign ?_
        refine KOps.done ?_
        refine blQ.normal ?_
        refine sqQ.normal ?_
        refine KA.sub (Sub.cons (t := 5) Look.eq (Sub.cons (t := 6) Look.eq (Sub.cons (t := 7) Look.eq (Sub.cons (t := 11) Look.eq (Sub.cons (t := 12) Look.eq (Sub.cons (t := 13) Look.eq (Sub.cons (t := 14) Look.eq (Sub.cons (t := 15) Look.eq (Sub.cons (t := 16) Look.eq (Sub.cons (t := 59) Look.eq (Sub.cons (t := 60) Look.eq (Sub.nil _)))))))))))) ?_
        refine KA.region rfl ?_
        refine KOps.add (by first | omega | (simp only [List.length_append, List.length_singleton, List.length_set]; omega)) (by first | omega | (simp only [List.length_append, List.length_singleton, List.length_set]; omega)) ?_
        refine KOps.move ?_
        refine KOps.done ?_
        rw [if_pos (by rw [i64_and s (by omega) i (by omega)] at c67; cases hb : s.testBit i <;> simp_all), iota_getD (by omega)] at hsc
        exact lpQ.normal (i + 1, r71) (by repeat (first | exact Sub.nil _ | refine Sub.cons Look.eq ?_ | refine Sub.cons (Eq.trans Look.eq (congrArg (AV.int _) (by first | omega | (dsimp only; omega)))) ?_)) ⟨by dsimp only; omega, by dsimp only; rw [hsc]; exact hS⟩ (by dsimp only; omega)
      · intro c67
        refine KA.skip ?_
        refine blQ.normal ?_
        refine sqQ.normal ?_
        refine KA.sub (Sub.cons (t := 5) Look.eq (Sub.cons (t := 6) Look.eq (Sub.cons (t := 7) Look.eq (Sub.cons (t := 11) Look.eq (Sub.cons (t := 12) Look.eq (Sub.cons (t := 13) Look.eq (Sub.cons (t := 14) Look.eq (Sub.cons (t := 15) Look.eq (Sub.cons (t := 16) Look.eq (Sub.cons (t := 59) Look.eq (Sub.cons (t := 60) Look.eq (Sub.nil _)))))))))))) ?_
        refine KA.region rfl ?_
        refine KOps.add (by first | omega | (simp only [List.length_append, List.length_singleton, List.length_set]; omega)) (by first | omega | (simp only [List.length_append, List.length_singleton, List.length_set]; omega)) ?_
        refine KOps.move ?_
        refine KOps.done ?_
        rw [if_neg (by rw [i64_and s (by omega) i (by omega)] at c67; cases hb : s.testBit i <;> simp_all)] at hsc
        exact lpQ.normal (i + 1, vc) (by repeat (first | exact Sub.nil _ | refine Sub.cons Look.eq ?_ | refine Sub.cons (Eq.trans Look.eq (congrArg (AV.int _) (by first | omega | (dsimp only; omega)))) ?_)) ⟨by dsimp only; omega, by dsimp only; rw [hsc]; exact hS⟩ (by dsimp only; omega)
    · intro c61
      have hil : i = l.length := by omega
      subst hil
      have hcl := (rowS_sub (iota l.length) s).length_le
      rw [iota_len] at hcl
      have hS : St h5 h6 [⟨vc, 1, ints (rowS (iota l.length) s), true⟩] := by
        have e : (rowS (iota l.length) s) = rowT (iota l.length) s l.length := by rw [rowS, iota_len]
        rw [e]; exact hS
      refine KA.exit ?_
      refine sqQ.exit ?_
      refine lpQ.exit ?_
      refine blQ.here ?_
      refine sqQ.normal ?_
      refine KA.sub (Sub.cons (t := 5) Look.eq (Sub.cons (t := 6) Look.eq (Sub.cons (t := 7) Look.eq (Sub.cons (t := 11) Look.eq (Sub.cons (t := 12) Look.eq (Sub.cons (t := 13) Look.eq (Sub.cons (t := 14) Look.eq (Sub.cons (t := 15) Look.eq (Sub.cons (t := 16) Look.eq (Sub.nil _)))))))))) ?_
      refine KA.seq ?_
      refine KA.seq ?_
      refine KA.region rfl ?_
      refine KOps.move ?_
      refine KOps.lenI (Row.ext hS.keeps hv) ?_
      refine KOps.move ?_
      refine KOps.done ?_
      refine sqQ.normal ?_
      refine KA.block ?_
      refine KA.loop (X := Nat) (fun i => [(5, v5), (6, .int .i64 (l.length : Int)), (7, vm), (11, vf), (12, .bool (fstTo l s).isSome), (13, .int .i64 (s : Int)), (14, vc), (15, .bool (runsB (restL (l.take i) (rowS (iota l.length) s)) false)), (16, .int .i64 (if restL (l.take i) (rowS (iota l.length) s) = [] then -1 else lastD (restL (l.take i) (rowS (iota l.length) s)))), (73, v5), (74, .int .i64 (l.length : Int)), (75, .int .i64 (i : Int))]) (fun i h' => h6 = h' ∧ i ≤ l.length) (fun i => l.length - i) 0 (by repeat (first | exact Sub.nil _ | refine Sub.cons Look.eq ?_ | refine Sub.cons (Eq.trans Look.eq (congrArg (AV.int _) (by first | omega | (dsimp only; omega)))) ?_ | refine Sub.cons (Eq.trans Look.eq (congrArg AV.bool (by rw [List.take_zero]; rfl))) ?_ | refine Sub.cons (Eq.trans Look.eq (congrArg (AV.int _) (by rw [List.take_zero]; rfl))) ?_)) ⟨rfl, Nat.zero_le _⟩ ?_
      rintro i _ ⟨rfl, hi⟩
      refine KA.seq ?_
      refine KA.region rfl ?_
      refine KOps.lss ?_
      refine KOps.done ?_
      refine sqQ.normal ?_
      refine KA.seq ?_
      refine KA.condD ?_ ?_
      · intro c76
        have hpi := hpk.2 _ (getD_mem (show i < l.length by omega))
        obtain ⟨k, hk1⟩ : ∃ k : Nat, l.getD i 0 = (k : Int) := ⟨(l.getD i 0).toNat, by omega⟩
        have hmem := mem_rowS (n := l.length) (s := s) (k := k) (by omega)
        have hsr := restL_snoc (l.take i) (rowS (iota l.length) s) (l.getD i 0)
        rw [← take_snoc (by omega), hk1] at hsr
        refine KA.skip ?_
        refine sqQ.normal ?_
        refine KA.sub (Sub.cons (t := 5) Look.eq (Sub.cons (t := 6) Look.eq (Sub.cons (t := 7) Look.eq (Sub.cons (t := 11) Look.eq (Sub.cons (t := 12) Look.eq (Sub.cons (t := 13) Look.eq (Sub.cons (t := 14) Look.eq (Sub.cons (t := 15) Look.eq (Sub.cons (t := 16) Look.eq (Sub.cons (t := 73) Look.eq (Sub.cons (t := 74) Look.eq (Sub.cons (t := 75) Look.eq (Sub.nil _))))))))))))) ?_
        refine KA.seq ?_
        refine KA.block ?_
        refine KA.seq ?_
        refine KA.region rfl ?_
        refine KOps.indexIJ (Row.ext hS.keeps hv) (j := i) rfl (by first | omega | (simp; omega)) ?_
        intro p77 hp77
        refine KOps.loadI hp77 (Row.ext hS.keeps hv) (by first | omega | (simp; omega)) ?_
        rw [hk1]
        refine KOps.assign ?_
        refine KOps.done ?_
        refine sqQ.normal ?_
        refine KA.sub (Sub.cons (t := 5) Look.eq (Sub.cons (t := 6) Look.eq (Sub.cons (t := 7) Look.eq (Sub.cons (t := 11) Look.eq (Sub.cons (t := 12) Look.eq (Sub.cons (t := 13) Look.eq (Sub.cons (t := 14) Look.eq (Sub.cons (t := 15) Look.eq (Sub.cons (t := 16) Look.eq (Sub.cons (t := 19) Look.eq (Sub.cons (t := 73) Look.eq (Sub.cons (t := 74) Look.eq (Sub.cons (t := 75) Look.eq (Sub.nil _)))))))))))))) ?_
        refine KA.seq ?_
        refine KA.region rfl ?_
        refine KOps.move ?_
        refine KOps.move ?_
        refine KOps.shr (by first | omega | (simp only [List.length_append, List.length_singleton, List.length_set]; omega)) ?_
        refine KOps.bits (by simp) ?_
        refine KOps.eql ?_
        refine KOps.done ?_
        refine sqQ.normal ?_
        refine KA.sub (Sub.cons (t := 5) Look.eq (Sub.cons (t := 6) Look.eq (Sub.cons (t := 7) Look.eq (Sub.cons (t := 11) Look.eq (Sub.cons (t := 12) Look.eq (Sub.cons (t := 13) Look.eq (Sub.cons (t := 14) Look.eq (Sub.cons (t := 15) Look.eq (Sub.cons (t := 16) Look.eq (Sub.cons (t := 19) Look.eq (Sub.cons (t := 73) Look.eq (Sub.cons (t := 74) Look.eq (Sub.cons (t := 75) Look.eq (Sub.cons (t := 83) Look.eq (Sub.nil _))))))))))))))) ?_
        refine KA.condD ?_ ?_
        · intro c83
          rw [i64_and s (by omega) k (by omega)] at c83
          rw [if_neg (fun hq => by have := hmem.1 hq; rw [if_pos this] at c83; omega)] at hsr
          refine KA.seq ?_
          refine KA.region rfl ?_
          refine KOps.move ?_
          refine KOps.move ?_
          refine KOps.guardB (dj := 85) rfl rfl true false rfl ?_ ?_
          · intro g85
            refine KOps.move ?_
            refine KOps.guardYes (dj := 85) rfl rfl ?_
            refine KOps.move ?_
            refine KOps.guardYes (dj := 85) rfl rfl ?_
            refine KOps.gtr ?_
            refine KOps.pickT ?_
            refine KOps.assign ?_
            refine KOps.done ?_
            refine sqQ.normal ?_
            refine KA.sub (Sub.cons (t := 5) Look.eq (Sub.cons (t := 6) Look.eq (Sub.cons (t := 7) Look.eq (Sub.cons (t := 11) Look.eq (Sub.cons (t := 12) Look.eq (Sub.cons (t := 13) Look.eq (Sub.cons (t := 14) Look.eq (Sub.cons (t := 15) Look.eq (Sub.cons (t := 19) Look.eq (Sub.cons (t := 73) Look.eq (Sub.cons (t := 74) Look.eq (Sub.cons (t := 75) Look.eq (Sub.cons (t := 86) Look.eq (Sub.cons (t := 87) Look.eq (Sub.cons (t := 88) Look.eq (Sub.nil _)))))))))))))))) ?_
            refine KA.region rfl ?_
            refine KOps.move ?_
            refine KOps.assign ?_
            refine KOps.done ?_
            refine blQ.normal ?_
            refine sqQ.normal ?_
            refine KA.sub (Sub.cons (t := 5) Look.eq (Sub.cons (t := 6) Look.eq (Sub.cons (t := 7) Look.eq (Sub.cons (t := 11) Look.eq (Sub.cons (t := 12) Look.eq (Sub.cons (t := 13) Look.eq (Sub.cons (t := 14) Look.eq (Sub.cons (t := 15) Look.eq (Sub.cons (t := 16) Look.eq (Sub.cons (t := 73) Look.eq (Sub.cons (t := 74) Look.eq (Sub.cons (t := 75) Look.eq (Sub.cons (t := 86) Look.eq (Sub.cons (t := 87) Look.eq (Sub.cons (t := 88) Look.eq (Sub.nil _)))))))))))))))) ?_
            refine KA.region rfl ?_
            refine KOps.add (by first | omega | (simp only [List.length_append, List.length_singleton, List.length_set]; omega)) (by first | omega | (simp only [List.length_append, List.length_singleton, List.length_set]; omega)) ?_
            refine KOps.move ?_
            refine KOps.done ?_
            exact lpQ.normal (i + 1) (by repeat (first | exact Sub.nil _ | refine Sub.cons Look.eq ?_ | refine Sub.cons (Eq.trans Look.eq (congrArg (AV.int _) (by first | omega | (dsimp only; omega)))) ?_ | refine Sub.cons (Eq.trans Look.eq (congrArg AV.bool (by rw [hsr, runsB_snoc, g85, Bool.true_and, ok_step]))) ?_ | refine Sub.cons (Eq.trans Look.eq (congrArg (AV.int _) (by rw [hsr, if_neg (by simp), lastD_snoc]))) ?_)) ⟨rfl, by omega⟩ (by omega)
          · intro g85
            refine KOps.guardNo (dj := 85) rfl rfl rfl ?_
            refine KOps.guardNo (dj := 85) rfl rfl rfl ?_
            refine KOps.pickF ?_
            refine KOps.assign ?_
            refine KOps.done ?_
            refine sqQ.normal ?_
            refine KA.sub (Sub.cons (t := 5) Look.eq (Sub.cons (t := 6) Look.eq (Sub.cons (t := 7) Look.eq (Sub.cons (t := 11) Look.eq (Sub.cons (t := 12) Look.eq (Sub.cons (t := 13) Look.eq (Sub.cons (t := 14) Look.eq (Sub.cons (t := 15) Look.eq (Sub.cons (t := 19) Look.eq (Sub.cons (t := 73) Look.eq (Sub.cons (t := 74) Look.eq (Sub.cons (t := 75) Look.eq (Sub.cons (t := 86) Look.eq (Sub.cons (t := 87) Look.eq (Sub.cons (t := 88) Look.eq (Sub.nil _)))))))))))))))) ?_
            refine KA.region rfl ?_
            refine KOps.move ?_
            refine KOps.assign ?_
            refine KOps.done ?_
            refine blQ.normal ?_
            refine sqQ.normal ?_
            refine KA.sub (Sub.cons (t := 5) Look.eq (Sub.cons (t := 6) Look.eq (Sub.cons (t := 7) Look.eq (Sub.cons (t := 11) Look.eq (Sub.cons (t := 12) Look.eq (Sub.cons (t := 13) Look.eq (Sub.cons (t := 14) Look.eq (Sub.cons (t := 15) Look.eq (Sub.cons (t := 16) Look.eq (Sub.cons (t := 73) Look.eq (Sub.cons (t := 74) Look.eq (Sub.cons (t := 75) Look.eq (Sub.cons (t := 86) Look.eq (Sub.cons (t := 87) Look.eq (Sub.cons (t := 88) Look.eq (Sub.nil _)))))))))))))))) ?_
            refine KA.region rfl ?_
            refine KOps.add (by first | omega | (simp only [List.length_append, List.length_singleton, List.length_set]; omega)) (by first | omega | (simp only [List.length_append, List.length_singleton, List.length_set]; omega)) ?_
            refine KOps.move ?_
            refine KOps.done ?_
            exact lpQ.normal (i + 1) (by repeat (first | exact Sub.nil _ | refine Sub.cons Look.eq ?_ | refine Sub.cons (Eq.trans Look.eq (congrArg (AV.int _) (by first | omega | (dsimp only; omega)))) ?_ | refine Sub.cons (Eq.trans Look.eq (congrArg AV.bool (by rw [hsr, runsB_snoc, g85, Bool.false_and]))) ?_ | refine Sub.cons (Eq.trans Look.eq (congrArg (AV.int _) (by rw [hsr, if_neg (by simp), lastD_snoc]))) ?_)) ⟨rfl, by omega⟩ (by omega)
        · intro c83
          rw [i64_and s (by omega) k (by omega)] at c83
          rw [if_pos (hmem.2 (by cases hb : s.testBit k <;> simp_all))] at hsr
          refine KA.skip ?_
          refine blQ.normal ?_
          refine sqQ.normal ?_
          refine KA.sub (Sub.cons (t := 5) Look.eq (Sub.cons (t := 6) Look.eq (Sub.cons (t := 7) Look.eq (Sub.cons (t := 11) Look.eq (Sub.cons (t := 12) Look.eq (Sub.cons (t := 13) Look.eq (Sub.cons (t := 14) Look.eq (Sub.cons (t := 15) Look.eq (Sub.cons (t := 16) Look.eq (Sub.cons (t := 73) Look.eq (Sub.cons (t := 74) Look.eq (Sub.cons (t := 75) Look.eq (Sub.nil _))))))))))))) ?_
          refine KA.region rfl ?_
          refine KOps.add (by first | omega | (simp only [List.length_append, List.length_singleton, List.length_set]; omega)) (by first | omega | (simp only [List.length_append, List.length_singleton, List.length_set]; omega)) ?_
          refine KOps.move ?_
          refine KOps.done ?_
          exact lpQ.normal (i + 1) (by repeat (first | exact Sub.nil _ | refine Sub.cons Look.eq ?_ | refine Sub.cons (Eq.trans Look.eq (congrArg (AV.int _) (by first | omega | (dsimp only; omega)))) ?_ | refine Sub.cons (Eq.trans Look.eq (congrArg AV.bool (by rw [hsr]))) ?_ | refine Sub.cons (Eq.trans Look.eq (congrArg (AV.int _) (by rw [hsr]))) ?_)) ⟨rfl, by omega⟩ (by omega)
      · intro c76
        have hil : i = l.length := by omega
        subst hil
        rw [List.take_length]
        have hse := sorts_runs hch (r := (rowS (iota l.length) s)) (rowS_sub _ _)
        refine KA.exit ?_
        refine sqQ.exit ?_
        refine lpQ.exit ?_
        refine blQ.here ?_
        refine sqQ.normal ?_
        refine KA.sub (Sub.cons (t := 5) Look.eq (Sub.cons (t := 6) Look.eq (Sub.cons (t := 7) Look.eq (Sub.cons (t := 11) Look.eq (Sub.cons (t := 12) Look.eq (Sub.cons (t := 13) Look.eq (Sub.cons (t := 14) Look.eq (Sub.cons (t := 15) Look.eq (Sub.nil _))))))))) ?_
        refine KA.seq ?_
        refine KA.seq ?_
        refine KA.region rfl ?_
        refine KOps.move ?_
        refine KOps.move ?_
        refine KOps.call rfl (sorts_c (Row.ext hS.keeps hv) (hS.rd 0 rfl) (by first | omega | (simp; omega)) (by first | omega | (simp; omega))) ?_
        rintro _ _ ⟨rfl, rfl⟩
        refine KOps.eql ?_
        refine KOps.move ?_
        refine KOps.neqB (by kernel_rfl) ?_
        rw [hse, show (!(runsB (restL l (rowS (iota l.length) s)) false == runsB (restL l (rowS (iota l.length) s)) false)) = false by simp]
        refine KOps.done ?_
        refine sqQ.normal ?_
        refine KA.sub (Sub.cons (t := 5) Look.eq (Sub.cons (t := 6) Look.eq (Sub.cons (t := 7) Look.eq (Sub.cons (t := 11) Look.eq (Sub.cons (t := 12) Look.eq (Sub.cons (t := 13) Look.eq (Sub.cons (t := 14) Look.eq (Sub.cons (t := 15) Look.eq (Sub.cons (t := 97) Look.eq (Sub.nil _)))))))))) ?_
        refine KA.condF ?_
        refine KA.skip ?_
        refine sqQ.normal ?_
        refine KA.sub (Sub.cons (t := 5) Look.eq (Sub.cons (t := 6) Look.eq (Sub.cons (t := 7) Look.eq (Sub.cons (t := 11) Look.eq (Sub.cons (t := 12) Look.eq (Sub.cons (t := 13) Look.eq (Sub.cons (t := 14) Look.eq (Sub.cons (t := 15) Look.eq (Sub.nil _))))))))) ?_
        refine KA.seq ?_
        refine KA.region rfl ?_
        refine KOps.move ?_
        refine KOps.move ?_
        refine KOps.guardB (dj := 99) rfl rfl true false rfl ?_ ?_
        · intro g99
          refine KOps.move ?_
          refine KOps.guardYes (dj := 99) rfl rfl ?_
          refine KOps.not ?_
          refine KOps.guardYes (dj := 99) rfl rfl ?_
          refine KOps.move ?_
          refine KOps.guardB (dj := 102) rfl rfl false true rfl ?_ ?_
          · intro g102
            refine KOps.move ?_
            refine KOps.guardYes (dj := 102) rfl rfl ?_
            refine KOps.lenI (hS.rd 0 rfl) ?_
            refine KOps.guardYes (dj := 102) rfl rfl ?_
            refine KOps.move ?_
            refine KOps.guardYes (dj := 102) rfl rfl ?_
            refine KOps.lenI (Row.ext hS.keeps hf) ?_
            refine KOps.guardYes (dj := 102) rfl rfl ?_
            refine KOps.lss ?_
            refine KOps.guardYes (dj := 99) rfl rfl ?_
            refine KOps.pickF ?_
            refine KOps.guardYes (dj := 99) rfl rfl ?_
            refine KOps.move ?_
            refine KOps.guardB (dj := 109) rfl rfl false true rfl ?_ ?_
            · intro g109
              have g109 := of_decide_eq_false g109
              refine KOps.move ?_
              refine KOps.guardYes (dj := 109) rfl rfl ?_
              refine KOps.lenI (hS.rd 0 rfl) ?_
              refine KOps.guardYes (dj := 109) rfl rfl ?_
              refine KOps.move ?_
              refine KOps.guardYes (dj := 109) rfl rfl ?_
              refine KOps.lenI (Row.ext hS.keeps hf) ?_
              refine KOps.guardYes (dj := 109) rfl rfl ?_
              refine KOps.eql ?_
              refine KOps.guardYes (dj := 109) rfl rfl ?_
              refine KOps.move ?_
              refine KOps.guardB (dj := 115) rfl rfl true false rfl ?_ ?_
              · intro g115
                have g115 := of_decide_eq_true g115
                refine KOps.move ?_
                refine KOps.guardYes (dj := 115) rfl rfl ?_
                refine KOps.move ?_
                refine KOps.guardYes (dj := 115) rfl rfl ?_
                refine KOps.call rfl (compareL_c (hS.rd 0 rfl) (Row.ext hS.keeps hf) (by omega) (by omega)) ?_
                rintro _ _ ⟨⟨c118, rfl, hc118⟩, rfl⟩
                refine KOps.guardYes (dj := 115) rfl rfl ?_
                refine KOps.lss ?_
                refine KOps.guardYes (dj := 109) rfl rfl ?_
                refine KOps.pickT ?_
                refine KOps.guardYes (dj := 99) rfl rfl ?_
                refine KOps.pickF ?_
                refine KOps.pickT ?_
                refine KOps.done ?_
                refine sqQ.normal ?_
                refine KA.sub (Sub.cons (t := 5) Look.eq (Sub.cons (t := 6) Look.eq (Sub.cons (t := 7) Look.eq (Sub.cons (t := 11) Look.eq (Sub.cons (t := 12) Look.eq (Sub.cons (t := 13) Look.eq (Sub.cons (t := 14) Look.eq (Sub.cons (t := 100) Look.eq (Sub.cons (t := 101) Look.eq (Sub.cons (t := 102) Look.eq (Sub.cons (t := 103) Look.eq (Sub.cons (t := 104) Look.eq (Sub.cons (t := 105) Look.eq (Sub.cons (t := 106) Look.eq (Sub.cons (t := 107) Look.eq (Sub.cons (t := 108) Look.eq (Sub.cons (t := 109) Look.eq (Sub.cons (t := 110) Look.eq (Sub.cons (t := 111) Look.eq (Sub.cons (t := 112) Look.eq (Sub.cons (t := 113) Look.eq (Sub.cons (t := 114) Look.eq (Sub.cons (t := 115) Look.eq (Sub.cons (t := 116) Look.eq (Sub.cons (t := 117) Look.eq (Sub.cons (t := 118) Look.eq (Sub.cons (t := 119) Look.eq (Sub.cons (t := 120) Look.eq (Sub.cons (t := 121) Look.eq (Sub.cons (t := 122) Look.eq (Sub.nil _))))))))))))))))))))))))))))))) ?_
                refine KA.condD ?_ ?_
                · intro c122
                  refine KA.region rfl ?_
                  refine KOps.move ?_
                  refine KOps.assign ?_
                  refine KOps.assign ?_
                  refine KOps.done ?_
                  refine blQ.normal ?_
                  refine sqQ.normal ?_
                  refine KA.sub (Sub.cons (t := 5) Look.eq (Sub.cons (t := 6) Look.eq (Sub.cons (t := 7) Look.eq (Sub.cons (t := 11) Look.eq (Sub.cons (t := 12) Look.eq (Sub.cons (t := 13) Look.eq (Sub.cons (t := 100) Look.eq (Sub.cons (t := 101) Look.eq (Sub.cons (t := 102) Look.eq (Sub.cons (t := 103) Look.eq (Sub.cons (t := 104) Look.eq (Sub.cons (t := 105) Look.eq (Sub.cons (t := 106) Look.eq (Sub.cons (t := 107) Look.eq (Sub.cons (t := 108) Look.eq (Sub.cons (t := 109) Look.eq (Sub.cons (t := 110) Look.eq (Sub.cons (t := 111) Look.eq (Sub.cons (t := 112) Look.eq (Sub.cons (t := 113) Look.eq (Sub.cons (t := 114) Look.eq (Sub.cons (t := 115) Look.eq (Sub.cons (t := 116) Look.eq (Sub.cons (t := 117) Look.eq (Sub.cons (t := 118) Look.eq (Sub.cons (t := 119) Look.eq (Sub.cons (t := 120) Look.eq (Sub.cons (t := 121) Look.eq (Sub.nil _))))))))))))))))))))))))))))) ?_
                  refine KA.region rfl ?_
                  refine KOps.move ?_
                  refine KOps.add (by first | omega | (simp only [List.length_append, List.length_singleton, List.length_set]; omega)) (by first | omega | (simp only [List.length_append, List.length_singleton, List.length_set]; omega)) ?_
                  refine KOps.assign ?_
                  refine KOps.done ?_
                  have hs0 : sortsE l (rowS (iota l.length) s) = 0 := of_decide_eq_true (hse.trans g99)
                  have hf2 := fst_yes hs0 (.inr (by rw [fewer_eq (by omega)]; exact hc118.1 (by omega)))
                  exact lpQ.normal (s + 1, vc) (by repeat (first | exact Sub.nil _ | refine Sub.cons Look.eq ?_ | refine Sub.cons (Eq.trans Look.eq (congrArg (AV.int _) (by first | omega | (dsimp only; omega)))) ?_ | refine Sub.cons (Eq.trans Look.eq (congrArg AV.bool (by rw [hf2]; rfl))) ?_)) ⟨by dsimp only; omega, hk.trans hS.keeps, by dsimp only; rw [hf2]; exact hS.rd 0 rfl⟩ (by dsimp only; omega)
                · intro c122
                  refine KA.skip ?_
                  refine blQ.normal ?_
                  refine sqQ.normal ?_
                  refine KA.sub (Sub.cons (t := 5) Look.eq (Sub.cons (t := 6) Look.eq (Sub.cons (t := 7) Look.eq (Sub.cons (t := 11) Look.eq (Sub.cons (t := 12) Look.eq (Sub.cons (t := 13) Look.eq (Sub.cons (t := 100) Look.eq (Sub.cons (t := 101) Look.eq (Sub.cons (t := 102) Look.eq (Sub.cons (t := 103) Look.eq (Sub.cons (t := 104) Look.eq (Sub.cons (t := 105) Look.eq (Sub.cons (t := 106) Look.eq (Sub.cons (t := 107) Look.eq (Sub.cons (t := 108) Look.eq (Sub.cons (t := 109) Look.eq (Sub.cons (t := 110) Look.eq (Sub.cons (t := 111) Look.eq (Sub.cons (t := 112) Look.eq (Sub.cons (t := 113) Look.eq (Sub.cons (t := 114) Look.eq (Sub.cons (t := 115) Look.eq (Sub.cons (t := 116) Look.eq (Sub.cons (t := 117) Look.eq (Sub.cons (t := 118) Look.eq (Sub.cons (t := 119) Look.eq (Sub.cons (t := 120) Look.eq (Sub.cons (t := 121) Look.eq (Sub.nil _))))))))))))))))))))))))))))) ?_
                  refine KA.region rfl ?_
                  refine KOps.move ?_
                  refine KOps.add (by first | omega | (simp only [List.length_append, List.length_singleton, List.length_set]; omega)) (by first | omega | (simp only [List.length_append, List.length_singleton, List.length_set]; omega)) ?_
                  refine KOps.assign ?_
                  refine KOps.done ?_
                  have hf2 : fstTo l (s + 1) = fstTo l s := fst_no (fun h9 => h9.2.elim (fun h1 => by rw [h1] at g102; exact absurd g102 (by decide)) (fun h1 => by rw [fewer_eq (by omega)] at h1; exact absurd (hc118.2 h1) (by omega)))
                  exact lpQ.normal (s + 1, vf) (by repeat (first | exact Sub.nil _ | refine Sub.cons Look.eq ?_ | refine Sub.cons (Eq.trans Look.eq (congrArg (AV.int _) (by first | omega | (dsimp only; omega)))) ?_ | refine Sub.cons (Eq.trans Look.eq (congrArg AV.bool (by rw [hf2]))) ?_)) ⟨by dsimp only; omega, hk.trans hS.keeps, by dsimp only; rw [hf2]; exact Row.ext hS.keeps hf⟩ (by dsimp only; omega)
              · intro g115
                have g115 := of_decide_eq_false g115
                refine KOps.guardNo (dj := 115) rfl rfl rfl ?_
                refine KOps.guardNo (dj := 115) rfl rfl rfl ?_
                refine KOps.guardNo (dj := 115) rfl rfl rfl ?_
                refine KOps.guardYes (dj := 109) rfl rfl ?_
                refine KOps.pickF ?_
                refine KOps.guardYes (dj := 99) rfl rfl ?_
                refine KOps.pickF ?_
                refine KOps.pickT ?_
                refine KOps.done ?_
                refine sqQ.normal ?_
                refine KA.sub (Sub.cons (t := 5) Look.eq (Sub.cons (t := 6) Look.eq (Sub.cons (t := 7) Look.eq (Sub.cons (t := 11) Look.eq (Sub.cons (t := 12) Look.eq (Sub.cons (t := 13) Look.eq (Sub.cons (t := 14) Look.eq (Sub.cons (t := 100) Look.eq (Sub.cons (t := 101) Look.eq (Sub.cons (t := 102) Look.eq (Sub.cons (t := 103) Look.eq (Sub.cons (t := 104) Look.eq (Sub.cons (t := 105) Look.eq (Sub.cons (t := 106) Look.eq (Sub.cons (t := 107) Look.eq (Sub.cons (t := 108) Look.eq (Sub.cons (t := 109) Look.eq (Sub.cons (t := 110) Look.eq (Sub.cons (t := 111) Look.eq (Sub.cons (t := 112) Look.eq (Sub.cons (t := 113) Look.eq (Sub.cons (t := 114) Look.eq (Sub.cons (t := 115) Look.eq (Sub.cons (t := 116) Look.eq (Sub.cons (t := 117) Look.eq (Sub.cons (t := 118) Look.eq (Sub.cons (t := 119) Look.eq (Sub.cons (t := 120) Look.eq (Sub.cons (t := 121) Look.eq (Sub.cons (t := 122) Look.eq (Sub.nil _))))))))))))))))))))))))))))))) ?_
                refine KA.condF ?_
                refine KA.skip ?_
                refine blQ.normal ?_
                refine sqQ.normal ?_
                refine KA.sub (Sub.cons (t := 5) Look.eq (Sub.cons (t := 6) Look.eq (Sub.cons (t := 7) Look.eq (Sub.cons (t := 11) Look.eq (Sub.cons (t := 12) Look.eq (Sub.cons (t := 13) Look.eq (Sub.cons (t := 100) Look.eq (Sub.cons (t := 101) Look.eq (Sub.cons (t := 102) Look.eq (Sub.cons (t := 103) Look.eq (Sub.cons (t := 104) Look.eq (Sub.cons (t := 105) Look.eq (Sub.cons (t := 106) Look.eq (Sub.cons (t := 107) Look.eq (Sub.cons (t := 108) Look.eq (Sub.cons (t := 109) Look.eq (Sub.cons (t := 110) Look.eq (Sub.cons (t := 111) Look.eq (Sub.cons (t := 112) Look.eq (Sub.cons (t := 113) Look.eq (Sub.cons (t := 114) Look.eq (Sub.cons (t := 115) Look.eq (Sub.cons (t := 116) Look.eq (Sub.cons (t := 117) Look.eq (Sub.cons (t := 118) Look.eq (Sub.cons (t := 119) Look.eq (Sub.cons (t := 120) Look.eq (Sub.cons (t := 121) Look.eq (Sub.nil _))))))))))))))))))))))))))))) ?_
                refine KA.region rfl ?_
                refine KOps.move ?_
                refine KOps.add (by first | omega | (simp only [List.length_append, List.length_singleton, List.length_set]; omega)) (by first | omega | (simp only [List.length_append, List.length_singleton, List.length_set]; omega)) ?_
                refine KOps.assign ?_
                refine KOps.done ?_
                have hf2 : fstTo l (s + 1) = fstTo l s := fst_no (fun h9 => h9.2.elim (fun h1 => by rw [h1] at g102; exact absurd g102 (by decide)) (fun h1 => by rw [fewer_long (by omega) (by omega)] at h1; cases h1))
                exact lpQ.normal (s + 1, vf) (by repeat (first | exact Sub.nil _ | refine Sub.cons Look.eq ?_ | refine Sub.cons (Eq.trans Look.eq (congrArg (AV.int _) (by first | omega | (dsimp only; omega)))) ?_ | refine Sub.cons (Eq.trans Look.eq (congrArg AV.bool (by rw [hf2]))) ?_)) ⟨by dsimp only; omega, hk.trans hS.keeps, by dsimp only; rw [hf2]; exact Row.ext hS.keeps hf⟩ (by dsimp only; omega)
            · intro g109
              have g109 := of_decide_eq_true g109
              refine KOps.guardNo (dj := 109) rfl rfl rfl ?_
              refine KOps.guardNo (dj := 109) rfl rfl rfl ?_
              refine KOps.guardNo (dj := 109) rfl rfl rfl ?_
              refine KOps.guardNo (dj := 109) rfl rfl rfl ?_
              refine KOps.guardNo (dj := 109) rfl rfl rfl ?_
              refine KOps.guardTup (dj := 115) rfl rfl ?_
              refine KOps.guardTup (dj := 115) rfl rfl ?_
              refine KOps.guardTup (dj := 115) rfl rfl ?_
              refine KOps.guardTup (dj := 115) rfl rfl ?_
              refine KOps.guardNo (dj := 109) rfl rfl rfl ?_
              refine KOps.guardYes (dj := 99) rfl rfl ?_
              refine KOps.pickT ?_
              refine KOps.pickT ?_
              refine KOps.done ?_
              refine sqQ.normal ?_
              refine KA.sub (Sub.cons (t := 5) Look.eq (Sub.cons (t := 6) Look.eq (Sub.cons (t := 7) Look.eq (Sub.cons (t := 11) Look.eq (Sub.cons (t := 12) Look.eq (Sub.cons (t := 13) Look.eq (Sub.cons (t := 14) Look.eq (Sub.cons (t := 100) Look.eq (Sub.cons (t := 101) Look.eq (Sub.cons (t := 102) Look.eq (Sub.cons (t := 103) Look.eq (Sub.cons (t := 104) Look.eq (Sub.cons (t := 105) Look.eq (Sub.cons (t := 106) Look.eq (Sub.cons (t := 107) Look.eq (Sub.cons (t := 108) Look.eq (Sub.cons (t := 109) Look.eq (Sub.cons (t := 110) Look.eq (Sub.cons (t := 111) Look.eq (Sub.cons (t := 112) Look.eq (Sub.cons (t := 113) Look.eq (Sub.cons (t := 114) Look.eq (Sub.cons (t := 115) Look.eq (Sub.cons (t := 116) Look.eq (Sub.cons (t := 117) Look.eq (Sub.cons (t := 118) Look.eq (Sub.cons (t := 119) Look.eq (Sub.cons (t := 120) Look.eq (Sub.cons (t := 121) Look.eq (Sub.cons (t := 122) Look.eq (Sub.nil _))))))))))))))))))))))))))))))) ?_
              refine KA.condT ?_
              refine KA.region rfl ?_
              refine KOps.move ?_
              refine KOps.assign ?_
              refine KOps.assign ?_
              refine KOps.done ?_
              refine blQ.normal ?_
              refine sqQ.normal ?_
              refine KA.sub (Sub.cons (t := 5) Look.eq (Sub.cons (t := 6) Look.eq (Sub.cons (t := 7) Look.eq (Sub.cons (t := 11) Look.eq (Sub.cons (t := 12) Look.eq (Sub.cons (t := 13) Look.eq (Sub.cons (t := 100) Look.eq (Sub.cons (t := 101) Look.eq (Sub.cons (t := 102) Look.eq (Sub.cons (t := 103) Look.eq (Sub.cons (t := 104) Look.eq (Sub.cons (t := 105) Look.eq (Sub.cons (t := 106) Look.eq (Sub.cons (t := 107) Look.eq (Sub.cons (t := 108) Look.eq (Sub.cons (t := 109) Look.eq (Sub.cons (t := 110) Look.eq (Sub.cons (t := 111) Look.eq (Sub.cons (t := 112) Look.eq (Sub.cons (t := 113) Look.eq (Sub.cons (t := 114) Look.eq (Sub.cons (t := 115) Look.eq (Sub.cons (t := 116) Look.eq (Sub.cons (t := 117) Look.eq (Sub.cons (t := 118) Look.eq (Sub.cons (t := 119) Look.eq (Sub.cons (t := 120) Look.eq (Sub.cons (t := 121) Look.eq (Sub.nil _))))))))))))))))))))))))))))) ?_
              refine KA.region rfl ?_
              refine KOps.move ?_
              refine KOps.add (by first | omega | (simp only [List.length_append, List.length_singleton, List.length_set]; omega)) (by first | omega | (simp only [List.length_append, List.length_singleton, List.length_set]; omega)) ?_
              refine KOps.assign ?_
              refine KOps.done ?_
              have hs0 : sortsE l (rowS (iota l.length) s) = 0 := of_decide_eq_true (hse.trans g99)
              have hf2 := fst_yes hs0 (.inr (fewer_short (by omega)))
              exact lpQ.normal (s + 1, vc) (by repeat (first | exact Sub.nil _ | refine Sub.cons Look.eq ?_ | refine Sub.cons (Eq.trans Look.eq (congrArg (AV.int _) (by first | omega | (dsimp only; omega)))) ?_ | refine Sub.cons (Eq.trans Look.eq (congrArg AV.bool (by rw [hf2]; rfl))) ?_)) ⟨by dsimp only; omega, hk.trans hS.keeps, by dsimp only; rw [hf2]; exact hS.rd 0 rfl⟩ (by dsimp only; omega)
          · intro g102
            refine KOps.guardNo (dj := 102) rfl rfl rfl ?_
            refine KOps.guardNo (dj := 102) rfl rfl rfl ?_
            refine KOps.guardNo (dj := 102) rfl rfl rfl ?_
            refine KOps.guardNo (dj := 102) rfl rfl rfl ?_
            refine KOps.guardYes (dj := 99) rfl rfl ?_
            refine KOps.pickT ?_
            refine KOps.guardYes (dj := 99) rfl rfl ?_
            refine KOps.move ?_
            refine KOps.guardNo (dj := 109) rfl rfl rfl ?_
            refine KOps.guardNo (dj := 109) rfl rfl rfl ?_
            refine KOps.guardNo (dj := 109) rfl rfl rfl ?_
            refine KOps.guardNo (dj := 109) rfl rfl rfl ?_
            refine KOps.guardNo (dj := 109) rfl rfl rfl ?_
            refine KOps.guardNo (dj := 109) rfl rfl rfl ?_
            refine KOps.guardTup (dj := 115) rfl rfl ?_
            refine KOps.guardTup (dj := 115) rfl rfl ?_
            refine KOps.guardTup (dj := 115) rfl rfl ?_
            refine KOps.guardTup (dj := 115) rfl rfl ?_
            refine KOps.guardNo (dj := 109) rfl rfl rfl ?_
            refine KOps.guardYes (dj := 99) rfl rfl ?_
            refine KOps.pickT ?_
            refine KOps.pickT ?_
            refine KOps.done ?_
            refine sqQ.normal ?_
            refine KA.sub (Sub.cons (t := 5) Look.eq (Sub.cons (t := 6) Look.eq (Sub.cons (t := 7) Look.eq (Sub.cons (t := 11) Look.eq (Sub.cons (t := 12) Look.eq (Sub.cons (t := 13) Look.eq (Sub.cons (t := 14) Look.eq (Sub.cons (t := 100) Look.eq (Sub.cons (t := 101) Look.eq (Sub.cons (t := 102) Look.eq (Sub.cons (t := 103) Look.eq (Sub.cons (t := 104) Look.eq (Sub.cons (t := 105) Look.eq (Sub.cons (t := 106) Look.eq (Sub.cons (t := 107) Look.eq (Sub.cons (t := 108) Look.eq (Sub.cons (t := 109) Look.eq (Sub.cons (t := 110) Look.eq (Sub.cons (t := 111) Look.eq (Sub.cons (t := 112) Look.eq (Sub.cons (t := 113) Look.eq (Sub.cons (t := 114) Look.eq (Sub.cons (t := 115) Look.eq (Sub.cons (t := 116) Look.eq (Sub.cons (t := 117) Look.eq (Sub.cons (t := 118) Look.eq (Sub.cons (t := 119) Look.eq (Sub.cons (t := 120) Look.eq (Sub.cons (t := 121) Look.eq (Sub.cons (t := 122) Look.eq (Sub.nil _))))))))))))))))))))))))))))))) ?_
            refine KA.condT ?_
            refine KA.region rfl ?_
            refine KOps.move ?_
            refine KOps.assign ?_
            refine KOps.assign ?_
            refine KOps.done ?_
            refine blQ.normal ?_
            refine sqQ.normal ?_
            refine KA.sub (Sub.cons (t := 5) Look.eq (Sub.cons (t := 6) Look.eq (Sub.cons (t := 7) Look.eq (Sub.cons (t := 11) Look.eq (Sub.cons (t := 12) Look.eq (Sub.cons (t := 13) Look.eq (Sub.cons (t := 100) Look.eq (Sub.cons (t := 101) Look.eq (Sub.cons (t := 102) Look.eq (Sub.cons (t := 103) Look.eq (Sub.cons (t := 104) Look.eq (Sub.cons (t := 105) Look.eq (Sub.cons (t := 106) Look.eq (Sub.cons (t := 107) Look.eq (Sub.cons (t := 108) Look.eq (Sub.cons (t := 109) Look.eq (Sub.cons (t := 110) Look.eq (Sub.cons (t := 111) Look.eq (Sub.cons (t := 112) Look.eq (Sub.cons (t := 113) Look.eq (Sub.cons (t := 114) Look.eq (Sub.cons (t := 115) Look.eq (Sub.cons (t := 116) Look.eq (Sub.cons (t := 117) Look.eq (Sub.cons (t := 118) Look.eq (Sub.cons (t := 119) Look.eq (Sub.cons (t := 120) Look.eq (Sub.cons (t := 121) Look.eq (Sub.nil _))))))))))))))))))))))))))))) ?_
            refine KA.region rfl ?_
            refine KOps.move ?_
            refine KOps.add (by first | omega | (simp only [List.length_append, List.length_singleton, List.length_set]; omega)) (by first | omega | (simp only [List.length_append, List.length_singleton, List.length_set]; omega)) ?_
            refine KOps.assign ?_
            refine KOps.done ?_
            have hs0 : sortsE l (rowS (iota l.length) s) = 0 := of_decide_eq_true (hse.trans g99)
            have hf2 := fst_yes hs0 (.inl (by cases hq : fstTo l s <;> simp_all))
            exact lpQ.normal (s + 1, vc) (by repeat (first | exact Sub.nil _ | refine Sub.cons Look.eq ?_ | refine Sub.cons (Eq.trans Look.eq (congrArg (AV.int _) (by first | omega | (dsimp only; omega)))) ?_ | refine Sub.cons (Eq.trans Look.eq (congrArg AV.bool (by rw [hf2]; rfl))) ?_)) ⟨by dsimp only; omega, hk.trans hS.keeps, by dsimp only; rw [hf2]; exact hS.rd 0 rfl⟩ (by dsimp only; omega)
        · intro g99
          refine KOps.guardNo (dj := 99) rfl rfl rfl ?_
          refine KOps.guardNo (dj := 99) rfl rfl rfl ?_
          refine KOps.guardTup (dj := 102) rfl rfl ?_
          refine KOps.guardTup (dj := 102) rfl rfl ?_
          refine KOps.guardTup (dj := 102) rfl rfl ?_
          refine KOps.guardTup (dj := 102) rfl rfl ?_
          refine KOps.guardTup (dj := 102) rfl rfl ?_
          refine KOps.guardNo (dj := 99) rfl rfl rfl ?_
          refine KOps.guardNo (dj := 99) rfl rfl rfl ?_
          refine KOps.guardTup (dj := 109) rfl rfl ?_
          refine KOps.guardTup (dj := 109) rfl rfl ?_
          refine KOps.guardTup (dj := 109) rfl rfl ?_
          refine KOps.guardTup (dj := 109) rfl rfl ?_
          refine KOps.guardTup (dj := 109) rfl rfl ?_
          refine KOps.guardTup (dj := 109) rfl rfl ?_
          refine KOps.guardTup (dj := 115) rfl rfl ?_
          refine KOps.guardTup (dj := 115) rfl rfl ?_
          refine KOps.guardTup (dj := 115) rfl rfl ?_
          refine KOps.guardTup (dj := 115) rfl rfl ?_
          refine KOps.guardTup (dj := 109) rfl rfl ?_
          refine KOps.guardNo (dj := 99) rfl rfl rfl ?_
          refine KOps.pickF ?_
          refine KOps.done ?_
          refine sqQ.normal ?_
          refine KA.sub (Sub.cons (t := 5) Look.eq (Sub.cons (t := 6) Look.eq (Sub.cons (t := 7) Look.eq (Sub.cons (t := 11) Look.eq (Sub.cons (t := 12) Look.eq (Sub.cons (t := 13) Look.eq (Sub.cons (t := 14) Look.eq (Sub.cons (t := 100) Look.eq (Sub.cons (t := 101) Look.eq (Sub.cons (t := 102) Look.eq (Sub.cons (t := 103) Look.eq (Sub.cons (t := 104) Look.eq (Sub.cons (t := 105) Look.eq (Sub.cons (t := 106) Look.eq (Sub.cons (t := 107) Look.eq (Sub.cons (t := 108) Look.eq (Sub.cons (t := 109) Look.eq (Sub.cons (t := 110) Look.eq (Sub.cons (t := 111) Look.eq (Sub.cons (t := 112) Look.eq (Sub.cons (t := 113) Look.eq (Sub.cons (t := 114) Look.eq (Sub.cons (t := 115) Look.eq (Sub.cons (t := 116) Look.eq (Sub.cons (t := 117) Look.eq (Sub.cons (t := 118) Look.eq (Sub.cons (t := 119) Look.eq (Sub.cons (t := 120) Look.eq (Sub.cons (t := 121) Look.eq (Sub.cons (t := 122) Look.eq (Sub.nil _))))))))))))))))))))))))))))))) ?_
          refine KA.condF ?_
          refine KA.skip ?_
          refine blQ.normal ?_
          refine sqQ.normal ?_
          refine KA.sub (Sub.cons (t := 5) Look.eq (Sub.cons (t := 6) Look.eq (Sub.cons (t := 7) Look.eq (Sub.cons (t := 11) Look.eq (Sub.cons (t := 12) Look.eq (Sub.cons (t := 13) Look.eq (Sub.cons (t := 100) Look.eq (Sub.cons (t := 101) Look.eq (Sub.cons (t := 102) Look.eq (Sub.cons (t := 103) Look.eq (Sub.cons (t := 104) Look.eq (Sub.cons (t := 105) Look.eq (Sub.cons (t := 106) Look.eq (Sub.cons (t := 107) Look.eq (Sub.cons (t := 108) Look.eq (Sub.cons (t := 109) Look.eq (Sub.cons (t := 110) Look.eq (Sub.cons (t := 111) Look.eq (Sub.cons (t := 112) Look.eq (Sub.cons (t := 113) Look.eq (Sub.cons (t := 114) Look.eq (Sub.cons (t := 115) Look.eq (Sub.cons (t := 116) Look.eq (Sub.cons (t := 117) Look.eq (Sub.cons (t := 118) Look.eq (Sub.cons (t := 119) Look.eq (Sub.cons (t := 120) Look.eq (Sub.cons (t := 121) Look.eq (Sub.nil _))))))))))))))))))))))))))))) ?_
          refine KA.region rfl ?_
          refine KOps.move ?_
          refine KOps.add (by first | omega | (simp only [List.length_append, List.length_singleton, List.length_set]; omega)) (by first | omega | (simp only [List.length_append, List.length_singleton, List.length_set]; omega)) ?_
          refine KOps.assign ?_
          refine KOps.done ?_
          have hf2 : fstTo l (s + 1) = fstTo l s := fst_no (fun h1 => by have h2 := hse; rw [decide_eq_true h1.1, g99] at h2; cases h2)
          exact lpQ.normal (s + 1, vf) (by repeat (first | exact Sub.nil _ | refine Sub.cons Look.eq ?_ | refine Sub.cons (Eq.trans Look.eq (congrArg (AV.int _) (by first | omega | (dsimp only; omega)))) ?_ | refine Sub.cons (Eq.trans Look.eq (congrArg AV.bool (by rw [hf2]))) ?_)) ⟨by dsimp only; omega, hk.trans hS.keeps, by dsimp only; rw [hf2]; exact Row.ext hS.keeps hf⟩ (by dsimp only; omega)
  · intro c56
    have hse2 : s = 2 ^ l.length := by omega
    subst hse2
    have hfe := fst_end hch
    have hml : (movedOf l).length ≤ l.length := movedTo_len l _
    rw [hfe] at hf
    rw [hfe]
    refine KA.exit ?_
    refine sqQ.exit ?_
    refine lpQ.exit ?_
    refine blQ.here ?_
    refine sqQ.normal ?_
    refine KA.sub (Sub.cons (t := 7) Look.eq (Sub.cons (t := 11) Look.eq (Sub.cons (t := 12) Look.eq (Sub.nil _)))) ?_
    refine KA.seq ?_
    refine KA.region rfl ?_
    refine KOps.move ?_
    refine KOps.move ?_
    refine KOps.guardYes (dj := 125) rfl rfl ?_
    refine KOps.move ?_
    refine KOps.guardYes (dj := 125) rfl rfl ?_
    refine KOps.move ?_
    refine KOps.guardYes (dj := 125) rfl rfl ?_
    refine KOps.call rfl (same_t rfl (Row.ext hS.keeps hm5) (Row.ext hS.keeps hf) (by first | omega | (simp; omega))) ?_
    rintro _ _ ⟨rfl, rfl⟩
    refine KOps.pickT ?_
    refine KOps.move ?_
    refine KOps.guardYes (dj := 130) rfl rfl ?_
    refine KOps.call rfl (works_c _) ?_
    rintro _ _ ⟨rfl, rfl⟩
    refine KOps.pickT ?_
    refine KOps.assign ?_
    refine KOps.done ?_
    refine sqQ.normal ?_
    refine KA.sub (Sub.cons (t := 4) Look.eq (Sub.nil _)) ?_
    refine KA.ret ?_
    refine fnQ.ret1 ?_
    rfl

end Go.Am
