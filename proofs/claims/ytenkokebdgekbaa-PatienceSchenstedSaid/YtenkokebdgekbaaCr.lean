/-
  Layer 13: the law of piles and of longest rows (the stage's theorem).
  Conditions: none.
-/
import Derived.Test.YtenkokebdgekbaaCp
import Derived.Test.YtenkokebdgekbaaCi
import Derived.Test.YtenkokebdgekbaaPt13
namespace Go.Am
open Go.Gr

theorem indexF_c {h : AHeap} {v : AV} {T : List (List Int)} {g : FuncId} {caps : List AV} {q : List Int → Bool} (hv : Mat h v T) (hlen : T.length ≤ 4294967296) (hg : ∀ (i : Nat) (u : AV), i < T.length → Row h u (T.getD i []) → ACalls Go.Proofs.Try.prog g (u :: caps) h (fun r h' => r = .bool (q (T.getD i [])) ∧ h = h')) : ACalls Go.Proofs.Try.prog 57 [v, .fn g caps] h (fun r h' => (∃ x : Int, r = .int .i64 x ∧ ((∃ k : Nat, x = k ∧ k < T.length ∧ q (T.getD k []) = true ∧ ∀ j, j < k → q (T.getD j []) = false) ∨ (x = -1 ∧ ∀ j, j < T.length → q (T.getD j []) = false))) ∧ h = h') := by
  refine KA.fn 19 [.tmp 4] Go.Proofs.Try.func57 rfl (by decide) rfl rfl (Nat.le_of_ble_eq_true rfl) ?_
  obtain ⟨vs, hvs, hvl, hvr⟩ := hv
  show KA _ 19 _ _ [(0, v), (1, .fn g caps)] _
  refine KA.seq ?_
  refine KA.region rfl ?_
  refine KOps.assign ?_
  refine KOps.done ?_
  refine sqQ.normal ?_
  refine KA.sub (Sub.cons (t := 0) Look.eq (Sub.cons (t := 1) Look.eq (Sub.nil _))) ?_
  refine KA.seq ?_
  refine KA.seq ?_
  refine KA.region rfl ?_
  refine KOps.move ?_
  refine KOps.lenV hvs ?_
  refine KOps.move ?_
  refine KOps.done ?_
  refine sqQ.normal ?_
  refine KA.sub (Sub.cons (t := 0) Look.eq (Sub.cons (t := 1) Look.eq (Sub.cons (t := 7) Look.eq (Sub.cons (t := 8) Look.eq (Sub.nil _))))) ?_
  refine KA.block ?_
  refine KA.loop (X := Nat) (fun i => [(0, v), (1, .fn g caps), (7, .int .i64 (T.length : Int)), (8, .int .i64 (i : Int))]) (fun i h' => h = h' ∧ i ≤ T.length ∧ ∀ j, j < i → q (T.getD j []) = false) (fun i => T.length - i) 0 (by repeat (first | exact Sub.nil _ | refine Sub.cons Look.eq ?_ | refine Sub.cons (Eq.trans Look.eq (congrArg (AV.int _) (by first | omega | (dsimp only; omega)))) ?_)) ⟨rfl, Nat.zero_le _, by omega⟩ ?_
  rintro i _ ⟨rfl, hi, hj⟩
  refine KA.seq ?_
  refine KA.region rfl ?_
  refine KOps.lss ?_
  refine KOps.done ?_
  refine sqQ.normal ?_
  refine KA.seq ?_
  refine KA.condD ?_ ?_
  · intro c9
    refine KA.skip ?_
    refine sqQ.normal ?_
    refine KA.sub (Sub.cons (t := 0) Look.eq (Sub.cons (t := 1) Look.eq (Sub.cons (t := 7) Look.eq (Sub.cons (t := 8) Look.eq (Sub.nil _))))) ?_
    refine KA.seq ?_
    refine KA.block ?_
    refine KA.seq ?_
    refine KA.region rfl ?_
    refine KOps.move ?_
    refine KOps.assign ?_
    refine KOps.done ?_
    refine sqQ.normal ?_
    refine KA.sub (Sub.cons (t := 0) Look.eq (Sub.cons (t := 1) Look.eq (Sub.cons (t := 5) Look.eq (Sub.cons (t := 7) Look.eq (Sub.cons (t := 8) Look.eq (Sub.nil _)))))) ?_
    refine KA.seq ?_
    refine KA.region rfl ?_
    refine KOps.move ?_
    refine KOps.move ?_
    refine KOps.move ?_
    refine KOps.indexVJ hvs (j := i) rfl (by first | omega | (simp; omega)) ?_
    intro p14 hp14
    refine KOps.loadV hp14 hvs (by first | omega | (simp; omega)) ?_
    refine KOps.call rfl (hg i _ (by omega) (hvr i (by omega))) ?_
    rintro _ _ ⟨rfl, rfl⟩
    refine KOps.done ?_
    refine sqQ.normal ?_
    refine KA.sub (Sub.cons (t := 0) Look.eq (Sub.cons (t := 1) Look.eq (Sub.cons (t := 5) Look.eq (Sub.cons (t := 7) Look.eq (Sub.cons (t := 8) Look.eq (Sub.cons (t := 16) Look.eq (Sub.nil _))))))) ?_
    refine KA.condB ?_ ?_
    · intro c16
      refine KA.seq ?_
      refine KA.region rfl ?_
      refine KOps.move ?_
      refine KOps.assign ?_
      refine KOps.done ?_
      refine sqQ.normal ?_
      refine KA.sub (Sub.cons (t := 4) Look.eq (Sub.nil _)) ?_
      refine KA.ret ?_
      refine blQ.ret ?_
      refine sqQ.ret ?_
      refine lpQ.ret ?_
      refine blQ.ret ?_
      refine sqQ.ret ?_
      refine fnQ.ret1 ?_
      exact ⟨⟨_, rfl, .inl ⟨i, rfl, by omega, c16, hj⟩⟩, rfl⟩
    · intro c16
      refine KA.skip ?_
      refine blQ.normal ?_
      refine sqQ.normal ?_
      refine KA.sub (Sub.cons (t := 0) Look.eq (Sub.cons (t := 1) Look.eq (Sub.cons (t := 7) Look.eq (Sub.cons (t := 8) Look.eq (Sub.nil _))))) ?_
      refine KA.region rfl ?_
      refine KOps.add (by first | omega | (simp only [List.length_append, List.length_singleton, List.length_set]; omega)) (by first | omega | (simp only [List.length_append, List.length_singleton, List.length_set]; omega)) ?_
      refine KOps.move ?_
      refine KOps.done ?_
      refine lpQ.normal (i + 1) (by repeat (first | exact Sub.nil _ | refine Sub.cons Look.eq ?_ | refine Sub.cons (Eq.trans Look.eq (congrArg (AV.int _) (by first | omega | (dsimp only; omega)))) ?_)) ⟨rfl, by omega, ?_⟩ (by omega)
      intro j hj2; rcases Nat.lt_succ_iff_lt_or_eq.1 hj2 with h1 | rfl
      · exact hj j h1
      · exact c16
  · intro c9
    refine KA.exit ?_
    refine sqQ.exit ?_
    refine lpQ.exit ?_
    refine blQ.here ?_
    refine sqQ.normal ?_
    refine KA.sub (Sub.nil _) ?_
    refine KA.seq ?_
    refine KA.region rfl ?_
    refine KOps.assign ?_
    refine KOps.done ?_
    refine sqQ.normal ?_
    refine KA.ret ?_
    refine fnQ.ret1 ?_
    exact ⟨⟨_, rfl, .inr ⟨rfl, fun j h1 => hj j (by omega)⟩⟩, rfl⟩

theorem top_c {h : AHeap} {u p : AV} {w : List Int} {c : Int} (hu : Row h u w) (hp : AddrOf p p 0 0) (hb : Rd h p 0 [.int .i64 c]) (h0 : 0 < w.length) (hlen : w.length ≤ 4294967296) : ACalls Go.Proofs.Try.prog 58 [u, p] h (fun r h' => r = .bool (decide (lastD w > c)) ∧ h = h') := by
  refine KA.fn 12 [.tmp 3] Go.Proofs.Try.func58 rfl (by decide) rfl rfl (Nat.le_of_ble_eq_true rfl) ?_
  show KA _ 12 _ _ [(0, u), (1, p)] _
  refine KA.seq ?_
  refine KA.region rfl ?_
  refine KOps.assign ?_
  refine KOps.done ?_
  refine sqQ.normal ?_
  refine KA.sub (Sub.cons (t := 0) Look.eq (Sub.cons (t := 1) Look.eq (Sub.nil _))) ?_
  refine KA.seq ?_
  refine KA.draw [] mixed rfl (by kernel_rfl) ?_
  refine KOps.move ?_
  refine KOps.move ?_
  refine KOps.lenI hu ?_
  refine KOps.sub (by first | omega | (simp only [List.length_append, List.length_singleton, List.length_set]; omega)) (by first | omega | (simp only [List.length_append, List.length_singleton, List.length_set]; omega)) ?_
  refine KOps.indexIJ hu (j := (w.length - 1)) (by first | omega | (simp only [List.length_append, List.length_singleton, List.length_set]; omega)) (by first | omega | (simp; omega)) ?_
  intro p8 hp8
  refine KOps.loadI hp8 hu (by first | omega | (simp; omega)) ?_
  refine KOps.load hp hb rfl ?_
  refine KOps.gtr ?_
  refine KOps.assign ?_
  refine KOps.done ?_
  refine sqQ.normal ?_
  refine KA.sub (Sub.cons (t := 3) Look.eq (Sub.nil _)) ?_
  refine KA.ret ?_
  refine fnQ.ret1 ?_
  exact ⟨rfl, rfl⟩

theorem law_schensted {h : AHeap} {a : Int} {c : List Int} (ha : (Lit.int .u8 a).wf = true) (hc : c.length = 9) (hw : ∀ x ∈ c, (Lit.int .u8 x).wf = true) : ACalls Go.Proofs.Try.prog 13 [.int .u8 a, .agg (bytes c)] h (fun r _ => r = .bool true) := by
  refine KA.fn 163 [.tmp 4] Go.Proofs.Try.func13 rfl (by decide) rfl rfl (Nat.le_of_ble_eq_true rfl) ?_
  have hS := St.refl h
  have hab := wf_u8 ha
  have ht0 := Int.tmod_nonneg 9 hab.1
  have ht1 := Int.tmod_lt_of_pos a (show (0 : Int) < 9 by decide)
  show KA _ 163 _ _ [(0, .int .u8 a), (1, .agg (bytes c))] _
  refine KA.seq ?_
  refine KA.region rfl ?_
  refine KOps.boxU hS ?_
  intro p3 h1 hp3 hS
  refine KOps.assign ?_
  refine KOps.done ?_
  refine sqQ.normal ?_
  refine KA.sub (Sub.cons (t := 0) Look.eq (Sub.cons (t := 3) Look.eq (Sub.nil _))) ?_
  refine KA.seq ?_
  refine KA.region rfl ?_
  refine KOps.move ?_
  refine KOps.convU hab.1 hab.2 ?_
  refine KOps.rem (by decide) (by omega) (by omega) ?_
  refine KOps.add (by omega) (by omega) ?_
  obtain ⟨n, hn⟩ : ∃ n : Nat, 1 + a.tmod 9 = (n : Int) := ⟨(1 + a.tmod 9).toNat, by omega⟩
  rw [hn]
  refine KOps.loadArr hS (i := 0) rfl hp3 hc (by decide) ?_
  refine KOps.call rfl (mixed_c (n := n) (by omega) (by omega) hc hw) ?_
  rintro v5 h2 ⟨l, hS2, hln, hch⟩
  have hv5 : Row h2 v5 l := hS2.rd 0 rfl
  have hpk := (checkE_ok hch).2.2
  have hl9 : l.length ≤ 9 := by omega
  have hpr := piles_rise hpk.1
  have hsf := schen_fall hpk.1
  have hsr := schen_rise hpk.1
  have hb0 := bestOf_len l false
  have hb1 := bestOf_len l true
  have hpl := pilesOf_len l
  have hpw := pilesOf_row l
  refine KOps.assign ?_
  refine KOps.done ?_
  refine sqQ.normal ?_
  refine KA.sub (Sub.cons (t := 5) Look.eq (Sub.nil _)) ?_
  refine KA.seq ?_
  refine KA.region rfl ?_
  refine KOps.move ?_
  refine KOps.call rfl (longestL_c hv5 (by omega) hpk.1) ?_
  rintro v31 h3 hS3
  have hr31 : Row h3 v31 (bestOf l false) := hS3.rd 0 rfl
  have hv5 := Row.ext hS3.keeps hv5
  refine KOps.move ?_
  refine KOps.call rfl (longestL_c hv5 (by omega) hpk.1) ?_
  rintro v33 h4 hS4
  have hr33 : Row h4 v33 (bestOf l true) := hS4.rd 0 rfl
  have hv5 := Row.ext hS4.keeps hv5
  have hr31 := Row.ext hS4.keeps hr31
  refine KOps.assign ?_
  refine KOps.assign ?_
  refine KOps.done ?_
  refine sqQ.normal ?_
  refine KA.sub (Sub.cons (t := 5) Look.eq (Sub.cons (t := 6) Look.eq (Sub.cons (t := 7) Look.eq (Sub.nil _)))) ?_
  refine KA.seq ?_
  refine KA.region rfl ?_
  refine KOps.move ?_
  refine KOps.call rfl (piles_c hv5) ?_
  rintro _ h5 ⟨vp, vps, rfl, hvpl, hS5⟩
  rw [okE_yes hch] at hvpl hS5
  rw [hch]
  have hv5 := Row.ext hS5.keeps hv5
  have hr31 := Row.ext hS5.keeps hr31
  have hr33 := Row.ext hS5.keeps hr33
  have hp5 : Mat h5 vp (pilesOf l) := St.mat (pre := []) hvpl hS5
  have hpd : Rd h5 vp 1 vps := St.outer (pre := []) hS5
  refine KOps.move ?_
  refine KOps.extract ?_
  refine KOps.extract ?_
  refine KOps.assign ?_
  refine KOps.assign ?_
  refine KOps.done ?_
  refine sqQ.normal ?_
  refine KA.sub (Sub.cons (t := 5) Look.eq (Sub.cons (t := 6) Look.eq (Sub.cons (t := 7) Look.eq (Sub.cons (t := 8) Look.eq (Sub.cons (t := 9) Look.eq (Sub.nil _)))))) ?_
  refine KA.seq ?_
  refine KA.region rfl ?_
  refine KOps.move ?_
  refine KOps.call rfl (rising_c hv5) ?_
  rintro _ h6 ⟨vr, rfl, hS6⟩
  rw [okE_yes hch] at hS6
  rw [hch]
  have hr6 : Row h6 vr (bestOf l false) := hS6.rd 0 rfl
  have hv5 := Row.ext hS6.keeps hv5
  have hr31 := Row.ext hS6.keeps hr31
  have hr33 := Row.ext hS6.keeps hr33
  have hp5 := Mat.ext hS6.keeps hp5
  have hpd := Rd.ext hS6.keeps hpd
  refine KOps.move ?_
  refine KOps.extract ?_
  refine KOps.extract ?_
  refine KOps.assign ?_
  refine KOps.assign ?_
  refine KOps.done ?_
  refine sqQ.normal ?_
  refine KA.sub (Sub.cons (t := 5) Look.eq (Sub.cons (t := 6) Look.eq (Sub.cons (t := 7) Look.eq (Sub.cons (t := 8) Look.eq (Sub.cons (t := 9) Look.eq (Sub.cons (t := 10) Look.eq (Sub.cons (t := 11) Look.eq (Sub.nil _)))))))) ?_
  refine KA.seq ?_
  refine KA.region rfl ?_
  refine KOps.move ?_
  refine KOps.call rfl (falling_c hv5) ?_
  rintro _ h7 ⟨vf, rfl, hS7⟩
  rw [okE_yes hch] at hS7
  rw [hch]
  have hr7 : Row h7 vf (bestOf l true) := hS7.rd 0 rfl
  have hv5 := Row.ext hS7.keeps hv5
  have hr31 := Row.ext hS7.keeps hr31
  have hr33 := Row.ext hS7.keeps hr33
  have hp5 := Mat.ext hS7.keeps hp5
  have hpd := Rd.ext hS7.keeps hpd
  have hr6 := Row.ext hS7.keeps hr6
  refine KOps.move ?_
  refine KOps.extract ?_
  refine KOps.extract ?_
  refine KOps.assign ?_
  refine KOps.assign ?_
  refine KOps.done ?_
  refine sqQ.normal ?_
  refine KA.sub (Sub.cons (t := 5) Look.eq (Sub.cons (t := 6) Look.eq (Sub.cons (t := 7) Look.eq (Sub.cons (t := 8) Look.eq (Sub.cons (t := 9) Look.eq (Sub.cons (t := 10) Look.eq (Sub.cons (t := 11) Look.eq (Sub.cons (t := 12) Look.eq (Sub.cons (t := 13) Look.eq (Sub.nil _)))))))))) ?_
  refine KA.seq ?_
  refine KA.region rfl ?_
  refine KOps.move ?_
  refine KOps.call rfl (tables_c hv5) ?_
  rintro _ h8 ⟨vo1, vs1, vo2, vs2, rfl, hl1, hl2, hS8⟩
  rw [okE_yes hch] at hl1 hl2 hS8
  rw [okE_yes hch] at hS8
  rw [hch]
  have hv5 := Row.ext hS8.keeps hv5
  have hr31 := Row.ext hS8.keeps hr31
  have hr33 := Row.ext hS8.keeps hr33
  have hp5 := Mat.ext hS8.keeps hp5
  have hpd := Rd.ext hS8.keeps hpd
  have hr6 := Row.ext hS8.keeps hr6
  have hr7 := Row.ext hS8.keeps hr7
  have htd : Rd h8 vo1 1 vs1 := St.outer (pre := []) hS8
  have hlb : 0 < (bestOf l true).length := by
    have h1 := schen_row0 hpk.1 (checkE_ok hch).1
    omega
  have hrow0 : Row h8 (vs1.getD 0 .bot) ((insAll l).getD 0 []) := St.rowAt (pre := []) hS8 hl1 (by omega)
  have hS := St.refl h8
  refine KOps.move ?_
  refine KOps.extract ?_
  refine KOps.extract ?_
  refine KOps.extract ?_
  refine KOps.assign ?_
  refine KOps.assign ?_
  refine KOps.assign ?_
  refine KOps.done ?_
  refine sqQ.normal ?_
  refine KA.sub (Sub.cons (t := 5) Look.eq (Sub.cons (t := 6) Look.eq (Sub.cons (t := 7) Look.eq (Sub.cons (t := 8) Look.eq (Sub.cons (t := 9) Look.eq (Sub.cons (t := 10) Look.eq (Sub.cons (t := 11) Look.eq (Sub.cons (t := 12) Look.eq (Sub.cons (t := 13) Look.eq (Sub.cons (t := 14) Look.eq (Sub.cons (t := 16) Look.eq (Sub.nil _)))))))))))) ?_
  refine KA.seq ?_
  refine KA.seq ?_
  refine KA.region rfl ?_
  refine KOps.move ?_
  refine KOps.neqF rfl ?_
  refine KOps.move ?_
  refine KOps.guardYes (dj := 57) rfl rfl ?_
  refine KOps.move ?_
  refine KOps.guardYes (dj := 57) rfl rfl ?_
  refine KOps.neqF rfl ?_
  refine KOps.pickF ?_
  refine KOps.move ?_
  refine KOps.guardYes (dj := 61) rfl rfl ?_
  refine KOps.move ?_
  refine KOps.guardYes (dj := 61) rfl rfl ?_
  refine KOps.neqF rfl ?_
  refine KOps.pickF ?_
  refine KOps.move ?_
  refine KOps.guardYes (dj := 65) rfl rfl ?_
  refine KOps.move ?_
  refine KOps.guardYes (dj := 65) rfl rfl ?_
  refine KOps.neqF rfl ?_
  refine KOps.pickF ?_
  refine KOps.move ?_
  refine KOps.guardYes (dj := 69) rfl rfl ?_
  refine KOps.move ?_
  refine KOps.guardYes (dj := 69) rfl rfl ?_
  refine KOps.move ?_
  refine KOps.guardYes (dj := 69) rfl rfl ?_
  refine KOps.call rfl (same_t rfl hr6 hr31 (by first | omega | (simp; omega))) ?_
  rintro _ _ ⟨rfl, rfl⟩
  refine KOps.guardYes (dj := 69) rfl rfl ?_
  refine KOps.not ?_
  refine KOps.pickF ?_
  refine KOps.move ?_
  refine KOps.guardYes (dj := 75) rfl rfl ?_
  refine KOps.move ?_
  refine KOps.guardYes (dj := 75) rfl rfl ?_
  refine KOps.move ?_
  refine KOps.guardYes (dj := 75) rfl rfl ?_
  refine KOps.call rfl (same_t rfl hr7 hr33 (by first | omega | (simp; omega))) ?_
  rintro _ _ ⟨rfl, rfl⟩
  refine KOps.guardYes (dj := 75) rfl rfl ?_
  refine KOps.not ?_
  refine KOps.pickF ?_
  refine KOps.move ?_
  refine KOps.guardYes (dj := 81) rfl rfl ?_
  refine KOps.move ?_
  refine KOps.guardYes (dj := 81) rfl rfl ?_
  refine KOps.lenV hpd ?_
  refine KOps.guardYes (dj := 81) rfl rfl ?_
  refine KOps.move ?_
  refine KOps.guardYes (dj := 81) rfl rfl ?_
  refine KOps.lenI hr31 ?_
  refine KOps.guardYes (dj := 81) rfl rfl ?_
  refine KOps.neqF (by omega) ?_
  refine KOps.pickF ?_
  refine KOps.move ?_
  refine KOps.guardYes (dj := 88) rfl rfl ?_
  refine KOps.move ?_
  refine KOps.guardYes (dj := 88) rfl rfl ?_
  refine KOps.lenV htd ?_
  refine KOps.guardYes (dj := 88) rfl rfl ?_
  refine KOps.eqlF (by omega) ?_
  refine KOps.pickF ?_
  refine KOps.done ?_
  refine sqQ.normal ?_
  refine KA.sub (Sub.cons (t := 5) Look.eq (Sub.cons (t := 6) Look.eq (Sub.cons (t := 7) Look.eq (Sub.cons (t := 8) Look.eq (Sub.cons (t := 14) Look.eq (Sub.cons (t := 92) Look.eq (Sub.nil _))))))) ?_
  refine KA.condF ?_
  refine KA.skip ?_
  refine sqQ.normal ?_
  refine KA.sub (Sub.cons (t := 5) Look.eq (Sub.cons (t := 6) Look.eq (Sub.cons (t := 7) Look.eq (Sub.cons (t := 8) Look.eq (Sub.cons (t := 14) Look.eq (Sub.nil _)))))) ?_
  refine KA.seq ?_
  refine KA.seq ?_
  refine KA.region rfl ?_
  refine KOps.move ?_
  refine KOps.lenV htd ?_
  refine KOps.move ?_
  refine KOps.lenI hr33 ?_
  refine KOps.neqF (by omega) ?_
  refine KOps.move ?_
  refine KOps.guardYes (dj := 98) rfl rfl ?_
  refine KOps.move ?_
  refine KOps.guardYes (dj := 98) rfl rfl ?_
  refine KOps.indexVJ htd (j := 0) rfl (by first | omega | (simp; omega)) ?_
  intro p100 hp100
  refine KOps.guardYes (dj := 98) rfl rfl ?_
  refine KOps.loadV hp100 htd (by first | omega | (simp; omega)) ?_
  refine KOps.guardYes (dj := 98) rfl rfl ?_
  refine KOps.lenI (by first | assumption | exact Rd.ext hS.keeps (by assumption)) ?_
  refine KOps.guardYes (dj := 98) rfl rfl ?_
  refine KOps.move ?_
  refine KOps.guardYes (dj := 98) rfl rfl ?_
  refine KOps.lenI hr31 ?_
  refine KOps.guardYes (dj := 98) rfl rfl ?_
  refine KOps.neqF (by omega) ?_
  refine KOps.pickF ?_
  refine KOps.done ?_
  refine sqQ.normal ?_
  refine KA.sub (Sub.cons (t := 5) Look.eq (Sub.cons (t := 8) Look.eq (Sub.cons (t := 106) Look.eq (Sub.nil _)))) ?_
  refine KA.condF ?_
  refine KA.skip ?_
  refine sqQ.normal ?_
  refine KA.sub (Sub.cons (t := 5) Look.eq (Sub.cons (t := 8) Look.eq (Sub.nil _))) ?_
  refine KA.seq ?_
  refine KA.region rfl ?_
  refine KOps.assign ?_
  refine KOps.done ?_
  refine sqQ.normal ?_
  refine KA.seq ?_
  refine KA.seq ?_
  refine KA.region rfl ?_
  refine KOps.move ?_
  refine KOps.lenI hv5 ?_
  refine KOps.move ?_
  refine KOps.done ?_
  refine sqQ.normal ?_
  refine KA.sub (Sub.cons (t := 8) Look.eq (Sub.cons (t := 17) Look.eq (Sub.cons (t := 107) Look.eq (Sub.cons (t := 108) Look.eq (Sub.cons (t := 109) Look.eq (Sub.nil _)))))) ?_
  refine KA.block ?_
  refine KA.loop (X := Nat × AV × List AV) (fun x => [(8, vp), (17, x.2.1), (107, v5), (108, .int .i64 (l.length : Int)), (109, .int .i64 (x.1 : Int))]) (fun x h' => x.1 ≤ l.length ∧ x.2.2.length = (pilesOf (l.take x.1)).length ∧ St h8 h' (matObjs true x.2.1 x.2.2 (pilesOf (l.take x.1)) ++ [])) (fun x => l.length - x.1) (0, .nils, []) (by repeat (first | exact Sub.nil _ | refine Sub.cons Look.eq ?_ | refine Sub.cons (Eq.trans Look.eq (congrArg (AV.int _) (by first | omega | (dsimp only; omega)))) ?_)) ?_ ?_
  · exact ⟨Nat.zero_le _, rfl, St.nilT hS true⟩
  rintro ⟨i, vo, vs⟩ h9 ⟨hi, hl, hS⟩
  dsimp only at hi hl hS ⊢
  have hq1 := pilesOf_len (l.take i)
  have hq2 := pilesOf_row (l.take i)
  rw [List.length_take] at hq1 hq2
  refine KA.seq ?_
  refine KA.region rfl ?_
  refine KOps.lss ?_
  refine KOps.done ?_
  refine sqQ.normal ?_
  refine KA.seq ?_
  refine KA.condD ?_ ?_
  · intro c110
    refine KA.skip ?_
    refine sqQ.normal ?_
    refine KA.sub (Sub.cons (t := 8) Look.eq (Sub.cons (t := 17) Look.eq (Sub.cons (t := 107) Look.eq (Sub.cons (t := 108) Look.eq (Sub.cons (t := 109) Look.eq (Sub.nil _)))))) ?_
    refine KA.seq ?_
    refine KA.block ?_
    refine KA.seq ?_
    refine KA.region rfl ?_
    refine KOps.indexIJ (Row.ext hS.keeps hv5) (j := i) rfl (by first | omega | (simp; omega)) ?_
    intro p111 hp111
    refine KOps.loadI hp111 (Row.ext hS.keeps hv5) (by first | omega | (simp; omega)) ?_
    refine KOps.alloc hS ?_
    intro p19 h10 hp19 hS
    refine KOps.storeBox hS rfl (i := 0) rfl hp19 (by first | rfl | assumption) ?_
    intro h' hS
    simp only [List.set_cons_zero] at hS
    refine KOps.done ?_
    refine sqQ.normal ?_
    refine KA.sub (Sub.cons (t := 8) Look.eq (Sub.cons (t := 17) Look.eq (Sub.cons (t := 19) Look.eq (Sub.cons (t := 107) Look.eq (Sub.cons (t := 108) Look.eq (Sub.cons (t := 109) Look.eq (Sub.nil _))))))) ?_
    refine KA.seq ?_
    refine KA.region rfl ?_
    refine KOps.move ?_
    refine KOps.makeFunc ?_
    refine KOps.call rfl (indexF_c (q := fun r => decide (lastD r > (l.getD i 0))) (St.mat (pre := [_]) hl hS) (by omega) (fun j u hj hu => top_c hu hp19 (hS.rd 0 rfl) ((hq2 j).2 hj) (by have := (hq2 j).1; omega))) ?_
    rintro _ _ ⟨⟨x20, rfl, hx20⟩, rfl⟩
    refine KOps.assign ?_
    refine KOps.done ?_
    refine sqQ.normal ?_
    refine KA.sub (Sub.cons (t := 8) Look.eq (Sub.cons (t := 17) Look.eq (Sub.cons (t := 19) Look.eq (Sub.cons (t := 20) Look.eq (Sub.cons (t := 107) Look.eq (Sub.cons (t := 108) Look.eq (Sub.cons (t := 109) Look.eq (Sub.nil _)))))))) ?_
    refine KA.meet (X := AV × List AV) (fun y => [(8, vp), (17, y.1), (19, p19), (20, .int .i64 ((pileAt (pilesOf (l.take i)) (l.getD i 0)) : Int)), (107, v5), (108, .int .i64 (l.length : Int)), (109, .int .i64 (i : Int))]) (fun y h' => y.2.length = (roomy (pilesOf (l.take i)) (pileAt (pilesOf (l.take i)) (l.getD i 0))).length ∧ St h8 h' (⟨p19, 0, [.int .i64 (l.getD i 0)], true⟩ :: (matObjs true y.1 y.2 (roomy (pilesOf (l.take i)) (pileAt (pilesOf (l.take i)) (l.getD i 0))) ++ []))) ?_ ?_
    ·
      refine KA.seq ?_
      refine KA.region rfl ?_
      refine KOps.move ?_
      refine KOps.lss ?_
      refine KOps.done ?_
      refine sqQ.normal ?_
      refine KA.sub (Sub.cons (t := 8) Look.eq (Sub.cons (t := 17) Look.eq (Sub.cons (t := 19) Look.eq (Sub.cons (t := 20) Look.eq (Sub.cons (t := 107) Look.eq (Sub.cons (t := 108) Look.eq (Sub.cons (t := 109) Look.eq (Sub.cons (t := 117) Look.eq (Sub.nil _))))))))) ?_
      refine KA.condD ?_ ?_
      · intro c117
        have hK : (pileAt (pilesOf (l.take i)) (l.getD i 0)) = (pilesOf (l.take i)).length := by
          rcases hx20 with ⟨k, h1, _⟩ | ⟨_, h2⟩
          · omega
          · exact (pileAt_eq (fun j hj => by have h3 := of_decide_eq_false (h2 j hj); have h4 := tops_ne hpk.1 (show i < l.length by omega) hj; omega) (fun h => by omega) (Nat.le_refl _)).symm
        refine KA.seq ?_
        refine KA.region rfl ?_
        refine KOps.move ?_
        refine KOps.lenV (St.outer (pre := [_]) hS) ?_
        refine KOps.assign ?_
        refine KOps.done ?_
        refine sqQ.normal ?_
        refine KA.sub (Sub.cons (t := 8) Look.eq (Sub.cons (t := 17) Look.eq (Sub.cons (t := 19) Look.eq (Sub.cons (t := 20) Look.eq (Sub.cons (t := 107) Look.eq (Sub.cons (t := 108) Look.eq (Sub.cons (t := 109) Look.eq (Sub.nil _)))))))) ?_
        refine KA.region rfl ?_
        refine KOps.move ?_
        refine KOps.buildSlice hS rfl (by decide) rfl ?_
        intro v121 h' hS
        refine KOps.appendNil (pre := [_]) hS (by first | assumption | omega | (simp only [List.length_set, List.length_append, List.length_singleton, List.length_replicate, List.length_take]; omega)) (by first | omega | (simp; omega)) ?_
        intro r122 h' hr122 hS
        refine KOps.assign ?_
        refine KOps.done ?_
        refine mtQ.normal (r122, vs ++ [.nils]) (by repeat (first | exact Sub.nil _ | refine Sub.cons Look.eq ?_ | refine Sub.cons (Eq.trans Look.eq (congrArg (AV.int _) (by first | omega | (dsimp only; omega)))) ?_)) ⟨?_, ?_⟩
        · rw [roomy_yes hK]; simp only [List.length_append, List.length_singleton]; omega
        · rw [roomy_yes hK]; exact hS
      · intro c117
        have hK : x20 = ((pileAt (pilesOf (l.take i)) (l.getD i 0)) : Int) ∧ (pileAt (pilesOf (l.take i)) (l.getD i 0)) < (pilesOf (l.take i)).length := by
          rcases hx20 with ⟨k, h1, h2, h3, h4⟩ | ⟨h1, _⟩
          · have h5 := of_decide_eq_true h3
            have h6 : k = (pileAt (pilesOf (l.take i)) (l.getD i 0)) := pileAt_eq (fun j hj => by have h7 := of_decide_eq_false (h4 j hj); have h8 := tops_ne hpk.1 (show i < l.length by omega) (show j < (pilesOf (l.take i)).length by omega); omega) (fun _ => by omega) (by omega)
            omega
          · omega
        refine KA.skip ?_
        have hkq : ¬ (pileAt (pilesOf (l.take i)) (l.getD i 0)) = (pilesOf (l.take i)).length := by omega
        refine mtQ.normal (vo, vs) (by repeat (first | exact Sub.nil _ | refine Sub.cons Look.eq ?_ | refine Sub.cons (Eq.trans Look.eq (congrArg (AV.int _) (by first | omega | (dsimp only; omega)))) ?_)) ⟨?_, ?_⟩
        · rw [roomy_no hkq]; exact hl
        · rw [roomy_no hkq]; exact hS
    ·
      rintro ⟨wo, ws⟩ h12 ⟨hl2, hS⟩
      dsimp only at hl2 hS ⊢
      have hkl := pileAt_le (pilesOf (l.take i)) (l.getD i 0)
      have hk2 := roomy_lt hkl
      have hq4 := roomy_getD (pilesOf (l.take i)) (pileAt (pilesOf (l.take i)) (l.getD i 0)) (pileAt (pilesOf (l.take i)) (l.getD i 0))
      have hq3 := (hq2 (pileAt (pilesOf (l.take i)) (l.getD i 0))).1
      rw [← hq4] at hq3
      refine KA.draw [8] mixed rfl (by kernel_rfl) ?_
      refine KOps.move ?_
      refine KOps.move ?_
      refine KOps.move ?_
      refine KOps.move ?_
      refine KOps.indexVJ (St.outer (pre := [_]) hS) (j := (pileAt (pilesOf (l.take i)) (l.getD i 0))) rfl (by first | omega | (simp; omega)) ?_
      intro p127 hp127
      refine KOps.loadV hp127 (St.outer (pre := [_]) hS) (by first | omega | (simp; omega)) ?_
      refine KOps.loadBox hS (i := 0) rfl hp19 ?_
      refine KOps.buildSlice hS rfl (by decide) rfl ?_
      intro v130 h' hS
      refine KOps.appendAt (j := (pileAt (pilesOf (l.take i)) (l.getD i 0))) (pre := [_]) hS (fun _ => rfl) (by first | assumption | omega | (simp only [List.length_set, List.length_append, List.length_singleton, List.length_replicate, List.length_take]; omega)) (by first | omega | (simp; omega)) (by first | omega | (simp; omega)) ?_
      intro r131 h' hr131 hS
      refine KOps.indexVJ (St.hole (pre := [_]) hS) (j := (pileAt (pilesOf (l.take i)) (l.getD i 0))) rfl (by first | omega | (simp; omega)) ?_
      intro p132 hp132
      refine KOps.storeAt (pre := [_]) hS rfl hp132 (by assumption) (by first | omega | (simp; omega)) rfl ?_
      intro h' hS
      refine KOps.done ?_
      refine blQ.normal ?_
      refine sqQ.normal ?_
      refine KA.sub (Sub.cons (t := 8) Look.eq (Sub.cons (t := 17) Look.eq (Sub.cons (t := 107) Look.eq (Sub.cons (t := 108) Look.eq (Sub.cons (t := 109) Look.eq (Sub.nil _)))))) ?_
      refine KA.region rfl ?_
      refine KOps.add (by first | omega | (simp only [List.length_append, List.length_singleton, List.length_set]; omega)) (by first | omega | (simp only [List.length_append, List.length_singleton, List.length_set]; omega)) ?_
      refine KOps.move ?_
      refine KOps.done ?_
      refine lpQ.normal (i + 1, wo, ws.set (pileAt (pilesOf (l.take i)) (l.getD i 0)) r131) (by repeat (first | exact Sub.nil _ | refine Sub.cons Look.eq ?_ | refine Sub.cons (Eq.trans Look.eq (congrArg (AV.int _) (by first | omega | (dsimp only; omega)))) ?_)) ⟨by dsimp only; omega, ?_, ?_⟩ (by dsimp only; omega)
      · dsimp only; rw [pilesOf_take (by omega)]; unfold pilesStep; simp only [List.length_set]; exact hl2
      · dsimp only; rw [pilesOf_take (by omega)]; unfold pilesStep; exact St.tail hS
  · intro c110
    have hie : i = l.length := by omega
    subst hie
    rw [List.take_length] at hl hS
    refine KA.exit ?_
    refine sqQ.exit ?_
    refine lpQ.exit ?_
    refine blQ.here ?_
    refine sqQ.normal ?_
    refine KA.sub (Sub.cons (t := 8) Look.eq (Sub.cons (t := 17) Look.eq (Sub.nil _))) ?_
    refine KA.seq ?_
    refine KA.seq ?_
    refine KA.region rfl ?_
    refine KOps.move ?_
    refine KOps.lenV (St.outer (pre := []) hS) ?_
    refine KOps.move ?_
    refine KOps.done ?_
    refine sqQ.normal ?_
    refine KA.block ?_
    refine KA.loop (X := Nat) (fun k => [(8, vp), (17, vo), (134, vo), (135, .int .i64 ((pilesOf l).length : Int)), (136, .int .i64 (k : Int))]) (fun k h' => h9 = h' ∧ k ≤ (pilesOf l).length) (fun k => (pilesOf l).length - k) 0 (by repeat (first | exact Sub.nil _ | refine Sub.cons Look.eq ?_ | refine Sub.cons (Eq.trans Look.eq (congrArg (AV.int _) (by first | omega | (dsimp only; omega)))) ?_)) ⟨rfl, Nat.zero_le _⟩ ?_
    rintro k _ ⟨rfl, hk⟩
    have hpk2 := (hpw k).1
    refine KA.seq ?_
    refine KA.region rfl ?_
    refine KOps.lss ?_
    refine KOps.done ?_
    refine sqQ.normal ?_
    refine KA.seq ?_
    refine KA.condD ?_ ?_
    · intro c137
      refine KA.skip ?_
      refine sqQ.normal ?_
      refine KA.sub (Sub.cons (t := 8) Look.eq (Sub.cons (t := 17) Look.eq (Sub.cons (t := 134) Look.eq (Sub.cons (t := 135) Look.eq (Sub.cons (t := 136) Look.eq (Sub.nil _)))))) ?_
      refine KA.seq ?_
      refine KA.block ?_
      refine KA.seq ?_
      refine KA.region rfl ?_
      refine KOps.indexVJ (St.outer (pre := []) hS) (j := k) rfl (by first | omega | (simp; omega)) ?_
      intro p138 hp138
      refine KOps.loadV hp138 (St.outer (pre := []) hS) (by first | omega | (simp; omega)) ?_
      refine KOps.assign ?_
      refine KOps.done ?_
      refine sqQ.normal ?_
      refine KA.sub (Sub.cons (t := 8) Look.eq (Sub.cons (t := 17) Look.eq (Sub.cons (t := 22) Look.eq (Sub.cons (t := 134) Look.eq (Sub.cons (t := 135) Look.eq (Sub.cons (t := 136) Look.eq (Sub.nil _))))))) ?_
      refine KA.seq ?_
      refine KA.region rfl ?_
      refine KOps.assign ?_
      refine KOps.done ?_
      refine sqQ.normal ?_
      refine KA.block ?_
      refine KA.loop (X := Nat) (fun j => [(8, vp), (17, vo), (22, (vs.getD k .bot)), (23, .int .i64 (j : Int)), (134, vo), (135, .int .i64 ((pilesOf l).length : Int)), (136, .int .i64 (k : Int))]) (fun j h' => h9 = h' ∧ 1 ≤ j) (fun j => ((pilesOf l).getD k []).length - j) 1 (by repeat (first | exact Sub.nil _ | refine Sub.cons Look.eq ?_ | refine Sub.cons (Eq.trans Look.eq (congrArg (AV.int _) (by first | omega | (dsimp only; omega)))) ?_)) ⟨rfl, Nat.le_refl _⟩ ?_
      rintro j _ ⟨rfl, hj⟩
      refine KA.seq ?_
      refine KA.seq ?_
      refine KA.region rfl ?_
      refine KOps.move ?_
      refine KOps.move ?_
      refine KOps.lenI (St.rowAt (pre := []) hS (by first | assumption | omega | (simp only [List.length_set, List.length_append, List.length_singleton, List.length_replicate, List.length_take]; omega)) (by first | omega | (simp; omega))) ?_
      refine KOps.lss ?_
      refine KOps.done ?_
      refine sqQ.normal ?_
      refine KA.sub (Sub.cons (t := 8) Look.eq (Sub.cons (t := 17) Look.eq (Sub.cons (t := 22) Look.eq (Sub.cons (t := 23) Look.eq (Sub.cons (t := 134) Look.eq (Sub.cons (t := 135) Look.eq (Sub.cons (t := 136) Look.eq (Sub.cons (t := 143) Look.eq (Sub.nil _))))))))) ?_
      refine KA.condD ?_ ?_
      · intro c143
        refine KA.skip ?_
        refine sqQ.normal ?_
        refine KA.sub (Sub.cons (t := 8) Look.eq (Sub.cons (t := 17) Look.eq (Sub.cons (t := 22) Look.eq (Sub.cons (t := 23) Look.eq (Sub.cons (t := 134) Look.eq (Sub.cons (t := 135) Look.eq (Sub.cons (t := 136) Look.eq (Sub.nil _)))))))) ?_
        refine KA.seq ?_
        refine KA.block ?_
        refine KA.seq ?_
        refine KA.draw [] mixed rfl (by kernel_rfl) ?_
        refine KOps.move ?_
        refine KOps.move ?_
        refine KOps.indexIJ (St.rowAt (pre := []) hS (by first | assumption | omega | (simp only [List.length_set, List.length_append, List.length_singleton, List.length_replicate, List.length_take]; omega)) (by first | omega | (simp; omega))) (j := j) rfl (by first | omega | (simp; omega)) ?_
        intro p148 hp148
        refine KOps.loadI hp148 (St.rowAt (pre := []) hS (by first | assumption | omega | (simp only [List.length_set, List.length_append, List.length_singleton, List.length_replicate, List.length_take]; omega)) (by first | omega | (simp; omega))) (by first | omega | (simp; omega)) ?_
        refine KOps.move ?_
        refine KOps.move ?_
        refine KOps.sub (by first | omega | (simp only [List.length_append, List.length_singleton, List.length_set]; omega)) (by first | omega | (simp only [List.length_append, List.length_singleton, List.length_set]; omega)) ?_
        refine KOps.indexIJ (St.rowAt (pre := []) hS (by first | assumption | omega | (simp only [List.length_set, List.length_append, List.length_singleton, List.length_replicate, List.length_take]; omega)) (by first | omega | (simp; omega))) (j := (j - 1)) (by first | omega | (simp only [List.length_append, List.length_singleton, List.length_set]; omega)) (by first | omega | (simp; omega)) ?_
        intro p153 hp153
        refine KOps.loadI hp153 (St.rowAt (pre := []) hS (by first | assumption | omega | (simp only [List.length_set, List.length_append, List.length_singleton, List.length_replicate, List.length_take]; omega)) (by first | omega | (simp; omega))) (by first | omega | (simp; omega)) ?_
        refine KOps.gtr ?_
        refine KOps.done ?_
        refine sqQ.normal ?_
        refine KA.sub (Sub.cons (t := 8) Look.eq (Sub.cons (t := 17) Look.eq (Sub.cons (t := 22) Look.eq (Sub.cons (t := 23) Look.eq (Sub.cons (t := 134) Look.eq (Sub.cons (t := 135) Look.eq (Sub.cons (t := 136) Look.eq (Sub.cons (t := 155) Look.eq (Sub.nil _))))))))) ?_
        refine KA.condD ?_ ?_
        · intro c155
          exfalso; have := piles_fall l k j (by omega) (by omega); omega
        · intro c155
          refine KA.skip ?_
          refine blQ.normal ?_
          refine sqQ.normal ?_
          refine KA.sub (Sub.cons (t := 8) Look.eq (Sub.cons (t := 17) Look.eq (Sub.cons (t := 22) Look.eq (Sub.cons (t := 23) Look.eq (Sub.cons (t := 134) Look.eq (Sub.cons (t := 135) Look.eq (Sub.cons (t := 136) Look.eq (Sub.nil _)))))))) ?_
          refine KA.region rfl ?_
          refine KOps.move ?_
          refine KOps.add (by first | omega | (simp only [List.length_append, List.length_singleton, List.length_set]; omega)) (by first | omega | (simp only [List.length_append, List.length_singleton, List.length_set]; omega)) ?_
          refine KOps.assign ?_
          refine KOps.done ?_
          exact lpQ.normal (j + 1) (by repeat (first | exact Sub.nil _ | refine Sub.cons Look.eq ?_ | refine Sub.cons (Eq.trans Look.eq (congrArg (AV.int _) (by first | omega | (dsimp only; omega)))) ?_)) ⟨rfl, by omega⟩ (by omega)
      · intro c143
        refine KA.exit ?_
        refine sqQ.exit ?_
        refine lpQ.exit ?_
        refine blQ.here ?_
        refine blQ.normal ?_
        refine sqQ.normal ?_
        refine KA.sub (Sub.cons (t := 8) Look.eq (Sub.cons (t := 17) Look.eq (Sub.cons (t := 134) Look.eq (Sub.cons (t := 135) Look.eq (Sub.cons (t := 136) Look.eq (Sub.nil _)))))) ?_
        refine KA.region rfl ?_
        refine KOps.add (by first | omega | (simp only [List.length_append, List.length_singleton, List.length_set]; omega)) (by first | omega | (simp only [List.length_append, List.length_singleton, List.length_set]; omega)) ?_
        refine KOps.move ?_
        refine KOps.done ?_
        exact lpQ.normal (k + 1) (by repeat (first | exact Sub.nil _ | refine Sub.cons Look.eq ?_ | refine Sub.cons (Eq.trans Look.eq (congrArg (AV.int _) (by first | omega | (dsimp only; omega)))) ?_)) ⟨rfl, by omega⟩ (by omega)
    · intro c137
      refine KA.exit ?_
      refine sqQ.exit ?_
      refine lpQ.exit ?_
      refine blQ.here ?_
      refine sqQ.normal ?_
      refine KA.sub (Sub.cons (t := 8) Look.eq (Sub.cons (t := 17) Look.eq (Sub.nil _))) ?_
      refine KA.seq ?_
      refine KA.region rfl ?_
      refine KOps.move ?_
      refine KOps.move ?_
      refine KOps.call rfl (alike_t rfl (hp5.ext hS.keeps) (St.mat (pre := []) hl hS) (by first | omega | (simp; omega)) (fun i _ => by have := (hpw i).1; omega)) ?_
      rintro _ _ ⟨rfl, rfl⟩
      refine KOps.move ?_
      refine KOps.guardYes (dj := 160) rfl rfl ?_
      refine KOps.call rfl (works_c _) ?_
      rintro _ _ ⟨rfl, rfl⟩
      refine KOps.pickT ?_
      refine KOps.assign ?_
      refine KOps.done ?_
      refine sqQ.normal ?_
      refine KA.sub (Sub.cons (t := 4) Look.eq (Sub.nil _)) ?_
      refine KA.ret ?_
      refine fnQ.ret1 ?_
      rfl

end Go.Am
