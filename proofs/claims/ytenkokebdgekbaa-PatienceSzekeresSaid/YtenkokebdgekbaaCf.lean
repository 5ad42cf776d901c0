/-
  Layer 13: the law of the piles, over the abstract machine.
  Conditions: none.
-/
import Derived.Test.YtenkokebdgekbaaCe
import Derived.Test.YtenkokebdgekbaaAmC
namespace Go.Am
open Go.Gr
set_option maxRecDepth 100000 in
theorem works_runs : runs Go.Proofs.Try.prog 300 16 [] true = true := by kernel_rfl
theorem works_c (h : AHeap) : ACalls Go.Proofs.Try.prog 16 [] h (fun r h' => r = .bool true ∧ h = h') := by
  obtain ⟨h1, he⟩ := runs_ev mixed works_runs
  exact he.acalls h
theorem alike_t {h : AHeap} {v u : AV} {l m : List (List Int)} (he : l = m) (hv : Mat h v l) (hu : Mat h u m) (hlen : l.length ≤ 4294967296) (hrow : ∀ i, i < l.length → (l.getD i []).length ≤ 4294967296) : ACalls Go.Proofs.Try.prog 23 [v, u] h (fun r h' => r = .bool true ∧ h = h') :=
  (alike_c hv hu hlen hrow).mono fun r h' ⟨h1, h2⟩ => ⟨by rw [h1, decide_eq_true he], h2⟩
theorem same_t {h : AHeap} {v u : AV} {l m : List Int} (he : l = m) (hv : Row h v l) (hu : Row h u m) (hlen : l.length ≤ 4294967296) : ACalls Go.Proofs.Try.prog 24 [v, u] h (fun r h' => r = .bool true ∧ h = h') :=
  (same_c hv hu hlen).mono fun r h' ⟨h1, h2⟩ => ⟨by rw [h1, decide_eq_true he], h2⟩
theorem bestOf_len (l : List Int) (f : Bool) : (bestOf l f).length ≤ l.length := bestTo_len l f _
theorem okE_len {l : List Int} (x : List Int) (hx : x.length ≤ l.length) : (okE l [] x).length ≤ l.length := by
  unfold okE; split
  · exact hx
  · simp
theorem okP_len (l : List Int) : (okE l [] (pilesOf l)).length ≤ l.length := by
  unfold okE; split
  · exact pilesOf_len l
  · simp
theorem okP_row (l : List Int) (i : Nat) : ((okE l [] (pilesOf l)).getD i []).length ≤ l.length := by
  unfold okE; split
  · exact (pilesOf_row l i).1
  · simp

theorem law_piles {h : AHeap} {v : AV} {l : List Int} (hv : Row h v l) : ACalls Go.Proofs.Try.prog 3 [v] h (fun r _ => r = .bool true) := by
  refine KA.fn 86 [.tmp 2] Go.Proofs.Try.func3 rfl (by decide) rfl rfl (Nat.le_of_ble_eq_true rfl) ?_
  show KA _ 86 _ _ [(0, v)] _
  refine KA.seq ?_
  refine KA.region rfl ?_
  refine KOps.assign ?_
  refine KOps.done ?_
  refine sqQ.normal ?_
  refine KA.sub (Sub.cons (t := 0) Look.eq (Sub.nil _)) ?_
  refine KA.seq ?_
  refine KA.seq ?_
  refine KA.region rfl ?_
  refine KOps.move ?_
  refine KOps.call rfl (large_c hv) ?_
  rintro _ _ ⟨rfl, rfl⟩
  refine KOps.done ?_
  refine sqQ.normal ?_
  refine KA.sub (Sub.cons (t := 0) Look.eq (Sub.cons (t := 16) Look.eq (Sub.nil _))) ?_
  refine KA.condD ?_ ?_
  · intro c16
    refine KA.seq ?_
    refine KA.region rfl ?_
    refine KOps.call rfl (works_c _) ?_
    rintro _ _ ⟨rfl, rfl⟩
    refine KOps.assign ?_
    refine KOps.done ?_
    refine sqQ.normal ?_
    refine KA.sub (Sub.cons (t := 2) Look.eq (Sub.nil _)) ?_
    refine KA.ret ?_
    refine sqQ.ret ?_
    refine fnQ.ret1 ?_
    rfl
  · intro c16
    have hlen : l.length ≤ 40 := by omega
    have hb0 := bestOf_len l false
    have hb1 := bestOf_len l true
    have ho0 := okE_len _ hb0
    have ho1 := okE_len _ hb1
    have hp0 := okP_len l
    have hp1 := okP_row l
    refine KA.skip ?_
    refine sqQ.normal ?_
    refine KA.sub (Sub.cons (t := 0) Look.eq (Sub.nil _)) ?_
    refine KA.seq ?_
    refine KA.region rfl ?_
    refine KOps.move ?_
    refine KOps.call rfl (piles_c hv) ?_
    rintro _ h1 ⟨vo1, vs1, rfl, hl1, hS1⟩
    have hK := hS1.keeps
    have hv := hv.ext hK
    have hm1 := St.mat (pre := []) hl1 hS1
    refine KOps.move ?_
    refine KOps.extract ?_
    refine KOps.extract ?_
    refine KOps.assign ?_
    refine KOps.assign ?_
    refine KOps.done ?_
    refine sqQ.normal ?_
    refine KA.sub (Sub.cons (t := 0) Look.eq (Sub.cons (t := 3) Look.eq (Sub.cons (t := 4) Look.eq (Sub.nil _)))) ?_
    refine KA.seq ?_
    refine KA.region rfl ?_
    refine KOps.move ?_
    refine KOps.call rfl (refPiles_c hv (by first | omega | (simp; omega))) ?_
    rintro _ h2 ⟨vo2, vs2, rfl, hl2, hS2⟩
    have hK := hS2.keeps
    have hv := hv.ext hK
    have hm1 := hm1.ext hK
    have hm2 := St.mat (pre := []) hl2 hS2
    refine KOps.move ?_
    refine KOps.extract ?_
    refine KOps.extract ?_
    refine KOps.assign ?_
    refine KOps.assign ?_
    refine KOps.done ?_
    refine sqQ.normal ?_
    refine KA.sub (Sub.cons (t := 0) Look.eq (Sub.cons (t := 3) Look.eq (Sub.cons (t := 4) Look.eq (Sub.cons (t := 5) Look.eq (Sub.cons (t := 6) Look.eq (Sub.nil _)))))) ?_
    refine KA.seq ?_
    refine KA.region rfl ?_
    refine KOps.move ?_
    refine KOps.call rfl (rising_c hv) ?_
    rintro _ h3 ⟨vo3, rfl, hS3⟩
    have hK := hS3.keeps
    have hv := hv.ext hK
    have hm1 := hm1.ext hK
    have hm2 := hm2.ext hK
    have hm3 := hS3.rd 0 rfl
    dsimp only at hm3
    refine KOps.move ?_
    refine KOps.extract ?_
    refine KOps.extract ?_
    refine KOps.assign ?_
    refine KOps.assign ?_
    refine KOps.done ?_
    refine sqQ.normal ?_
    refine KA.sub (Sub.cons (t := 0) Look.eq (Sub.cons (t := 3) Look.eq (Sub.cons (t := 4) Look.eq (Sub.cons (t := 5) Look.eq (Sub.cons (t := 6) Look.eq (Sub.cons (t := 7) Look.eq (Sub.cons (t := 8) Look.eq (Sub.nil _)))))))) ?_
    refine KA.seq ?_
    refine KA.region rfl ?_
    refine KOps.move ?_
    refine KOps.call rfl (refRising_c hv (by first | omega | (simp; omega))) ?_
    rintro _ h4 ⟨vo4, rfl, hS4⟩
    have hK := hS4.keeps
    have hv := hv.ext hK
    have hm1 := hm1.ext hK
    have hm2 := hm2.ext hK
    have hm3 := hm3.ext hK
    have hm4 := hS4.rd 0 rfl
    dsimp only at hm4
    refine KOps.move ?_
    refine KOps.extract ?_
    refine KOps.extract ?_
    refine KOps.assign ?_
    refine KOps.assign ?_
    refine KOps.done ?_
    refine sqQ.normal ?_
    refine KA.sub (Sub.cons (t := 0) Look.eq (Sub.cons (t := 3) Look.eq (Sub.cons (t := 4) Look.eq (Sub.cons (t := 5) Look.eq (Sub.cons (t := 6) Look.eq (Sub.cons (t := 7) Look.eq (Sub.cons (t := 8) Look.eq (Sub.cons (t := 9) Look.eq (Sub.cons (t := 10) Look.eq (Sub.nil _)))))))))) ?_
    refine KA.seq ?_
    refine KA.region rfl ?_
    refine KOps.move ?_
    refine KOps.call rfl (falling_c hv) ?_
    rintro _ h5 ⟨vo5, rfl, hS5⟩
    have hK := hS5.keeps
    have hv := hv.ext hK
    have hm1 := hm1.ext hK
    have hm2 := hm2.ext hK
    have hm3 := hm3.ext hK
    have hm4 := hm4.ext hK
    have hm5 := hS5.rd 0 rfl
    dsimp only at hm5
    refine KOps.move ?_
    refine KOps.extract ?_
    refine KOps.extract ?_
    refine KOps.assign ?_
    refine KOps.assign ?_
    refine KOps.done ?_
    refine sqQ.normal ?_
    refine KA.sub (Sub.cons (t := 0) Look.eq (Sub.cons (t := 3) Look.eq (Sub.cons (t := 4) Look.eq (Sub.cons (t := 5) Look.eq (Sub.cons (t := 6) Look.eq (Sub.cons (t := 7) Look.eq (Sub.cons (t := 8) Look.eq (Sub.cons (t := 9) Look.eq (Sub.cons (t := 10) Look.eq (Sub.cons (t := 11) Look.eq (Sub.cons (t := 12) Look.eq (Sub.nil _)))))))))))) ?_
    refine KA.seq ?_
    refine KA.region rfl ?_
    refine KOps.move ?_
    refine KOps.call rfl (refFalling_c hv (by first | omega | (simp; omega))) ?_
    rintro _ h6 ⟨vo6, rfl, hS6⟩
    have hK := hS6.keeps
    have hv := hv.ext hK
    have hm1 := hm1.ext hK
    have hm2 := hm2.ext hK
    have hm3 := hm3.ext hK
    have hm4 := hm4.ext hK
    have hm5 := hm5.ext hK
    have hm6 := hS6.rd 0 rfl
    dsimp only at hm6
    refine KOps.move ?_
    refine KOps.extract ?_
    refine KOps.extract ?_
    refine KOps.assign ?_
    refine KOps.assign ?_
    refine KOps.done ?_
    refine sqQ.normal ?_
    refine KA.sub (Sub.cons (t := 0) Look.eq (Sub.cons (t := 3) Look.eq (Sub.cons (t := 4) Look.eq (Sub.cons (t := 5) Look.eq (Sub.cons (t := 6) Look.eq (Sub.cons (t := 7) Look.eq (Sub.cons (t := 8) Look.eq (Sub.cons (t := 9) Look.eq (Sub.cons (t := 10) Look.eq (Sub.cons (t := 11) Look.eq (Sub.cons (t := 12) Look.eq (Sub.cons (t := 13) Look.eq (Sub.cons (t := 14) Look.eq (Sub.nil _)))))))))))))) ?_
    refine KA.seq ?_
    refine KA.region rfl ?_
    refine KOps.move ?_
    refine KOps.move ?_
    refine KOps.call rfl (alike_t rfl hm1 hm2 (by first | omega | (simp; omega)) (fun i _ => by have := hp1 i; omega)) ?_
    rintro _ _ ⟨rfl, rfl⟩
    refine KOps.move ?_
    refine KOps.guardYes (dj := 51) rfl rfl ?_
    refine KOps.move ?_
    refine KOps.guardYes (dj := 51) rfl rfl ?_
    refine KOps.move ?_
    refine KOps.guardYes (dj := 51) rfl rfl ?_
    refine KOps.eqlT rfl ?_
    refine KOps.pickT ?_
    refine KOps.move ?_
    refine KOps.guardYes (dj := 56) rfl rfl ?_
    refine KOps.move ?_
    refine KOps.guardYes (dj := 56) rfl rfl ?_
    refine KOps.move ?_
    refine KOps.guardYes (dj := 56) rfl rfl ?_
    refine KOps.call rfl (same_t rfl hm3 hm4 (by first | omega | (simp; omega))) ?_
    rintro _ _ ⟨rfl, rfl⟩
    refine KOps.pickT ?_
    refine KOps.move ?_
    refine KOps.guardYes (dj := 61) rfl rfl ?_
    refine KOps.move ?_
    refine KOps.guardYes (dj := 61) rfl rfl ?_
    refine KOps.move ?_
    refine KOps.guardYes (dj := 61) rfl rfl ?_
    refine KOps.eqlT rfl ?_
    refine KOps.pickT ?_
    refine KOps.move ?_
    refine KOps.guardYes (dj := 66) rfl rfl ?_
    refine KOps.move ?_
    refine KOps.guardYes (dj := 66) rfl rfl ?_
    refine KOps.move ?_
    refine KOps.guardYes (dj := 66) rfl rfl ?_
    refine KOps.call rfl (same_t rfl hm5 hm6 (by first | omega | (simp; omega))) ?_
    rintro _ _ ⟨rfl, rfl⟩
    refine KOps.pickT ?_
    refine KOps.move ?_
    refine KOps.guardYes (dj := 71) rfl rfl ?_
    refine KOps.move ?_
    refine KOps.guardYes (dj := 71) rfl rfl ?_
    refine KOps.move ?_
    refine KOps.guardYes (dj := 71) rfl rfl ?_
    refine KOps.eqlT rfl ?_
    refine KOps.pickT ?_
    refine KOps.move ?_
    refine KOps.guardYes (dj := 76) rfl rfl ?_
    refine KOps.move ?_
    refine KOps.guardYes (dj := 76) rfl rfl ?_
    refine KOps.call rfl (check_c hv) ?_
    rintro _ _ ⟨rfl, rfl⟩
    refine KOps.guardYes (dj := 76) rfl rfl ?_
    refine KOps.move ?_
    refine KOps.guardYes (dj := 76) rfl rfl ?_
    refine KOps.call rfl (refCheck_c hv (by first | omega | (simp; omega))) ?_
    rintro _ _ ⟨rfl, rfl⟩
    refine KOps.guardYes (dj := 76) rfl rfl ?_
    refine KOps.eqlT rfl ?_
    refine KOps.pickT ?_
    refine KOps.move ?_
    refine KOps.guardYes (dj := 83) rfl rfl ?_
    refine KOps.call rfl (works_c _) ?_
    rintro _ _ ⟨rfl, rfl⟩
    refine KOps.pickT ?_
    refine KOps.assign ?_
    refine KOps.done ?_
    refine sqQ.normal ?_
    refine KA.sub (Sub.cons (t := 2) Look.eq (Sub.nil _)) ?_
    refine KA.ret ?_
    refine fnQ.ret1 ?_
    rfl

end Go.Am
