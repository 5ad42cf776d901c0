/-
  Layer 13: the law of the cards that are moved, over the abstract machine.
  Conditions: none.
-/
import Derived.Test.YtenkokebdgekbaaCg
namespace Go.Am
open Go.Gr
theorem movedOf_len (l : List Int) : (movedOf l).length ≤ l.length := movedTo_len l _

theorem law_moved {h : AHeap} {v u : AV} {l cs : List Int} (hv : Row h v l) (hu : Row h u cs) : ACalls Go.Proofs.Try.prog 4 [v, u] h (fun r _ => r = .bool true) := by
  refine KA.fn 46 [.tmp 4] Go.Proofs.Try.func4 rfl (by decide) rfl rfl (Nat.le_of_ble_eq_true rfl) ?_
  show KA _ 46 _ _ [(0, v), (1, u)] _
  refine KA.seq ?_
  refine KA.region rfl ?_
  refine KOps.assign ?_
  refine KOps.done ?_
  refine sqQ.normal ?_
  refine KA.sub (Sub.cons (t := 0) Look.eq (Sub.cons (t := 1) Look.eq (Sub.nil _))) ?_
  refine KA.seq ?_
  refine KA.seq ?_
  refine KA.region rfl ?_
  refine KOps.move ?_
  refine KOps.call rfl (large_c hv) ?_
  rintro _ _ ⟨rfl, rfl⟩
  refine KOps.move ?_
  refine KOps.guardB (dj := 11) rfl rfl false true rfl ?_ ?_
  · intro g11
    have g11 := of_decide_eq_false g11
    refine KOps.move ?_
    refine KOps.guardYes (dj := 11) rfl rfl ?_
    refine KOps.call rfl (large_c hu) ?_
    rintro _ _ ⟨rfl, rfl⟩
    refine KOps.pickF ?_
    refine KOps.done ?_
    refine sqQ.normal ?_
    refine KA.sub (Sub.cons (t := 0) Look.eq (Sub.cons (t := 1) Look.eq (Sub.cons (t := 14) Look.eq (Sub.nil _)))) ?_
    refine KA.condD ?_ ?_
    · intro c14
      refine KA.seq ?_
      refine KA.region rfl ?_
      refine KOps.call rfl (works_c _) ?_
      rintro _ _ ⟨rfl, rfl⟩
      refine KOps.assign ?_
      refine KOps.done ?_
      refine sqQ.normal ?_
      refine KA.sub (Sub.cons (t := 4) Look.eq (Sub.nil _)) ?_
      refine KA.ret ?_
      refine sqQ.ret ?_
      refine fnQ.ret1 ?_
      rfl
    · intro c14
      have ho := okE_len _ (movedOf_len l)
      refine KA.skip ?_
      refine sqQ.normal ?_
      refine KA.sub (Sub.cons (t := 0) Look.eq (Sub.cons (t := 1) Look.eq (Sub.nil _))) ?_
      refine KA.seq ?_
      refine KA.region rfl ?_
      refine KOps.move ?_
      refine KOps.call rfl (moved_c hv) ?_
      rintro _ h1 ⟨vo1, rfl, hK, hm1⟩
      have hv := hv.ext hK
      have hu := hu.ext hK
      refine KOps.move ?_
      refine KOps.extract ?_
      refine KOps.extract ?_
      refine KOps.assign ?_
      refine KOps.assign ?_
      refine KOps.done ?_
      refine sqQ.normal ?_
      refine KA.sub (Sub.cons (t := 0) Look.eq (Sub.cons (t := 1) Look.eq (Sub.cons (t := 5) Look.eq (Sub.cons (t := 6) Look.eq (Sub.nil _))))) ?_
      refine KA.seq ?_
      refine KA.region rfl ?_
      refine KOps.move ?_
      refine KOps.call rfl (refMoved_c hv (by first | omega | (simp; omega))) ?_
      rintro _ h2 ⟨vo2, rfl, hK, hm2⟩
      have hv := hv.ext hK
      have hu := hu.ext hK
      have hm1 := hm1.ext hK
      refine KOps.move ?_
      refine KOps.extract ?_
      refine KOps.extract ?_
      refine KOps.assign ?_
      refine KOps.assign ?_
      refine KOps.done ?_
      refine sqQ.normal ?_
      refine KA.sub (Sub.cons (t := 0) Look.eq (Sub.cons (t := 1) Look.eq (Sub.cons (t := 5) Look.eq (Sub.cons (t := 6) Look.eq (Sub.cons (t := 7) Look.eq (Sub.cons (t := 8) Look.eq (Sub.nil _))))))) ?_
      refine KA.seq ?_
      refine KA.region rfl ?_
      refine KOps.move ?_
      refine KOps.move ?_
      refine KOps.call rfl (same_t rfl hm1 hm2 (by first | omega | (simp; omega))) ?_
      rintro _ _ ⟨rfl, rfl⟩
      refine KOps.move ?_
      refine KOps.guardYes (dj := 29) rfl rfl ?_
      refine KOps.move ?_
      refine KOps.guardYes (dj := 29) rfl rfl ?_
      refine KOps.move ?_
      refine KOps.guardYes (dj := 29) rfl rfl ?_
      refine KOps.eqlT rfl ?_
      refine KOps.pickT ?_
      refine KOps.move ?_
      refine KOps.guardYes (dj := 34) rfl rfl ?_
      refine KOps.move ?_
      refine KOps.guardYes (dj := 34) rfl rfl ?_
      refine KOps.move ?_
      refine KOps.guardYes (dj := 34) rfl rfl ?_
      refine KOps.call rfl (sorts_c hv hu (by first | omega | (simp; omega)) (by first | omega | (simp; omega))) ?_
      rintro _ _ ⟨rfl, rfl⟩
      refine KOps.guardYes (dj := 34) rfl rfl ?_
      refine KOps.move ?_
      refine KOps.guardYes (dj := 34) rfl rfl ?_
      refine KOps.move ?_
      refine KOps.guardYes (dj := 34) rfl rfl ?_
      refine KOps.call rfl (refSorts_c hv hu (by first | omega | (simp; omega)) (by first | omega | (simp; omega))) ?_
      rintro _ h14 ⟨rfl, hS14⟩
      refine KOps.guardYes (dj := 34) rfl rfl ?_
      refine KOps.eqlT rfl ?_
      refine KOps.pickT ?_
      refine KOps.move ?_
      refine KOps.guardYes (dj := 43) rfl rfl ?_
      refine KOps.call rfl (works_c _) ?_
      rintro _ _ ⟨rfl, rfl⟩
      refine KOps.pickT ?_
      refine KOps.assign ?_
      refine KOps.done ?_
      refine sqQ.normal ?_
      refine KA.sub (Sub.cons (t := 4) Look.eq (Sub.nil _)) ?_
      refine KA.ret ?_
      refine fnQ.ret1 ?_
      rfl
  · intro g11
    have g11 := of_decide_eq_true g11
    refine KOps.guardNo (dj := 11) rfl rfl rfl ?_
    refine KOps.pickT ?_
    refine KOps.done ?_
    refine sqQ.normal ?_
    refine KA.sub (Sub.cons (t := 0) Look.eq (Sub.cons (t := 1) Look.eq (Sub.cons (t := 14) Look.eq (Sub.nil _)))) ?_
    refine KA.condT ?_
    refine KA.seq ?_
    refine KA.region rfl ?_
    refine KOps.call rfl (works_c _) ?_
    rintro _ _ ⟨rfl, rfl⟩
    refine KOps.assign ?_
    refine KOps.done ?_
    refine sqQ.normal ?_
    refine KA.sub (Sub.cons (t := 4) Look.eq (Sub.nil _)) ?_
    refine KA.ret ?_
    refine sqQ.ret ?_
    refine fnQ.ret1 ?_
    rfl

end Go.Am
