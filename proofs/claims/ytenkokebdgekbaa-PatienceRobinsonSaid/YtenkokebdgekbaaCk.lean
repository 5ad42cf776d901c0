/-
  Contracts of layer 13: a pack out of two tables.
  Conditions: none.
-/
import Derived.Test.YtenkokebdgekbaaCj
import Derived.Test.YtenkokebdgekbaaPt8
namespace Go.Am
open Go.Gr
theorem shape_at {T S : List (List Int)} (h : shapeL T = shapeL S) (i : Nat) : (T.getD i []).length = (S.getD i []).length := by
  have h1 : ∀ T : List (List Int), (T.getD i []).length = (shapeL T).getD i 0 := by
    intro T; simp only [shapeL, List.getD_eq_getElem?_getD, List.getElem?_map]; cases T[i]? <;> rfl
  rw [h1, h1, h]
theorem shape_of {T S : List (List Int)} (hl : T.length = S.length) (h : ∀ i, i < T.length → (T.getD i []).length = (S.getD i []).length) : shapeL T = shapeL S := by
  unfold shapeL
  apply List.ext_getElem (by simp [hl])
  intro i h1 h2
  have := h i (by simpa using h1)
  simp at h1 h2
  simpa [List.getD_eq_getElem?_getD, List.getElem?_eq_getElem h1, List.getElem?_eq_getElem h2] using this
def packE (T S : List (List Int)) : Int := if stdE T = 0 then (if stdE S = 0 then (if shapeL T = shapeL S then 0 else 13) else stdE S) else stdE T
def packOf (T S : List (List Int)) : List Int := if packE T S = 0 then unpack S S.flatten.length T else []

theorem pack1_c {h : AHeap} {v u : AV} {l m : List Int} (hv : Row h v l) (hu : Row h u m) : ACalls Go.Proofs.Try.prog 78 [v, u] h (fun r h' => r = .bool (decide (l.length = m.length)) ∧ h = h') := by
  refine KA.fn 10 [.tmp 4] Go.Proofs.Try.func78 rfl (by decide) rfl rfl (Nat.le_of_ble_eq_true rfl) ?_
  show KA _ 10 _ _ [(0, v), (1, u)] _
  refine KA.seq ?_
  refine KA.region rfl ?_
  refine KOps.assign ?_
  refine KOps.done ?_
  refine sqQ.normal ?_
  refine KA.sub (Sub.cons (t := 0) Look.eq (Sub.cons (t := 1) Look.eq (Sub.nil _))) ?_
  refine KA.seq ?_
  refine KA.region rfl ?_
  refine KOps.move ?_
  refine KOps.lenI (by first | assumption | exact Rd.ext hS.keeps (by assumption)) ?_
  refine KOps.move ?_
  refine KOps.lenI (by first | assumption | exact Rd.ext hS.keeps (by assumption)) ?_
  refine KOps.eql ?_
  refine KOps.assign ?_
  refine KOps.done ?_
  refine sqQ.normal ?_
  refine KA.sub (Sub.cons (t := 4) Look.eq (Sub.nil _)) ?_
  refine KA.ret ?_
  refine fnQ.ret1 ?_
  exact ⟨by congr 1; exact decide_eq_decide.2 (by omega), rfl⟩

theorem equalFunc_c {h : AHeap} {v u : AV} {T S : List (List Int)} (hv : Mat h v T) (hu : Mat h u S) (hs : T.length ≤ 4294967296) : ACalls Go.Proofs.Try.prog 77 [v, u, .fn 78 []] h (fun r h' => r = .bool (decide (shapeL T = shapeL S)) ∧ h = h') := by
  refine KA.fn 32 [.tmp 6] Go.Proofs.Try.func77 rfl (by decide) rfl rfl (Nat.le_of_ble_eq_true rfl) ?_
  obtain ⟨vs, hvs, hvl, hvr⟩ := hv
  obtain ⟨us, hus, hul, hur⟩ := hu
  have hS := St.refl h
  show KA _ 32 _ _ [(0, v), (1, u), (2, .fn 78 [])] _
  refine KA.seq ?_
  refine KA.region rfl ?_
  refine KOps.assign ?_
  refine KOps.done ?_
  refine sqQ.normal ?_
  refine KA.sub (Sub.cons (t := 0) Look.eq (Sub.cons (t := 1) Look.eq (Sub.cons (t := 2) Look.eq (Sub.nil _)))) ?_
  refine KA.seq ?_
  refine KA.seq ?_
  refine KA.region rfl ?_
  refine KOps.move ?_
  refine KOps.lenV hvs ?_
  refine KOps.move ?_
  refine KOps.lenV hus ?_
  refine KOps.neq ?_
  refine KOps.done ?_
  refine sqQ.normal ?_
  refine KA.sub (Sub.cons (t := 0) Look.eq (Sub.cons (t := 1) Look.eq (Sub.cons (t := 2) Look.eq (Sub.cons (t := 14) Look.eq (Sub.nil _))))) ?_
  refine KA.condN ?_ ?_
  · intro c14
    refine KA.seq ?_
    refine KA.region rfl ?_
    refine KOps.assign ?_
    refine KOps.done ?_
    refine sqQ.normal ?_
    refine KA.sub (Sub.cons (t := 6) Look.eq (Sub.nil _)) ?_
    refine KA.ret ?_
    refine sqQ.ret ?_
    refine fnQ.ret1 ?_
    exact ⟨by congr 1; exact (decide_eq_false (fun hq => by have := congrArg List.length hq; simp [shapeL] at this; omega)).symm, rfl⟩
  · intro c14
    refine KA.skip ?_
    refine sqQ.normal ?_
    refine KA.sub (Sub.cons (t := 0) Look.eq (Sub.cons (t := 1) Look.eq (Sub.cons (t := 2) Look.eq (Sub.nil _)))) ?_
    refine KA.seq ?_
    refine KA.seq ?_
    refine KA.region rfl ?_
    refine KOps.move ?_
    refine KOps.lenV hvs ?_
    refine KOps.move ?_
    refine KOps.done ?_
    refine sqQ.normal ?_
    refine KA.sub (Sub.cons (t := 1) Look.eq (Sub.cons (t := 2) Look.eq (Sub.cons (t := 15) Look.eq (Sub.cons (t := 16) Look.eq (Sub.cons (t := 17) Look.eq (Sub.nil _)))))) ?_
    refine KA.block ?_
    refine KA.loop (X := Nat) (fun i => [(1, u), (2, .fn 78 []), (15, v), (16, .int .i64 (T.length : Int)), (17, .int .i64 (i : Int))]) (fun i h' => h = h' ∧ i ≤ T.length ∧ ∀ j, j < i → (T.getD j []).length = (S.getD j []).length) (fun i => T.length - i) 0 (by repeat (first | exact Sub.nil _ | refine Sub.cons Look.eq ?_ | refine Sub.cons (Eq.trans Look.eq (congrArg (AV.int _) (by first | omega | (dsimp only; omega)))) ?_)) ⟨rfl, by omega, by omega⟩ ?_
    rintro i _ ⟨rfl, hi, he⟩
    refine KA.seq ?_
    refine KA.region rfl ?_
    refine KOps.lss ?_
    refine KOps.done ?_
    refine sqQ.normal ?_
    refine KA.seq ?_
    refine KA.condD ?_ ?_
    · intro c18
      refine KA.skip ?_
      refine sqQ.normal ?_
      refine KA.sub (Sub.cons (t := 1) Look.eq (Sub.cons (t := 2) Look.eq (Sub.cons (t := 15) Look.eq (Sub.cons (t := 16) Look.eq (Sub.cons (t := 17) Look.eq (Sub.nil _)))))) ?_
      refine KA.seq ?_
      refine KA.block ?_
      refine KA.seq ?_
      refine KA.region rfl ?_
      refine KOps.move ?_
      refine KOps.indexVJ hvs (j := i) rfl (by first | omega | (simp; omega)) ?_
      intro p20 hp20
      refine KOps.loadV hp20 hvs (by first | omega | (simp only [List.length_append, List.length_singleton, List.length_set]; omega)) ?_
      have hrow := hvr i (by omega)
      refine KOps.assign ?_
      refine KOps.assign ?_
      refine KOps.done ?_
      refine sqQ.normal ?_
      refine KA.sub (Sub.cons (t := 1) Look.eq (Sub.cons (t := 2) Look.eq (Sub.cons (t := 7) Look.eq (Sub.cons (t := 8) Look.eq (Sub.cons (t := 15) Look.eq (Sub.cons (t := 16) Look.eq (Sub.cons (t := 17) Look.eq (Sub.nil _)))))))) ?_
      refine KA.seq ?_
      refine KA.region rfl ?_
      refine KOps.move ?_
      refine KOps.move ?_
      refine KOps.indexVJ hus (j := i) rfl (by first | omega | (simp; omega)) ?_
      intro p24 hp24
      refine KOps.loadV hp24 hus (by first | omega | (simp only [List.length_append, List.length_singleton, List.length_set]; omega)) ?_
      have hrow2 := hur i (by omega)
      refine KOps.assign ?_
      refine KOps.done ?_
      refine sqQ.normal ?_
      refine KA.sub (Sub.cons (t := 1) Look.eq (Sub.cons (t := 2) Look.eq (Sub.cons (t := 8) Look.eq (Sub.cons (t := 9) Look.eq (Sub.cons (t := 15) Look.eq (Sub.cons (t := 16) Look.eq (Sub.cons (t := 17) Look.eq (Sub.nil _)))))))) ?_
      refine KA.seq ?_
      refine KA.region rfl ?_
      refine KOps.move ?_
      refine KOps.move ?_
      refine KOps.move ?_
      refine KOps.call rfl (pack1_c hrow hrow2) ?_
      rintro _ _ ⟨rfl, rfl⟩
      refine KOps.not ?_
      refine KOps.done ?_
      refine sqQ.normal ?_
      refine KA.sub (Sub.cons (t := 1) Look.eq (Sub.cons (t := 2) Look.eq (Sub.cons (t := 15) Look.eq (Sub.cons (t := 16) Look.eq (Sub.cons (t := 17) Look.eq (Sub.cons (t := 30) Look.eq (Sub.nil _))))))) ?_
      refine KA.condN ?_ ?_
      · intro c30
        refine KA.seq ?_
        refine KA.region rfl ?_
        refine KOps.assign ?_
        refine KOps.done ?_
        refine sqQ.normal ?_
        refine KA.sub (Sub.cons (t := 6) Look.eq (Sub.nil _)) ?_
        refine KA.ret ?_
        refine blQ.ret ?_
        refine sqQ.ret ?_
        refine lpQ.ret ?_
        refine blQ.ret ?_
        refine sqQ.ret ?_
        refine fnQ.ret1 ?_
        exact ⟨by congr 1; exact (decide_eq_false (fun hq => c30 (shape_at hq i))).symm, rfl⟩
      · intro c30
        refine KA.skip ?_
        refine blQ.normal ?_
        refine sqQ.normal ?_
        refine KA.sub (Sub.cons (t := 1) Look.eq (Sub.cons (t := 2) Look.eq (Sub.cons (t := 15) Look.eq (Sub.cons (t := 16) Look.eq (Sub.cons (t := 17) Look.eq (Sub.nil _)))))) ?_
        refine KA.region rfl ?_
        refine KOps.add (by first | omega | (simp only [List.length_append, List.length_singleton, List.length_set]; omega)) (by first | omega | (simp only [List.length_append, List.length_singleton, List.length_set]; omega)) ?_
        refine KOps.move ?_
        refine KOps.done ?_
        refine lpQ.normal (i + 1) (by repeat (first | exact Sub.nil _ | refine Sub.cons Look.eq ?_ | refine Sub.cons (Eq.trans Look.eq (congrArg (AV.int _) (by first | omega | (dsimp only; omega)))) ?_)) ⟨rfl, by omega, ?_⟩ (by omega)
        intro j hj; rcases Nat.lt_succ_iff_lt_or_eq.1 hj with h1 | rfl
        · exact he j h1
        · exact c30
    · intro c18
      refine KA.exit ?_
      refine sqQ.exit ?_
      refine lpQ.exit ?_
      refine blQ.here ?_
      refine sqQ.normal ?_
      refine KA.sub (Sub.nil _) ?_
      refine KA.seq ?_
      refine KA.region rfl ?_
      refine KOps.assign ?_
      refine KOps.done ?_
      refine sqQ.normal ?_
      refine KA.ret ?_
      refine fnQ.ret1 ?_
      exact ⟨by congr 1; exact (decide_eq_true (shape_of (by omega) (fun j hj => he j (by omega)))).symm, rfl⟩

theorem take_c {h0 h : AHeap} {vo : AV} {vs : List AV} {T : List (List Int)} {pre rest : List Obj} {k q0 : Nat} (hS : St h0 h (pre ++ (matObjs true vo vs T ++ rest))) (hl : vs.length = T.length) (hk : k < T.length) (hpos : 0 < (T.getD k []).length) (u0 : Up (cutL T k) k (lastD (T.getD k [])) q0) (hlen : T.length ≤ 9) (hrow : ∀ k, (T.getD k []).length ≤ 9) : ACalls Go.Proofs.Try.prog 79 [vo, .int .i64 (k : Int)] h (fun r h' => ∃ vs', r = .int .i64 (takeT T k).2 ∧ vs'.length = T.length ∧ St h0 h' (pre ++ (matObjs true vo vs' (takeT T k).1 ++ rest))) := by
  refine KA.fn 64 [.tmp 4] Go.Proofs.Try.func79 rfl (by decide) rfl rfl (Nat.le_of_ble_eq_true rfl) ?_
  have hrk := hrow k
  show KA _ 64 _ _ [(0, vo), (1, .int .i64 (k : Int))] _
  refine KA.seq ?_
  refine KA.region rfl ?_
  refine KOps.assign ?_
  refine KOps.done ?_
  refine sqQ.normal ?_
  refine KA.sub (Sub.cons (t := 0) Look.eq (Sub.cons (t := 1) Look.eq (Sub.nil _))) ?_
  refine KA.seq ?_
  refine KA.region rfl ?_
  refine KOps.move ?_
  refine KOps.move ?_
  refine KOps.indexVJ (St.outer (pre := [] ++ pre) hS) (j := k) rfl (by first | omega | (simp; omega)) ?_
  intro p11 hp11
  refine KOps.loadV hp11 (St.outer (pre := [] ++ pre) hS) (by first | omega | (simp; omega)) ?_
  refine KOps.lenI (St.rowAt (pre := [] ++ pre) hS (by first | assumption | omega | (simp only [List.length_set, List.length_append, List.length_singleton, List.length_replicate, List.length_take]; omega)) (by first | omega | (simp; omega))) ?_
  refine KOps.sub (by first | omega | (simp only [List.length_append, List.length_singleton, List.length_set]; omega)) (by first | omega | (simp only [List.length_append, List.length_singleton, List.length_set]; omega)) ?_
  refine KOps.assign ?_
  refine KOps.done ?_
  refine sqQ.normal ?_
  refine KA.sub (Sub.cons (t := 0) Look.eq (Sub.cons (t := 1) Look.eq (Sub.cons (t := 5) Look.eq (Sub.nil _)))) ?_
  refine KA.seq ?_
  refine KA.region rfl ?_
  refine KOps.move ?_
  refine KOps.move ?_
  refine KOps.indexVJ (St.outer (pre := [] ++ pre) hS) (j := k) rfl (by first | omega | (simp; omega)) ?_
  intro p17 hp17
  refine KOps.loadV hp17 (St.outer (pre := [] ++ pre) hS) (by first | omega | (simp; omega)) ?_
  refine KOps.move ?_
  refine KOps.indexIJ (St.rowAt (pre := [] ++ pre) hS (by first | assumption | omega | (simp only [List.length_set, List.length_append, List.length_singleton, List.length_replicate, List.length_take]; omega)) (by first | omega | (simp; omega))) (j := ((T.getD k []).length - 1)) (by first | omega | (simp only [List.length_append, List.length_singleton, List.length_set]; omega)) (by first | omega | (simp; omega)) ?_
  intro p20 hp20
  refine KOps.loadI hp20 (St.rowAt (pre := [] ++ pre) hS (by first | assumption | omega | (simp only [List.length_set, List.length_append, List.length_singleton, List.length_replicate, List.length_take]; omega)) (by first | omega | (simp; omega))) (by first | omega | (simp; omega)) ?_
  refine KOps.assign ?_
  refine KOps.done ?_
  refine sqQ.normal ?_
  refine KA.sub (Sub.cons (t := 0) Look.eq (Sub.cons (t := 1) Look.eq (Sub.cons (t := 5) Look.eq (Sub.cons (t := 6) Look.eq (Sub.nil _))))) ?_
  refine KA.seq ?_
  refine KA.region rfl ?_
  refine KOps.move ?_
  refine KOps.move ?_
  refine KOps.move ?_
  refine KOps.move ?_
  refine KOps.indexVJ (St.outer (pre := [] ++ pre) hS) (j := k) rfl (by first | omega | (simp; omega)) ?_
  intro p26 hp26
  refine KOps.loadV hp26 (St.outer (pre := [] ++ pre) hS) (by first | omega | (simp; omega)) ?_
  refine KOps.move ?_
  refine KOps.move ?_
  refine KOps.cutAt (m := ((T.getD k []).length - 1)) (pre := [] ++ pre) hS (by first | assumption | omega | (simp only [List.length_set, List.length_append, List.length_singleton, List.length_replicate, List.length_take]; omega)) (by first | omega | (simp; omega)) (by first | omega | (simp only [List.length_append, List.length_singleton, List.length_set]; omega)) (by first | omega | (simp; omega)) ?_
  intro v30 hr30 hS
  refine KOps.indexVJ (St.hole (pre := [] ++ pre) hS) (j := k) rfl (by first | omega | (simp; omega)) ?_
  intro p31 hp31
  refine KOps.storeAt (pre := [] ++ pre) hS rfl hp31 (by assumption) (by first | omega | (simp; omega)) rfl ?_
  intro h' hS
  refine KOps.done ?_
  refine sqQ.normal ?_
  refine KA.sub (Sub.cons (t := 0) Look.eq (Sub.cons (t := 1) Look.eq (Sub.cons (t := 6) Look.eq (Sub.nil _)))) ?_
  refine KA.seq ?_
  refine KA.seq ?_
  refine KA.region rfl ?_
  refine KOps.move ?_
  refine KOps.sub (by first | omega | (simp only [List.length_append, List.length_singleton, List.length_set]; omega)) (by first | omega | (simp only [List.length_append, List.length_singleton, List.length_set]; omega)) ?_
  refine KOps.assign ?_
  refine KOps.done ?_
  refine sqQ.normal ?_
  refine KA.sub (Sub.cons (t := 0) Look.eq (Sub.cons (t := 1) Look.eq (Sub.cons (t := 6) Look.eq (Sub.nil _)))) ?_
  refine KA.block ?_
  refine KA.loop (X := Nat × List (List Int) × Int) (fun x => [(0, vo), (1, .int .i64 ((x.1 : Int) - 1)), (6, .int .i64 x.2.2)]) (fun x h' => x.1 ≤ k ∧ x.2.1.length = T.length ∧ (∀ r, (x.2.1.getD r []).length ≤ 9) ∧ unup x.2.1 x.2.2 x.1 = takeT T k ∧ (∃ q, Up x.2.1 x.1 x.2.2 q) ∧ St h0 h' (pre ++ (matObjs true vo (vs.set k v30) x.2.1 ++ rest))) (fun x => x.1) (k, cutL T k, lastD (T.getD k [])) (by repeat (first | exact Sub.nil _ | refine Sub.cons Look.eq ?_ | refine Sub.cons (Eq.trans Look.eq (congrArg (AV.int _) (by first | omega | (dsimp only; omega)))) ?_)) ?_ ?_
  · refine ⟨Nat.le_refl _, by unfold cutL; rw [List.length_set], fun r => ?_, rfl, ⟨_, u0⟩, hS⟩
    dsimp only
    unfold cutL
    rw [getDL_set hk]
    split
    · rw [List.length_take]; omega
    · exact hrow r
  rintro ⟨jj, T2, c⟩ h1 ⟨hjk, hl2, hr9, hun, ⟨q, u⟩, hS⟩
  dsimp only at hjk hl2 hr9 hun u hS ⊢
  refine KA.seq ?_
  refine KA.seq ?_
  refine KA.region rfl ?_
  refine KOps.move ?_
  refine KOps.geq ?_
  refine KOps.done ?_
  refine sqQ.normal ?_
  refine KA.sub (Sub.cons (t := 0) Look.eq (Sub.cons (t := 1) Look.eq (Sub.cons (t := 6) Look.eq (Sub.cons (t := 35) Look.eq (Sub.nil _))))) ?_
  refine KA.condD ?_ ?_
  · intro c35
    obtain ⟨j, rfl⟩ : ∃ j, jj = j + 1 := ⟨jj - 1, by omega⟩
    have hi1 : ((j + 1 : Nat) : Int) - 1 = (j : Int) := by omega
    rw [hi1]
    obtain ⟨hp1, hp2, hnc, hjl⟩ := u.step
    have hrj := hr9 j
    refine KA.skip ?_
    refine sqQ.normal ?_
    refine KA.sub (Sub.cons (t := 0) Look.eq (Sub.cons (t := 1) Look.eq (Sub.cons (t := 6) Look.eq (Sub.nil _)))) ?_
    refine KA.seq ?_
    refine KA.block ?_
    refine KA.seq ?_
    refine KA.region rfl ?_
    refine KOps.move ?_
    refine KOps.move ?_
    refine KOps.indexVJ (St.outer (pre := [] ++ pre) hS) (j := j) rfl (by first | omega | (simp only [List.length_append, List.length_singleton, List.length_set]; omega)) ?_
    intro p41 hp41
    refine KOps.loadV hp41 (St.outer (pre := [] ++ pre) hS) (by first | omega | (simp only [List.length_append, List.length_singleton, List.length_set]; omega)) ?_
    refine KOps.move ?_
    refine KOps.call rfl (search_c (c := c) (St.rowAt (pre := [] ++ pre) hS (by first | assumption | omega | (simp only [List.length_set, List.length_append, List.length_singleton, List.length_replicate, List.length_take]; omega)) (by first | omega | (simp; omega))) (by first | omega | (simp; omega)) (rise_mono (rowT_rise u.rows j))) ?_
    rintro _ _ ⟨⟨b61, rfl⟩, rfl⟩
    refine KOps.move ?_
    refine KOps.extract ?_
    refine KOps.extract ?_
    refine KOps.assign ?_
    refine KOps.assign ?_
    refine KOps.done ?_
    refine sqQ.normal ?_
    refine KA.sub (Sub.cons (t := 0) Look.eq (Sub.cons (t := 1) Look.eq (Sub.cons (t := 6) Look.eq (Sub.cons (t := 7) Look.eq (Sub.nil _))))) ?_
    refine KA.draw [] mixed rfl (by kernel_rfl) ?_
    refine KOps.move ?_
    refine KOps.move ?_
    refine KOps.indexVJ (St.outer (pre := [] ++ pre) hS) (j := j) rfl (by first | omega | (simp only [List.length_append, List.length_singleton, List.length_set]; omega)) ?_
    intro p49 hp49
    refine KOps.loadV hp49 (St.outer (pre := [] ++ pre) hS) (by first | omega | (simp only [List.length_append, List.length_singleton, List.length_set]; omega)) ?_
    refine KOps.move ?_
    refine KOps.sub (by first | omega | (simp only [List.length_append, List.length_singleton, List.length_set]; omega)) (by first | omega | (simp only [List.length_append, List.length_singleton, List.length_set]; omega)) ?_
    refine KOps.move ?_
    refine KOps.move ?_
    refine KOps.move ?_
    refine KOps.indexVJ (St.outer (pre := [] ++ pre) hS) (j := j) rfl (by first | omega | (simp only [List.length_append, List.length_singleton, List.length_set]; omega)) ?_
    intro p56 hp56
    refine KOps.loadV hp56 (St.outer (pre := [] ++ pre) hS) (by first | omega | (simp only [List.length_append, List.length_singleton, List.length_set]; omega)) ?_
    refine KOps.move ?_
    refine KOps.sub (by first | omega | (simp only [List.length_append, List.length_singleton, List.length_set]; omega)) (by first | omega | (simp only [List.length_append, List.length_singleton, List.length_set]; omega)) ?_
    refine KOps.indexIJ (St.rowAt (pre := [] ++ pre) hS (by first | assumption | omega | (simp only [List.length_set, List.length_append, List.length_singleton, List.length_replicate, List.length_take]; omega)) (by first | omega | (simp; omega))) (j := ((pos (T2.getD j []) c) - 1)) (by first | omega | (simp only [List.length_append, List.length_singleton, List.length_set]; omega)) (by first | omega | (simp; omega)) ?_
    intro p60 hp60
    refine KOps.loadI hp60 (St.rowAt (pre := [] ++ pre) hS (by first | assumption | omega | (simp only [List.length_set, List.length_append, List.length_singleton, List.length_replicate, List.length_take]; omega)) (by first | omega | (simp; omega))) (by first | omega | (simp; omega)) ?_
    refine KOps.indexIJ (St.rowAt (pre := [] ++ pre) hS (by first | assumption | omega | (simp only [List.length_set, List.length_append, List.length_singleton, List.length_replicate, List.length_take]; omega)) (by first | omega | (simp; omega))) (j := ((pos (T2.getD j []) c) - 1)) (by first | omega | (simp only [List.length_append, List.length_singleton, List.length_set]; omega)) (by first | omega | (simp; omega)) ?_
    intro p62 hp62
    refine KOps.setAt (pre := [] ++ pre) hS rfl (by first | assumption | omega | (simp only [List.length_set, List.length_append, List.length_singleton, List.length_replicate, List.length_take]; omega)) (by first | omega | (simp; omega)) hp62 (by first | omega | (simp; omega)) ?_
    intro h' hS
    refine KOps.assign ?_
    refine KOps.done ?_
    refine blQ.normal ?_
    refine sqQ.normal ?_
    refine KA.sub (Sub.cons (t := 0) Look.eq (Sub.cons (t := 1) Look.eq (Sub.cons (t := 6) Look.eq (Sub.nil _)))) ?_
    refine KA.region rfl ?_
    refine KOps.move ?_
    refine KOps.sub (by first | omega | (simp only [List.length_append, List.length_singleton, List.length_set]; omega)) (by first | omega | (simp only [List.length_append, List.length_singleton, List.length_set]; omega)) ?_
    refine KOps.assign ?_
    refine KOps.done ?_
    rw [unup] at hun
    refine lpQ.normal (j, T2.set j ((T2.getD j []).set ((pos (T2.getD j []) c) - 1) c), (T2.getD j []).getD ((pos (T2.getD j []) c) - 1) 0) (by repeat (first | exact Sub.nil _ | refine Sub.cons Look.eq ?_ | refine Sub.cons (Eq.trans Look.eq (congrArg (AV.int _) (by first | omega | (dsimp only; omega)))) ?_)) ⟨by dsimp only; omega, by dsimp only; rw [List.length_set]; exact hl2, ?_, hun, ⟨_, u.next⟩, hS⟩ (by dsimp only; omega)
    intro r
    dsimp only
    rw [getDL_set (by omega)]
    split
    · rw [List.length_set]; exact hr9 j
    · exact hr9 r
  · intro c35
    have hj0 : jj = 0 := by omega
    subst hj0
    rw [unup] at hun
    refine KA.exit ?_
    refine sqQ.exit ?_
    refine lpQ.exit ?_
    refine blQ.here ?_
    refine sqQ.normal ?_
    refine KA.sub (Sub.cons (t := 6) Look.eq (Sub.nil _)) ?_
    refine KA.seq ?_
    refine KA.region rfl ?_
    refine KOps.move ?_
    refine KOps.assign ?_
    refine KOps.done ?_
    refine sqQ.normal ?_
    refine KA.sub (Sub.cons (t := 4) Look.eq (Sub.nil _)) ?_
    refine KA.ret ?_
    refine fnQ.ret1 ?_
    refine ⟨vs.set k v30, by rw [← hun], by rw [List.length_set]; exact hl, ?_⟩
    rw [← hun]
    exact hS

/-- Which row becomes longer by each number, so far. -/
def Says (S : List (List Int)) (L : List Int) (k x : Nat) : Prop := L.length = 9 ∧ ∀ r y, (r < k ∧ y < (S.getD r []).length) ∨ (r = k ∧ y < x) → L.getD ((S.getD r []).getD y 0).toNat 0 = (r : Int)
theorem Says.row {S : List (List Int)} {L : List Int} {k : Nat} (h : Says S L k (S.getD k []).length) : Says S L (k + 1) 0 := by
  refine ⟨h.1, ?_⟩
  rintro r y (⟨h1, h2⟩ | ⟨_, h2⟩)
  · rcases Nat.lt_succ_iff_lt_or_eq.1 h1 with h3 | rfl
    · exact h.2 r y (.inl ⟨h3, h2⟩)
    · exact h.2 r y (.inr ⟨rfl, h2⟩)
  · omega
theorem Says.next {S : List (List Int)} {L : List Int} {k x : Nat} (h : Says S L k x) (hp : IsPack S.flatten) (h9 : S.flatten.length ≤ 9) (hk : k < S.length) (hx : x < (S.getD k []).length) : Says S (L.set ((S.getD k []).getD x 0).toNat k) k (x + 1) := by
  have hb : ∀ r y, y < (S.getD r []).length → 0 ≤ (S.getD r []).getD y 0 ∧ (S.getD r []).getD y 0 < 9 := by
    intro r y hy
    have := hp.2 _ (memL_flat (getD_mem hy))
    omega
  have hkb := hb k x hx
  refine ⟨by rw [List.length_set]; exact h.1, ?_⟩
  intro r y hry
  rw [getD_set (by have := h.1; omega)]
  have hy : y < (S.getD r []).length := by rcases hry with h1 | ⟨rfl, h1⟩ <;> omega
  have hrb := hb r y hy
  have hrl : r < S.length := by
    rcases Nat.lt_or_ge r S.length with h1 | h1
    · exact h1
    · rw [getDL_out h1] at hy; simp at hy
  by_cases he : r = k ∧ y = x
  · obtain ⟨rfl, rfl⟩ := he
    rw [if_pos rfl]
  · rw [if_neg]
    · refine h.2 r y ?_
      rcases hry with h1 | ⟨rfl, h1⟩
      · exact .inl h1
      · exact .inr ⟨rfl, by omega⟩
    · have := flat_ne hp.1 r k y x hrl hk hy hx (by omega)
      omega
theorem Says.all {S : List (List Int)} {L : List Int} (h : Says S L S.length 0) (hS : Tab S) (hp : IsPack S.flatten) {i : Nat} (hi : i < S.flatten.length) : L.getD i 0 = (rowOf S i : Int) := by
  obtain ⟨h1, h2, _⟩ := row_facts hS hp hi
  obtain ⟨y, hy, hye⟩ := mem_getD h2
  have := h.2 (rowOf S i) y (.inl ⟨h1, hy⟩)
  rw [hye] at this
  simpa using this
theorem takes_set {T : List (List Int)} {k : Nat} (hk : k < T.length) (R : List Int) : ((T.take k ++ List.replicate (T.length - k) []).set k R) = T.take k ++ R :: List.replicate (T.length - (k + 1)) [] := by
  rw [List.set_append_right _ _ (by rw [List.length_take]; omega), List.length_take, show k - min k T.length = 0 by omega]
  obtain ⟨d, hd⟩ : ∃ d, T.length - k = d + 1 := ⟨T.length - k - 1, by omega⟩
  rw [hd, show T.length - (k + 1) = d by omega, List.replicate_succ, List.set_cons_zero]
theorem takes_succ {T : List (List Int)} {k : Nat} (hk : k < T.length) : T.take (k + 1) ++ List.replicate (T.length - (k + 1)) [] = T.take k ++ T.getD k [] :: List.replicate (T.length - (k + 1)) [] := by
  rw [List.take_add_one, List.getD_eq_getElem?_getD, List.getElem?_eq_getElem hk]
  simp only [Option.toList_some, List.append_assoc, List.singleton_append, Option.getD_some]
theorem takes_at {T : List (List Int)} {k d : Nat} (hk : k < T.length) (R : List Int) : (T.take k ++ R :: List.replicate d []).set k (T.getD k []) = T.take k ++ T.getD k [] :: List.replicate d [] ∧ (T.take k ++ R :: List.replicate d []).getD k [] = R := by
  refine ⟨?_, ?_⟩
  · rw [List.set_append_right _ _ (by rw [List.length_take]; omega), List.length_take, show k - min k T.length = 0 by omega, List.set_cons_zero]
  · rw [List.getD_eq_getElem?_getD, List.getElem?_append_right (by rw [List.length_take]; omega), List.length_take, show k - min k T.length = 0 by omega]; rfl
theorem row_flat (T : List (List Int)) (k : Nat) : (T.getD k []).length ≤ T.flatten.length := by
  have h1 := row_word T k
  have h2 : (wordT T).length = T.flatten.length := by simp [wordT, List.length_flatten, List.sum_reverse]
  omega
theorem tab_len {S : List (List Int)} (h : Tab S) : S.length ≤ S.flatten.length := by
  have h1 := rows_word (tab_ne h)
  have h2 : (wordT S).length = S.flatten.length := by simp [wordT, List.length_flatten, List.sum_reverse]
  omega
theorem repl_back (i : Nat) (L : List Int) (c : Int) : (List.replicate (i + 1) 0 ++ L).set i c = List.replicate i 0 ++ c :: L := repl_set i L c

theorem pack_c {h : AHeap} {v u : AV} {T S : List (List Int)} (hv : Mat h v T) (hu : Mat h u S) (hsT : Small T) (hsS : Small S) : ACalls Go.Proofs.Try.prog 34 [v, u] h (fun r h' => ∃ vo, r = .tup [vo, .int .i64 (packE T S)] ∧ Keeps h h' ∧ Row h' vo (packOf T S)) := by
  refine KA.fn 88 [.tmp 4, .tmp 5] Go.Proofs.Try.func34 rfl (by decide) rfl rfl (Nat.le_of_ble_eq_true rfl) ?_
  have hS := St.refl h
  have hT1 := hsT.1
  have hS1 := hsS.1
  have hv0 := hv
  have hu0 := hu
  show KA _ 88 _ _ [(0, v), (1, u)] _
  refine KA.seq ?_
  refine KA.region rfl ?_
  refine KOps.assign ?_
  refine KOps.assign ?_
  refine KOps.done ?_
  refine sqQ.normal ?_
  refine KA.sub (Sub.cons (t := 0) Look.eq (Sub.cons (t := 1) Look.eq (Sub.nil _))) ?_
  refine KA.seq ?_
  refine KA.seq ?_
  refine KA.region rfl ?_
  refine KOps.move ?_
  refine KOps.call rfl (standard_c hv hsT) ?_
  rintro _ h1 ⟨rfl, hSn⟩
  have hS := hSn
  have hv := Mat.ext hSn.keeps hv
  have hu := Mat.ext hSn.keeps hu
  refine KOps.assign ?_
  refine KOps.done ?_
  refine sqQ.normal ?_
  refine KA.sub (Sub.cons (t := 0) Look.eq (Sub.cons (t := 1) Look.eq (Sub.cons (t := 6) Look.eq (Sub.nil _)))) ?_
  refine KA.seq ?_
  refine KA.region rfl ?_
  refine KOps.move ?_
  refine KOps.neq ?_
  refine KOps.done ?_
  refine sqQ.normal ?_
  refine KA.sub (Sub.cons (t := 0) Look.eq (Sub.cons (t := 1) Look.eq (Sub.cons (t := 6) Look.eq (Sub.cons (t := 20) Look.eq (Sub.nil _))))) ?_
  refine KA.condN ?_ ?_
  · intro c20
    refine KA.seq ?_
    refine KA.region rfl ?_
    refine KOps.move ?_
    refine KOps.assign ?_
    refine KOps.assign ?_
    refine KOps.done ?_
    refine sqQ.normal ?_
    refine KA.sub (Sub.cons (t := 4) Look.eq (Sub.cons (t := 5) Look.eq (Sub.nil _))) ?_
    refine KA.ret ?_
    refine sqQ.ret ?_
    refine fnQ.retN ?_
    refine ⟨.nils, by rw [packE, if_neg c20], hS.keeps, ?_⟩
    rw [packOf, if_neg (by rw [packE, if_neg c20]; first | assumption | decide)]
    exact .inl ⟨rfl, rfl⟩
  · intro c20
    have hsT0 := c20
    refine KA.skip ?_
    refine sqQ.normal ?_
    refine KA.sub (Sub.cons (t := 0) Look.eq (Sub.cons (t := 1) Look.eq (Sub.nil _))) ?_
    refine KA.seq ?_
    refine KA.seq ?_
    refine KA.region rfl ?_
    refine KOps.move ?_
    refine KOps.call rfl (standard_c hu hsS) ?_
    rintro _ h2 ⟨rfl, hSn⟩
    have hS : St _ _ [] := St.trans hS hSn
    have hv := Mat.ext hSn.keeps hv
    have hu := Mat.ext hSn.keeps hu
    refine KOps.assign ?_
    refine KOps.done ?_
    refine sqQ.normal ?_
    refine KA.sub (Sub.cons (t := 0) Look.eq (Sub.cons (t := 1) Look.eq (Sub.cons (t := 7) Look.eq (Sub.nil _)))) ?_
    refine KA.seq ?_
    refine KA.region rfl ?_
    refine KOps.move ?_
    refine KOps.neq ?_
    refine KOps.done ?_
    refine sqQ.normal ?_
    refine KA.sub (Sub.cons (t := 0) Look.eq (Sub.cons (t := 1) Look.eq (Sub.cons (t := 7) Look.eq (Sub.cons (t := 25) Look.eq (Sub.nil _))))) ?_
    refine KA.condN ?_ ?_
    · intro c25
      refine KA.seq ?_
      refine KA.region rfl ?_
      refine KOps.move ?_
      refine KOps.assign ?_
      refine KOps.assign ?_
      refine KOps.done ?_
      refine sqQ.normal ?_
      refine KA.sub (Sub.cons (t := 4) Look.eq (Sub.cons (t := 5) Look.eq (Sub.nil _))) ?_
      refine KA.ret ?_
      refine sqQ.ret ?_
      refine fnQ.retN ?_
      refine ⟨.nils, by rw [packE, if_pos hsT0, if_neg c25], hS.keeps, ?_⟩
      rw [packOf, if_neg (by rw [packE, if_pos hsT0, if_neg c25]; first | assumption | decide)]
      exact .inl ⟨rfl, rfl⟩
    · intro c25
      have hsS0 := c25
      refine KA.skip ?_
      refine sqQ.normal ?_
      refine KA.sub (Sub.cons (t := 0) Look.eq (Sub.cons (t := 1) Look.eq (Sub.nil _))) ?_
      refine KA.seq ?_
      refine KA.seq ?_
      refine KA.region rfl ?_
      refine KOps.move ?_
      refine KOps.move ?_
      refine KOps.call rfl (equalFunc_c hv hu (by omega)) ?_
      rintro _ _ ⟨rfl, rfl⟩
      refine KOps.not ?_
      refine KOps.done ?_
      refine sqQ.normal ?_
      refine KA.sub (Sub.cons (t := 0) Look.eq (Sub.cons (t := 1) Look.eq (Sub.cons (t := 30) Look.eq (Sub.nil _)))) ?_
      refine KA.condN ?_ ?_
      · intro c30
        refine KA.seq ?_
        refine KA.region rfl ?_
        refine KOps.assign ?_
        refine KOps.assign ?_
        refine KOps.done ?_
        refine sqQ.normal ?_
        refine KA.sub (Sub.cons (t := 4) Look.eq (Sub.cons (t := 5) Look.eq (Sub.nil _))) ?_
        refine KA.ret ?_
        refine sqQ.ret ?_
        refine fnQ.retN ?_
        refine ⟨.nils, by rw [packE, if_pos hsT0, if_pos hsS0, if_neg c30], hS.keeps, ?_⟩
        rw [packOf, if_neg (by rw [packE, if_pos hsT0, if_pos hsS0, if_neg c30]; first | assumption | decide)]
        exact .inl ⟨rfl, rfl⟩
      · intro c30
        have hsh := c30
        have hTf := std_facts hsT0
        have hSf := std_facts hsS0
        have hlTS : T.length = S.length := by have := congrArg List.length hsh; simpa [shapeL] using this
        have hpe : packE T S = 0 := by rw [packE, if_pos hsT0, if_pos hsS0, if_pos hsh]
        obtain ⟨vs, hvs, hvl, hvr⟩ := hv0
        obtain ⟨us, hus, hul, hur⟩ := hu0
        have hfl9 := hSf.2.2.2
        have hS9 := tab_len hSf.2.1
        refine KA.skip ?_
        refine sqQ.normal ?_
        refine KA.sub (Sub.cons (t := 0) Look.eq (Sub.cons (t := 1) Look.eq (Sub.nil _))) ?_
        refine KA.seq ?_
        refine KA.region rfl ?_
        refine KOps.alloc hS ?_
        intro pl h3 hp hS
        refine KOps.done ?_
        refine sqQ.normal ?_
        refine KA.seq ?_
        refine KA.region rfl ?_
        refine KOps.assign ?_
        refine KOps.done ?_
        refine sqQ.normal ?_
        refine KA.seq ?_
        refine KA.region rfl ?_
        refine KOps.move ?_
        refine KOps.lenV (by first | exact hvs | exact Rd.ext hS.keeps hvs) ?_
        rw [hvl]
        refine KOps.makeT true hS (by omega) (by omega) (by omega) ?_
        intro vg h4 hS
        have hS := St.perm (List.perm_append_comm (l₁ := matObjs true vg _ _)) hS
        simp only [Int.toNat_natCast] at hS
        have hS : St h h4 ([⟨pl, 0, ints [0, 0, 0, 0, 0, 0, 0, 0, 0], true⟩] ++ (matObjs true vg (List.replicate T.length .nils) (List.replicate T.length []) ++ [])) := by simpa [ints] using hS
        refine KOps.assign ?_
        refine KOps.done ?_
        refine sqQ.normal ?_
        refine KA.sub (Sub.cons (t := 0) Look.eq (Sub.cons (t := 1) Look.eq (Sub.cons (t := 8) Look.eq (Sub.cons (t := 9) Look.eq (Sub.cons (t := 10) Look.eq (Sub.nil _)))))) ?_
        refine KA.seq ?_
        refine KA.seq ?_
        refine KA.region rfl ?_
        refine KOps.move ?_
        refine KOps.lenV (by first | exact hus | exact Rd.ext hS.keeps hus) ?_
        rw [hul]
        refine KOps.move ?_
        refine KOps.done ?_
        refine sqQ.normal ?_
        refine KA.sub (Sub.cons (t := 0) Look.eq (Sub.cons (t := 8) Look.eq (Sub.cons (t := 9) Look.eq (Sub.cons (t := 10) Look.eq (Sub.cons (t := 34) Look.eq (Sub.cons (t := 35) Look.eq (Sub.cons (t := 36) Look.eq (Sub.nil _)))))))) ?_
        refine KA.block ?_
        refine KA.loop (X := Nat × List AV × List Int) (fun x => [(0, v), (8, pl), (9, .int .i64 ((S.take x.1).flatten.length : Int)), (10, vg), (34, u), (35, .int .i64 (S.length : Int)), (36, .int .i64 (x.1 : Int))]) (fun x h' => x.1 ≤ S.length ∧ x.2.1.length = T.length ∧ Says S x.2.2 x.1 0 ∧ St h h' ([⟨pl, 0, ints x.2.2, true⟩] ++ (matObjs true vg x.2.1 (T.take x.1 ++ List.replicate (T.length - x.1) []) ++ []))) (fun x => S.length - x.1) (0, List.replicate T.length .nils, [0, 0, 0, 0, 0, 0, 0, 0, 0]) (by repeat (first | exact Sub.nil _ | refine Sub.cons Look.eq ?_ | refine Sub.cons (Eq.trans Look.eq (congrArg (AV.int _) (by first | omega | (dsimp only; omega)))) ?_ | refine Sub.cons (Eq.trans Look.eq (congrArg (AV.int _) (by simp))) ?_)) ?_ ?_
        · refine ⟨Nat.zero_le _, by simp, ⟨rfl, ?_⟩, by simpa using hS⟩
          rintro r y (⟨h1, _⟩ | ⟨_, h1⟩) <;> exact absurd h1 (by simp)
        rintro ⟨k, gs, L⟩ h5 ⟨hk, hlg, hsay, hS⟩
        dsimp only at hk hlg hsay hS ⊢
        have hfk := flat_le hsS k hk
        have hll := hsay.1
        have hlT : (T.take k ++ List.replicate (T.length - k) []).length = T.length := by rw [List.length_append, List.length_take, List.length_replicate]; omega
        refine KA.seq ?_
        refine KA.region rfl ?_
        refine KOps.lss ?_
        refine KOps.done ?_
        refine sqQ.normal ?_
        refine KA.seq ?_
        refine KA.condD ?_ ?_
        · intro c37
          have hshk := shape_at hsh k
          have hrk := hsS.2 k
          refine KA.skip ?_
          refine sqQ.normal ?_
          refine KA.sub (Sub.cons (t := 0) Look.eq (Sub.cons (t := 8) Look.eq (Sub.cons (t := 9) Look.eq (Sub.cons (t := 10) Look.eq (Sub.cons (t := 34) Look.eq (Sub.cons (t := 35) Look.eq (Sub.cons (t := 36) Look.eq (Sub.nil _)))))))) ?_
          refine KA.seq ?_
          refine KA.block ?_
          refine KA.seq ?_
          refine KA.region rfl ?_
          refine KOps.move ?_
          refine KOps.indexVJ (by first | exact hus | exact Rd.ext hS.keeps hus) (j := k) rfl (by first | omega | (simp only [List.length_append, List.length_singleton, List.length_set]; omega)) ?_
          intro p39 hp39
          refine KOps.loadV hp39 (by first | exact hus | exact Rd.ext hS.keeps hus) (by first | omega | (simp only [List.length_append, List.length_singleton, List.length_set]; omega)) ?_
          have hrow2 := Row.ext hS.keeps (hur k (by omega))
          refine KOps.assign ?_
          refine KOps.assign ?_
          refine KOps.done ?_
          refine sqQ.normal ?_
          refine KA.sub (Sub.cons (t := 0) Look.eq (Sub.cons (t := 8) Look.eq (Sub.cons (t := 9) Look.eq (Sub.cons (t := 10) Look.eq (Sub.cons (t := 11) Look.eq (Sub.cons (t := 12) Look.eq (Sub.cons (t := 34) Look.eq (Sub.cons (t := 35) Look.eq (Sub.cons (t := 36) Look.eq (Sub.nil _)))))))))) ?_
          refine KA.seq ?_
          refine KA.region rfl ?_
          refine KOps.move ?_
          refine KOps.move ?_
          refine KOps.move ?_
          refine KOps.lenI (Row.ext hS.keeps (hur k (by omega))) ?_
          refine KOps.makeI hS (by first | omega | (simp only [List.length_append, List.length_singleton, List.length_set]; omega)) (by first | omega | (simp only [List.length_append, List.length_singleton, List.length_set]; omega)) (by first | omega | (simp only [List.length_append, List.length_singleton, List.length_set]; omega)) ?_
          intro v45 h' hS
          refine KOps.indexVJ (St.outer (pre := [_, _]) hS) (j := k) rfl (by first | omega | (simp; omega)) ?_
          intro p46 hp46
          refine KOps.plugAt (pre := [_]) hS rfl hp46 (by first | assumption | omega | (simp only [List.length_set, List.length_append, List.length_singleton, List.length_replicate, List.length_take]; omega)) (by first | omega | (simp; omega)) ?_
          intro h' hS
          refine KOps.done ?_
          refine sqQ.normal ?_
          refine KA.sub (Sub.cons (t := 0) Look.eq (Sub.cons (t := 8) Look.eq (Sub.cons (t := 9) Look.eq (Sub.cons (t := 10) Look.eq (Sub.cons (t := 11) Look.eq (Sub.cons (t := 12) Look.eq (Sub.cons (t := 34) Look.eq (Sub.cons (t := 35) Look.eq (Sub.cons (t := 36) Look.eq (Sub.nil _)))))))))) ?_
          refine KA.seq ?_
          refine KA.draw [] mixed rfl (by kernel_rfl) ?_
          refine KOps.move ?_
          refine KOps.move ?_
          refine KOps.indexVJ (St.outer (pre := [_]) hS) (j := k) rfl (by first | omega | (simp; omega)) ?_
          intro p49 hp49
          refine KOps.loadV hp49 (St.outer (pre := [_]) hS) (by first | omega | (simp; omega)) ?_
          refine KOps.move ?_
          refine KOps.move ?_
          refine KOps.indexVJ (by first | exact hvs | exact Rd.ext hS.keeps hvs) (j := k) rfl (by first | omega | (simp only [List.length_append, List.length_singleton, List.length_set]; omega)) ?_
          intro p53 hp53
          refine KOps.loadV hp53 (by first | exact hvs | exact Rd.ext hS.keeps hvs) (by first | omega | (simp only [List.length_append, List.length_singleton, List.length_set]; omega)) ?_
          have hrow1 := Row.ext hS.keeps (hvr k (by omega))
          refine KOps.copyAt (j := k) (pre := [_]) hS rfl (by simp only [List.length_set]; omega) (by simp only [List.length_set]; omega) hrow1 (by rw [getDL_set (by omega), if_pos rfl, List.length_replicate]; omega) ?_
          intro h6 hS
          refine KOps.done ?_
          refine sqQ.normal ?_
          refine KA.sub (Sub.cons (t := 0) Look.eq (Sub.cons (t := 8) Look.eq (Sub.cons (t := 9) Look.eq (Sub.cons (t := 10) Look.eq (Sub.cons (t := 11) Look.eq (Sub.cons (t := 12) Look.eq (Sub.cons (t := 34) Look.eq (Sub.cons (t := 35) Look.eq (Sub.cons (t := 36) Look.eq (Sub.nil _)))))))))) ?_
          refine KA.seq ?_
          refine KA.seq ?_
          refine KA.region rfl ?_
          refine KOps.move ?_
          refine KOps.lenI (Row.ext hS.keeps (hur k (by omega))) ?_
          refine KOps.move ?_
          refine KOps.done ?_
          refine sqQ.normal ?_
          refine KA.block ?_
          refine KA.loop (X := Nat × List Int) (fun x => [(0, v), (8, pl), (9, .int .i64 ((S.take k).flatten.length : Int)), (10, vg), (11, .int .i64 (k : Int)), (12, (us.getD k .bot)), (34, u), (35, .int .i64 (S.length : Int)), (36, .int .i64 (k : Int)), (56, (us.getD k .bot)), (57, .int .i64 ((S.getD k []).length : Int)), (58, .int .i64 (x.1 : Int))]) (fun x h' => x.1 ≤ (S.getD k []).length ∧ Says S x.2 k x.1 ∧ St h h' ([⟨pl, 0, ints x.2, true⟩] ++ (matObjs true vg (gs.set k v45) (T.take k ++ T.getD k [] :: List.replicate (T.length - (k + 1)) []) ++ []))) (fun x => (S.getD k []).length - x.1) (0, L) (by repeat (first | exact Sub.nil _ | refine Sub.cons Look.eq ?_ | refine Sub.cons (Eq.trans Look.eq (congrArg (AV.int _) (by first | omega | (dsimp only; omega)))) ?_)) ?_ ?_
          · refine ⟨Nat.zero_le _, hsay, ?_⟩
            simp only [Int.toNat_natCast] at hS
            rw [takes_set (by omega), (takes_at (by omega) _).1] at hS
            exact hS
          rintro ⟨x, L2⟩ h6 ⟨hx, hsay2, hS⟩
          dsimp only at hx hsay2 hS ⊢
          have hrow2 := Row.ext hS.keeps (hur k (by omega))
          have hl2 := hsay2.1
          refine KA.seq ?_
          refine KA.region rfl ?_
          refine KOps.lss ?_
          refine KOps.done ?_
          refine sqQ.normal ?_
          refine KA.seq ?_
          refine KA.condD ?_ ?_
          · intro c59
            have hbx := hSf.2.2.1.2 _ (memL_flat (getD_mem (show x < (S.getD k []).length by omega)))
            refine KA.skip ?_
            refine sqQ.normal ?_
            refine KA.sub (Sub.cons (t := 0) Look.eq (Sub.cons (t := 8) Look.eq (Sub.cons (t := 9) Look.eq (Sub.cons (t := 10) Look.eq (Sub.cons (t := 11) Look.eq (Sub.cons (t := 12) Look.eq (Sub.cons (t := 34) Look.eq (Sub.cons (t := 35) Look.eq (Sub.cons (t := 36) Look.eq (Sub.cons (t := 56) Look.eq (Sub.cons (t := 57) Look.eq (Sub.cons (t := 58) Look.eq (Sub.nil _))))))))))))) ?_
            refine KA.seq ?_
            refine KA.block ?_
            refine KA.seq ?_
            refine KA.region rfl ?_
            refine KOps.indexIJ (Row.ext hS.keeps (hur k (by omega))) (j := x) rfl (by first | omega | (simp; omega)) ?_
            intro p60 hp60
            refine KOps.loadI hp60 (Row.ext hS.keeps (hur k (by omega))) (by first | omega | (simp; omega)) ?_
            refine KOps.assign ?_
            refine KOps.done ?_
            refine sqQ.normal ?_
            refine KA.sub (Sub.cons (t := 0) Look.eq (Sub.cons (t := 8) Look.eq (Sub.cons (t := 9) Look.eq (Sub.cons (t := 10) Look.eq (Sub.cons (t := 11) Look.eq (Sub.cons (t := 12) Look.eq (Sub.cons (t := 14) Look.eq (Sub.cons (t := 34) Look.eq (Sub.cons (t := 35) Look.eq (Sub.cons (t := 36) Look.eq (Sub.cons (t := 56) Look.eq (Sub.cons (t := 57) Look.eq (Sub.cons (t := 58) Look.eq (Sub.nil _)))))))))))))) ?_
            refine KA.region rfl ?_
            refine KOps.move ?_
            refine KOps.move ?_
            refine KOps.indexA hp (j := ((S.getD k []).getD x 0).toNat) (by first | omega | (simp only [List.length_append, List.length_singleton, List.length_set]; omega)) (by first | omega | (simp; omega)) ?_
            intro p64 hp64
            refine KOps.storeA hS rfl (i := 0) rfl hp64 (by first | omega | (simp; omega)) ?_
            intro h' hS
            refine KOps.done ?_
            refine blQ.normal ?_
            refine sqQ.normal ?_
            refine KA.sub (Sub.cons (t := 0) Look.eq (Sub.cons (t := 8) Look.eq (Sub.cons (t := 9) Look.eq (Sub.cons (t := 10) Look.eq (Sub.cons (t := 11) Look.eq (Sub.cons (t := 12) Look.eq (Sub.cons (t := 34) Look.eq (Sub.cons (t := 35) Look.eq (Sub.cons (t := 36) Look.eq (Sub.cons (t := 56) Look.eq (Sub.cons (t := 57) Look.eq (Sub.cons (t := 58) Look.eq (Sub.nil _))))))))))))) ?_
            refine KA.region rfl ?_
            refine KOps.add (by first | omega | (simp only [List.length_append, List.length_singleton, List.length_set]; omega)) (by first | omega | (simp only [List.length_append, List.length_singleton, List.length_set]; omega)) ?_
            refine KOps.move ?_
            refine KOps.done ?_
            exact lpQ.normal (x + 1, _) (by repeat (first | exact Sub.nil _ | refine Sub.cons Look.eq ?_ | refine Sub.cons (Eq.trans Look.eq (congrArg (AV.int _) (by first | omega | (dsimp only; omega)))) ?_)) ⟨by dsimp only; omega, hsay2.next hSf.2.2.1 hfl9 (by omega) (by omega), hS⟩ (by dsimp only; omega)
          · intro c59
            have hxe : x = (S.getD k []).length := by omega
            subst hxe
            refine KA.exit ?_
            refine sqQ.exit ?_
            refine lpQ.exit ?_
            refine blQ.here ?_
            refine sqQ.normal ?_
            refine KA.sub (Sub.cons (t := 0) Look.eq (Sub.cons (t := 8) Look.eq (Sub.cons (t := 9) Look.eq (Sub.cons (t := 10) Look.eq (Sub.cons (t := 12) Look.eq (Sub.cons (t := 34) Look.eq (Sub.cons (t := 35) Look.eq (Sub.cons (t := 36) Look.eq (Sub.nil _))))))))) ?_
            refine KA.region rfl ?_
            refine KOps.move ?_
            refine KOps.move ?_
            refine KOps.lenI (Row.ext hS.keeps (hur k (by omega))) ?_
            refine KOps.add (by first | omega | (simp only [List.length_append, List.length_singleton, List.length_set]; omega)) (by first | omega | (simp only [List.length_append, List.length_singleton, List.length_set]; omega)) ?_
            refine KOps.assign ?_
            refine KOps.done ?_
            refine blQ.normal ?_
            refine sqQ.normal ?_
            refine KA.sub (Sub.cons (t := 0) Look.eq (Sub.cons (t := 8) Look.eq (Sub.cons (t := 9) Look.eq (Sub.cons (t := 10) Look.eq (Sub.cons (t := 34) Look.eq (Sub.cons (t := 35) Look.eq (Sub.cons (t := 36) Look.eq (Sub.nil _)))))))) ?_
            refine KA.region rfl ?_
            refine KOps.add (by first | omega | (simp only [List.length_append, List.length_singleton, List.length_set]; omega)) (by first | omega | (simp only [List.length_append, List.length_singleton, List.length_set]; omega)) ?_
            refine KOps.move ?_
            refine KOps.done ?_
            exact lpQ.normal (k + 1, gs.set k v45, L2) (by repeat (first | exact Sub.nil _ | refine Sub.cons Look.eq ?_ | refine Sub.cons (Eq.trans Look.eq (congrArg (AV.int _) (by first | omega | (dsimp only; omega)))) ?_ | refine Sub.cons (Eq.trans Look.eq (congrArg (AV.int _) (by rw [flat_succ (by omega), List.length_append]; omega))) ?_)) ⟨by dsimp only; omega, by dsimp only; rw [List.length_set]; exact hlg, hsay2.row, by dsimp only; rw [takes_succ (by omega)]; exact hS⟩ (by dsimp only; omega)
        · intro c37
          have hkS : k = S.length := by omega
          subst hkS
          have e1 : T.take S.length ++ List.replicate (T.length - S.length) [] = T := by rw [hlTS, Nat.sub_self, ← hlTS, List.take_length]; simp
          rw [e1] at hS
          rw [List.take_length]
          have hr9T : ∀ r, (T.getD r []).length ≤ 9 := fun r => by have := row_flat T r; have := hTf.2.2.2; omega
          refine KA.exit ?_
          refine sqQ.exit ?_
          refine lpQ.exit ?_
          refine blQ.here ?_
          refine sqQ.normal ?_
          refine KA.sub (Sub.cons (t := 8) Look.eq (Sub.cons (t := 9) Look.eq (Sub.cons (t := 10) Look.eq (Sub.nil _)))) ?_
          refine KA.seq ?_
          refine KA.region rfl ?_
          refine KOps.move ?_
          refine KOps.makeI hS (by first | omega | (simp only [List.length_append, List.length_singleton, List.length_set]; omega)) (by first | omega | (simp only [List.length_append, List.length_singleton, List.length_set]; omega)) (by first | omega | (simp only [List.length_append, List.length_singleton, List.length_set]; omega)) ?_
          intro v72 h' hS
          refine KOps.assign ?_
          refine KOps.done ?_
          refine sqQ.normal ?_
          refine KA.sub (Sub.cons (t := 8) Look.eq (Sub.cons (t := 9) Look.eq (Sub.cons (t := 10) Look.eq (Sub.cons (t := 15) Look.eq (Sub.nil _))))) ?_
          refine KA.seq ?_
          refine KA.seq ?_
          refine KA.region rfl ?_
          refine KOps.move ?_
          refine KOps.sub (by first | omega | (simp only [List.length_append, List.length_singleton, List.length_set]; omega)) (by first | omega | (simp only [List.length_append, List.length_singleton, List.length_set]; omega)) ?_
          refine KOps.assign ?_
          refine KOps.done ?_
          refine sqQ.normal ?_
          refine KA.sub (Sub.cons (t := 8) Look.eq (Sub.cons (t := 10) Look.eq (Sub.cons (t := 15) Look.eq (Sub.cons (t := 16) Look.eq (Sub.nil _))))) ?_
          refine KA.block ?_
          refine KA.loop (X := Nat × List (List Int) × List AV × List Int) (fun x => [(8, pl), (10, vg), (15, v72), (16, .int .i64 ((x.1 : Int) - 1))]) (fun x h' => x.1 ≤ S.flatten.length ∧ Fit S x.2.1 x.1 ∧ x.2.2.1.length = x.2.1.length ∧ (∀ r, (x.2.1.getD r []).length ≤ 9) ∧ unpack S x.1 x.2.1 ++ x.2.2.2 = unpack S S.flatten.length T ∧ St h h' ([⟨v72, 1, ints (List.replicate x.1 0 ++ x.2.2.2), true⟩, ⟨pl, 0, ints L, true⟩] ++ (matObjs true vg x.2.2.1 x.2.1 ++ []))) (fun x => x.1) (S.flatten.length, T, gs, []) (by repeat (first | exact Sub.nil _ | refine Sub.cons Look.eq ?_ | refine Sub.cons (Eq.trans Look.eq (congrArg (AV.int _) (by first | omega | (dsimp only; omega)))) ?_)) ?_ ?_
          · refine ⟨Nat.le_refl _, Fit.start hTf.2.1 hTf.2.2.1.1 hSf.2.2.1 hsh, by dsimp only; omega, hr9T, by simp, ?_⟩
            dsimp only
            simpa [Int.toNat_natCast] using hS
          rintro ⟨qq, T2, ws2, done⟩ h4 ⟨hqn, fit, hl, hr9, hres, hS⟩
          dsimp only at hqn fit hl hr9 hres hS ⊢
          have hdl := congrArg List.length hres
          rw [List.length_append, unpack_len, unpack_len] at hdl
          refine KA.seq ?_
          refine KA.seq ?_
          refine KA.region rfl ?_
          refine KOps.move ?_
          refine KOps.geq ?_
          refine KOps.done ?_
          refine sqQ.normal ?_
          refine KA.sub (Sub.cons (t := 8) Look.eq (Sub.cons (t := 10) Look.eq (Sub.cons (t := 15) Look.eq (Sub.cons (t := 16) Look.eq (Sub.cons (t := 76) Look.eq (Sub.nil _)))))) ?_
          refine KA.condD ?_ ?_
          · intro c76
            obtain ⟨i, rfl⟩ : ∃ i, qq = i + 1 := ⟨qq - 1, by omega⟩
            have hi1 : ((i + 1 : Nat) : Int) - 1 = (i : Int) := by omega
            rw [hi1]
            have hco := fit.corner hSf.2.1 hSf.2.2.1 (i := i) (by omega)
            have hal : (List.replicate (i + 1) (0 : Int) ++ done).length = S.flatten.length := by rw [List.length_append, List.length_replicate]; omega
            have hll := hsay.1
            refine KA.skip ?_
            refine sqQ.normal ?_
            refine KA.sub (Sub.cons (t := 8) Look.eq (Sub.cons (t := 10) Look.eq (Sub.cons (t := 15) Look.eq (Sub.cons (t := 16) Look.eq (Sub.nil _))))) ?_
            refine KA.seq ?_
            refine KA.block ?_
            refine KA.region rfl ?_
            refine KOps.move ?_
            refine KOps.move ?_
            refine KOps.move ?_
            refine KOps.move ?_
            refine KOps.indexA hp (j := i) (by first | omega | (simp only [List.length_append, List.length_singleton, List.length_set]; omega)) (by first | omega | (simp; omega)) ?_
            intro p83 hp83
            refine KOps.loadA hS (i := 1) rfl hp83 (by first | omega | (simp; omega)) ?_
            rw [hsay.all hSf.2.1 hSf.2.2.1 (by omega)]
            refine KOps.call rfl (take_c (pre := [_, _]) (k := rowOf S i) hS hl (hco.1) hco.2.1 (fit.ok.start hco.1 hco.2.1 hco.2.2) (by have := fit.len; omega) hr9) ?_
            rintro _ h5 ⟨ws, rfl, hlw, hS⟩
            refine KOps.indexIJ (hS.rd 0 rfl) (j := i) (by first | omega | (simp only [List.length_append, List.length_singleton, List.length_set]; omega)) (by first | omega | (simp; omega)) ?_
            intro p86 hp86
            refine KOps.storeI hS rfl (i := 0) rfl hp86 (by first | omega | (simp; omega)) ?_
            intro h' hS
            refine KOps.done ?_
            refine blQ.normal ?_
            refine sqQ.normal ?_
            refine KA.sub (Sub.cons (t := 8) Look.eq (Sub.cons (t := 10) Look.eq (Sub.cons (t := 15) Look.eq (Sub.cons (t := 16) Look.eq (Sub.nil _))))) ?_
            refine KA.region rfl ?_
            refine KOps.move ?_
            refine KOps.sub (by first | omega | (simp only [List.length_append, List.length_singleton, List.length_set]; omega)) (by first | omega | (simp only [List.length_append, List.length_singleton, List.length_set]; omega)) ?_
            refine KOps.assign ?_
            refine KOps.done ?_
            rw [unpack] at hres
            have hf2 := fit.next hSf.2.1 hSf.2.2.1 (by omega)
            have hS := hS
            simp only [List.cons_append, List.nil_append, List.set_cons_zero, repl_back] at hS
            refine lpQ.normal (i, (takeT T2 (rowOf S i)).1, ws, (takeT T2 (rowOf S i)).2 :: done) (by repeat (first | exact Sub.nil _ | refine Sub.cons Look.eq ?_ | refine Sub.cons (Eq.trans Look.eq (congrArg (AV.int _) (by first | omega | (dsimp only; omega)))) ?_)) ⟨by dsimp only; omega, hf2, by dsimp only; rw [hf2.len, hlw, fit.len], ?_, by simpa using hres, hS⟩ (by dsimp only; omega)
            intro r
            dsimp only
            have h8 := cnt_succ hSf.2.1 hSf.2.2.1 (i := i) (by omega) r
            have h9 := hr9 r
            rw [hf2.row]
            rw [fit.row] at h9
            split at h8 <;> omega
          · intro c76
            refine KA.exit ?_
            refine sqQ.exit ?_
            refine lpQ.exit ?_
            refine blQ.here ?_
            refine sqQ.normal ?_
            refine KA.sub (Sub.cons (t := 15) Look.eq (Sub.nil _)) ?_
            refine KA.seq ?_
            refine KA.region rfl ?_
            refine KOps.move ?_
            refine KOps.assign ?_
            refine KOps.assign ?_
            refine KOps.done ?_
            refine sqQ.normal ?_
            refine KA.sub (Sub.cons (t := 4) Look.eq (Sub.cons (t := 5) Look.eq (Sub.nil _))) ?_
            refine KA.ret ?_
            refine fnQ.retN ?_
            have hq0 : qq = 0 := by omega
            subst hq0
            rw [unpack, List.nil_append] at hres
            rw [hres] at hS
            refine ⟨v72, by rw [hpe], hS.keeps, ?_⟩
            rw [packOf, if_pos hpe]
            exact hS.rd 0 rfl

end Go.Am
