/-
  Layer 13: how many cards some rows can have together: contracts and law.
  Conditions: none.
-/
import Derived.Test.YtenkokebdgekbaaCi
import Derived.Test.YtenkokebdgekbaaPt9
namespace Go.Am
open Go.Gr
def shapeOf (l : List Int) (f : Bool) : List Int := if f then colLens (insAll l) else rowLens (insAll l)
/-- Columns, counted so far. -/
def colsAt (T : List (List Int)) (i k : Nat) : List Int := (List.range (if i = 0 then k else (T.getD 0 []).length)).map fun q => ((colCnt (T.take i) q + if q < k then 1 else 0 : Nat) : Int)
def colsTo (T : List (List Int)) (i : Nat) : List Int := colsAt T i 0
theorem colsAt_len (T : List (List Int)) (i k : Nat) : (colsAt T i k).length = if i = 0 then k else (T.getD 0 []).length := by simp [colsAt]
theorem colsTo_zero (T : List (List Int)) : colsTo T 0 = [] := by simp [colsTo, colsAt]
theorem colCnt_take {T : List (List Int)} {i : Nat} (hi : i < T.length) (q : Nat) : colCnt (T.take (i + 1)) q = colCnt (T.take i) q + if q < (T.getD i []).length then 1 else 0 := by
  have e : T.take (i + 1) = T.take i ++ [T.getD i []] := by rw [List.take_add_one, List.getD_eq_getElem?_getD, List.getElem?_eq_getElem hi]; rfl
  rw [e]
  unfold colCnt
  rw [List.countP_append, List.countP_singleton]
  simp
theorem colsAt_full {T : List (List Int)} {i : Nat} (hi : i < T.length) (h : Tab T) : colsAt T i (T.getD i []).length = colsTo T (i + 1) := by
  unfold colsTo colsAt
  rw [if_neg (Nat.succ_ne_zero i)]
  have e : (if i = 0 then (T.getD i []).length else (T.getD 0 []).length) = (T.getD 0 []).length := by split <;> simp_all
  rw [e]
  apply List.map_congr_left
  intro q _
  rw [colCnt_take hi]
  simp
theorem colsTo_full {T : List (List Int)} (h0 : T.length ≠ 0) : colsTo T T.length = colLens T := by
  unfold colsTo colsAt colLens
  rw [if_neg h0, List.take_length]
  apply List.map_congr_left
  intro q _
  simp
theorem colsTo_all (T : List (List Int)) : colsTo T T.length = colLens T := by
  cases T with
  | nil => simp [colsTo, colsAt, colLens]
  | cons R T => exact colsTo_full (by simp)
theorem colsAt_roomy {T : List (List Int)} {i k : Nat} (hk : k < (T.getD i []).length) (hle : (T.getD i []).length ≤ (T.getD 0 []).length) : colsAt T i (k + 1) = (if k = (colsAt T i k).length then colsAt T i k ++ [0] else colsAt T i k).set k ((if k = (colsAt T i k).length then colsAt T i k ++ [0] else colsAt T i k).getD k 0 + 1) := by
  have hl := colsAt_len T i k
  by_cases hi : i = 0
  · subst hi
    rw [if_pos rfl] at hl
    rw [if_pos hl.symm]
    have e1 : colsAt T 0 (k + 1) = (List.range (k + 1)).map fun q => (1 : Int) := by
      unfold colsAt
      rw [if_pos rfl]
      apply List.map_congr_left
      intro q hq
      rw [List.mem_range] at hq
      simp [colCnt, hq]
    have e2 : colsAt T 0 k = (List.range k).map fun q => (1 : Int) := by
      unfold colsAt
      rw [if_pos rfl]
      apply List.map_congr_left
      intro q hq
      rw [List.mem_range] at hq
      simp [colCnt, hq]
    rw [e1, e2, List.range_succ, List.map_append]
    rw [List.set_append_right _ _ (by simp), List.getD_eq_getElem?_getD, List.getElem?_append_right (by simp)]
    simp
  · rw [if_neg hi] at hl
    rw [if_neg (by omega)]
    apply List.ext_getElem (by rw [List.length_set, colsAt_len, colsAt_len, if_neg hi, if_neg hi])
    intro q h1 h2
    rw [colsAt_len, if_neg hi] at h1
    rw [List.getElem_set]
    have hat : ∀ k q, (h : q < (colsAt T i k).length) → (colsAt T i k)[q] = ((colCnt (T.take i) q + if q < k then 1 else 0 : Nat) : Int) := by
      intro k q h; simp [colsAt]
    rw [hat]
    by_cases hq : k = q
    · subst hq
      rw [if_pos rfl, if_pos (Nat.lt_succ_self k), List.getD_eq_getElem?_getD, List.getElem?_eq_getElem (by omega), Option.getD_some, hat, if_neg (Nat.lt_irrefl k)]
      omega
    · rw [if_neg hq, hat]
      by_cases hq2 : q < k
      · rw [if_pos hq2, if_pos (by omega)]
      · rw [if_neg hq2, if_neg (by omega)]
theorem colCnt_le (T : List (List Int)) (i q : Nat) : colCnt (T.take i) q ≤ T.length := by
  unfold colCnt
  refine Nat.le_trans List.countP_le_length ?_
  rw [List.length_take]; omega
theorem colsAt_le (T : List (List Int)) (i k j : Nat) : 0 ≤ (colsAt T i k).getD j 0 ∧ (colsAt T i k).getD j 0 ≤ T.length + 1 := by
  rw [List.getD_eq_getElem?_getD]
  cases h : (colsAt T i k)[j]? with
  | none => simp; omega
  | some x =>
    have h1 := (List.getElem?_eq_some_iff.1 h)
    obtain ⟨h2, h3⟩ := h1
    simp only [colsAt, List.getElem_map, List.getElem_range] at h3
    have := colCnt_le T i j
    simp only [Option.getD_some]
    subst h3
    split <;> omega

theorem shape_c {h : AHeap} {v : AV} {l : List Int} {f : Bool} (hv : Row h v l) (hn : l.Nodup) (h9 : l.length ≤ 9) : ACalls Go.Proofs.Try.prog 82 [v, .bool f] h (fun r h' => St h h' [⟨r, 1, ints (shapeOf l f), true⟩]) := by
  refine KA.fn 55 [.tmp 4] Go.Proofs.Try.func82 rfl (by decide) rfl rfl (Nat.le_of_ble_eq_true rfl) ?_
  have hS := St.refl h
  show KA _ 55 _ _ [(0, v), (1, .bool f)] _
  refine KA.seq ?_
  refine KA.region rfl ?_
  refine KOps.assign ?_
  refine KOps.done ?_
  refine sqQ.normal ?_
  refine KA.sub (Sub.cons (t := 0) Look.eq (Sub.cons (t := 1) Look.eq (Sub.nil _))) ?_
  refine KA.seq ?_
  refine KA.region rfl ?_
  refine KOps.alloc hS ?_
  intro pb h1 hp hS
  refine KOps.done ?_
  refine sqQ.normal ?_
  refine KA.seq ?_
  refine KA.seq ?_
  refine KA.region rfl ?_
  refine KOps.move ?_
  refine KOps.lenI (by first | assumption | exact Rd.ext hS.keeps (by assumption)) ?_
  refine KOps.move ?_
  refine KOps.done ?_
  refine sqQ.normal ?_
  refine KA.sub (Sub.cons (t := 1) Look.eq (Sub.cons (t := 5) Look.eq (Sub.cons (t := 12) Look.eq (Sub.cons (t := 13) Look.eq (Sub.cons (t := 14) Look.eq (Sub.nil _)))))) ?_
  refine KA.block ?_
  refine KA.loop (X := Nat × AV × List AV) (fun x => [(1, .bool f), (5, pb), (12, v), (13, .int .i64 (l.length : Int)), (14, .int .i64 (x.1 : Int))]) (fun x h' => x.1 ≤ l.length ∧ x.2.2.length = (insAll (l.take x.1)).length ∧ St h h' (⟨pb, 0, [x.2.1], true⟩ :: (matObjs true x.2.1 x.2.2 (insAll (l.take x.1)) ++ []))) (fun x => l.length - x.1) (0, .nils, []) (by repeat (first | exact Sub.nil _ | refine Sub.cons Look.eq ?_ | refine Sub.cons (Eq.trans Look.eq (congrArg (AV.int _) (by first | omega | (dsimp only; omega)))) ?_)) ?_ ?_
  · refine ⟨Nat.zero_le _, rfl, ?_⟩
    exact St.perm (List.Perm.swap _ _ _) (St.nilT hS true)
  rintro ⟨i, vo1, vs1⟩ h1 ⟨hi, hl1, hS⟩
  dsimp only at hi hl1 hS ⊢
  have hfa := insAll_facts hn (i := i) hi
  refine KA.seq ?_
  refine KA.region rfl ?_
  refine KOps.lss ?_
  refine KOps.done ?_
  refine sqQ.normal ?_
  refine KA.seq ?_
  refine KA.condD ?_ ?_
  · intro c15
    refine KA.skip ?_
    refine sqQ.normal ?_
    refine KA.sub (Sub.cons (t := 1) Look.eq (Sub.cons (t := 5) Look.eq (Sub.cons (t := 12) Look.eq (Sub.cons (t := 13) Look.eq (Sub.cons (t := 14) Look.eq (Sub.nil _)))))) ?_
    refine KA.seq ?_
    refine KA.block ?_
    refine KA.seq ?_
    refine KA.region rfl ?_
    refine KOps.indexIJ (by first | assumption | exact Rd.ext hS.keeps (by assumption)) (j := i) rfl (by first | omega | (simp; omega)) ?_
    intro p16 hp16
    refine KOps.loadI hp16 (by first | assumption | exact Rd.ext hS.keeps (by assumption)) (by first | omega | (simp; omega)) ?_
    refine KOps.assign ?_
    refine KOps.done ?_
    refine sqQ.normal ?_
    refine KA.sub (Sub.cons (t := 1) Look.eq (Sub.cons (t := 5) Look.eq (Sub.cons (t := 7) Look.eq (Sub.cons (t := 12) Look.eq (Sub.cons (t := 13) Look.eq (Sub.cons (t := 14) Look.eq (Sub.nil _))))))) ?_
    refine KA.region rfl ?_
    refine KOps.move ?_
    refine KOps.call rfl (put_c (c := l.getD i 0) hp hS hl1 hfa.1.rows (by omega) (fun k => by have := hfa.2.1 k; omega)) ?_
    rintro _ h2 ⟨wo1, ws1, rfl, hl3, hS⟩
    refine KOps.done ?_
    refine blQ.normal ?_
    refine sqQ.normal ?_
    refine KA.sub (Sub.cons (t := 1) Look.eq (Sub.cons (t := 5) Look.eq (Sub.cons (t := 12) Look.eq (Sub.cons (t := 13) Look.eq (Sub.cons (t := 14) Look.eq (Sub.nil _)))))) ?_
    refine KA.region rfl ?_
    refine KOps.add (by first | omega | (simp only [List.length_append, List.length_singleton, List.length_set]; omega)) (by first | omega | (simp only [List.length_append, List.length_singleton, List.length_set]; omega)) ?_
    refine KOps.move ?_
    refine KOps.done ?_
    refine lpQ.normal (i + 1, wo1, ws1) (by repeat (first | exact Sub.nil _ | refine Sub.cons Look.eq ?_ | refine Sub.cons (Eq.trans Look.eq (congrArg (AV.int _) (by first | omega | (dsimp only; omega)))) ?_)) ⟨by dsimp only; omega, ?_, ?_⟩ (by dsimp only; omega)
    · dsimp only; rw [insAll_take (by omega)]; exact hl3
    · dsimp only; rw [insAll_take (by omega)]; exact hS
  · intro c15
    have hie : i = l.length := by omega
    subst hie
    rw [List.take_length] at hl1 hS hfa
    refine KA.exit ?_
    refine sqQ.exit ?_
    refine lpQ.exit ?_
    refine blQ.here ?_
    refine sqQ.normal ?_
    refine KA.sub (Sub.cons (t := 1) Look.eq (Sub.cons (t := 5) Look.eq (Sub.nil _))) ?_
    refine KA.seq ?_
    refine KA.region rfl ?_
    refine KOps.assign ?_
    refine KOps.done ?_
    refine sqQ.normal ?_
    refine KA.seq ?_
    refine KA.seq ?_
    refine KA.region rfl ?_
    refine KOps.loadBox hS (i := 0) rfl hp ?_
    refine KOps.lenV (St.outer (pre := [_]) hS) ?_
    refine KOps.move ?_
    refine KOps.done ?_
    refine sqQ.normal ?_
    refine KA.sub (Sub.cons (t := 1) Look.eq (Sub.cons (t := 8) Look.eq (Sub.cons (t := 21) Look.eq (Sub.cons (t := 22) Look.eq (Sub.cons (t := 23) Look.eq (Sub.nil _)))))) ?_
    refine KA.block ?_
    refine KA.loop (X := Nat × AV) (fun x => [(1, .bool f), (8, x.2), (21, vo1), (22, .int .i64 (vs1.length : Int)), (23, .int .i64 (x.1 : Int))]) (fun x h' => x.1 ≤ (insAll l).length ∧ St h h' (⟨x.2, 1, ints (if f then colsTo (insAll l) x.1 else rowLens ((insAll l).take x.1)), true⟩ :: (matObjs true vo1 vs1 (insAll l) ++ []))) (fun x => (insAll l).length - x.1) (0, .nils) (by repeat (first | exact Sub.nil _ | refine Sub.cons Look.eq ?_ | refine Sub.cons (Eq.trans Look.eq (congrArg (AV.int _) (by first | omega | (dsimp only; omega)))) ?_)) ?_ ?_
    · refine ⟨Nat.zero_le _, ?_⟩
      have e : (if f then colsTo (insAll l) 0 else rowLens ((insAll l).take 0)) = [] := by cases f <;> simp [colsTo_zero, rowLens]
      dsimp only
      rw [e]
      exact St.nil (St.tail hS) 1
    rintro ⟨i, vo⟩ h2 ⟨hi, hS⟩
    dsimp only at hi hS ⊢
    have hr0 := hfa.2.1 0
    have hlp : (if f then colsTo (insAll l) i else rowLens ((insAll l).take i)).length ≤ 9 := by
      cases f
      · simp only [Bool.false_eq_true, if_false, rowLens, List.length_map, List.length_take]; omega
      · simp only [if_true, colsTo, colsAt_len]; split <;> omega
    refine KA.seq ?_
    refine KA.region rfl ?_
    refine KOps.lss ?_
    refine KOps.done ?_
    refine sqQ.normal ?_
    refine KA.seq ?_
    refine KA.condD ?_ ?_
    · intro c24
      have hr9 := hfa.2.1 i
      refine KA.skip ?_
      refine sqQ.normal ?_
      refine KA.sub (Sub.cons (t := 1) Look.eq (Sub.cons (t := 8) Look.eq (Sub.cons (t := 21) Look.eq (Sub.cons (t := 22) Look.eq (Sub.cons (t := 23) Look.eq (Sub.nil _)))))) ?_
      refine KA.seq ?_
      refine KA.block ?_
      refine KA.seq ?_
      refine KA.region rfl ?_
      refine KOps.indexVJ (St.outer (pre := [_]) hS) (j := i) rfl (by first | omega | (simp; omega)) ?_
      intro p25 hp25
      refine KOps.loadV hp25 (St.outer (pre := [_]) hS) (by first | omega | (simp; omega)) ?_
      refine KOps.assign ?_
      refine KOps.done ?_
      refine sqQ.normal ?_
      refine KA.sub (Sub.cons (t := 1) Look.eq (Sub.cons (t := 8) Look.eq (Sub.cons (t := 10) Look.eq (Sub.cons (t := 21) Look.eq (Sub.cons (t := 22) Look.eq (Sub.cons (t := 23) Look.eq (Sub.nil _))))))) ?_
      refine KA.seq ?_
      refine KA.seq ?_
      refine KA.region rfl ?_
      refine KOps.move ?_
      refine KOps.not ?_
      refine KOps.done ?_
      refine sqQ.normal ?_
      refine KA.sub (Sub.cons (t := 1) Look.eq (Sub.cons (t := 8) Look.eq (Sub.cons (t := 10) Look.eq (Sub.cons (t := 21) Look.eq (Sub.cons (t := 22) Look.eq (Sub.cons (t := 23) Look.eq (Sub.cons (t := 28) Look.eq (Sub.nil _)))))))) ?_
      refine KA.condB ?_ ?_
      · intro c28
        refine KA.seq ?_
        refine KA.region rfl ?_
        refine KOps.move ?_
        refine KOps.move ?_
        refine KOps.lenI (St.rowAt (pre := [_]) hS (by first | assumption | omega | (simp only [List.length_set, List.length_append, List.length_singleton, List.length_replicate, List.length_take]; omega)) (by first | omega | (simp; omega))) ?_
        refine KOps.buildSlice hS rfl (by decide) rfl ?_
        intro v32 h' hS
        refine KOps.appendI hS (fun _ => rfl) (i := 0) rfl (by first | omega | (simp; omega)) ?_
        intro r33 h' hr33 hS
        refine KOps.assign ?_
        refine KOps.done ?_
        refine sqQ.normal ?_
        refine KA.sub (Sub.cons (t := 1) Look.eq (Sub.cons (t := 8) Look.eq (Sub.cons (t := 21) Look.eq (Sub.cons (t := 22) Look.eq (Sub.cons (t := 23) Look.eq (Sub.nil _)))))) ?_
        refine KA.exit ?_
        refine sqQ.exit ?_
        refine blQ.here ?_
        refine sqQ.normal ?_
        refine KA.region rfl ?_
        refine KOps.add (by first | omega | (simp only [List.length_append, List.length_singleton, List.length_set]; omega)) (by first | omega | (simp only [List.length_append, List.length_singleton, List.length_set]; omega)) ?_
        refine KOps.move ?_
        refine KOps.done ?_
        have hf : f = false := by simpa using c28
        subst hf
        have e : rowLens ((insAll l).take (i + 1)) = rowLens ((insAll l).take i) ++ [(((insAll l).getD i []).length : Int)] := by
          unfold rowLens
          rw [List.take_add_one, List.map_append, List.getD_eq_getElem?_getD, List.getElem?_eq_getElem (by omega)]; rfl
        exact lpQ.normal (i + 1, r33) (by repeat (first | exact Sub.nil _ | refine Sub.cons Look.eq ?_ | refine Sub.cons (Eq.trans Look.eq (congrArg (AV.int _) (by first | omega | (dsimp only; omega)))) ?_)) ⟨by dsimp only; omega, by dsimp only; rw [if_neg Bool.false_ne_true, e]; exact hS⟩ (by dsimp only; omega)
      · intro c28
        have hf : f = true := by simpa using c28
        subst hf
        simp only [if_true] at hS hlp
        refine KA.skip ?_
        refine sqQ.normal ?_
        refine KA.sub (Sub.cons (t := 1) Look.eq (Sub.cons (t := 8) Look.eq (Sub.cons (t := 10) Look.eq (Sub.cons (t := 21) Look.eq (Sub.cons (t := 22) Look.eq (Sub.cons (t := 23) Look.eq (Sub.nil _))))))) ?_
        refine KA.seq ?_
        refine KA.region rfl ?_
        refine KOps.move ?_
        refine KOps.lenI (St.rowAt (pre := [_]) hS (by first | assumption | omega | (simp only [List.length_set, List.length_append, List.length_singleton, List.length_replicate, List.length_take]; omega)) (by first | omega | (simp; omega))) ?_
        refine KOps.move ?_
        refine KOps.done ?_
        refine sqQ.normal ?_
        refine KA.sub (Sub.cons (t := 1) Look.eq (Sub.cons (t := 8) Look.eq (Sub.cons (t := 21) Look.eq (Sub.cons (t := 22) Look.eq (Sub.cons (t := 23) Look.eq (Sub.cons (t := 35) Look.eq (Sub.cons (t := 36) Look.eq (Sub.nil _)))))))) ?_
        refine KA.block ?_
        refine KA.loop (X := Nat × AV) (fun x => [(1, .bool true), (8, x.2), (21, vo1), (22, .int .i64 (vs1.length : Int)), (23, .int .i64 (i : Int)), (35, .int .i64 (((insAll l).getD i []).length : Int)), (36, .int .i64 (x.1 : Int))]) (fun x h' => x.1 ≤ ((insAll l).getD i []).length ∧ St h h' (⟨x.2, 1, ints (colsAt (insAll l) i x.1), true⟩ :: (matObjs true vo1 vs1 (insAll l) ++ []))) (fun x => ((insAll l).getD i []).length - x.1) (0, vo) (by repeat (first | exact Sub.nil _ | refine Sub.cons Look.eq ?_ | refine Sub.cons (Eq.trans Look.eq (congrArg (AV.int _) (by first | omega | (dsimp only; omega)))) ?_)) ?_ ?_
        · exact ⟨Nat.zero_le _, hS⟩
        rintro ⟨k, vk⟩ h3 ⟨hk, hS⟩
        dsimp only at hk hS ⊢
        have hcl := colsAt_len (insAll l) i k
        have hc9 : (colsAt (insAll l) i k).length ≤ 9 := by rw [hcl]; split <;> omega
        refine KA.seq ?_
        refine KA.region rfl ?_
        refine KOps.lss ?_
        refine KOps.done ?_
        refine sqQ.normal ?_
        refine KA.seq ?_
        refine KA.condD ?_ ?_
        · intro c37
          have hkl : k < ((insAll l).getD i []).length := by omega
          have hle : ((insAll l).getD i []).length ≤ ((insAll l).getD 0 []).length := tab_first hfa.1 _ (getDL_mem (by omega))
          refine KA.skip ?_
          refine sqQ.normal ?_
          refine KA.sub (Sub.cons (t := 1) Look.eq (Sub.cons (t := 8) Look.eq (Sub.cons (t := 21) Look.eq (Sub.cons (t := 22) Look.eq (Sub.cons (t := 23) Look.eq (Sub.cons (t := 35) Look.eq (Sub.cons (t := 36) Look.eq (Sub.nil _)))))))) ?_
          refine KA.seq ?_
          refine KA.block ?_
          refine KA.seq ?_
          refine KA.region rfl ?_
          refine KOps.move ?_
          refine KOps.assign ?_
          refine KOps.done ?_
          refine sqQ.normal ?_
          refine KA.sub (Sub.cons (t := 1) Look.eq (Sub.cons (t := 8) Look.eq (Sub.cons (t := 11) Look.eq (Sub.cons (t := 21) Look.eq (Sub.cons (t := 22) Look.eq (Sub.cons (t := 23) Look.eq (Sub.cons (t := 35) Look.eq (Sub.cons (t := 36) Look.eq (Sub.nil _))))))))) ?_
          refine KA.meet (X := AV) (fun vq => [(1, .bool true), (8, vq), (11, .int .i64 (k : Int)), (21, vo1), (22, .int .i64 (vs1.length : Int)), (23, .int .i64 (i : Int)), (35, .int .i64 (((insAll l).getD i []).length : Int)), (36, .int .i64 (k : Int))]) (fun vq h' => St h h' (⟨vq, 1, ints (if k = (colsAt (insAll l) i k).length then colsAt (insAll l) i k ++ [0] else colsAt (insAll l) i k), true⟩ :: (matObjs true vo1 vs1 (insAll l) ++ []))) ?_ ?_
          ·
            refine KA.seq ?_
            refine KA.region rfl ?_
            refine KOps.move ?_
            refine KOps.move ?_
            refine KOps.lenI (hS.rd 0 rfl) ?_
            refine KOps.eql ?_
            refine KOps.done ?_
            refine sqQ.normal ?_
            refine KA.sub (Sub.cons (t := 1) Look.eq (Sub.cons (t := 8) Look.eq (Sub.cons (t := 11) Look.eq (Sub.cons (t := 21) Look.eq (Sub.cons (t := 22) Look.eq (Sub.cons (t := 23) Look.eq (Sub.cons (t := 35) Look.eq (Sub.cons (t := 36) Look.eq (Sub.cons (t := 42) Look.eq (Sub.nil _)))))))))) ?_
            refine KA.condD ?_ ?_
            · intro c42
              refine KA.region rfl ?_
              refine KOps.move ?_
              refine KOps.buildSlice hS rfl (by decide) rfl ?_
              intro v44 h' hS
              refine KOps.appendI hS (fun _ => rfl) (i := 0) rfl (by first | omega | (simp; omega)) ?_
              intro r45 h' hr45 hS
              refine KOps.assign ?_
              refine KOps.done ?_
              refine mtQ.normal r45 (by repeat (first | exact Sub.nil _ | refine Sub.cons Look.eq ?_ | refine Sub.cons (Eq.trans Look.eq (congrArg (AV.int _) (by first | omega | (dsimp only; omega)))) ?_)) ?_
              rw [if_pos (by omega)]
              exact hS
            · intro c42
              refine KA.skip ?_
              refine mtQ.normal vk (by repeat (first | exact Sub.nil _ | refine Sub.cons Look.eq ?_ | refine Sub.cons (Eq.trans Look.eq (congrArg (AV.int _) (by first | omega | (dsimp only; omega)))) ?_)) ?_
              rw [if_neg (by omega)]
              exact hS
          ·
            rintro vq h4 hS
            have hkc : k ≤ (colsAt (insAll l) i k).length := by rw [hcl]; split <;> omega
            have hql : k < (if k = (colsAt (insAll l) i k).length then colsAt (insAll l) i k ++ [0] else colsAt (insAll l) i k).length := by split <;> (try rw [List.length_append, List.length_singleton]) <;> omega
            have hqv : 0 ≤ (if k = (colsAt (insAll l) i k).length then colsAt (insAll l) i k ++ [0] else colsAt (insAll l) i k).getD k 0 ∧ (if k = (colsAt (insAll l) i k).length then colsAt (insAll l) i k ++ [0] else colsAt (insAll l) i k).getD k 0 ≤ 10 := by
              have := colsAt_le (insAll l) i k k
              split
              · rw [getD_snoc]; split <;> omega
              · omega
            refine KA.region rfl ?_
            refine KOps.move ?_
            refine KOps.move ?_
            refine KOps.indexIJ (hS.rd 0 rfl) (j := k) rfl (by first | omega | (simp; omega)) ?_
            intro p48 hp48
            refine KOps.loadI hp48 (hS.rd 0 rfl) (by first | omega | (simp; omega)) ?_
            refine KOps.add (by first | omega | (simp only [List.length_append, List.length_singleton, List.length_set]; omega)) (by first | omega | (simp only [List.length_append, List.length_singleton, List.length_set]; omega)) ?_
            refine KOps.indexIJ (hS.rd 0 rfl) (j := k) rfl (by first | omega | (simp; omega)) ?_
            intro p51 hp51
            refine KOps.storeI hS rfl (i := 0) rfl hp51 (by first | omega | (simp; omega)) ?_
            intro h' hS
            refine KOps.done ?_
            refine blQ.normal ?_
            refine sqQ.normal ?_
            refine KA.sub (Sub.cons (t := 1) Look.eq (Sub.cons (t := 8) Look.eq (Sub.cons (t := 21) Look.eq (Sub.cons (t := 22) Look.eq (Sub.cons (t := 23) Look.eq (Sub.cons (t := 35) Look.eq (Sub.cons (t := 36) Look.eq (Sub.nil _)))))))) ?_
            refine KA.region rfl ?_
            refine KOps.add (by first | omega | (simp only [List.length_append, List.length_singleton, List.length_set]; omega)) (by first | omega | (simp only [List.length_append, List.length_singleton, List.length_set]; omega)) ?_
            refine KOps.move ?_
            refine KOps.done ?_
            exact lpQ.normal (k + 1, vq) (by repeat (first | exact Sub.nil _ | refine Sub.cons Look.eq ?_ | refine Sub.cons (Eq.trans Look.eq (congrArg (AV.int _) (by first | omega | (dsimp only; omega)))) ?_)) ⟨by dsimp only; omega, by dsimp only; rw [colsAt_roomy hkl hle]; exact hS⟩ (by dsimp only; omega)
        · intro c37
          refine KA.exit ?_
          refine sqQ.exit ?_
          refine lpQ.exit ?_
          refine blQ.here ?_
          refine blQ.normal ?_
          refine sqQ.normal ?_
          refine KA.sub (Sub.cons (t := 1) Look.eq (Sub.cons (t := 8) Look.eq (Sub.cons (t := 21) Look.eq (Sub.cons (t := 22) Look.eq (Sub.cons (t := 23) Look.eq (Sub.nil _)))))) ?_
          refine KA.region rfl ?_
          refine KOps.add (by first | omega | (simp only [List.length_append, List.length_singleton, List.length_set]; omega)) (by first | omega | (simp only [List.length_append, List.length_singleton, List.length_set]; omega)) ?_
          refine KOps.move ?_
          refine KOps.done ?_
          have hke : k = ((insAll l).getD i []).length := by omega
          subst hke
          rw [colsAt_full (by omega) hfa.1] at hS
          exact lpQ.normal (i + 1, vk) (by repeat (first | exact Sub.nil _ | refine Sub.cons Look.eq ?_ | refine Sub.cons (Eq.trans Look.eq (congrArg (AV.int _) (by first | omega | (dsimp only; omega)))) ?_)) ⟨by dsimp only; omega, by dsimp only; rw [if_pos rfl]; exact hS⟩ (by dsimp only; omega)
    · intro c24
      refine KA.exit ?_
      refine sqQ.exit ?_
      refine lpQ.exit ?_
      refine blQ.here ?_
      refine sqQ.normal ?_
      refine KA.sub (Sub.cons (t := 8) Look.eq (Sub.nil _)) ?_
      refine KA.seq ?_
      refine KA.region rfl ?_
      refine KOps.move ?_
      refine KOps.assign ?_
      refine KOps.done ?_
      refine sqQ.normal ?_
      refine KA.sub (Sub.cons (t := 4) Look.eq (Sub.nil _)) ?_
      refine KA.ret ?_
      refine fnQ.ret1 ?_
      have hie : i = (insAll l).length := by omega
      subst hie
      have e : (if f then colsTo (insAll l) (insAll l).length else rowLens ((insAll l).take (insAll l).length)) = shapeOf l f := by
        unfold shapeOf
        cases f
        · simp
        · rw [if_pos rfl, if_pos rfl]
          exact colsTo_all _
      rw [e] at hS
      exact St.keep (A := [_]) hS

def mostE (l : List Int) (k : Int) : Int := if checkE l = 0 then (if 1 ≤ k ∧ k ≤ 9 then 0 else 1) else checkE l
theorem shape_sum {l : List Int} (hn : l.Nodup) (k : Nat) (f : Bool) : ((shapeOf l f).take k).sum = (mostOf l k f : Int) := by
  unfold shapeOf
  cases f
  · rw [if_neg Bool.false_ne_true, rowLens_sum]; rfl
  · rw [if_pos rfl, colLens_sum (insAll_tab hn)]; rfl
theorem shape_len {l : List Int} (hn : l.Nodup) (f : Bool) : (shapeOf l f).length ≤ l.length := by
  have h := insAll_facts hn (i := l.length) (Nat.le_refl _)
  rw [List.take_length] at h
  unfold shapeOf
  cases f
  · rw [if_neg Bool.false_ne_true, rowLens, List.length_map]; exact h.2.2.1
  · rw [if_pos rfl, colLens, List.length_map, List.length_range]; exact h.2.1 0
theorem shape_le {l : List Int} (hn : l.Nodup) (f : Bool) (i : Nat) : 0 ≤ (shapeOf l f).getD i 0 ∧ (shapeOf l f).getD i 0 ≤ l.length := by
  have h := insAll_facts hn (i := l.length) (Nat.le_refl _)
  rw [List.take_length] at h
  rw [List.getD_eq_getElem?_getD]
  cases hq : (shapeOf l f)[i]? with
  | none => simp
  | some x =>
    unfold shapeOf at hq
    obtain ⟨h1, h2⟩ := List.getElem?_eq_some_iff.1 hq
    simp only [Option.getD_some]
    cases f
    · simp only [Bool.false_eq_true, if_false, rowLens, List.getElem_map] at h2
      have h3 := h.2.1 i
      simp only [Bool.false_eq_true, if_false, rowLens, List.length_map] at h1
      rw [List.getD_eq_getElem?_getD, List.getElem?_eq_getElem h1] at h3
      simp only [Option.getD_some] at h3
      omega
    · simp only [if_true, colLens, List.getElem_map, List.getElem_range] at h2
      have h3 := colCnt_le (insAll l) (insAll l).length i
      rw [List.take_length] at h3
      omega
theorem take_sum_succ {S : List Int} {i k : Nat} (hi : i < S.length) : ((S.take (i + 1)).take k).sum = ((S.take i).take k).sum + if i < k then S.getD i 0 else 0 := by
  rw [List.take_take, List.take_take]
  by_cases h : i < k
  · rw [if_pos h, Nat.min_eq_right (by omega), Nat.min_eq_right (by omega), List.take_add_one, List.sum_append, List.getD_eq_getElem?_getD, List.getElem?_eq_getElem hi]
    simp
  · rw [if_neg h, Nat.min_eq_left (by omega), Nat.min_eq_left (by omega), Int.add_zero]

theorem most_c {h : AHeap} {v : AV} {l : List Int} {k : Int} {f : Bool} (hv : Row h v l) : ACalls Go.Proofs.Try.prog 38 [v, .int .i64 k, .bool f] h (fun r h' => r = .tup [.int .i64 (if checkE l = 0 ∧ 1 ≤ k ∧ k ≤ 9 then (mostOf l k.toNat f : Int) else 0), .int .i64 (mostE l k)] ∧ Keeps h h') := by
  refine KA.fn 39 [.tmp 6, .tmp 7] Go.Proofs.Try.func38 rfl (by decide) rfl rfl (Nat.le_of_ble_eq_true rfl) ?_
  have hS := St.refl h
  show KA _ 39 _ _ [(0, v), (1, .int .i64 k), (2, .bool f)] _
  refine KA.seq ?_
  refine KA.region rfl ?_
  refine KOps.assign ?_
  refine KOps.assign ?_
  refine KOps.done ?_
  refine sqQ.normal ?_
  refine KA.sub (Sub.cons (t := 0) Look.eq (Sub.cons (t := 1) Look.eq (Sub.cons (t := 2) Look.eq (Sub.nil _)))) ?_
  refine KA.seq ?_
  refine KA.region rfl ?_
  refine KOps.move ?_
  refine KOps.call rfl (check_c (by first | assumption | exact Rd.ext hS.keeps (by assumption))) ?_
  rintro _ _ ⟨rfl, rfl⟩
  refine KOps.assign ?_
  refine KOps.done ?_
  refine sqQ.normal ?_
  refine KA.sub (Sub.cons (t := 0) Look.eq (Sub.cons (t := 1) Look.eq (Sub.cons (t := 2) Look.eq (Sub.cons (t := 8) Look.eq (Sub.nil _))))) ?_
  refine KA.seq ?_
  refine KA.block ?_
  refine KA.seq ?_
  refine KA.region rfl ?_
  refine KOps.move ?_
  refine KOps.neq ?_
  refine KOps.assign ?_
  refine KOps.done ?_
  refine sqQ.normal ?_
  refine KA.sub (Sub.cons (t := 0) Look.eq (Sub.cons (t := 1) Look.eq (Sub.cons (t := 2) Look.eq (Sub.cons (t := 8) Look.eq (Sub.cons (t := 14) Look.eq (Sub.nil _)))))) ?_
  refine KA.condN ?_ ?_
  · intro c14
    refine KA.seq ?_
    refine KA.region rfl ?_
    refine KOps.move ?_
    refine KOps.assign ?_
    refine KOps.assign ?_
    refine KOps.done ?_
    refine sqQ.normal ?_
    refine KA.sub (Sub.cons (t := 6) Look.eq (Sub.cons (t := 7) Look.eq (Sub.nil _))) ?_
    refine KA.ret ?_
    refine blQ.ret ?_
    refine sqQ.ret ?_
    refine fnQ.retN ?_
    exact ⟨by rw [mostE, if_neg c14, if_neg (fun hq => c14 hq.1)], hS.keeps⟩
  · intro c14
    have hch := checkE_ok c14
    refine KA.seq ?_
    refine KA.region rfl ?_
    refine KOps.move ?_
    refine KOps.call rfl (between_c) ?_
    rintro _ _ ⟨rfl, rfl⟩
    refine KOps.not ?_
    refine KOps.assign ?_
    refine KOps.done ?_
    refine sqQ.normal ?_
    refine KA.sub (Sub.cons (t := 0) Look.eq (Sub.cons (t := 1) Look.eq (Sub.cons (t := 2) Look.eq (Sub.cons (t := 18) Look.eq (Sub.nil _))))) ?_
    refine KA.condN ?_ ?_
    · intro c18
      refine KA.seq ?_
      refine KA.region rfl ?_
      refine KOps.assign ?_
      refine KOps.assign ?_
      refine KOps.done ?_
      refine sqQ.normal ?_
      refine KA.sub (Sub.cons (t := 6) Look.eq (Sub.cons (t := 7) Look.eq (Sub.nil _))) ?_
      refine KA.ret ?_
      refine blQ.ret ?_
      refine sqQ.ret ?_
      refine fnQ.retN ?_
      exact ⟨by rw [mostE, if_pos c14, if_neg (by omega), if_neg (by omega)], hS.keeps⟩
    · intro c18
      have hsl := shape_len hch.2.2.1 f
      refine KA.skip ?_
      refine blQ.normal ?_
      refine sqQ.normal ?_
      refine KA.sub (Sub.cons (t := 0) Look.eq (Sub.cons (t := 1) Look.eq (Sub.cons (t := 2) Look.eq (Sub.nil _)))) ?_
      refine KA.seq ?_
      refine KA.region rfl ?_
      refine KOps.assign ?_
      refine KOps.done ?_
      refine sqQ.normal ?_
      refine KA.seq ?_
      refine KA.seq ?_
      refine KA.region rfl ?_
      refine KOps.move ?_
      refine KOps.move ?_
      refine KOps.call rfl (shape_c (by first | assumption | exact Rd.ext hS.keeps (by assumption)) hch.2.2.1 hch.2.1) ?_
      rintro v24 h24 hS24
      have hS : St _ _ (_ :: _) := St.trans hS hS24
      refine KOps.lenI (hS.rd 0 rfl) ?_
      refine KOps.move ?_
      refine KOps.done ?_
      refine sqQ.normal ?_
      refine KA.sub (Sub.cons (t := 1) Look.eq (Sub.cons (t := 9) Look.eq (Sub.cons (t := 24) Look.eq (Sub.cons (t := 25) Look.eq (Sub.cons (t := 26) Look.eq (Sub.nil _)))))) ?_
      refine KA.block ?_
      refine KA.loop (X := Nat) (fun i => [(1, .int .i64 k), (9, .int .i64 ((((shapeOf l f)).take i).take k.toNat).sum), (24, v24), (25, .int .i64 ((shapeOf l f).length : Int)), (26, .int .i64 (i : Int))]) (fun i h' => i ≤ (shapeOf l f).length ∧ (0 ≤ ((((shapeOf l f)).take i).take k.toNat).sum ∧ ((((shapeOf l f)).take i).take k.toNat).sum ≤ 9 * i) ∧ St h h' [⟨v24, 1, ints (shapeOf l f), true⟩]) (fun i => (shapeOf l f).length - i) 0 (by repeat (first | exact Sub.nil _ | refine Sub.cons Look.eq ?_ | refine Sub.cons (Eq.trans Look.eq (congrArg (AV.int _) (by first | omega | (dsimp only; omega)))) ?_ | refine Sub.cons (Eq.trans Look.eq (congrArg (AV.int _) (by simp))) ?_)) ?_ ?_
      · exact ⟨Nat.zero_le _, by simp, hS⟩
      rintro i h2 ⟨hi, hsb, hS⟩
      refine KA.seq ?_
      refine KA.region rfl ?_
      refine KOps.lss ?_
      refine KOps.done ?_
      refine sqQ.normal ?_
      refine KA.seq ?_
      refine KA.condD ?_ ?_
      · intro c27
        refine KA.skip ?_
        refine sqQ.normal ?_
        refine KA.sub (Sub.cons (t := 1) Look.eq (Sub.cons (t := 9) Look.eq (Sub.cons (t := 24) Look.eq (Sub.cons (t := 25) Look.eq (Sub.cons (t := 26) Look.eq (Sub.nil _)))))) ?_
        refine KA.seq ?_
        refine KA.block ?_
        refine KA.seq ?_
        refine KA.region rfl ?_
        refine KOps.move ?_
        refine KOps.indexIJ (hS.rd 0 rfl) (j := i) rfl (by first | omega | (simp; omega)) ?_
        intro p29 hp29
        refine KOps.loadI hp29 (hS.rd 0 rfl) (by first | omega | (simp; omega)) ?_
        have hsv := shape_le hch.2.2.1 f i
        refine KOps.assign ?_
        refine KOps.assign ?_
        refine KOps.done ?_
        refine sqQ.normal ?_
        refine KA.sub (Sub.cons (t := 1) Look.eq (Sub.cons (t := 9) Look.eq (Sub.cons (t := 10) Look.eq (Sub.cons (t := 11) Look.eq (Sub.cons (t := 24) Look.eq (Sub.cons (t := 25) Look.eq (Sub.cons (t := 26) Look.eq (Sub.nil _)))))))) ?_
        refine KA.seq ?_
        refine KA.region rfl ?_
        refine KOps.move ?_
        refine KOps.move ?_
        refine KOps.lss ?_
        refine KOps.done ?_
        refine sqQ.normal ?_
        refine KA.sub (Sub.cons (t := 1) Look.eq (Sub.cons (t := 9) Look.eq (Sub.cons (t := 11) Look.eq (Sub.cons (t := 24) Look.eq (Sub.cons (t := 25) Look.eq (Sub.cons (t := 26) Look.eq (Sub.cons (t := 33) Look.eq (Sub.nil _)))))))) ?_
        refine KA.condD ?_ ?_
        · intro c33
          refine KA.region rfl ?_
          refine KOps.move ?_
          refine KOps.move ?_
          refine KOps.add (by first | omega | (simp only [List.length_append, List.length_singleton, List.length_set]; omega)) (by first | omega | (simp only [List.length_append, List.length_singleton, List.length_set]; omega)) ?_
          refine KOps.assign ?_
          refine KOps.done ?_
          refine blQ.normal ?_
          refine sqQ.normal ?_
          refine KA.sub (Sub.cons (t := 1) Look.eq (Sub.cons (t := 9) Look.eq (Sub.cons (t := 24) Look.eq (Sub.cons (t := 25) Look.eq (Sub.cons (t := 26) Look.eq (Sub.nil _)))))) ?_
          refine KA.region rfl ?_
          refine KOps.add (by first | omega | (simp only [List.length_append, List.length_singleton, List.length_set]; omega)) (by first | omega | (simp only [List.length_append, List.length_singleton, List.length_set]; omega)) ?_
          refine KOps.move ?_
          refine KOps.done ?_
          have hts := take_sum_succ (S := (shapeOf l f)) (i := i) (k := k.toNat) (by omega)
          rw [if_pos (by omega)] at hts
          exact lpQ.normal (i + 1) (by repeat (first | exact Sub.nil _ | refine Sub.cons Look.eq ?_ | refine Sub.cons (Eq.trans Look.eq (congrArg (AV.int _) (by first | omega | (dsimp only; omega)))) ?_ | refine Sub.cons (Eq.trans Look.eq (congrArg (AV.int _) (by rw [hts]))) ?_)) ⟨by omega, by rw [hts]; omega, hS⟩ (by omega)
        · intro c33
          refine KA.skip ?_
          refine blQ.normal ?_
          refine sqQ.normal ?_
          refine KA.sub (Sub.cons (t := 1) Look.eq (Sub.cons (t := 9) Look.eq (Sub.cons (t := 24) Look.eq (Sub.cons (t := 25) Look.eq (Sub.cons (t := 26) Look.eq (Sub.nil _)))))) ?_
          refine KA.region rfl ?_
          refine KOps.add (by first | omega | (simp only [List.length_append, List.length_singleton, List.length_set]; omega)) (by first | omega | (simp only [List.length_append, List.length_singleton, List.length_set]; omega)) ?_
          refine KOps.move ?_
          refine KOps.done ?_
          have hts := take_sum_succ (S := (shapeOf l f)) (i := i) (k := k.toNat) (by omega)
          rw [if_neg (by omega), Int.add_zero] at hts
          exact lpQ.normal (i + 1) (by repeat (first | exact Sub.nil _ | refine Sub.cons Look.eq ?_ | refine Sub.cons (Eq.trans Look.eq (congrArg (AV.int _) (by first | omega | (dsimp only; omega)))) ?_ | refine Sub.cons (Eq.trans Look.eq (congrArg (AV.int _) (by rw [hts]))) ?_)) ⟨by omega, by rw [hts]; omega, hS⟩ (by omega)
      · intro c27
        refine KA.exit ?_
        refine sqQ.exit ?_
        refine lpQ.exit ?_
        refine blQ.here ?_
        refine sqQ.normal ?_
        refine KA.sub (Sub.cons (t := 9) Look.eq (Sub.nil _)) ?_
        refine KA.seq ?_
        refine KA.region rfl ?_
        refine KOps.move ?_
        refine KOps.assign ?_
        refine KOps.assign ?_
        refine KOps.done ?_
        refine sqQ.normal ?_
        refine KA.sub (Sub.cons (t := 6) Look.eq (Sub.cons (t := 7) Look.eq (Sub.nil _))) ?_
        refine KA.ret ?_
        refine fnQ.retN ?_
        refine ⟨?_, hS.keeps⟩
        have hie : i = (shapeOf l f).length := by omega
        subst hie
        rw [List.take_length, shape_sum hch.2.2.1, mostE, if_pos c14, if_pos (by omega), if_pos (by omega)]

end Go.Am
