/-
  Contracts of layer 13: longest rows of the program.
  Conditions: none.
-/
import Derived.Test.YtenkokebdgekbaaCb
import Derived.Test.YtenkokebdgekbaaPt1
import Derived.Test.YtenkokebdgekbaaPt2
import Derived.Test.YtenkokebdgekbaaPt3
namespace Go.Am
open Go.Gr

theorem riseF_c {h : AHeap} {a b : Int} : ACalls Go.Proofs.Try.prog 63 [.int .i64 a, .int .i64 b] h (fun r h' => r = .bool (ris false a b) ∧ h = h') := by
  refine KA.fn 8 [.tmp 4] Go.Proofs.Try.func63 rfl (by decide) rfl rfl (Nat.le_of_ble_eq_true rfl) ?_
  show KA _ 8 _ _ [(0, .int .i64 a), (1, .int .i64 b)] _
  refine KA.seq ?_
  refine KA.region rfl ?_
  refine KOps.assign ?_
  refine KOps.done ?_
  refine sqQ.normal ?_
  refine KA.sub (Sub.cons (t := 0) Look.eq (Sub.cons (t := 1) Look.eq (Sub.nil _))) ?_
  refine KA.seq ?_
  refine KA.region rfl ?_
  refine KOps.move ?_
  refine KOps.move ?_
  refine KOps.lss ?_
  refine KOps.assign ?_
  refine KOps.done ?_
  refine sqQ.normal ?_
  refine KA.sub (Sub.cons (t := 4) Look.eq (Sub.nil _)) ?_
  refine KA.ret ?_
  refine fnQ.ret1 ?_
  exact ⟨rfl, rfl⟩

theorem fallF_c {h : AHeap} {a b : Int} : ACalls Go.Proofs.Try.prog 65 [.int .i64 a, .int .i64 b] h (fun r h' => r = .bool (ris true a b) ∧ h = h') := by
  refine KA.fn 8 [.tmp 4] Go.Proofs.Try.func65 rfl (by decide) rfl rfl (Nat.le_of_ble_eq_true rfl) ?_
  show KA _ 8 _ _ [(0, .int .i64 a), (1, .int .i64 b)] _
  refine KA.seq ?_
  refine KA.region rfl ?_
  refine KOps.assign ?_
  refine KOps.done ?_
  refine sqQ.normal ?_
  refine KA.sub (Sub.cons (t := 0) Look.eq (Sub.cons (t := 1) Look.eq (Sub.nil _))) ?_
  refine KA.seq ?_
  refine KA.region rfl ?_
  refine KOps.move ?_
  refine KOps.move ?_
  refine KOps.gtr ?_
  refine KOps.assign ?_
  refine KOps.done ?_
  refine sqQ.normal ?_
  refine KA.sub (Sub.cons (t := 4) Look.eq (Sub.nil _)) ?_
  refine KA.ret ?_
  refine fnQ.ret1 ?_
  exact ⟨rfl, rfl⟩

theorem foldl_max_snoc (l : List Int) (x m : Int) : (l ++ [x]).foldl max m = max (l.foldl max m) x := by simp
theorem repl_set (i : Nat) (L : List Int) (c : Int) : (List.replicate (i + 1) 0 ++ L).set i c = List.replicate i 0 ++ c :: L := by
  rw [List.replicate_succ', List.append_assoc, List.set_append_right _ _ (by simp)]; simp
theorem repl_set2 (i : Nat) (L : List Int) (m c : Int) : (List.replicate i 0 ++ m :: L).set i c = List.replicate i 0 ++ c :: L := by
  rw [List.set_append_right _ _ (by simp)]; simp
theorem repl_at (i : Nat) (L : List Int) (m : Int) : (List.replicate i 0 ++ m :: L).getD i 0 = m := by
  rw [List.getD_eq_getElem?_getD, List.getElem?_append_right (by simp)]; simp
theorem repl_at2 (i j : Nat) (L : List Int) (m : Int) : (List.replicate i 0 ++ m :: L).getD (i + 1 + j) 0 = L.getD j 0 := by
  rw [List.getD_eq_getElem?_getD, List.getElem?_append_right (by simp; omega), List.length_replicate, show i + 1 + j - i = j + 1 by omega, List.getElem?_cons_succ, ← List.getD_eq_getElem?_getD]
theorem drop_getD (l : List Int) (i j : Nat) : (l.drop i).getD j 0 = l.getD (i + j) 0 := by
  rw [List.getD_eq_getElem?_getD, List.getElem?_drop, ← List.getD_eq_getElem?_getD]
theorem zip_take_snoc {xs ys : List Int} (h : ys.length = xs.length) {j : Nat} (hj : j < xs.length) : (xs.zip ys).take (j + 1) = (xs.zip ys).take j ++ [(xs.getD j 0, ys.getD j 0)] := by
  rw [List.take_add_one]
  congr 1
  rw [List.getElem?_eq_getElem (by simp; omega), List.getElem_zip]
  simp [List.getD_eq_getElem?_getD, List.getElem?_eq_getElem hj, List.getElem?_eq_getElem (show j < ys.length by omega)]

theorem max_c {h : AHeap} {v : AV} {l : List Int} (hv : Row h v l) (hpos : 0 < l.length) (hlen : l.length ≤ 4294967296) : ACalls Go.Proofs.Try.prog 68 [v] h (fun r h' => r = .int .i64 (maxL l) ∧ h = h') := by
  refine KA.fn 25 [.tmp 2] Go.Proofs.Try.func68 rfl (by decide) rfl rfl (Nat.le_of_ble_eq_true rfl) ?_
  show KA _ 25 _ _ [(0, v)] _
  refine KA.seq ?_
  refine KA.region rfl ?_
  refine KOps.assign ?_
  refine KOps.done ?_
  refine sqQ.normal ?_
  refine KA.sub (Sub.cons (t := 0) Look.eq (Sub.nil _)) ?_
  refine KA.seq ?_
  refine KA.seq ?_
  refine KA.region rfl ?_
  refine KOps.move ?_
  refine KOps.lenI (by first | assumption | exact Rd.ext hS.keeps (by assumption)) ?_
  refine KOps.lss ?_
  refine KOps.done ?_
  refine sqQ.normal ?_
  refine KA.sub (Sub.cons (t := 0) Look.eq (Sub.cons (t := 7) Look.eq (Sub.nil _))) ?_
  refine KA.condD ?_ ?_
  · intro c7
    exfalso; omega
  · intro c7
    refine KA.skip ?_
    refine sqQ.normal ?_
    refine KA.sub (Sub.cons (t := 0) Look.eq (Sub.nil _)) ?_
    refine KA.seq ?_
    refine KA.region rfl ?_
    refine KOps.move ?_
    refine KOps.indexIJ (by first | assumption | exact Rd.ext hS.keeps (by assumption)) (j := 0) rfl (by first | omega | (simp; omega)) ?_
    intro p10 hp10
    refine KOps.loadI hp10 (by first | assumption | exact Rd.ext hS.keeps (by assumption)) (by first | omega | (simp; omega)) ?_
    refine KOps.assign ?_
    refine KOps.done ?_
    refine sqQ.normal ?_
    refine KA.sub (Sub.cons (t := 0) Look.eq (Sub.cons (t := 3) Look.eq (Sub.nil _))) ?_
    refine KA.seq ?_
    refine KA.seq ?_
    refine KA.region rfl ?_
    refine KOps.assign ?_
    refine KOps.done ?_
    refine sqQ.normal ?_
    refine KA.block ?_
    refine KA.loop (X := Nat) (fun i => [(0, v), (3, .int .i64 ((l.tail.take (i - 1)).foldl max (l.getD 0 0))), (4, .int .i64 (i : Int))]) (fun i h' => h = h' ∧ 1 ≤ i ∧ i ≤ l.length) (fun i => l.length - i) 1 (by repeat (first | exact Sub.nil _ | refine Sub.cons Look.eq ?_ | refine Sub.cons (Eq.trans Look.eq (congrArg (AV.int _) (by first | omega | (dsimp only; omega)))) ?_)) ⟨rfl, by omega, by omega⟩ ?_
    rintro i _ ⟨rfl, h1, hi⟩
    refine KA.seq ?_
    refine KA.seq ?_
    refine KA.region rfl ?_
    refine KOps.move ?_
    refine KOps.move ?_
    refine KOps.lenI (by first | assumption | exact Rd.ext hS.keeps (by assumption)) ?_
    refine KOps.lss ?_
    refine KOps.done ?_
    refine sqQ.normal ?_
    refine KA.sub (Sub.cons (t := 0) Look.eq (Sub.cons (t := 3) Look.eq (Sub.cons (t := 4) Look.eq (Sub.cons (t := 15) Look.eq (Sub.nil _))))) ?_
    refine KA.condD ?_ ?_
    · intro c15
      refine KA.skip ?_
      refine sqQ.normal ?_
      refine KA.sub (Sub.cons (t := 0) Look.eq (Sub.cons (t := 3) Look.eq (Sub.cons (t := 4) Look.eq (Sub.nil _)))) ?_
      refine KA.seq ?_
      refine KA.block ?_
      refine KA.region rfl ?_
      refine KOps.move ?_
      refine KOps.move ?_
      refine KOps.move ?_
      refine KOps.indexIJ (by first | assumption | exact Rd.ext hS.keeps (by assumption)) (j := i) rfl (by first | omega | (simp; omega)) ?_
      intro p21 hp21
      refine KOps.loadI hp21 (by first | assumption | exact Rd.ext hS.keeps (by assumption)) (by first | omega | (simp; omega)) ?_
      refine KOps.max ?_
      refine KOps.assign ?_
      refine KOps.done ?_
      refine blQ.normal ?_
      refine sqQ.normal ?_
      refine KA.sub (Sub.cons (t := 0) Look.eq (Sub.cons (t := 3) Look.eq (Sub.cons (t := 4) Look.eq (Sub.nil _)))) ?_
      refine KA.region rfl ?_
      refine KOps.move ?_
      refine KOps.add (by omega) (by omega) ?_
      refine KOps.assign ?_
      refine KOps.done ?_
      refine lpQ.normal (i + 1) (Sub.cons Look.eq (Sub.cons (Eq.trans Look.eq ?_) (Sub.cons Look.eq (Sub.nil _)))) ⟨rfl, by omega, by omega⟩ (by omega)
      obtain ⟨j, rfl⟩ : ∃ j, i = j + 1 := ⟨i - 1, by omega⟩
      have ht : l.tail.take (j + 1 + 1 - 1) = l.tail.take (j + 1 - 1) ++ [l.getD (j + 1) 0] := by
        rw [Nat.add_sub_cancel, Nat.add_sub_cancel, List.take_add_one]
        congr 1
        rw [List.getElem?_tail, List.getElem?_eq_getElem (by omega), List.getD_eq_getElem?_getD, List.getElem?_eq_getElem (by omega)]; rfl
      rw [ht, foldl_max_snoc]
    · intro c15
      refine KA.exit ?_
      refine sqQ.exit ?_
      refine lpQ.exit ?_
      refine blQ.here ?_
      refine sqQ.normal ?_
      refine KA.sub (Sub.cons (t := 3) Look.eq (Sub.nil _)) ?_
      refine KA.seq ?_
      refine KA.region rfl ?_
      refine KOps.move ?_
      refine KOps.assign ?_
      refine KOps.done ?_
      refine sqQ.normal ?_
      refine KA.sub (Sub.cons (t := 2) Look.eq (Sub.nil _)) ?_
      refine KA.ret ?_
      refine fnQ.ret1 ?_
      refine ⟨?_, rfl⟩
      rw [maxL, List.take_of_length_le (by rw [List.length_tail]; omega)]

theorem first_c {h : AHeap} {v : AV} {l : List Int} {f : Bool} {g : Nat} (hris : ∀ {h : AHeap} {a b : Int}, ACalls Go.Proofs.Try.prog g [.int .i64 a, .int .i64 b] h (fun r h' => r = .bool (ris f a b) ∧ h = h')) (hv : Row h v l) (hn : l.Nodup) (hpos : 0 < l.length) (hlen : l.length ≤ 9) : ACalls Go.Proofs.Try.prog 62 [v, .fn g []] h (fun r h' => St h h' [⟨r, 1, ints (bestOf l f), true⟩]) := by
  refine KA.fn 117 [.tmp 4] Go.Proofs.Try.func62 rfl (by decide) rfl rfl (Nat.le_of_ble_eq_true rfl) ?_
  have hS := St.refl h
  have hlg := lgL_length f l
  have hlr : ∀ j, j < l.length → 1 ≤ (lgL f l).getD j 0 ∧ (lgL f l).getD j 0 ≤ l.length := fun j hj => lg_range f l hj
  show KA _ 117 _ _ [(0, v), (1, .fn g [])] _
  refine KA.seq ?_
  refine KA.region rfl ?_
  refine KOps.assign ?_
  refine KOps.done ?_
  refine sqQ.normal ?_
  refine KA.sub (Sub.cons (t := 0) Look.eq (Sub.cons (t := 1) Look.eq (Sub.nil _))) ?_
  refine KA.seq ?_
  refine KA.region rfl ?_
  refine KOps.move ?_
  refine KOps.lenI (by first | assumption | exact Rd.ext hS.keeps (by assumption)) ?_
  refine KOps.assign ?_
  refine KOps.done ?_
  refine sqQ.normal ?_
  refine KA.sub (Sub.cons (t := 0) Look.eq (Sub.cons (t := 1) Look.eq (Sub.cons (t := 5) Look.eq (Sub.nil _)))) ?_
  refine KA.seq ?_
  refine KA.region rfl ?_
  refine KOps.move ?_
  refine KOps.makeI hS (by omega) (by omega) (by omega) ?_
  intro v17 h' hS
  refine KOps.assign ?_
  refine KOps.done ?_
  refine sqQ.normal ?_
  refine KA.sub (Sub.cons (t := 0) Look.eq (Sub.cons (t := 1) Look.eq (Sub.cons (t := 5) Look.eq (Sub.cons (t := 6) Look.eq (Sub.nil _))))) ?_
  refine KA.seq ?_
  refine KA.seq ?_
  refine KA.region rfl ?_
  refine KOps.move ?_
  refine KOps.sub (by omega) (by omega) ?_
  refine KOps.assign ?_
  refine KOps.done ?_
  refine sqQ.normal ?_
  refine KA.sub (Sub.cons (t := 0) Look.eq (Sub.cons (t := 1) Look.eq (Sub.cons (t := 5) Look.eq (Sub.cons (t := 6) Look.eq (Sub.cons (t := 7) Look.eq (Sub.nil _)))))) ?_
  refine KA.block ?_
  refine KA.loop (X := Nat) (fun q => [(0, v), (1, .fn g []), (5, .int .i64 (l.length : Int)), (6, v17), (7, .int .i64 ((q : Int) - 1))]) (fun q h' => q ≤ l.length ∧ St h h' [⟨v17, 1, ints (List.replicate q 0 ++ lgL f (l.drop q)), true⟩]) (fun q => q) l.length (by repeat (first | exact Sub.nil _ | refine Sub.cons Look.eq ?_ | refine Sub.cons (Eq.trans Look.eq (congrArg (AV.int _) (by first | omega | (dsimp only; omega)))) ?_)) ?_ ?_
  · refine ⟨Nat.le_refl _, ?_⟩
    rw [List.drop_length]
    simpa [lgL] using hS
  rintro q h1 ⟨hq, hS⟩
  have hal : (List.replicate q 0 ++ lgL f (l.drop q)).length = l.length := by rw [List.length_append, List.length_replicate, lgL_length, List.length_drop]; omega
  refine KA.seq ?_
  refine KA.seq ?_
  refine KA.region rfl ?_
  refine KOps.move ?_
  refine KOps.geq ?_
  refine KOps.done ?_
  refine sqQ.normal ?_
  refine KA.sub (Sub.cons (t := 0) Look.eq (Sub.cons (t := 1) Look.eq (Sub.cons (t := 5) Look.eq (Sub.cons (t := 6) Look.eq (Sub.cons (t := 7) Look.eq (Sub.cons (t := 21) Look.eq (Sub.nil _))))))) ?_
  refine KA.condD ?_ ?_
  · intro c21
    obtain ⟨i, rfl⟩ : ∃ i, q = i + 1 := ⟨q - 1, by omega⟩
    have hi1 : ((i + 1 : Nat) : Int) - 1 = (i : Int) := by omega
    rw [hi1]
    refine KA.skip ?_
    refine sqQ.normal ?_
    refine KA.sub (Sub.cons (t := 0) Look.eq (Sub.cons (t := 1) Look.eq (Sub.cons (t := 5) Look.eq (Sub.cons (t := 6) Look.eq (Sub.cons (t := 7) Look.eq (Sub.nil _)))))) ?_
    refine KA.seq ?_
    refine KA.block ?_
    refine KA.seq ?_
    refine KA.region rfl ?_
    refine KOps.move ?_
    refine KOps.move ?_
    refine KOps.indexIJ (hS.rd 0 rfl) (j := i) (by omega) (by first | omega | (simp; omega)) ?_
    intro p26 hp26
    refine KOps.storeI hS rfl (i := 0) rfl hp26 (by first | omega | (simp; omega)) ?_
    intro h' hS
    simp only [List.set_cons_zero, repl_set] at hS
    refine KOps.done ?_
    refine sqQ.normal ?_
    refine KA.sub (Sub.cons (t := 0) Look.eq (Sub.cons (t := 1) Look.eq (Sub.cons (t := 5) Look.eq (Sub.cons (t := 6) Look.eq (Sub.cons (t := 7) Look.eq (Sub.nil _)))))) ?_
    refine KA.seq ?_
    refine KA.region rfl ?_
    refine KOps.move ?_
    refine KOps.add (by omega) (by omega) ?_
    refine KOps.assign ?_
    refine KOps.done ?_
    refine sqQ.normal ?_
    refine KA.sub (Sub.cons (t := 0) Look.eq (Sub.cons (t := 1) Look.eq (Sub.cons (t := 5) Look.eq (Sub.cons (t := 6) Look.eq (Sub.cons (t := 7) Look.eq (Sub.cons (t := 8) Look.eq (Sub.nil _))))))) ?_
    refine KA.block ?_
    refine KA.loop (X := Nat) (fun j => [(0, v), (1, .fn g []), (5, .int .i64 (l.length : Int)), (6, v17), (7, .int .i64 (i : Int)), (8, .int .i64 ((i + 1 + j : Nat) : Int))]) (fun j h' => i + 1 + j ≤ l.length ∧ St h h' [⟨v17, 1, ints (List.replicate i 0 ++ (lgStep f (l.getD i 0) (((l.drop (i + 1)).zip (lgL f (l.drop (i + 1)))).take j) 1) :: lgL f (l.drop (i + 1))), true⟩]) (fun j => l.length - j) 0 (by repeat (first | exact Sub.nil _ | refine Sub.cons Look.eq ?_ | refine Sub.cons (Eq.trans Look.eq (congrArg (AV.int _) (by first | omega | (dsimp only; omega)))) ?_)) ⟨by omega, hS⟩ ?_
    rintro j h2 ⟨hj, hS⟩
    have ht := lgL_length f (l.drop (i + 1))
    have hdl : (l.drop (i + 1)).length = l.length - (i + 1) := List.length_drop
    have hal : (List.replicate i 0 ++ (lgStep f (l.getD i 0) (((l.drop (i + 1)).zip (lgL f (l.drop (i + 1)))).take j) 1) :: lgL f (l.drop (i + 1))).length = l.length := by rw [List.length_append, List.length_replicate, List.length_cons, ht]; omega
    have hr1 := repl_at i (lgL f (l.drop (i + 1))) (lgStep f (l.getD i 0) (((l.drop (i + 1)).zip (lgL f (l.drop (i + 1)))).take j) 1)
    have hr2 := repl_at2 i j (lgL f (l.drop (i + 1))) (lgStep f (l.getD i 0) (((l.drop (i + 1)).zip (lgL f (l.drop (i + 1)))).take j) 1)
    have hdg := drop_getD l (i + 1) j
    refine KA.seq ?_
    refine KA.seq ?_
    refine KA.region rfl ?_
    refine KOps.move ?_
    refine KOps.move ?_
    refine KOps.lss ?_
    refine KOps.done ?_
    refine sqQ.normal ?_
    refine KA.sub (Sub.cons (t := 0) Look.eq (Sub.cons (t := 1) Look.eq (Sub.cons (t := 5) Look.eq (Sub.cons (t := 6) Look.eq (Sub.cons (t := 7) Look.eq (Sub.cons (t := 8) Look.eq (Sub.cons (t := 31) Look.eq (Sub.nil _)))))))) ?_
    refine KA.condD ?_ ?_
    · intro c31
      have hlj : (lgL f (l.drop (i + 1))).getD j 0 = (lgL f l).getD (i + 1 + j) 0 := by rw [lgL_drop, drop_getD]
      have hlrj := hlr (i + 1 + j) (by omega)
      refine KA.skip ?_
      refine sqQ.normal ?_
      refine KA.sub (Sub.cons (t := 0) Look.eq (Sub.cons (t := 1) Look.eq (Sub.cons (t := 5) Look.eq (Sub.cons (t := 6) Look.eq (Sub.cons (t := 7) Look.eq (Sub.cons (t := 8) Look.eq (Sub.nil _))))))) ?_
      refine KA.seq ?_
      refine KA.block ?_
      refine KA.seq ?_
      refine KA.draw [] mixed rfl (by kernel_rfl) ?_
      refine KOps.move ?_
      refine KOps.move ?_
      refine KOps.move ?_
      refine KOps.indexIJ (by first | assumption | exact Rd.ext hS.keeps (by assumption)) (j := i) rfl (by first | omega | (simp; omega)) ?_
      intro p37 hp37
      refine KOps.loadI hp37 (by first | assumption | exact Rd.ext hS.keeps (by assumption)) (by first | omega | (simp; omega)) ?_
      refine KOps.move ?_
      refine KOps.move ?_
      refine KOps.indexIJ (by first | assumption | exact Rd.ext hS.keeps (by assumption)) (j := (i + 1 + j)) rfl (by first | omega | (simp; omega)) ?_
      intro p41 hp41
      refine KOps.loadI hp41 (by first | assumption | exact Rd.ext hS.keeps (by assumption)) (by first | omega | (simp; omega)) ?_
      refine KOps.call rfl (hris) ?_
      rintro _ _ ⟨rfl, rfl⟩
      refine KOps.done ?_
      refine sqQ.normal ?_
      refine KA.sub (Sub.cons (t := 0) Look.eq (Sub.cons (t := 1) Look.eq (Sub.cons (t := 5) Look.eq (Sub.cons (t := 6) Look.eq (Sub.cons (t := 7) Look.eq (Sub.cons (t := 8) Look.eq (Sub.cons (t := 43) Look.eq (Sub.nil _)))))))) ?_
      refine KA.condB ?_ ?_
      · intro c43
        refine KA.draw [] mixed rfl (by kernel_rfl) ?_
        refine KOps.move ?_
        refine KOps.move ?_
        refine KOps.move ?_
        refine KOps.move ?_
        refine KOps.indexIJ (hS.rd 0 rfl) (j := i) rfl (by first | omega | (simp; omega)) ?_
        intro p48 hp48
        refine KOps.loadI hp48 (hS.rd 0 rfl) (by first | omega | (simp; omega)) ?_
        refine KOps.move ?_
        refine KOps.move ?_
        refine KOps.indexIJ (hS.rd 0 rfl) (j := (i + 1 + j)) rfl (by first | omega | (simp; omega)) ?_
        intro p52 hp52
        refine KOps.loadI hp52 (hS.rd 0 rfl) (by first | omega | (simp; omega)) ?_
        refine KOps.add (by omega) (by omega) ?_
        refine KOps.max ?_
        refine KOps.indexIJ (hS.rd 0 rfl) (j := i) rfl (by first | omega | (simp; omega)) ?_
        intro p56 hp56
        refine KOps.storeI hS rfl (i := 0) rfl hp56 (by first | omega | (simp; omega)) ?_
        intro h' hS
        refine KOps.done ?_
        refine blQ.normal ?_
        refine sqQ.normal ?_
        refine KA.sub (Sub.cons (t := 0) Look.eq (Sub.cons (t := 1) Look.eq (Sub.cons (t := 5) Look.eq (Sub.cons (t := 6) Look.eq (Sub.cons (t := 7) Look.eq (Sub.cons (t := 8) Look.eq (Sub.nil _))))))) ?_
        refine KA.region rfl ?_
        refine KOps.move ?_
        refine KOps.add (by omega) (by omega) ?_
        refine KOps.assign ?_
        refine KOps.done ?_
        have hM : (lgStep f (l.getD i 0) (((l.drop (i + 1)).zip (lgL f (l.drop (i + 1)))).take (j + 1)) 1) = max (lgStep f (l.getD i 0) (((l.drop (i + 1)).zip (lgL f (l.drop (i + 1)))).take j) 1) (1 + (lgL f (l.drop (i + 1))).getD j 0) := by rw [zip_take_snoc ht (by omega), lgStep_snoc, hdg, if_pos c43]
        simp only [List.set_cons_zero, hr1, hr2, repl_set2] at hS
        rw [← hM] at hS
        exact lpQ.normal (j + 1) (by repeat (first | exact Sub.nil _ | refine Sub.cons Look.eq ?_ | refine Sub.cons (Eq.trans Look.eq (congrArg (AV.int _) (by first | omega | (dsimp only; omega)))) ?_)) ⟨by omega, hS⟩ (by omega)
      · intro c43
        refine KA.skip ?_
        refine blQ.normal ?_
        refine sqQ.normal ?_
        refine KA.sub (Sub.cons (t := 0) Look.eq (Sub.cons (t := 1) Look.eq (Sub.cons (t := 5) Look.eq (Sub.cons (t := 6) Look.eq (Sub.cons (t := 7) Look.eq (Sub.cons (t := 8) Look.eq (Sub.nil _))))))) ?_
        refine KA.region rfl ?_
        refine KOps.move ?_
        refine KOps.add (by omega) (by omega) ?_
        refine KOps.assign ?_
        refine KOps.done ?_
        have hM : (lgStep f (l.getD i 0) (((l.drop (i + 1)).zip (lgL f (l.drop (i + 1)))).take (j + 1)) 1) = (lgStep f (l.getD i 0) (((l.drop (i + 1)).zip (lgL f (l.drop (i + 1)))).take j) 1) := by rw [zip_take_snoc ht (by omega), lgStep_snoc, hdg, if_neg (by rw [c43]; exact Bool.false_ne_true)]
        rw [← hM] at hS
        exact lpQ.normal (j + 1) (by repeat (first | exact Sub.nil _ | refine Sub.cons Look.eq ?_ | refine Sub.cons (Eq.trans Look.eq (congrArg (AV.int _) (by first | omega | (dsimp only; omega)))) ?_)) ⟨by omega, hS⟩ (by omega)
    · intro c31
      have hj2 : i + 1 + j = l.length := by omega
      refine KA.exit ?_
      refine sqQ.exit ?_
      refine lpQ.exit ?_
      refine blQ.here ?_
      refine blQ.normal ?_
      refine sqQ.normal ?_
      refine KA.sub (Sub.cons (t := 0) Look.eq (Sub.cons (t := 1) Look.eq (Sub.cons (t := 5) Look.eq (Sub.cons (t := 6) Look.eq (Sub.cons (t := 7) Look.eq (Sub.nil _)))))) ?_
      refine KA.region rfl ?_
      refine KOps.move ?_
      refine KOps.sub (by omega) (by omega) ?_
      refine KOps.assign ?_
      refine KOps.done ?_
      have hz : (lgStep f (l.getD i 0) (((l.drop (i + 1)).zip (lgL f (l.drop (i + 1)))).take j) 1) :: lgL f (l.drop (i + 1)) = lgL f (l.drop i) := by
        rw [List.take_of_length_le (by rw [List.length_zip, ht, hdl]; omega), drop_cons (by omega : i < l.length)]; rfl
      rw [hz] at hS
      exact lpQ.normal i (by repeat (first | exact Sub.nil _ | refine Sub.cons Look.eq ?_ | refine Sub.cons (Eq.trans Look.eq (congrArg (AV.int _) (by first | omega | (dsimp only; omega)))) ?_)) ⟨by omega, hS⟩ (by omega)
  · intro c21
    have hq0 : q = 0 := by omega
    subst hq0
    simp only [List.replicate_zero, List.nil_append, List.drop_zero] at hS hal
    obtain ⟨hmx1, hmx2⟩ := maxL_is (l := lgL f l) (by omega)
    obtain ⟨m, hm⟩ : ∃ m : Nat, maxL (lgL f l) = (m : Int) := by
      obtain ⟨k, hk, he⟩ := hmx2
      exact ⟨((lgL f l).getD k 0).toNat, by have := hlr k (by omega); omega⟩
    rw [hm] at hmx1 hmx2
    have hm9 : m ≤ 9 := by
      obtain ⟨k, hk, he⟩ := hmx2
      have := hlr k (by omega)
      omega
    refine KA.exit ?_
    refine sqQ.exit ?_
    refine lpQ.exit ?_
    refine blQ.here ?_
    refine sqQ.normal ?_
    refine KA.sub (Sub.cons (t := 0) Look.eq (Sub.cons (t := 1) Look.eq (Sub.cons (t := 5) Look.eq (Sub.cons (t := 6) Look.eq (Sub.nil _))))) ?_
    refine KA.seq ?_
    refine KA.region rfl ?_
    refine KOps.assign ?_
    refine KOps.done ?_
    refine sqQ.normal ?_
    refine KA.seq ?_
    refine KA.seq ?_
    refine KA.region rfl ?_
    refine KOps.move ?_
    refine KOps.call rfl (max_c (hS.rd 0 rfl) (by first | omega | (simp; omega)) (by first | omega | (simp; omega))) ?_
    rintro _ _ ⟨rfl, rfl⟩
    rw [hm]
    refine KOps.assign ?_
    refine KOps.assign ?_
    refine KOps.done ?_
    refine sqQ.normal ?_
    refine KA.sub (Sub.cons (t := 0) Look.eq (Sub.cons (t := 1) Look.eq (Sub.cons (t := 5) Look.eq (Sub.cons (t := 6) Look.eq (Sub.cons (t := 9) Look.eq (Sub.cons (t := 10) Look.eq (Sub.cons (t := 11) Look.eq (Sub.nil _)))))))) ?_
    refine KA.block ?_
    refine KA.loop (X := Nat × Nat × AV × List Int) (fun y => [(0, v), (1, .fn g []), (5, .int .i64 (l.length : Int)), (6, v17), (9, y.2.2.1), (10, .int .i64 (y.1 : Int)), (11, .int .i64 ((y.2.1 : Int) - 1))]) (fun y h' => y.1 ≤ 9 ∧ y.2.1 ≤ l.length ∧ y.2.2.2.length + y.1 ≤ 9 ∧ Goes f l y.1 y.2.1 ∧ y.2.2.2 ++ grd f l y.1 y.2.1 = bestOf l f ∧ St h h' [⟨y.2.2.1, 1, ints y.2.2.2, true⟩, ⟨v17, 1, ints (lgL f l), true⟩]) (fun y => y.1) (m, 0, .nils, []) (by repeat (first | exact Sub.nil _ | refine Sub.cons Look.eq ?_ | refine Sub.cons (Eq.trans Look.eq (congrArg (AV.int _) (by first | omega | (dsimp only; omega)))) ?_)) ?_ ?_
    · refine ⟨hm9, Nat.zero_le _, by simpa using hm9, ?_, ?_, St.nil hS 1⟩
      · obtain ⟨k, hk, he⟩ := hmx2
        exact .inr ⟨k, by omega, okN_yes (Nat.zero_le _) he (.inl rfl)⟩
      · exact grd_is hn (fun k hk => hmx1 k (by omega)) (by obtain ⟨k, hk, he⟩ := hmx2; exact ⟨k, by omega, he⟩)
    rintro ⟨left, q, vo, out⟩ h3 ⟨hl9, hq, ho9, hgo, hres, hS⟩
    dsimp only at hl9 hq ho9 hgo hres hS ⊢
    refine KA.seq ?_
    refine KA.seq ?_
    refine KA.region rfl ?_
    refine KOps.move ?_
    refine KOps.gtr ?_
    refine KOps.done ?_
    refine sqQ.normal ?_
    refine KA.sub (Sub.cons (t := 0) Look.eq (Sub.cons (t := 1) Look.eq (Sub.cons (t := 5) Look.eq (Sub.cons (t := 6) Look.eq (Sub.cons (t := 9) Look.eq (Sub.cons (t := 10) Look.eq (Sub.cons (t := 11) Look.eq (Sub.cons (t := 60) Look.eq (Sub.nil _))))))))) ?_
    refine KA.condD ?_ ?_
    · intro c60
      obtain ⟨lf, rfl⟩ : ∃ lf, left = lf + 1 := ⟨left - 1, by omega⟩
      have hsel0 : selB l (okN f l (lf + 1) q) q = 0 := selB_low (fun k hk => okN_low hk)
      refine KA.skip ?_
      refine sqQ.normal ?_
      refine KA.sub (Sub.cons (t := 0) Look.eq (Sub.cons (t := 1) Look.eq (Sub.cons (t := 5) Look.eq (Sub.cons (t := 6) Look.eq (Sub.cons (t := 9) Look.eq (Sub.cons (t := 10) Look.eq (Sub.cons (t := 11) Look.eq (Sub.nil _)))))))) ?_
      refine KA.seq ?_
      refine KA.block ?_
      refine KA.seq ?_
      refine KA.region rfl ?_
      refine KOps.assign ?_
      refine KOps.done ?_
      refine sqQ.normal ?_
      refine KA.seq ?_
      refine KA.seq ?_
      refine KA.region rfl ?_
      refine KOps.move ?_
      refine KOps.add (by omega) (by omega) ?_
      refine KOps.assign ?_
      refine KOps.done ?_
      refine sqQ.normal ?_
      refine KA.sub (Sub.cons (t := 0) Look.eq (Sub.cons (t := 1) Look.eq (Sub.cons (t := 5) Look.eq (Sub.cons (t := 6) Look.eq (Sub.cons (t := 9) Look.eq (Sub.cons (t := 10) Look.eq (Sub.cons (t := 11) Look.eq (Sub.cons (t := 12) Look.eq (Sub.cons (t := 13) Look.eq (Sub.nil _)))))))))) ?_
      refine KA.block ?_
      refine KA.loop (X := Nat) (fun k => [(0, v), (1, .fn g []), (5, .int .i64 (l.length : Int)), (6, v17), (9, vo), (10, .int .i64 ((lf + 1 : Nat) : Int)), (11, .int .i64 ((q : Int) - 1)), (12, .int .i64 ((selB l (okN f l (lf + 1) q) k : Int) - 1)), (13, .int .i64 (k : Int))]) (fun k h' => h3 = h' ∧ q ≤ k ∧ k ≤ l.length) (fun k => l.length - k) q (by repeat (first | exact Sub.nil _ | refine Sub.cons Look.eq ?_ | refine Sub.cons (Eq.trans Look.eq (congrArg (AV.int _) (by first | omega | (dsimp only; omega)))) ?_ | refine Sub.cons (Eq.trans Look.eq (congrArg (AV.int _) (by rw [hsel0]; rfl))) ?_)) ⟨rfl, Nat.le_refl _, hq⟩ ?_
      rintro k _ ⟨rfl, hqk, hkl⟩
      have hsb := selB_is l (okN f l (lf + 1) q) k
      refine KA.seq ?_
      refine KA.seq ?_
      refine KA.region rfl ?_
      refine KOps.move ?_
      refine KOps.move ?_
      refine KOps.lss ?_
      refine KOps.done ?_
      refine sqQ.normal ?_
      refine KA.sub (Sub.cons (t := 0) Look.eq (Sub.cons (t := 1) Look.eq (Sub.cons (t := 5) Look.eq (Sub.cons (t := 6) Look.eq (Sub.cons (t := 9) Look.eq (Sub.cons (t := 10) Look.eq (Sub.cons (t := 11) Look.eq (Sub.cons (t := 12) Look.eq (Sub.cons (t := 13) Look.eq (Sub.cons (t := 67) Look.eq (Sub.nil _))))))))))) ?_
      refine KA.condD ?_ ?_
      · intro c67
        refine KA.skip ?_
        refine sqQ.normal ?_
        refine KA.sub (Sub.cons (t := 0) Look.eq (Sub.cons (t := 1) Look.eq (Sub.cons (t := 5) Look.eq (Sub.cons (t := 6) Look.eq (Sub.cons (t := 9) Look.eq (Sub.cons (t := 10) Look.eq (Sub.cons (t := 11) Look.eq (Sub.cons (t := 12) Look.eq (Sub.cons (t := 13) Look.eq (Sub.nil _)))))))))) ?_
        refine KA.seq ?_
        refine KA.block ?_
        refine KA.seq ?_
        refine KA.draw [] mixed rfl (by kernel_rfl) ?_
        refine KOps.move ?_
        refine KOps.move ?_
        refine KOps.indexIJ (hS.rd 1 rfl) (j := k) rfl (by first | omega | (simp; omega)) ?_
        intro p72 hp72
        refine KOps.loadI hp72 (hS.rd 1 rfl) (by first | omega | (simp; omega)) ?_
        refine KOps.move ?_
        refine KOps.eql ?_
        refine KOps.move ?_
        refine KOps.guardB (dj := 76) rfl rfl true false rfl ?_ ?_
        · intro g76
          have g76 := of_decide_eq_true g76
          refine KOps.move ?_
          refine KOps.guardYes (dj := 76) rfl rfl ?_
          refine KOps.lss ?_
          refine KOps.guardYes (dj := 76) rfl rfl ?_
          refine KOps.move ?_
          refine KOps.guardB (dj := 79) rfl rfl false true rfl ?_ ?_
          · intro g79
            have g79 := of_decide_eq_false g79
            refine KOps.move ?_
            refine KOps.guardYes (dj := 79) rfl rfl ?_
            refine KOps.move ?_
            refine KOps.guardYes (dj := 79) rfl rfl ?_
            refine KOps.move ?_
            refine KOps.guardYes (dj := 79) rfl rfl ?_
            refine KOps.indexIJ (by first | assumption | exact Rd.ext hS.keeps (by assumption)) (j := (q - 1)) (by omega) (by first | omega | (simp; omega)) ?_
            intro p83 hp83
            refine KOps.guardYes (dj := 79) rfl rfl ?_
            refine KOps.loadI hp83 (by first | assumption | exact Rd.ext hS.keeps (by assumption)) (by first | omega | (simp; omega)) ?_
            refine KOps.guardYes (dj := 79) rfl rfl ?_
            refine KOps.move ?_
            refine KOps.guardYes (dj := 79) rfl rfl ?_
            refine KOps.move ?_
            refine KOps.guardYes (dj := 79) rfl rfl ?_
            refine KOps.indexIJ (by first | assumption | exact Rd.ext hS.keeps (by assumption)) (j := k) rfl (by first | omega | (simp; omega)) ?_
            intro p87 hp87
            refine KOps.guardYes (dj := 79) rfl rfl ?_
            refine KOps.loadI hp87 (by first | assumption | exact Rd.ext hS.keeps (by assumption)) (by first | omega | (simp; omega)) ?_
            refine KOps.guardYes (dj := 79) rfl rfl ?_
            refine KOps.call rfl (hris) ?_
            rintro _ _ ⟨rfl, rfl⟩
            refine KOps.guardYes (dj := 76) rfl rfl ?_
            refine KOps.pickF ?_
            refine KOps.pickT ?_
            refine KOps.move ?_
            refine KOps.guardB (dj := 92) rfl rfl true false rfl ?_ ?_
            · intro g92
              refine KOps.move ?_
              refine KOps.guardYes (dj := 92) rfl rfl ?_
              refine KOps.lss ?_
              refine KOps.guardYes (dj := 92) rfl rfl ?_
              refine KOps.move ?_
              refine KOps.guardB (dj := 95) rfl rfl false true rfl ?_ ?_
              · intro g95
                have g95 := of_decide_eq_false g95
                refine KOps.move ?_
                refine KOps.guardYes (dj := 95) rfl rfl ?_
                refine KOps.move ?_
                refine KOps.guardYes (dj := 95) rfl rfl ?_
                refine KOps.indexIJ (by first | assumption | exact Rd.ext hS.keeps (by assumption)) (j := k) rfl (by first | omega | (simp; omega)) ?_
                intro p98 hp98
                refine KOps.guardYes (dj := 95) rfl rfl ?_
                refine KOps.loadI hp98 (by first | assumption | exact Rd.ext hS.keeps (by assumption)) (by first | omega | (simp; omega)) ?_
                refine KOps.guardYes (dj := 95) rfl rfl ?_
                refine KOps.move ?_
                refine KOps.guardYes (dj := 95) rfl rfl ?_
                refine KOps.move ?_
                refine KOps.guardYes (dj := 95) rfl rfl ?_
                refine KOps.indexIJ (by first | assumption | exact Rd.ext hS.keeps (by assumption)) (j := ((selB l (okN f l (lf + 1) q) k) - 1)) (by omega) (by first | omega | (simp; omega)) ?_
                intro p102 hp102
                refine KOps.guardYes (dj := 95) rfl rfl ?_
                refine KOps.loadI hp102 (by first | assumption | exact Rd.ext hS.keeps (by assumption)) (by first | omega | (simp; omega)) ?_
                refine KOps.guardYes (dj := 95) rfl rfl ?_
                refine KOps.lss ?_
                refine KOps.guardYes (dj := 92) rfl rfl ?_
                refine KOps.pickF ?_
                refine KOps.pickT ?_
                refine KOps.done ?_
                refine sqQ.normal ?_
                refine KA.sub (Sub.cons (t := 0) Look.eq (Sub.cons (t := 1) Look.eq (Sub.cons (t := 5) Look.eq (Sub.cons (t := 6) Look.eq (Sub.cons (t := 9) Look.eq (Sub.cons (t := 10) Look.eq (Sub.cons (t := 11) Look.eq (Sub.cons (t := 12) Look.eq (Sub.cons (t := 13) Look.eq (Sub.cons (t := 77) Look.eq (Sub.cons (t := 78) Look.eq (Sub.cons (t := 79) Look.eq (Sub.cons (t := 80) Look.eq (Sub.cons (t := 81) Look.eq (Sub.cons (t := 82) Look.eq (Sub.cons (t := 83) Look.eq (Sub.cons (t := 84) Look.eq (Sub.cons (t := 85) Look.eq (Sub.cons (t := 86) Look.eq (Sub.cons (t := 87) Look.eq (Sub.cons (t := 88) Look.eq (Sub.cons (t := 89) Look.eq (Sub.cons (t := 90) Look.eq (Sub.cons (t := 93) Look.eq (Sub.cons (t := 94) Look.eq (Sub.cons (t := 95) Look.eq (Sub.cons (t := 96) Look.eq (Sub.cons (t := 97) Look.eq (Sub.cons (t := 98) Look.eq (Sub.cons (t := 99) Look.eq (Sub.cons (t := 100) Look.eq (Sub.cons (t := 101) Look.eq (Sub.cons (t := 102) Look.eq (Sub.cons (t := 103) Look.eq (Sub.cons (t := 104) Look.eq (Sub.cons (t := 105) Look.eq (Sub.cons (t := 106) Look.eq (Sub.nil _)))))))))))))))))))))))))))))))))))))) ?_
                refine KA.condD ?_ ?_
                · intro c106
                  refine KA.region rfl ?_
                  refine KOps.move ?_
                  refine KOps.assign ?_
                  refine KOps.done ?_
                  refine blQ.normal ?_
                  refine sqQ.normal ?_
                  refine KA.sub (Sub.cons (t := 0) Look.eq (Sub.cons (t := 1) Look.eq (Sub.cons (t := 5) Look.eq (Sub.cons (t := 6) Look.eq (Sub.cons (t := 9) Look.eq (Sub.cons (t := 10) Look.eq (Sub.cons (t := 11) Look.eq (Sub.cons (t := 12) Look.eq (Sub.cons (t := 13) Look.eq (Sub.cons (t := 77) Look.eq (Sub.cons (t := 78) Look.eq (Sub.cons (t := 79) Look.eq (Sub.cons (t := 80) Look.eq (Sub.cons (t := 81) Look.eq (Sub.cons (t := 82) Look.eq (Sub.cons (t := 83) Look.eq (Sub.cons (t := 84) Look.eq (Sub.cons (t := 85) Look.eq (Sub.cons (t := 86) Look.eq (Sub.cons (t := 87) Look.eq (Sub.cons (t := 88) Look.eq (Sub.cons (t := 89) Look.eq (Sub.cons (t := 90) Look.eq (Sub.cons (t := 93) Look.eq (Sub.cons (t := 94) Look.eq (Sub.cons (t := 95) Look.eq (Sub.cons (t := 96) Look.eq (Sub.cons (t := 97) Look.eq (Sub.cons (t := 98) Look.eq (Sub.cons (t := 99) Look.eq (Sub.cons (t := 100) Look.eq (Sub.cons (t := 101) Look.eq (Sub.cons (t := 102) Look.eq (Sub.cons (t := 103) Look.eq (Sub.cons (t := 104) Look.eq (Sub.cons (t := 105) Look.eq (Sub.nil _))))))))))))))))))))))))))))))))))))) ?_
                  refine KA.region rfl ?_
                  refine KOps.move ?_
                  refine KOps.add (by omega) (by omega) ?_
                  refine KOps.assign ?_
                  refine KOps.done ?_
                  have hs : selB l (okN f l (lf + 1) q) (k + 1) = k + 1 := selB_yes (okN_yes hqk g76 (.inr g92)) (.inr c106)
                  exact lpQ.normal (k + 1) (by repeat (first | exact Sub.nil _ | refine Sub.cons Look.eq ?_ | refine Sub.cons (Eq.trans Look.eq (congrArg (AV.int _) (by first | omega | (dsimp only; omega)))) ?_ | refine Sub.cons (Eq.trans Look.eq (congrArg (AV.int _) (by rw [hs]; omega))) ?_ | refine Sub.cons (Eq.trans Look.eq (congrArg (AV.int _) (by rw [hs]))) ?_)) ⟨rfl, by omega, by omega⟩ (by omega)
                · intro c106
                  refine KA.skip ?_
                  refine blQ.normal ?_
                  refine sqQ.normal ?_
                  refine KA.sub (Sub.cons (t := 0) Look.eq (Sub.cons (t := 1) Look.eq (Sub.cons (t := 5) Look.eq (Sub.cons (t := 6) Look.eq (Sub.cons (t := 9) Look.eq (Sub.cons (t := 10) Look.eq (Sub.cons (t := 11) Look.eq (Sub.cons (t := 12) Look.eq (Sub.cons (t := 13) Look.eq (Sub.cons (t := 77) Look.eq (Sub.cons (t := 78) Look.eq (Sub.cons (t := 79) Look.eq (Sub.cons (t := 80) Look.eq (Sub.cons (t := 81) Look.eq (Sub.cons (t := 82) Look.eq (Sub.cons (t := 83) Look.eq (Sub.cons (t := 84) Look.eq (Sub.cons (t := 85) Look.eq (Sub.cons (t := 86) Look.eq (Sub.cons (t := 87) Look.eq (Sub.cons (t := 88) Look.eq (Sub.cons (t := 89) Look.eq (Sub.cons (t := 90) Look.eq (Sub.cons (t := 93) Look.eq (Sub.cons (t := 94) Look.eq (Sub.cons (t := 95) Look.eq (Sub.cons (t := 96) Look.eq (Sub.cons (t := 97) Look.eq (Sub.cons (t := 98) Look.eq (Sub.cons (t := 99) Look.eq (Sub.cons (t := 100) Look.eq (Sub.cons (t := 101) Look.eq (Sub.cons (t := 102) Look.eq (Sub.cons (t := 103) Look.eq (Sub.cons (t := 104) Look.eq (Sub.cons (t := 105) Look.eq (Sub.nil _))))))))))))))))))))))))))))))))))))) ?_
                  refine KA.region rfl ?_
                  refine KOps.move ?_
                  refine KOps.add (by omega) (by omega) ?_
                  refine KOps.assign ?_
                  refine KOps.done ?_
                  have hs : selB l (okN f l (lf + 1) q) (k + 1) = selB l (okN f l (lf + 1) q) k := selB_no2 (by omega) c106
                  exact lpQ.normal (k + 1) (by repeat (first | exact Sub.nil _ | refine Sub.cons Look.eq ?_ | refine Sub.cons (Eq.trans Look.eq (congrArg (AV.int _) (by first | omega | (dsimp only; omega)))) ?_ | refine Sub.cons (Eq.trans Look.eq (congrArg (AV.int _) (by rw [hs]; omega))) ?_ | refine Sub.cons (Eq.trans Look.eq (congrArg (AV.int _) (by rw [hs]))) ?_)) ⟨rfl, by omega, by omega⟩ (by omega)
              · intro g95
                have g95 := of_decide_eq_true g95
                refine KOps.guardNo (dj := 95) rfl rfl rfl ?_
                refine KOps.guardNo (dj := 95) rfl rfl rfl ?_
                refine KOps.guardNo (dj := 95) rfl rfl rfl ?_
                refine KOps.guardNo (dj := 95) rfl rfl rfl ?_
                refine KOps.guardNo (dj := 95) rfl rfl rfl ?_
                refine KOps.guardNo (dj := 95) rfl rfl rfl ?_
                refine KOps.guardNo (dj := 95) rfl rfl rfl ?_
                refine KOps.guardNo (dj := 95) rfl rfl rfl ?_
                refine KOps.guardYes (dj := 92) rfl rfl ?_
                refine KOps.pickT ?_
                refine KOps.pickT ?_
                refine KOps.done ?_
                refine sqQ.normal ?_
                refine KA.sub (Sub.cons (t := 0) Look.eq (Sub.cons (t := 1) Look.eq (Sub.cons (t := 5) Look.eq (Sub.cons (t := 6) Look.eq (Sub.cons (t := 9) Look.eq (Sub.cons (t := 10) Look.eq (Sub.cons (t := 11) Look.eq (Sub.cons (t := 12) Look.eq (Sub.cons (t := 13) Look.eq (Sub.cons (t := 77) Look.eq (Sub.cons (t := 78) Look.eq (Sub.cons (t := 79) Look.eq (Sub.cons (t := 80) Look.eq (Sub.cons (t := 81) Look.eq (Sub.cons (t := 82) Look.eq (Sub.cons (t := 83) Look.eq (Sub.cons (t := 84) Look.eq (Sub.cons (t := 85) Look.eq (Sub.cons (t := 86) Look.eq (Sub.cons (t := 87) Look.eq (Sub.cons (t := 88) Look.eq (Sub.cons (t := 89) Look.eq (Sub.cons (t := 90) Look.eq (Sub.cons (t := 93) Look.eq (Sub.cons (t := 94) Look.eq (Sub.cons (t := 95) Look.eq (Sub.cons (t := 96) Look.eq (Sub.cons (t := 97) Look.eq (Sub.cons (t := 98) Look.eq (Sub.cons (t := 99) Look.eq (Sub.cons (t := 100) Look.eq (Sub.cons (t := 101) Look.eq (Sub.cons (t := 102) Look.eq (Sub.cons (t := 103) Look.eq (Sub.cons (t := 104) Look.eq (Sub.cons (t := 105) Look.eq (Sub.cons (t := 106) Look.eq (Sub.nil _)))))))))))))))))))))))))))))))))))))) ?_
                refine KA.condT ?_
                refine KA.region rfl ?_
                refine KOps.move ?_
                refine KOps.assign ?_
                refine KOps.done ?_
                refine blQ.normal ?_
                refine sqQ.normal ?_
                refine KA.sub (Sub.cons (t := 0) Look.eq (Sub.cons (t := 1) Look.eq (Sub.cons (t := 5) Look.eq (Sub.cons (t := 6) Look.eq (Sub.cons (t := 9) Look.eq (Sub.cons (t := 10) Look.eq (Sub.cons (t := 11) Look.eq (Sub.cons (t := 12) Look.eq (Sub.cons (t := 13) Look.eq (Sub.cons (t := 77) Look.eq (Sub.cons (t := 78) Look.eq (Sub.cons (t := 79) Look.eq (Sub.cons (t := 80) Look.eq (Sub.cons (t := 81) Look.eq (Sub.cons (t := 82) Look.eq (Sub.cons (t := 83) Look.eq (Sub.cons (t := 84) Look.eq (Sub.cons (t := 85) Look.eq (Sub.cons (t := 86) Look.eq (Sub.cons (t := 87) Look.eq (Sub.cons (t := 88) Look.eq (Sub.cons (t := 89) Look.eq (Sub.cons (t := 90) Look.eq (Sub.cons (t := 93) Look.eq (Sub.cons (t := 94) Look.eq (Sub.cons (t := 95) Look.eq (Sub.cons (t := 96) Look.eq (Sub.cons (t := 97) Look.eq (Sub.cons (t := 98) Look.eq (Sub.cons (t := 99) Look.eq (Sub.cons (t := 100) Look.eq (Sub.cons (t := 101) Look.eq (Sub.cons (t := 102) Look.eq (Sub.cons (t := 103) Look.eq (Sub.cons (t := 104) Look.eq (Sub.cons (t := 105) Look.eq (Sub.nil _))))))))))))))))))))))))))))))))))))) ?_
                refine KA.region rfl ?_
                refine KOps.move ?_
                refine KOps.add (by omega) (by omega) ?_
                refine KOps.assign ?_
                refine KOps.done ?_
                have hs : selB l (okN f l (lf + 1) q) (k + 1) = k + 1 := selB_yes (okN_yes hqk g76 (.inr g92)) (.inl (by omega))
                exact lpQ.normal (k + 1) (by repeat (first | exact Sub.nil _ | refine Sub.cons Look.eq ?_ | refine Sub.cons (Eq.trans Look.eq (congrArg (AV.int _) (by first | omega | (dsimp only; omega)))) ?_ | refine Sub.cons (Eq.trans Look.eq (congrArg (AV.int _) (by rw [hs]; omega))) ?_ | refine Sub.cons (Eq.trans Look.eq (congrArg (AV.int _) (by rw [hs]))) ?_)) ⟨rfl, by omega, by omega⟩ (by omega)
            · intro g92
              refine KOps.guardNo (dj := 92) rfl rfl rfl ?_
              refine KOps.guardNo (dj := 92) rfl rfl rfl ?_
              refine KOps.guardTup (dj := 95) rfl rfl ?_
              refine KOps.guardTup (dj := 95) rfl rfl ?_
              refine KOps.guardTup (dj := 95) rfl rfl ?_
              refine KOps.guardTup (dj := 95) rfl rfl ?_
              refine KOps.guardTup (dj := 95) rfl rfl ?_
              refine KOps.guardTup (dj := 95) rfl rfl ?_
              refine KOps.guardTup (dj := 95) rfl rfl ?_
              refine KOps.guardTup (dj := 95) rfl rfl ?_
              refine KOps.guardTup (dj := 95) rfl rfl ?_
              refine KOps.guardNo (dj := 92) rfl rfl rfl ?_
              refine KOps.pickF ?_
              refine KOps.done ?_
              refine sqQ.normal ?_
              refine KA.sub (Sub.cons (t := 0) Look.eq (Sub.cons (t := 1) Look.eq (Sub.cons (t := 5) Look.eq (Sub.cons (t := 6) Look.eq (Sub.cons (t := 9) Look.eq (Sub.cons (t := 10) Look.eq (Sub.cons (t := 11) Look.eq (Sub.cons (t := 12) Look.eq (Sub.cons (t := 13) Look.eq (Sub.cons (t := 77) Look.eq (Sub.cons (t := 78) Look.eq (Sub.cons (t := 79) Look.eq (Sub.cons (t := 80) Look.eq (Sub.cons (t := 81) Look.eq (Sub.cons (t := 82) Look.eq (Sub.cons (t := 83) Look.eq (Sub.cons (t := 84) Look.eq (Sub.cons (t := 85) Look.eq (Sub.cons (t := 86) Look.eq (Sub.cons (t := 87) Look.eq (Sub.cons (t := 88) Look.eq (Sub.cons (t := 89) Look.eq (Sub.cons (t := 90) Look.eq (Sub.cons (t := 93) Look.eq (Sub.cons (t := 94) Look.eq (Sub.cons (t := 95) Look.eq (Sub.cons (t := 96) Look.eq (Sub.cons (t := 97) Look.eq (Sub.cons (t := 98) Look.eq (Sub.cons (t := 99) Look.eq (Sub.cons (t := 100) Look.eq (Sub.cons (t := 101) Look.eq (Sub.cons (t := 102) Look.eq (Sub.cons (t := 103) Look.eq (Sub.cons (t := 104) Look.eq (Sub.cons (t := 105) Look.eq (Sub.cons (t := 106) Look.eq (Sub.nil _)))))))))))))))))))))))))))))))))))))) ?_
              refine KA.condF ?_
              refine KA.skip ?_
              refine blQ.normal ?_
              refine sqQ.normal ?_
              refine KA.sub (Sub.cons (t := 0) Look.eq (Sub.cons (t := 1) Look.eq (Sub.cons (t := 5) Look.eq (Sub.cons (t := 6) Look.eq (Sub.cons (t := 9) Look.eq (Sub.cons (t := 10) Look.eq (Sub.cons (t := 11) Look.eq (Sub.cons (t := 12) Look.eq (Sub.cons (t := 13) Look.eq (Sub.cons (t := 77) Look.eq (Sub.cons (t := 78) Look.eq (Sub.cons (t := 79) Look.eq (Sub.cons (t := 80) Look.eq (Sub.cons (t := 81) Look.eq (Sub.cons (t := 82) Look.eq (Sub.cons (t := 83) Look.eq (Sub.cons (t := 84) Look.eq (Sub.cons (t := 85) Look.eq (Sub.cons (t := 86) Look.eq (Sub.cons (t := 87) Look.eq (Sub.cons (t := 88) Look.eq (Sub.cons (t := 89) Look.eq (Sub.cons (t := 90) Look.eq (Sub.cons (t := 93) Look.eq (Sub.cons (t := 94) Look.eq (Sub.cons (t := 95) Look.eq (Sub.cons (t := 96) Look.eq (Sub.cons (t := 97) Look.eq (Sub.cons (t := 98) Look.eq (Sub.cons (t := 99) Look.eq (Sub.cons (t := 100) Look.eq (Sub.cons (t := 101) Look.eq (Sub.cons (t := 102) Look.eq (Sub.cons (t := 103) Look.eq (Sub.cons (t := 104) Look.eq (Sub.cons (t := 105) Look.eq (Sub.nil _))))))))))))))))))))))))))))))))))))) ?_
              refine KA.region rfl ?_
              refine KOps.move ?_
              refine KOps.add (by omega) (by omega) ?_
              refine KOps.assign ?_
              refine KOps.done ?_
              have hs : selB l (okN f l (lf + 1) q) (k + 1) = selB l (okN f l (lf + 1) q) k := selB_no (okN_no2 (by omega) g92)
              exact lpQ.normal (k + 1) (by repeat (first | exact Sub.nil _ | refine Sub.cons Look.eq ?_ | refine Sub.cons (Eq.trans Look.eq (congrArg (AV.int _) (by first | omega | (dsimp only; omega)))) ?_ | refine Sub.cons (Eq.trans Look.eq (congrArg (AV.int _) (by rw [hs]; omega))) ?_ | refine Sub.cons (Eq.trans Look.eq (congrArg (AV.int _) (by rw [hs]))) ?_)) ⟨rfl, by omega, by omega⟩ (by omega)
          · intro g79
            have g79 := of_decide_eq_true g79
            refine KOps.guardNo (dj := 79) rfl rfl rfl ?_
            refine KOps.guardNo (dj := 79) rfl rfl rfl ?_
            refine KOps.guardNo (dj := 79) rfl rfl rfl ?_
            refine KOps.guardNo (dj := 79) rfl rfl rfl ?_
            refine KOps.guardNo (dj := 79) rfl rfl rfl ?_
            refine KOps.guardNo (dj := 79) rfl rfl rfl ?_
            refine KOps.guardNo (dj := 79) rfl rfl rfl ?_
            refine KOps.guardNo (dj := 79) rfl rfl rfl ?_
            refine KOps.guardNo (dj := 79) rfl rfl rfl ?_
            refine KOps.guardYes (dj := 76) rfl rfl ?_
            refine KOps.pickT ?_
            refine KOps.pickT ?_
            refine KOps.move ?_
            refine KOps.guardYes (dj := 92) rfl rfl ?_
            refine KOps.move ?_
            refine KOps.guardYes (dj := 92) rfl rfl ?_
            refine KOps.lss ?_
            refine KOps.guardYes (dj := 92) rfl rfl ?_
            refine KOps.move ?_
            refine KOps.guardB (dj := 95) rfl rfl false true rfl ?_ ?_
            · intro g95
              have g95 := of_decide_eq_false g95
              refine KOps.move ?_
              refine KOps.guardYes (dj := 95) rfl rfl ?_
              refine KOps.move ?_
              refine KOps.guardYes (dj := 95) rfl rfl ?_
              refine KOps.indexIJ (by first | assumption | exact Rd.ext hS.keeps (by assumption)) (j := k) rfl (by first | omega | (simp; omega)) ?_
              intro p98 hp98
              refine KOps.guardYes (dj := 95) rfl rfl ?_
              refine KOps.loadI hp98 (by first | assumption | exact Rd.ext hS.keeps (by assumption)) (by first | omega | (simp; omega)) ?_
              refine KOps.guardYes (dj := 95) rfl rfl ?_
              refine KOps.move ?_
              refine KOps.guardYes (dj := 95) rfl rfl ?_
              refine KOps.move ?_
              refine KOps.guardYes (dj := 95) rfl rfl ?_
              refine KOps.indexIJ (by first | assumption | exact Rd.ext hS.keeps (by assumption)) (j := ((selB l (okN f l (lf + 1) q) k) - 1)) (by omega) (by first | omega | (simp; omega)) ?_
              intro p102 hp102
              refine KOps.guardYes (dj := 95) rfl rfl ?_
              refine KOps.loadI hp102 (by first | assumption | exact Rd.ext hS.keeps (by assumption)) (by first | omega | (simp; omega)) ?_
              refine KOps.guardYes (dj := 95) rfl rfl ?_
              refine KOps.lss ?_
              refine KOps.guardYes (dj := 92) rfl rfl ?_
              refine KOps.pickF ?_
              refine KOps.pickT ?_
              refine KOps.done ?_
              refine sqQ.normal ?_
              refine KA.sub (Sub.cons (t := 0) Look.eq (Sub.cons (t := 1) Look.eq (Sub.cons (t := 5) Look.eq (Sub.cons (t := 6) Look.eq (Sub.cons (t := 9) Look.eq (Sub.cons (t := 10) Look.eq (Sub.cons (t := 11) Look.eq (Sub.cons (t := 12) Look.eq (Sub.cons (t := 13) Look.eq (Sub.cons (t := 77) Look.eq (Sub.cons (t := 78) Look.eq (Sub.cons (t := 79) Look.eq (Sub.cons (t := 80) Look.eq (Sub.cons (t := 81) Look.eq (Sub.cons (t := 82) Look.eq (Sub.cons (t := 83) Look.eq (Sub.cons (t := 84) Look.eq (Sub.cons (t := 85) Look.eq (Sub.cons (t := 86) Look.eq (Sub.cons (t := 87) Look.eq (Sub.cons (t := 88) Look.eq (Sub.cons (t := 89) Look.eq (Sub.cons (t := 90) Look.eq (Sub.cons (t := 93) Look.eq (Sub.cons (t := 94) Look.eq (Sub.cons (t := 95) Look.eq (Sub.cons (t := 96) Look.eq (Sub.cons (t := 97) Look.eq (Sub.cons (t := 98) Look.eq (Sub.cons (t := 99) Look.eq (Sub.cons (t := 100) Look.eq (Sub.cons (t := 101) Look.eq (Sub.cons (t := 102) Look.eq (Sub.cons (t := 103) Look.eq (Sub.cons (t := 104) Look.eq (Sub.cons (t := 105) Look.eq (Sub.cons (t := 106) Look.eq (Sub.nil _)))))))))))))))))))))))))))))))))))))) ?_
              refine KA.condD ?_ ?_
              · intro c106
                refine KA.region rfl ?_
                refine KOps.move ?_
                refine KOps.assign ?_
                refine KOps.done ?_
                refine blQ.normal ?_
                refine sqQ.normal ?_
                refine KA.sub (Sub.cons (t := 0) Look.eq (Sub.cons (t := 1) Look.eq (Sub.cons (t := 5) Look.eq (Sub.cons (t := 6) Look.eq (Sub.cons (t := 9) Look.eq (Sub.cons (t := 10) Look.eq (Sub.cons (t := 11) Look.eq (Sub.cons (t := 12) Look.eq (Sub.cons (t := 13) Look.eq (Sub.cons (t := 77) Look.eq (Sub.cons (t := 78) Look.eq (Sub.cons (t := 79) Look.eq (Sub.cons (t := 80) Look.eq (Sub.cons (t := 81) Look.eq (Sub.cons (t := 82) Look.eq (Sub.cons (t := 83) Look.eq (Sub.cons (t := 84) Look.eq (Sub.cons (t := 85) Look.eq (Sub.cons (t := 86) Look.eq (Sub.cons (t := 87) Look.eq (Sub.cons (t := 88) Look.eq (Sub.cons (t := 89) Look.eq (Sub.cons (t := 90) Look.eq (Sub.cons (t := 93) Look.eq (Sub.cons (t := 94) Look.eq (Sub.cons (t := 95) Look.eq (Sub.cons (t := 96) Look.eq (Sub.cons (t := 97) Look.eq (Sub.cons (t := 98) Look.eq (Sub.cons (t := 99) Look.eq (Sub.cons (t := 100) Look.eq (Sub.cons (t := 101) Look.eq (Sub.cons (t := 102) Look.eq (Sub.cons (t := 103) Look.eq (Sub.cons (t := 104) Look.eq (Sub.cons (t := 105) Look.eq (Sub.nil _))))))))))))))))))))))))))))))))))))) ?_
                refine KA.region rfl ?_
                refine KOps.move ?_
                refine KOps.add (by omega) (by omega) ?_
                refine KOps.assign ?_
                refine KOps.done ?_
                have hs : selB l (okN f l (lf + 1) q) (k + 1) = k + 1 := selB_yes (okN_yes hqk g76 (.inl (by omega))) (.inr c106)
                exact lpQ.normal (k + 1) (by repeat (first | exact Sub.nil _ | refine Sub.cons Look.eq ?_ | refine Sub.cons (Eq.trans Look.eq (congrArg (AV.int _) (by first | omega | (dsimp only; omega)))) ?_ | refine Sub.cons (Eq.trans Look.eq (congrArg (AV.int _) (by rw [hs]; omega))) ?_ | refine Sub.cons (Eq.trans Look.eq (congrArg (AV.int _) (by rw [hs]))) ?_)) ⟨rfl, by omega, by omega⟩ (by omega)
              · intro c106
                refine KA.skip ?_
                refine blQ.normal ?_
                refine sqQ.normal ?_
                refine KA.sub (Sub.cons (t := 0) Look.eq (Sub.cons (t := 1) Look.eq (Sub.cons (t := 5) Look.eq (Sub.cons (t := 6) Look.eq (Sub.cons (t := 9) Look.eq (Sub.cons (t := 10) Look.eq (Sub.cons (t := 11) Look.eq (Sub.cons (t := 12) Look.eq (Sub.cons (t := 13) Look.eq (Sub.cons (t := 77) Look.eq (Sub.cons (t := 78) Look.eq (Sub.cons (t := 79) Look.eq (Sub.cons (t := 80) Look.eq (Sub.cons (t := 81) Look.eq (Sub.cons (t := 82) Look.eq (Sub.cons (t := 83) Look.eq (Sub.cons (t := 84) Look.eq (Sub.cons (t := 85) Look.eq (Sub.cons (t := 86) Look.eq (Sub.cons (t := 87) Look.eq (Sub.cons (t := 88) Look.eq (Sub.cons (t := 89) Look.eq (Sub.cons (t := 90) Look.eq (Sub.cons (t := 93) Look.eq (Sub.cons (t := 94) Look.eq (Sub.cons (t := 95) Look.eq (Sub.cons (t := 96) Look.eq (Sub.cons (t := 97) Look.eq (Sub.cons (t := 98) Look.eq (Sub.cons (t := 99) Look.eq (Sub.cons (t := 100) Look.eq (Sub.cons (t := 101) Look.eq (Sub.cons (t := 102) Look.eq (Sub.cons (t := 103) Look.eq (Sub.cons (t := 104) Look.eq (Sub.cons (t := 105) Look.eq (Sub.nil _))))))))))))))))))))))))))))))))))))) ?_
                refine KA.region rfl ?_
                refine KOps.move ?_
                refine KOps.add (by omega) (by omega) ?_
                refine KOps.assign ?_
                refine KOps.done ?_
                have hs : selB l (okN f l (lf + 1) q) (k + 1) = selB l (okN f l (lf + 1) q) k := selB_no2 (by omega) c106
                exact lpQ.normal (k + 1) (by repeat (first | exact Sub.nil _ | refine Sub.cons Look.eq ?_ | refine Sub.cons (Eq.trans Look.eq (congrArg (AV.int _) (by first | omega | (dsimp only; omega)))) ?_ | refine Sub.cons (Eq.trans Look.eq (congrArg (AV.int _) (by rw [hs]; omega))) ?_ | refine Sub.cons (Eq.trans Look.eq (congrArg (AV.int _) (by rw [hs]))) ?_)) ⟨rfl, by omega, by omega⟩ (by omega)
            · intro g95
              have g95 := of_decide_eq_true g95
              refine KOps.guardNo (dj := 95) rfl rfl rfl ?_
              refine KOps.guardNo (dj := 95) rfl rfl rfl ?_
              refine KOps.guardNo (dj := 95) rfl rfl rfl ?_
              refine KOps.guardNo (dj := 95) rfl rfl rfl ?_
              refine KOps.guardNo (dj := 95) rfl rfl rfl ?_
              refine KOps.guardNo (dj := 95) rfl rfl rfl ?_
              refine KOps.guardNo (dj := 95) rfl rfl rfl ?_
              refine KOps.guardNo (dj := 95) rfl rfl rfl ?_
              refine KOps.guardYes (dj := 92) rfl rfl ?_
              refine KOps.pickT ?_
              refine KOps.pickT ?_
              refine KOps.done ?_
              refine sqQ.normal ?_
              refine KA.sub (Sub.cons (t := 0) Look.eq (Sub.cons (t := 1) Look.eq (Sub.cons (t := 5) Look.eq (Sub.cons (t := 6) Look.eq (Sub.cons (t := 9) Look.eq (Sub.cons (t := 10) Look.eq (Sub.cons (t := 11) Look.eq (Sub.cons (t := 12) Look.eq (Sub.cons (t := 13) Look.eq (Sub.cons (t := 77) Look.eq (Sub.cons (t := 78) Look.eq (Sub.cons (t := 79) Look.eq (Sub.cons (t := 80) Look.eq (Sub.cons (t := 81) Look.eq (Sub.cons (t := 82) Look.eq (Sub.cons (t := 83) Look.eq (Sub.cons (t := 84) Look.eq (Sub.cons (t := 85) Look.eq (Sub.cons (t := 86) Look.eq (Sub.cons (t := 87) Look.eq (Sub.cons (t := 88) Look.eq (Sub.cons (t := 89) Look.eq (Sub.cons (t := 90) Look.eq (Sub.cons (t := 93) Look.eq (Sub.cons (t := 94) Look.eq (Sub.cons (t := 95) Look.eq (Sub.cons (t := 96) Look.eq (Sub.cons (t := 97) Look.eq (Sub.cons (t := 98) Look.eq (Sub.cons (t := 99) Look.eq (Sub.cons (t := 100) Look.eq (Sub.cons (t := 101) Look.eq (Sub.cons (t := 102) Look.eq (Sub.cons (t := 103) Look.eq (Sub.cons (t := 104) Look.eq (Sub.cons (t := 105) Look.eq (Sub.cons (t := 106) Look.eq (Sub.nil _)))))))))))))))))))))))))))))))))))))) ?_
              refine KA.condT ?_
              refine KA.region rfl ?_
              refine KOps.move ?_
              refine KOps.assign ?_
              refine KOps.done ?_
              refine blQ.normal ?_
              refine sqQ.normal ?_
              refine KA.sub (Sub.cons (t := 0) Look.eq (Sub.cons (t := 1) Look.eq (Sub.cons (t := 5) Look.eq (Sub.cons (t := 6) Look.eq (Sub.cons (t := 9) Look.eq (Sub.cons (t := 10) Look.eq (Sub.cons (t := 11) Look.eq (Sub.cons (t := 12) Look.eq (Sub.cons (t := 13) Look.eq (Sub.cons (t := 77) Look.eq (Sub.cons (t := 78) Look.eq (Sub.cons (t := 79) Look.eq (Sub.cons (t := 80) Look.eq (Sub.cons (t := 81) Look.eq (Sub.cons (t := 82) Look.eq (Sub.cons (t := 83) Look.eq (Sub.cons (t := 84) Look.eq (Sub.cons (t := 85) Look.eq (Sub.cons (t := 86) Look.eq (Sub.cons (t := 87) Look.eq (Sub.cons (t := 88) Look.eq (Sub.cons (t := 89) Look.eq (Sub.cons (t := 90) Look.eq (Sub.cons (t := 93) Look.eq (Sub.cons (t := 94) Look.eq (Sub.cons (t := 95) Look.eq (Sub.cons (t := 96) Look.eq (Sub.cons (t := 97) Look.eq (Sub.cons (t := 98) Look.eq (Sub.cons (t := 99) Look.eq (Sub.cons (t := 100) Look.eq (Sub.cons (t := 101) Look.eq (Sub.cons (t := 102) Look.eq (Sub.cons (t := 103) Look.eq (Sub.cons (t := 104) Look.eq (Sub.cons (t := 105) Look.eq (Sub.nil _))))))))))))))))))))))))))))))))))))) ?_
              refine KA.region rfl ?_
              refine KOps.move ?_
              refine KOps.add (by omega) (by omega) ?_
              refine KOps.assign ?_
              refine KOps.done ?_
              have hs : selB l (okN f l (lf + 1) q) (k + 1) = k + 1 := selB_yes (okN_yes hqk g76 (.inl (by omega))) (.inl (by omega))
              exact lpQ.normal (k + 1) (by repeat (first | exact Sub.nil _ | refine Sub.cons Look.eq ?_ | refine Sub.cons (Eq.trans Look.eq (congrArg (AV.int _) (by first | omega | (dsimp only; omega)))) ?_ | refine Sub.cons (Eq.trans Look.eq (congrArg (AV.int _) (by rw [hs]; omega))) ?_ | refine Sub.cons (Eq.trans Look.eq (congrArg (AV.int _) (by rw [hs]))) ?_)) ⟨rfl, by omega, by omega⟩ (by omega)
        · intro g76
          have g76 := of_decide_eq_false g76
          refine KOps.guardNo (dj := 76) rfl rfl rfl ?_
          refine KOps.guardNo (dj := 76) rfl rfl rfl ?_
          refine KOps.guardTup (dj := 79) rfl rfl ?_
          refine KOps.guardTup (dj := 79) rfl rfl ?_
          refine KOps.guardTup (dj := 79) rfl rfl ?_
          refine KOps.guardTup (dj := 79) rfl rfl ?_
          refine KOps.guardTup (dj := 79) rfl rfl ?_
          refine KOps.guardTup (dj := 79) rfl rfl ?_
          refine KOps.guardTup (dj := 79) rfl rfl ?_
          refine KOps.guardTup (dj := 79) rfl rfl ?_
          refine KOps.guardTup (dj := 79) rfl rfl ?_
          refine KOps.guardTup (dj := 79) rfl rfl ?_
          refine KOps.guardNo (dj := 76) rfl rfl rfl ?_
          refine KOps.pickF ?_
          refine KOps.move ?_
          refine KOps.guardNo (dj := 92) rfl rfl rfl ?_
          refine KOps.guardNo (dj := 92) rfl rfl rfl ?_
          refine KOps.guardNo (dj := 92) rfl rfl rfl ?_
          refine KOps.guardTup (dj := 95) rfl rfl ?_
          refine KOps.guardTup (dj := 95) rfl rfl ?_
          refine KOps.guardTup (dj := 95) rfl rfl ?_
          refine KOps.guardTup (dj := 95) rfl rfl ?_
          refine KOps.guardTup (dj := 95) rfl rfl ?_
          refine KOps.guardTup (dj := 95) rfl rfl ?_
          refine KOps.guardTup (dj := 95) rfl rfl ?_
          refine KOps.guardTup (dj := 95) rfl rfl ?_
          refine KOps.guardTup (dj := 95) rfl rfl ?_
          refine KOps.guardNo (dj := 92) rfl rfl rfl ?_
          refine KOps.pickF ?_
          refine KOps.done ?_
          refine sqQ.normal ?_
          refine KA.sub (Sub.cons (t := 0) Look.eq (Sub.cons (t := 1) Look.eq (Sub.cons (t := 5) Look.eq (Sub.cons (t := 6) Look.eq (Sub.cons (t := 9) Look.eq (Sub.cons (t := 10) Look.eq (Sub.cons (t := 11) Look.eq (Sub.cons (t := 12) Look.eq (Sub.cons (t := 13) Look.eq (Sub.cons (t := 77) Look.eq (Sub.cons (t := 78) Look.eq (Sub.cons (t := 79) Look.eq (Sub.cons (t := 80) Look.eq (Sub.cons (t := 81) Look.eq (Sub.cons (t := 82) Look.eq (Sub.cons (t := 83) Look.eq (Sub.cons (t := 84) Look.eq (Sub.cons (t := 85) Look.eq (Sub.cons (t := 86) Look.eq (Sub.cons (t := 87) Look.eq (Sub.cons (t := 88) Look.eq (Sub.cons (t := 89) Look.eq (Sub.cons (t := 90) Look.eq (Sub.cons (t := 93) Look.eq (Sub.cons (t := 94) Look.eq (Sub.cons (t := 95) Look.eq (Sub.cons (t := 96) Look.eq (Sub.cons (t := 97) Look.eq (Sub.cons (t := 98) Look.eq (Sub.cons (t := 99) Look.eq (Sub.cons (t := 100) Look.eq (Sub.cons (t := 101) Look.eq (Sub.cons (t := 102) Look.eq (Sub.cons (t := 103) Look.eq (Sub.cons (t := 104) Look.eq (Sub.cons (t := 105) Look.eq (Sub.cons (t := 106) Look.eq (Sub.nil _)))))))))))))))))))))))))))))))))))))) ?_
          refine KA.condF ?_
          refine KA.skip ?_
          refine blQ.normal ?_
          refine sqQ.normal ?_
          refine KA.sub (Sub.cons (t := 0) Look.eq (Sub.cons (t := 1) Look.eq (Sub.cons (t := 5) Look.eq (Sub.cons (t := 6) Look.eq (Sub.cons (t := 9) Look.eq (Sub.cons (t := 10) Look.eq (Sub.cons (t := 11) Look.eq (Sub.cons (t := 12) Look.eq (Sub.cons (t := 13) Look.eq (Sub.cons (t := 77) Look.eq (Sub.cons (t := 78) Look.eq (Sub.cons (t := 79) Look.eq (Sub.cons (t := 80) Look.eq (Sub.cons (t := 81) Look.eq (Sub.cons (t := 82) Look.eq (Sub.cons (t := 83) Look.eq (Sub.cons (t := 84) Look.eq (Sub.cons (t := 85) Look.eq (Sub.cons (t := 86) Look.eq (Sub.cons (t := 87) Look.eq (Sub.cons (t := 88) Look.eq (Sub.cons (t := 89) Look.eq (Sub.cons (t := 90) Look.eq (Sub.cons (t := 93) Look.eq (Sub.cons (t := 94) Look.eq (Sub.cons (t := 95) Look.eq (Sub.cons (t := 96) Look.eq (Sub.cons (t := 97) Look.eq (Sub.cons (t := 98) Look.eq (Sub.cons (t := 99) Look.eq (Sub.cons (t := 100) Look.eq (Sub.cons (t := 101) Look.eq (Sub.cons (t := 102) Look.eq (Sub.cons (t := 103) Look.eq (Sub.cons (t := 104) Look.eq (Sub.cons (t := 105) Look.eq (Sub.nil _))))))))))))))))))))))))))))))))))))) ?_
          refine KA.region rfl ?_
          refine KOps.move ?_
          refine KOps.add (by omega) (by omega) ?_
          refine KOps.assign ?_
          refine KOps.done ?_
          have hs : selB l (okN f l (lf + 1) q) (k + 1) = selB l (okN f l (lf + 1) q) k := selB_no (okN_no g76)
          exact lpQ.normal (k + 1) (by repeat (first | exact Sub.nil _ | refine Sub.cons Look.eq ?_ | refine Sub.cons (Eq.trans Look.eq (congrArg (AV.int _) (by first | omega | (dsimp only; omega)))) ?_ | refine Sub.cons (Eq.trans Look.eq (congrArg (AV.int _) (by rw [hs]; omega))) ?_ | refine Sub.cons (Eq.trans Look.eq (congrArg (AV.int _) (by rw [hs]))) ?_)) ⟨rfl, by omega, by omega⟩ (by omega)
      · intro c67
        have hkn : k = l.length := by omega
        subst hkn
        obtain ⟨kb, hkb, hb1, hb2, hb3, hb4, hb5⟩ := hgo.next
        refine KA.exit ?_
        refine sqQ.exit ?_
        refine lpQ.exit ?_
        refine blQ.here ?_
        refine sqQ.normal ?_
        refine KA.sub (Sub.cons (t := 0) Look.eq (Sub.cons (t := 1) Look.eq (Sub.cons (t := 5) Look.eq (Sub.cons (t := 6) Look.eq (Sub.cons (t := 9) Look.eq (Sub.cons (t := 10) Look.eq (Sub.cons (t := 12) Look.eq (Sub.nil _)))))))) ?_
        refine KA.region rfl ?_
        refine KOps.move ?_
        refine KOps.move ?_
        refine KOps.move ?_
        refine KOps.indexIJ (by first | assumption | exact Rd.ext hS.keeps (by assumption)) (j := kb) (by omega) (by first | omega | (simp; omega)) ?_
        intro p111 hp111
        refine KOps.loadI hp111 (by first | assumption | exact Rd.ext hS.keeps (by assumption)) (by first | omega | (simp; omega)) ?_
        refine KOps.buildSlice hS rfl (by decide) rfl ?_
        intro v113 h' hS
        refine KOps.appendI hS (fun _ => rfl) (i := 0) rfl (by first | omega | (simp; omega)) ?_
        intro r114 h' hr114 hS
        refine KOps.move ?_
        refine KOps.assign ?_
        refine KOps.assign ?_
        refine KOps.done ?_
        refine blQ.normal ?_
        refine sqQ.normal ?_
        refine KA.sub (Sub.cons (t := 0) Look.eq (Sub.cons (t := 1) Look.eq (Sub.cons (t := 5) Look.eq (Sub.cons (t := 6) Look.eq (Sub.cons (t := 9) Look.eq (Sub.cons (t := 10) Look.eq (Sub.cons (t := 11) Look.eq (Sub.nil _)))))))) ?_
        refine KA.region rfl ?_
        refine KOps.move ?_
        refine KOps.sub (by omega) (by omega) ?_
        refine KOps.assign ?_
        refine KOps.done ?_
        refine lpQ.normal (lf, kb + 1, r114, out ++ [l.getD kb 0]) (by repeat (first | exact Sub.nil _ | refine Sub.cons Look.eq ?_ | refine Sub.cons (Eq.trans Look.eq (congrArg (AV.int _) (by first | omega | (dsimp only; omega)))) ?_)) ⟨by dsimp only; omega, by dsimp only; omega, ?_, hb5, ?_, hS⟩ (by dsimp only; omega)
        · simp only [List.length_append, List.length_singleton]; omega
        · rw [grd, hkb, Nat.add_sub_cancel] at hres
          simpa using hres
    · intro c60
      refine KA.exit ?_
      refine sqQ.exit ?_
      refine lpQ.exit ?_
      refine blQ.here ?_
      refine sqQ.normal ?_
      refine KA.sub (Sub.cons (t := 9) Look.eq (Sub.nil _)) ?_
      refine KA.seq ?_
      refine KA.region rfl ?_
      refine KOps.move ?_
      refine KOps.assign ?_
      refine KOps.done ?_
      refine sqQ.normal ?_
      refine KA.sub (Sub.cons (t := 4) Look.eq (Sub.nil _)) ?_
      refine KA.ret ?_
      refine fnQ.ret1 ?_
      have hl0 : left = 0 := by omega
      subst hl0
      simp only [grd, List.append_nil] at hres
      rw [hres] at hS
      exact St.keep (A := [_]) (B := [_]) hS

theorem rising_c {h : AHeap} {v : AV} {l : List Int} (hv : Row h v l) : ACalls Go.Proofs.Try.prog 19 [v] h (fun r h' => ∃ vo, r = .tup [vo, .int .i64 (checkE l)] ∧ St h h' [⟨vo, 1, ints (okE l [] (bestOf l false)), true⟩]) := by
  refine KA.fn 12 [.tmp 2, .tmp 3] Go.Proofs.Try.func19 rfl (by decide) rfl rfl (Nat.le_of_ble_eq_true rfl) ?_
  have hS := St.refl h
  show KA _ 12 _ _ [(0, v)] _
  refine KA.seq ?_
  refine KA.region rfl ?_
  refine KOps.assign ?_
  refine KOps.assign ?_
  refine KOps.done ?_
  refine sqQ.normal ?_
  refine KA.sub (Sub.cons (t := 0) Look.eq (Sub.nil _)) ?_
  refine KA.seq ?_
  refine KA.seq ?_
  refine KA.region rfl ?_
  refine KOps.move ?_
  refine KOps.call rfl (check_c (by first | assumption | exact Rd.ext hS.keeps (by assumption))) ?_
  rintro _ _ ⟨rfl, rfl⟩
  refine KOps.assign ?_
  refine KOps.done ?_
  refine sqQ.normal ?_
  refine KA.sub (Sub.cons (t := 0) Look.eq (Sub.cons (t := 4) Look.eq (Sub.nil _))) ?_
  refine KA.seq ?_
  refine KA.region rfl ?_
  refine KOps.move ?_
  refine KOps.neq ?_
  refine KOps.done ?_
  refine sqQ.normal ?_
  refine KA.sub (Sub.cons (t := 0) Look.eq (Sub.cons (t := 4) Look.eq (Sub.cons (t := 8) Look.eq (Sub.nil _)))) ?_
  refine KA.condN ?_ ?_
  · intro c8
    refine KA.seq ?_
    refine KA.region rfl ?_
    refine KOps.move ?_
    refine KOps.assign ?_
    refine KOps.assign ?_
    refine KOps.done ?_
    refine sqQ.normal ?_
    refine KA.sub (Sub.cons (t := 2) Look.eq (Sub.cons (t := 3) Look.eq (Sub.nil _))) ?_
    refine KA.ret ?_
    refine sqQ.ret ?_
    refine fnQ.retN ?_
    refine ⟨.nils, rfl, ?_⟩
    rw [okE_no c8]
    exact St.nil (St.refl h) 1
  · intro c8
    obtain ⟨hl0, hl9, hpk⟩ := checkE_ok c8
    refine KA.skip ?_
    refine sqQ.normal ?_
    refine KA.sub (Sub.cons (t := 0) Look.eq (Sub.nil _)) ?_
    refine KA.seq ?_
    refine KA.region rfl ?_
    refine KOps.move ?_
    refine KOps.call rfl (first_c (f := false) riseF_c (by first | assumption | exact Rd.ext hS.keeps (by assumption)) hpk.1 hl0 hl9) ?_
    rintro v11 h11 hS11
    have hS : St _ _ (_ :: _) := St.trans hS hS11
    refine KOps.assign ?_
    refine KOps.assign ?_
    refine KOps.done ?_
    refine sqQ.normal ?_
    refine KA.sub (Sub.cons (t := 2) Look.eq (Sub.cons (t := 3) Look.eq (Sub.nil _))) ?_
    refine KA.ret ?_
    refine fnQ.retN ?_
    refine ⟨v11, by rw [c8], ?_⟩
    rw [okE_yes c8]
    exact hS

theorem falling_c {h : AHeap} {v : AV} {l : List Int} (hv : Row h v l) : ACalls Go.Proofs.Try.prog 21 [v] h (fun r h' => ∃ vo, r = .tup [vo, .int .i64 (checkE l)] ∧ St h h' [⟨vo, 1, ints (okE l [] (bestOf l true)), true⟩]) := by
  refine KA.fn 12 [.tmp 2, .tmp 3] Go.Proofs.Try.func21 rfl (by decide) rfl rfl (Nat.le_of_ble_eq_true rfl) ?_
  have hS := St.refl h
  show KA _ 12 _ _ [(0, v)] _
  refine KA.seq ?_
  refine KA.region rfl ?_
  refine KOps.assign ?_
  refine KOps.assign ?_
  refine KOps.done ?_
  refine sqQ.normal ?_
  refine KA.sub (Sub.cons (t := 0) Look.eq (Sub.nil _)) ?_
  refine KA.seq ?_
  refine KA.seq ?_
  refine KA.region rfl ?_
  refine KOps.move ?_
  refine KOps.call rfl (check_c (by first | assumption | exact Rd.ext hS.keeps (by assumption))) ?_
  rintro _ _ ⟨rfl, rfl⟩
  refine KOps.assign ?_
  refine KOps.done ?_
  refine sqQ.normal ?_
  refine KA.sub (Sub.cons (t := 0) Look.eq (Sub.cons (t := 4) Look.eq (Sub.nil _))) ?_
  refine KA.seq ?_
  refine KA.region rfl ?_
  refine KOps.move ?_
  refine KOps.neq ?_
  refine KOps.done ?_
  refine sqQ.normal ?_
  refine KA.sub (Sub.cons (t := 0) Look.eq (Sub.cons (t := 4) Look.eq (Sub.cons (t := 8) Look.eq (Sub.nil _)))) ?_
  refine KA.condN ?_ ?_
  · intro c8
    refine KA.seq ?_
    refine KA.region rfl ?_
    refine KOps.move ?_
    refine KOps.assign ?_
    refine KOps.assign ?_
    refine KOps.done ?_
    refine sqQ.normal ?_
    refine KA.sub (Sub.cons (t := 2) Look.eq (Sub.cons (t := 3) Look.eq (Sub.nil _))) ?_
    refine KA.ret ?_
    refine sqQ.ret ?_
    refine fnQ.retN ?_
    refine ⟨.nils, rfl, ?_⟩
    rw [okE_no c8]
    exact St.nil (St.refl h) 1
  · intro c8
    obtain ⟨hl0, hl9, hpk⟩ := checkE_ok c8
    refine KA.skip ?_
    refine sqQ.normal ?_
    refine KA.sub (Sub.cons (t := 0) Look.eq (Sub.nil _)) ?_
    refine KA.seq ?_
    refine KA.region rfl ?_
    refine KOps.move ?_
    refine KOps.call rfl (first_c (f := true) fallF_c (by first | assumption | exact Rd.ext hS.keeps (by assumption)) hpk.1 hl0 hl9) ?_
    rintro v11 h11 hS11
    have hS : St _ _ (_ :: _) := St.trans hS hS11
    refine KOps.assign ?_
    refine KOps.assign ?_
    refine KOps.done ?_
    refine sqQ.normal ?_
    refine KA.sub (Sub.cons (t := 2) Look.eq (Sub.cons (t := 3) Look.eq (Sub.nil _))) ?_
    refine KA.ret ?_
    refine fnQ.retN ?_
    refine ⟨v11, by rw [c8], ?_⟩
    rw [okE_yes c8]
    exact hS

end Go.Am
