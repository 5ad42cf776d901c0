/-
  Contracts of the small functions of layer 13.
  Conditions: none.
-/
import Derived.Test.YtenkokebdgekbaaTy
import Derived.Test.YtenkokebdgekbaaAmC
namespace Go.Am
theorem getD_mem {l : List Int} {i : Nat} (h : i < l.length) : l.getD i 0 ∈ l := by
  rw [List.getD_eq_getElem?_getD, List.getElem?_eq_getElem h]; exact List.getElem_mem h
theorem mem_getD {l : List Int} {x : Int} (h : x ∈ l) : ∃ i, i < l.length ∧ l.getD i 0 = x := by
  obtain ⟨i, hi, he⟩ := List.getElem_of_mem h
  exact ⟨i, hi, by rw [List.getD_eq_getElem?_getD, List.getElem?_eq_getElem hi, Option.getD_some, he]⟩
/-- The error at a place of a pack. -/
def badAt (l : List Int) (i : Nat) : Option Int := if 0 ≤ l.getD i 0 ∧ l.getD i 0 ≤ l.length - 1 then (if l.getD i 0 ∈ l.take i then some 6 else none) else some 2
def eachE (l : List Int) : Int := ((List.range l.length).findSome? (badAt l)).getD 0
theorem eachE_none {l : List Int} (h : ∀ j, j < l.length → badAt l j = none) : eachE l = 0 := by
  rw [eachE, List.findSome?_eq_none_iff.2 (by intro x hx; exact h x (List.mem_range.1 hx))]; rfl
theorem eachE_at {l : List Int} {i : Nat} {e : Int} (hi : i < l.length) (h : ∀ j, j < i → badAt l j = none) (he : badAt l i = some e) : eachE l = e := by
  have hr : List.range l.length = List.range i ++ i :: (List.range' (i + 1) (l.length - i - 1)) := by
    have ha := List.range'_append_1 (s := 0) (m := i) (n := l.length - i - 1 + 1)
    rw [Nat.zero_add] at ha
    rw [List.range_eq_range', List.range_eq_range', ← List.range'_succ, ha]
    congr 1; omega
  rw [eachE, hr, List.findSome?_append, List.findSome?_eq_none_iff.2 (by intro x hx; exact h x (List.mem_range.1 hx))]
  simp [List.findSome?_cons, he]
theorem mixed : Go.Proofs.Try.prog.follows .mixedOrders = true := by kernel_rfl

theorem in_c {h : AHeap} {a b c : Int} : ACalls Go.Proofs.Try.prog 73 [.int .i64 a, .int .i64 b, .int .i64 c] h (fun r h' => r = .bool (decide (b ≤ a ∧ a ≤ c)) ∧ h = h') := by
  refine KA.fn 15 [.tmp 6] Go.Proofs.Try.func73 rfl (by decide) rfl rfl (Nat.le_of_ble_eq_true rfl) ?_
  show KA _ 15 _ _ [(0, .int .i64 a), (1, .int .i64 b), (2, .int .i64 c)] _
  refine KA.seq ?_
  refine KA.region rfl ?_
  refine KOps.assign ?_
  refine KOps.done ?_
  refine sqQ.normal ?_
  refine KA.sub (Sub.cons (t := 0) Look.eq (Sub.cons (t := 1) Look.eq (Sub.cons (t := 2) Look.eq (Sub.nil _)))) ?_
  refine KA.seq ?_
  refine KA.region rfl ?_
  refine KOps.move ?_
  refine KOps.move ?_
  refine KOps.geq ?_
  refine KOps.move ?_
  refine KOps.guardB (dj := 10) rfl rfl true false rfl ?_ ?_
  · intro g10
    have g10 := of_decide_eq_true g10
    refine KOps.move ?_
    refine KOps.guardYes (dj := 10) rfl rfl ?_
    refine KOps.move ?_
    refine KOps.guardYes (dj := 10) rfl rfl ?_
    refine KOps.leq ?_
    refine KOps.pickT ?_
    refine KOps.assign ?_
    refine KOps.done ?_
    refine sqQ.normal ?_
    refine KA.sub (Sub.cons (t := 6) Look.eq (Sub.nil _)) ?_
    refine KA.ret ?_
    refine fnQ.ret1 ?_
    exact ⟨by congr 1; exact decide_eq_decide.2 (by omega), rfl⟩
  · intro g10
    have g10 := of_decide_eq_false g10
    refine KOps.guardNo (dj := 10) rfl rfl rfl ?_
    refine KOps.guardNo (dj := 10) rfl rfl rfl ?_
    refine KOps.pickF ?_
    refine KOps.assign ?_
    refine KOps.done ?_
    refine sqQ.normal ?_
    refine KA.sub (Sub.cons (t := 6) Look.eq (Sub.nil _)) ?_
    refine KA.ret ?_
    refine fnQ.ret1 ?_
    exact ⟨by congr 1; exact (decide_eq_false (by omega)).symm, rfl⟩

theorem between_c {h : AHeap} {a b c : Int} : ACalls Go.Proofs.Try.prog 71 [.int .i64 a, .int .i64 b, .int .i64 c] h (fun r h' => r = .bool (decide (a ≤ b ∧ b ≤ c)) ∧ h = h') := by
  refine KA.fn 15 [.tmp 6] Go.Proofs.Try.func71 rfl (by decide) rfl rfl (Nat.le_of_ble_eq_true rfl) ?_
  show KA _ 15 _ _ [(0, .int .i64 a), (1, .int .i64 b), (2, .int .i64 c)] _
  refine KA.seq ?_
  refine KA.region rfl ?_
  refine KOps.assign ?_
  refine KOps.done ?_
  refine sqQ.normal ?_
  refine KA.sub (Sub.cons (t := 0) Look.eq (Sub.cons (t := 1) Look.eq (Sub.cons (t := 2) Look.eq (Sub.nil _)))) ?_
  refine KA.seq ?_
  refine KA.region rfl ?_
  refine KOps.move ?_
  refine KOps.move ?_
  refine KOps.leq ?_
  refine KOps.move ?_
  refine KOps.guardB (dj := 10) rfl rfl true false rfl ?_ ?_
  · intro g10
    have g10 := of_decide_eq_true g10
    refine KOps.move ?_
    refine KOps.guardYes (dj := 10) rfl rfl ?_
    refine KOps.move ?_
    refine KOps.guardYes (dj := 10) rfl rfl ?_
    refine KOps.leq ?_
    refine KOps.pickT ?_
    refine KOps.assign ?_
    refine KOps.done ?_
    refine sqQ.normal ?_
    refine KA.sub (Sub.cons (t := 6) Look.eq (Sub.nil _)) ?_
    refine KA.ret ?_
    refine fnQ.ret1 ?_
    exact ⟨by congr 1; exact decide_eq_decide.2 (by omega), rfl⟩
  · intro g10
    have g10 := of_decide_eq_false g10
    refine KOps.guardNo (dj := 10) rfl rfl rfl ?_
    refine KOps.guardNo (dj := 10) rfl rfl rfl ?_
    refine KOps.pickF ?_
    refine KOps.assign ?_
    refine KOps.done ?_
    refine sqQ.normal ?_
    refine KA.sub (Sub.cons (t := 6) Look.eq (Sub.nil _)) ?_
    refine KA.ret ?_
    refine fnQ.ret1 ?_
    exact ⟨by congr 1; exact (decide_eq_false (by omega)).symm, rfl⟩

theorem has_c {h : AHeap} {v : AV} {l : List Int} {x : Int} (hv : Row h v l) (hlen : l.length ≤ 4294967296) : ACalls Go.Proofs.Try.prog 80 [v, .int .i64 x] h (fun r h' => r = .bool (decide (x ∈ l)) ∧ h = h') := by
  refine KA.fn 18 [.tmp 4] Go.Proofs.Try.func80 rfl (by decide) rfl rfl (Nat.le_of_ble_eq_true rfl) ?_
  show KA _ 18 _ _ [(0, v), (1, .int .i64 x)] _
  refine KA.seq ?_
  refine KA.region rfl ?_
  refine KOps.assign ?_
  refine KOps.done ?_
  refine sqQ.normal ?_
  refine KA.sub (Sub.cons (t := 0) Look.eq (Sub.cons (t := 1) Look.eq (Sub.nil _))) ?_
  refine KA.seq ?_
  refine KA.seq ?_
  refine KA.region rfl ?_
  refine KOps.assign ?_
  refine KOps.done ?_
  refine sqQ.normal ?_
  refine KA.block ?_
  refine KA.loop (X := Nat) (fun i => [(0, v), (1, .int .i64 x), (5, .int .i64 (i : Int))]) (fun i h' => h = h' ∧ i ≤ l.length ∧ ∀ j, j < i → l.getD j 0 ≠ x) (fun i => l.length - i) 0 (by repeat (first | exact Sub.nil _ | refine Sub.cons Look.eq ?_)) ⟨rfl, by omega, by omega⟩ ?_
  rintro i _ ⟨rfl, hi, hne⟩
  refine KA.seq ?_
  refine KA.seq ?_
  refine KA.region rfl ?_
  refine KOps.move ?_
  refine KOps.move ?_
  refine KOps.lenI (by first | assumption | exact Rd.ext hS.keeps (by assumption) | exact hS.rd 0 rfl | exact hS.rd 1 rfl | exact hS.rd 2 rfl | exact hS.rd 3 rfl | exact hS.rd 4 rfl) ?_
  refine KOps.lss ?_
  refine KOps.done ?_
  refine sqQ.normal ?_
  refine KA.sub (Sub.cons (t := 0) Look.eq (Sub.cons (t := 1) Look.eq (Sub.cons (t := 5) Look.eq (Sub.cons (t := 9) Look.eq (Sub.nil _))))) ?_
  refine KA.condD ?_ ?_
  · intro c9
    refine KA.skip ?_
    refine sqQ.normal ?_
    refine KA.sub (Sub.cons (t := 0) Look.eq (Sub.cons (t := 1) Look.eq (Sub.cons (t := 5) Look.eq (Sub.nil _)))) ?_
    refine KA.seq ?_
    refine KA.block ?_
    refine KA.seq ?_
    refine KA.region rfl ?_
    refine KOps.move ?_
    refine KOps.move ?_
    refine KOps.indexI (by first | assumption | exact Rd.ext hS.keeps (by assumption) | exact hS.rd 0 rfl | exact hS.rd 1 rfl | exact hS.rd 2 rfl | exact hS.rd 3 rfl | exact hS.rd 4 rfl) (by omega) (by omega) ?_
    intro p14 hp14
    refine KOps.loadI hp14 (by first | assumption | exact Rd.ext hS.keeps (by assumption) | exact hS.rd 0 rfl | exact hS.rd 1 rfl | exact hS.rd 2 rfl | exact hS.rd 3 rfl | exact hS.rd 4 rfl) (by omega) ?_
    refine KOps.move ?_
    refine KOps.eql ?_
    refine KOps.done ?_
    refine sqQ.normal ?_
    refine KA.sub (Sub.cons (t := 0) Look.eq (Sub.cons (t := 1) Look.eq (Sub.cons (t := 5) Look.eq (Sub.cons (t := 17) Look.eq (Sub.nil _))))) ?_
    refine KA.condD ?_ ?_
    · intro c17
      refine KA.seq ?_
      refine KA.region rfl ?_
      refine KOps.assign ?_
      refine KOps.done ?_
      refine sqQ.normal ?_
      refine KA.sub (Sub.cons (t := 4) Look.eq (Sub.nil _)) ?_
      refine KA.ret ?_
      refine blQ.ret ?_
      refine sqQ.ret ?_
      refine lpQ.ret ?_
      refine blQ.ret ?_
      refine sqQ.ret ?_
      refine fnQ.ret1 ?_
      refine ⟨?_, rfl⟩; congr 1; symm; apply decide_eq_true; rw [← c17]; simp only [Int.toNat_natCast]; exact getD_mem (by omega)
    · intro c17
      refine KA.skip ?_
      refine blQ.normal ?_
      refine sqQ.normal ?_
      refine KA.sub (Sub.cons (t := 0) Look.eq (Sub.cons (t := 1) Look.eq (Sub.cons (t := 5) Look.eq (Sub.nil _)))) ?_
      refine KA.region rfl ?_
      refine KOps.move ?_
      refine KOps.add (by omega) (by omega) ?_
      refine KOps.assign ?_
      refine KOps.done ?_
      refine lpQ.normal (i + 1) (by repeat (first | exact Sub.nil _ | refine Sub.cons Look.eq ?_)) ⟨rfl, by omega, ?_⟩ (by omega)
      intro j hj; rcases Nat.lt_succ_iff_lt_or_eq.1 hj with h1 | rfl
      · exact hne j h1
      · simpa using c17
  · intro c9
    refine KA.exit ?_
    refine sqQ.exit ?_
    refine lpQ.exit ?_
    refine blQ.here ?_
    refine sqQ.normal ?_
    refine KA.sub (Sub.nil _) ?_
    refine KA.seq ?_
    refine KA.region rfl ?_
    refine KOps.assign ?_
    refine KOps.done ?_
    refine sqQ.normal ?_
    refine KA.ret ?_
    refine fnQ.ret1 ?_
    refine ⟨?_, rfl⟩; congr 1; symm; apply decide_eq_false; intro hm; obtain ⟨j, hj, hx⟩ := mem_getD hm; exact hne j (by omega) hx

theorem each_c {h : AHeap} {v : AV} {l : List Int} (hv : Row h v l) (hlen : l.length ≤ 4294967296) : ACalls Go.Proofs.Try.prog 67 [v] h (fun r h' => r = .int .i64 (eachE l) ∧ h = h') := by
  refine KA.fn 27 [.tmp 2] Go.Proofs.Try.func67 rfl (by decide) rfl rfl (Nat.le_of_ble_eq_true rfl) ?_
  show KA _ 27 _ _ [(0, v)] _
  refine KA.seq ?_
  refine KA.region rfl ?_
  refine KOps.assign ?_
  refine KOps.done ?_
  refine sqQ.normal ?_
  refine KA.sub (Sub.cons (t := 0) Look.eq (Sub.nil _)) ?_
  refine KA.seq ?_
  refine KA.seq ?_
  refine KA.region rfl ?_
  refine KOps.assign ?_
  refine KOps.done ?_
  refine sqQ.normal ?_
  refine KA.block ?_
  refine KA.loop (X := Nat) (fun i => [(0, v), (3, .int .i64 (i : Int))]) (fun i h' => h = h' ∧ i ≤ l.length ∧ ∀ j, j < i → badAt l j = none) (fun i => l.length - i) 0 (by repeat (first | exact Sub.nil _ | refine Sub.cons Look.eq ?_)) ⟨rfl, by omega, by omega⟩ ?_
  rintro i _ ⟨rfl, hi, he⟩
  refine KA.seq ?_
  refine KA.seq ?_
  refine KA.region rfl ?_
  refine KOps.move ?_
  refine KOps.move ?_
  refine KOps.lenI (by first | assumption | exact Rd.ext hS.keeps (by assumption) | exact hS.rd 0 rfl | exact hS.rd 1 rfl | exact hS.rd 2 rfl | exact hS.rd 3 rfl | exact hS.rd 4 rfl) ?_
  refine KOps.lss ?_
  refine KOps.done ?_
  refine sqQ.normal ?_
  refine KA.sub (Sub.cons (t := 0) Look.eq (Sub.cons (t := 3) Look.eq (Sub.cons (t := 7) Look.eq (Sub.nil _)))) ?_
  refine KA.condD ?_ ?_
  · intro c7
    refine KA.skip ?_
    refine sqQ.normal ?_
    refine KA.sub (Sub.cons (t := 0) Look.eq (Sub.cons (t := 3) Look.eq (Sub.nil _))) ?_
    refine KA.seq ?_
    refine KA.block ?_
    refine KA.seq ?_
    refine KA.seq ?_
    refine KA.region rfl ?_
    refine KOps.move ?_
    refine KOps.move ?_
    refine KOps.indexI (by first | assumption | exact Rd.ext hS.keeps (by assumption) | exact hS.rd 0 rfl | exact hS.rd 1 rfl | exact hS.rd 2 rfl | exact hS.rd 3 rfl | exact hS.rd 4 rfl) (by omega) (by omega) ?_
    intro p12 hp12
    refine KOps.loadI hp12 (by first | assumption | exact Rd.ext hS.keeps (by assumption) | exact hS.rd 0 rfl | exact hS.rd 1 rfl | exact hS.rd 2 rfl | exact hS.rd 3 rfl | exact hS.rd 4 rfl) (by omega) ?_
    refine KOps.move ?_
    refine KOps.lenI (by first | assumption | exact Rd.ext hS.keeps (by assumption) | exact hS.rd 0 rfl | exact hS.rd 1 rfl | exact hS.rd 2 rfl | exact hS.rd 3 rfl | exact hS.rd 4 rfl) ?_
    refine KOps.sub (by omega) (by omega) ?_
    refine KOps.call rfl (in_c) ?_
    rintro _ _ ⟨rfl, rfl⟩
    refine KOps.not ?_
    refine KOps.done ?_
    refine sqQ.normal ?_
    refine KA.sub (Sub.cons (t := 0) Look.eq (Sub.cons (t := 3) Look.eq (Sub.cons (t := 18) Look.eq (Sub.nil _)))) ?_
    refine KA.condN ?_ ?_
    · intro c18
      refine KA.seq ?_
      refine KA.region rfl ?_
      refine KOps.assign ?_
      refine KOps.done ?_
      refine sqQ.normal ?_
      refine KA.sub (Sub.cons (t := 2) Look.eq (Sub.nil _)) ?_
      refine KA.ret ?_
      refine sqQ.ret ?_
      refine blQ.ret ?_
      refine sqQ.ret ?_
      refine lpQ.ret ?_
      refine blQ.ret ?_
      refine sqQ.ret ?_
      refine fnQ.ret1 ?_
      refine ⟨?_, rfl⟩; rw [eachE_at (i := i) (e := 2) (by omega) he]; simp only [Int.toNat_natCast] at c18; rw [badAt, if_neg (by omega)]
    · intro c18
      refine KA.skip ?_
      refine sqQ.normal ?_
      refine KA.sub (Sub.cons (t := 0) Look.eq (Sub.cons (t := 3) Look.eq (Sub.nil _))) ?_
      refine KA.seq ?_
      refine KA.draw [] mixed rfl (by kernel_rfl) ?_
      refine KOps.move ?_
      refine KOps.move ?_
      refine KOps.sliceHi hv (m := l.length) (by simp) (by omega) (by omega) ?_
      intro v21 hv21
      have hv21 := Row.take hv hv21
      refine KOps.move ?_
      refine KOps.move ?_
      refine KOps.indexI (by first | assumption | exact Rd.ext hS.keeps (by assumption) | exact hS.rd 0 rfl | exact hS.rd 1 rfl | exact hS.rd 2 rfl | exact hS.rd 3 rfl | exact hS.rd 4 rfl) (by omega) (by omega) ?_
      intro p24 hp24
      refine KOps.loadI hp24 (by first | assumption | exact Rd.ext hS.keeps (by assumption) | exact hS.rd 0 rfl | exact hS.rd 1 rfl | exact hS.rd 2 rfl | exact hS.rd 3 rfl | exact hS.rd 4 rfl) (by omega) ?_
      refine KOps.call rfl (has_c (l := l.take i) (by first | assumption | exact Rd.ext hS.keeps (by assumption) | exact hS.rd 0 rfl | exact hS.rd 1 rfl | exact hS.rd 2 rfl | exact hS.rd 3 rfl | exact hS.rd 4 rfl) (by simp; omega)) ?_
      rintro _ _ ⟨rfl, rfl⟩
      refine KOps.done ?_
      refine sqQ.normal ?_
      refine KA.sub (Sub.cons (t := 0) Look.eq (Sub.cons (t := 3) Look.eq (Sub.cons (t := 26) Look.eq (Sub.nil _)))) ?_
      refine KA.condD ?_ ?_
      · intro c26
        refine KA.seq ?_
        refine KA.region rfl ?_
        refine KOps.assign ?_
        refine KOps.done ?_
        refine sqQ.normal ?_
        refine KA.sub (Sub.cons (t := 2) Look.eq (Sub.nil _)) ?_
        refine KA.ret ?_
        refine blQ.ret ?_
        refine sqQ.ret ?_
        refine lpQ.ret ?_
        refine blQ.ret ?_
        refine sqQ.ret ?_
        refine fnQ.ret1 ?_
        refine ⟨?_, rfl⟩; simp only [Int.toNat_natCast] at c18 c26; rw [eachE_at (i := i) (e := 6) (by omega) he]; rw [badAt, if_pos (by omega), if_pos c26]
      · intro c26
        refine KA.skip ?_
        refine blQ.normal ?_
        refine sqQ.normal ?_
        refine KA.sub (Sub.cons (t := 0) Look.eq (Sub.cons (t := 3) Look.eq (Sub.nil _))) ?_
        refine KA.region rfl ?_
        refine KOps.move ?_
        refine KOps.add (by omega) (by omega) ?_
        refine KOps.assign ?_
        refine KOps.done ?_
        refine lpQ.normal (i + 1) (by repeat (first | exact Sub.nil _ | refine Sub.cons Look.eq ?_)) ⟨rfl, by omega, ?_⟩ (by omega)
        intro j hj; rcases Nat.lt_succ_iff_lt_or_eq.1 hj with h1 | rfl
        · exact he j h1
        · simp only [Int.toNat_natCast] at c18 c26; rw [badAt, if_pos (by omega), if_neg c26]
  · intro c7
    refine KA.exit ?_
    refine sqQ.exit ?_
    refine lpQ.exit ?_
    refine blQ.here ?_
    refine sqQ.normal ?_
    refine KA.sub (Sub.nil _) ?_
    refine KA.seq ?_
    refine KA.region rfl ?_
    refine KOps.assign ?_
    refine KOps.done ?_
    refine sqQ.normal ?_
    refine KA.ret ?_
    refine fnQ.ret1 ?_
    refine ⟨?_, rfl⟩; rw [eachE_none (fun j hj => he j (by omega))]

def checkE (l : List Int) : Int := if l.length = 0 then 4 else if 9 < l.length then 3 else eachE l

theorem refCheck_c {h : AHeap} {v : AV} {l : List Int} (hv : Row h v l) (hlen : l.length ≤ 4294967296) : ACalls Go.Proofs.Try.prog 26 [v] h (fun r h' => r = .int .i64 (checkE l) ∧ h = h') := by
  refine KA.fn 11 [.tmp 2] Go.Proofs.Try.func26 rfl (by decide) rfl rfl (Nat.le_of_ble_eq_true rfl) ?_
  show KA _ 11 _ _ [(0, v)] _
  refine KA.seq ?_
  refine KA.region rfl ?_
  refine KOps.assign ?_
  refine KOps.done ?_
  refine sqQ.normal ?_
  refine KA.sub (Sub.cons (t := 0) Look.eq (Sub.nil _)) ?_
  refine KA.seq ?_
  refine KA.seq ?_
  refine KA.region rfl ?_
  refine KOps.move ?_
  refine KOps.lenI (by first | assumption | exact Rd.ext hS.keeps (by assumption) | exact hS.rd 0 rfl | exact hS.rd 1 rfl | exact hS.rd 2 rfl | exact hS.rd 3 rfl | exact hS.rd 4 rfl) ?_
  refine KOps.eql ?_
  refine KOps.done ?_
  refine sqQ.normal ?_
  refine KA.sub (Sub.cons (t := 0) Look.eq (Sub.cons (t := 5) Look.eq (Sub.nil _))) ?_
  refine KA.condD ?_ ?_
  · intro c5
    refine KA.seq ?_
    refine KA.region rfl ?_
    refine KOps.assign ?_
    refine KOps.done ?_
    refine sqQ.normal ?_
    refine KA.sub (Sub.cons (t := 2) Look.eq (Sub.nil _)) ?_
    refine KA.ret ?_
    refine sqQ.ret ?_
    refine fnQ.ret1 ?_
    exact ⟨by rw [checkE, if_pos (by omega)], rfl⟩
  · intro c5
    refine KA.skip ?_
    refine sqQ.normal ?_
    refine KA.sub (Sub.cons (t := 0) Look.eq (Sub.nil _)) ?_
    refine KA.seq ?_
    refine KA.seq ?_
    refine KA.region rfl ?_
    refine KOps.move ?_
    refine KOps.lenI (by first | assumption | exact Rd.ext hS.keeps (by assumption) | exact hS.rd 0 rfl | exact hS.rd 1 rfl | exact hS.rd 2 rfl | exact hS.rd 3 rfl | exact hS.rd 4 rfl) ?_
    refine KOps.gtr ?_
    refine KOps.done ?_
    refine sqQ.normal ?_
    refine KA.sub (Sub.cons (t := 0) Look.eq (Sub.cons (t := 8) Look.eq (Sub.nil _))) ?_
    refine KA.condD ?_ ?_
    · intro c8
      refine KA.seq ?_
      refine KA.region rfl ?_
      refine KOps.assign ?_
      refine KOps.done ?_
      refine sqQ.normal ?_
      refine KA.sub (Sub.cons (t := 2) Look.eq (Sub.nil _)) ?_
      refine KA.ret ?_
      refine sqQ.ret ?_
      refine fnQ.ret1 ?_
      exact ⟨by rw [checkE, if_neg (by omega), if_pos (by omega)], rfl⟩
    · intro c8
      refine KA.skip ?_
      refine sqQ.normal ?_
      refine KA.sub (Sub.cons (t := 0) Look.eq (Sub.nil _)) ?_
      refine KA.seq ?_
      refine KA.region rfl ?_
      refine KOps.move ?_
      refine KOps.call rfl (each_c (by first | assumption | exact Rd.ext hS.keeps (by assumption) | exact hS.rd 0 rfl | exact hS.rd 1 rfl | exact hS.rd 2 rfl | exact hS.rd 3 rfl | exact hS.rd 4 rfl) (by omega)) ?_
      rintro _ _ ⟨rfl, rfl⟩
      refine KOps.assign ?_
      refine KOps.done ?_
      refine sqQ.normal ?_
      refine KA.sub (Sub.cons (t := 2) Look.eq (Sub.nil _)) ?_
      refine KA.ret ?_
      refine fnQ.ret1 ?_
      exact ⟨by rw [checkE, if_neg (by omega), if_neg (by omega)], rfl⟩

def maskOf (l : List Int) : Nat := l.foldl (fun m c => m ||| 1 <<< c.toNat) 0
theorem snoc_ind {α : Type} {P : List α → Prop} (h0 : P []) (h1 : ∀ l x, P l → P (l ++ [x])) (l : List α) : P l := by
  have h : ∀ r : List α, P r.reverse := by
    intro r
    induction r with
    | nil => exact h0
    | cons x r ih => rw [List.reverse_cons]; exact h1 _ _ ih
  simpa using h l.reverse
theorem maskOf_snoc (l : List Int) (x : Int) : maskOf (l ++ [x]) = maskOf l ||| 1 <<< x.toNat := by simp [maskOf]
theorem maskOf_bit (l : List Int) (h : ∀ x ∈ l, 0 ≤ x) (c : Int) (hc : 0 ≤ c) : (maskOf l).testBit c.toNat = decide (c ∈ l) := by
  induction l using snoc_ind with
  | h0 => simp [maskOf]
  | h1 l x ih =>
    rw [maskOf_snoc, Nat.testBit_or, ih (fun y hy => h y (by simp [hy])), Nat.one_shiftLeft, Nat.testBit_two_pow]
    have hx := h x (by simp)
    have : (decide (x.toNat = c.toNat)) = decide (c = x) := decide_eq_decide.2 (by omega)
    rw [this]
    simp
theorem maskOf_lt (l : List Int) (h : ∀ x ∈ l, 0 ≤ x ∧ x < 9) : maskOf l < 512 := by
  induction l using snoc_ind with
  | h0 => simp [maskOf]
  | h1 l x ih =>
    rw [maskOf_snoc, Nat.one_shiftLeft]
    have hx := h x (by simp)
    exact Nat.or_lt_two_pow (n := 9) (ih (fun y hy => h y (by simp [hy]))) (Nat.pow_lt_pow_right (by decide) (by omega))
theorem u16_and : ∀ m : Nat, m < 512 → ∀ c : Nat, c < 9 → bits .and .u16 ((m : Int).fdiv (2 ^ min (c : Int).toNat (IntKind.bits .u16))) 1 = if m.testBit c then 1 else 0 := by decide +kernel
theorem u16_or : ∀ m : Nat, m < 512 → ∀ c : Nat, c < 9 → bits .or .u16 (m : Int) (IntKind.wrap .u16 (1 * 2 ^ min (c : Int).toNat (IntKind.bits .u16))) = ((m ||| 1 <<< c : Nat) : Int) := by decide +kernel
theorem mask_and {l : List Int} (hb : ∀ x ∈ l, 0 ≤ x ∧ x < 9) {c : Int} (h0 : 0 ≤ c) (h9 : c < 9) : bits .and .u16 ((maskOf l : Int).fdiv (2 ^ min c.toNat (IntKind.bits .u16))) 1 = if c ∈ l then 1 else 0 := by
  have h := u16_and (maskOf l) (maskOf_lt l hb) c.toNat (by omega)
  rw [maskOf_bit l (fun x hx => (hb x hx).1) c h0, Int.toNat_natCast] at h
  simpa only [decide_eq_true_eq] using h
theorem mask_in {l : List Int} (hb : ∀ x ∈ l, 0 ≤ x ∧ x < 9) {c : Int} (h0 : 0 ≤ c) (h9 : c < 9) (h : bits .and .u16 ((maskOf l : Int).fdiv (2 ^ min c.toNat (IntKind.bits .u16))) 1 = 1) : c ∈ l := by
  rw [mask_and hb h0 h9] at h
  split at h
  · assumption
  · cases h
theorem mask_not {l : List Int} (hb : ∀ x ∈ l, 0 ≤ x ∧ x < 9) {c : Int} (h0 : 0 ≤ c) (h9 : c < 9) (h : ¬ bits .and .u16 ((maskOf l : Int).fdiv (2 ^ min c.toNat (IntKind.bits .u16))) 1 = 1) : c ∉ l := by
  intro hc
  exact h (by rw [mask_and hb h0 h9, if_pos hc])
theorem mask_or {l : List Int} (hb : ∀ x ∈ l, 0 ≤ x ∧ x < 9) {c : Int} (h0 : 0 ≤ c) (h9 : c < 9) : AV.int .u16 (bits .or .u16 (maskOf l : Int) (IntKind.wrap .u16 (1 * 2 ^ min c.toNat (IntKind.bits .u16)))) = .int .u16 ((maskOf l ||| 1 <<< c.toNat : Nat) : Int) := by
  have h := u16_or (maskOf l) (maskOf_lt l hb) c.toNat (by omega)
  rw [Int.toNat_natCast] at h
  rw [h]
theorem take_snoc {l : List Int} {i : Nat} (h : i < l.length) : l.take (i + 1) = l.take i ++ [l.getD i 0] := by
  rw [List.take_add_one, List.getD_eq_getElem?_getD, List.getElem?_eq_getElem h]; rfl
theorem badAt_in {l : List Int} {i : Nat} (h : badAt l i = none) : 0 ≤ l.getD i 0 ∧ l.getD i 0 ≤ l.length - 1 ∧ l.getD i 0 ∉ l.take i := by
  unfold badAt at h
  split at h
  · rename_i hb
    split at h
    · cases h
    · exact ⟨hb.1, hb.2, ‹_›⟩
  · cases h
theorem take_in {l : List Int} {i : Nat} (hl : l.length ≤ 9) (he : ∀ j, j < i → badAt l j = none) : ∀ x ∈ l.take i, 0 ≤ x ∧ x < 9 := by
  intro x hx
  obtain ⟨j, hj, rfl⟩ := mem_getD hx
  rw [List.length_take] at hj
  have h := badAt_in (he j (by omega))
  have e : (l.take i).getD j 0 = l.getD j 0 := by simp [List.getD_eq_getElem?_getD, List.getElem?_take, show j < i by omega]
  rw [e]; omega

theorem eachP_c {h : AHeap} {v : AV} {l : List Int} (hv : Row h v l) (hlen : l.length ≤ 9) : ACalls Go.Proofs.Try.prog 66 [v] h (fun r h' => r = .int .i64 (eachE l) ∧ h = h') := by
  refine KA.fn 30 [.tmp 2] Go.Proofs.Try.func66 rfl (by decide) rfl rfl (Nat.le_of_ble_eq_true rfl) ?_
  show KA _ 30 _ _ [(0, v)] _
  refine KA.seq ?_
  refine KA.region rfl ?_
  refine KOps.assign ?_
  refine KOps.done ?_
  refine sqQ.normal ?_
  refine KA.sub (Sub.cons (t := 0) Look.eq (Sub.nil _)) ?_
  refine KA.seq ?_
  refine KA.region rfl ?_
  refine KOps.assign ?_
  refine KOps.done ?_
  refine sqQ.normal ?_
  refine KA.seq ?_
  refine KA.seq ?_
  refine KA.region rfl ?_
  refine KOps.move ?_
  refine KOps.lenI (by first | assumption | exact Rd.ext hS.keeps (by assumption) | exact hS.rd 0 rfl | exact hS.rd 1 rfl | exact hS.rd 2 rfl | exact hS.rd 3 rfl | exact hS.rd 4 rfl) ?_
  refine KOps.move ?_
  refine KOps.done ?_
  refine sqQ.normal ?_
  refine KA.block ?_
  refine KA.loop (X := Nat) (fun i => [(0, v), (3, .int .u16 (maskOf (l.take i) : Nat)), (6, v), (7, .int .i64 l.length), (8, .int .i64 (i : Int))]) (fun i h' => h = h' ∧ i ≤ l.length ∧ ∀ j, j < i → badAt l j = none) (fun i => l.length - i) 0 (by repeat (first | exact Sub.nil _ | refine Sub.cons Look.eq ?_)) ⟨rfl, by omega, by omega⟩ ?_
  rintro i _ ⟨rfl, hi, he⟩
  refine KA.seq ?_
  refine KA.region rfl ?_
  refine KOps.lss ?_
  refine KOps.done ?_
  refine sqQ.normal ?_
  refine KA.seq ?_
  refine KA.condD ?_ ?_
  · intro c9
    refine KA.skip ?_
    refine sqQ.normal ?_
    refine KA.sub (Sub.cons (t := 0) Look.eq (Sub.cons (t := 3) Look.eq (Sub.cons (t := 6) Look.eq (Sub.cons (t := 7) Look.eq (Sub.cons (t := 8) Look.eq (Sub.nil _)))))) ?_
    refine KA.seq ?_
    refine KA.block ?_
    refine KA.seq ?_
    refine KA.region rfl ?_
    refine KOps.indexI (by first | assumption | exact Rd.ext hS.keeps (by assumption) | exact hS.rd 0 rfl | exact hS.rd 1 rfl | exact hS.rd 2 rfl | exact hS.rd 3 rfl | exact hS.rd 4 rfl) (by omega) (by omega) ?_
    intro p10 hp10
    refine KOps.loadI hp10 (by first | assumption | exact Rd.ext hS.keeps (by assumption) | exact hS.rd 0 rfl | exact hS.rd 1 rfl | exact hS.rd 2 rfl | exact hS.rd 3 rfl | exact hS.rd 4 rfl) (by omega) ?_
    refine KOps.assign ?_
    refine KOps.done ?_
    refine sqQ.normal ?_
    refine KA.sub (Sub.cons (t := 0) Look.eq (Sub.cons (t := 3) Look.eq (Sub.cons (t := 5) Look.eq (Sub.cons (t := 6) Look.eq (Sub.cons (t := 7) Look.eq (Sub.cons (t := 8) Look.eq (Sub.nil _))))))) ?_
    refine KA.seq ?_
    refine KA.block ?_
    refine KA.seq ?_
    refine KA.region rfl ?_
    refine KOps.move ?_
    refine KOps.move ?_
    refine KOps.lenI (by first | assumption | exact Rd.ext hS.keeps (by assumption) | exact hS.rd 0 rfl | exact hS.rd 1 rfl | exact hS.rd 2 rfl | exact hS.rd 3 rfl | exact hS.rd 4 rfl) ?_
    refine KOps.sub (by omega) (by omega) ?_
    refine KOps.call rfl (between_c) ?_
    rintro _ _ ⟨rfl, rfl⟩
    refine KOps.not ?_
    refine KOps.assign ?_
    refine KOps.done ?_
    refine sqQ.normal ?_
    refine KA.sub (Sub.cons (t := 0) Look.eq (Sub.cons (t := 3) Look.eq (Sub.cons (t := 5) Look.eq (Sub.cons (t := 6) Look.eq (Sub.cons (t := 7) Look.eq (Sub.cons (t := 8) Look.eq (Sub.cons (t := 12) Look.eq (Sub.nil _)))))))) ?_
    refine KA.condN ?_ ?_
    · intro c12
      refine KA.seq ?_
      refine KA.region rfl ?_
      refine KOps.assign ?_
      refine KOps.done ?_
      refine sqQ.normal ?_
      refine KA.sub (Sub.cons (t := 2) Look.eq (Sub.nil _)) ?_
      refine KA.ret ?_
      refine blQ.ret ?_
      refine sqQ.ret ?_
      refine blQ.ret ?_
      refine sqQ.ret ?_
      refine lpQ.ret ?_
      refine blQ.ret ?_
      refine sqQ.ret ?_
      refine fnQ.ret1 ?_
      simp only [Int.toNat_natCast] at c12; exact ⟨by rw [eachE_at (i := i) (e := 2) (by omega) he (by rw [badAt, if_neg c12])], rfl⟩
    · intro c12
      refine KA.seq ?_
      refine KA.region rfl ?_
      refine KOps.move ?_
      refine KOps.move ?_
      refine KOps.shr (by omega) ?_
      refine KOps.bits (by simp) ?_
      refine KOps.eql ?_
      refine KOps.assign ?_
      refine KOps.done ?_
      refine sqQ.normal ?_
      refine KA.sub (Sub.cons (t := 0) Look.eq (Sub.cons (t := 3) Look.eq (Sub.cons (t := 5) Look.eq (Sub.cons (t := 6) Look.eq (Sub.cons (t := 7) Look.eq (Sub.cons (t := 8) Look.eq (Sub.cons (t := 19) Look.eq (Sub.nil _)))))))) ?_
      refine KA.condD ?_ ?_
      · intro c19
        refine KA.seq ?_
        refine KA.region rfl ?_
        refine KOps.assign ?_
        refine KOps.done ?_
        refine sqQ.normal ?_
        refine KA.sub (Sub.cons (t := 2) Look.eq (Sub.nil _)) ?_
        refine KA.ret ?_
        refine blQ.ret ?_
        refine sqQ.ret ?_
        refine blQ.ret ?_
        refine sqQ.ret ?_
        refine lpQ.ret ?_
        refine blQ.ret ?_
        refine sqQ.ret ?_
        refine fnQ.ret1 ?_
        simp only [Int.toNat_natCast] at c12 c19; have hb : ∀ x ∈ l.take i, 0 ≤ x ∧ x < 9 := take_in (by omega) he; exact ⟨by rw [eachE_at (i := i) (e := 6) (by omega) he (by rw [badAt, if_pos c12, if_pos (mask_in hb (by omega) (by omega) c19)])], rfl⟩
      · intro c19
        refine KA.skip ?_
        refine blQ.normal ?_
        refine sqQ.normal ?_
        refine KA.sub (Sub.cons (t := 0) Look.eq (Sub.cons (t := 3) Look.eq (Sub.cons (t := 5) Look.eq (Sub.cons (t := 6) Look.eq (Sub.cons (t := 7) Look.eq (Sub.cons (t := 8) Look.eq (Sub.nil _))))))) ?_
        refine KA.region rfl ?_
        refine KOps.move ?_
        refine KOps.move ?_
        refine KOps.shl (by omega) ?_
        refine KOps.bits (by simp) ?_
        refine KOps.assign ?_
        refine KOps.done ?_
        refine blQ.normal ?_
        refine sqQ.normal ?_
        refine KA.sub (Sub.cons (t := 0) Look.eq (Sub.cons (t := 3) Look.eq (Sub.cons (t := 6) Look.eq (Sub.cons (t := 7) Look.eq (Sub.cons (t := 8) Look.eq (Sub.nil _)))))) ?_
        refine KA.region rfl ?_
        refine KOps.add (by omega) (by omega) ?_
        refine KOps.move ?_
        refine KOps.done ?_
        simp only [Int.toNat_natCast] at c12 c19
        have hb : ∀ x ∈ l.take i, 0 ≤ x ∧ x < 9 := take_in (by omega) he
        have hc : badAt l i = none := by rw [badAt, if_pos c12, if_neg]; exact mask_not hb (by omega) (by omega) c19
        refine lpQ.normal (i + 1) (Sub.cons Look.eq (Sub.cons (by rw [take_snoc (by omega), maskOf_snoc]; exact Eq.trans Look.eq (mask_or (c := l.getD i 0) hb (by omega) (by omega))) (Sub.cons Look.eq (Sub.cons Look.eq (Sub.cons Look.eq (Sub.nil _)))))) ⟨rfl, by omega, ?_⟩ (by omega)
        intro j hj; rcases Nat.lt_succ_iff_lt_or_eq.1 hj with h1 | rfl
        · exact he j h1
        · exact hc
  · intro c9
    refine KA.exit ?_
    refine sqQ.exit ?_
    refine lpQ.exit ?_
    refine blQ.here ?_
    refine sqQ.normal ?_
    refine KA.sub (Sub.nil _) ?_
    refine KA.seq ?_
    refine KA.region rfl ?_
    refine KOps.assign ?_
    refine KOps.done ?_
    refine sqQ.normal ?_
    refine KA.ret ?_
    refine fnQ.ret1 ?_
    exact ⟨by rw [eachE_none (fun j hj => he j (by omega))], rfl⟩

theorem check_c {h : AHeap} {v : AV} {l : List Int} (hv : Row h v l) : ACalls Go.Proofs.Try.prog 25 [v] h (fun r h' => r = .int .i64 (checkE l) ∧ h = h') := by
  refine KA.fn 13 [.tmp 2] Go.Proofs.Try.func25 rfl (by decide) rfl rfl (Nat.le_of_ble_eq_true rfl) ?_
  show KA _ 13 _ _ [(0, v)] _
  refine KA.seq ?_
  refine KA.region rfl ?_
  refine KOps.assign ?_
  refine KOps.done ?_
  refine sqQ.normal ?_
  refine KA.sub (Sub.cons (t := 0) Look.eq (Sub.nil _)) ?_
  refine KA.seq ?_
  refine KA.block ?_
  refine KA.seq ?_
  refine KA.region rfl ?_
  refine KOps.move ?_
  refine KOps.lenI (by first | assumption | exact Rd.ext hS.keeps (by assumption) | exact hS.rd 0 rfl | exact hS.rd 1 rfl | exact hS.rd 2 rfl | exact hS.rd 3 rfl | exact hS.rd 4 rfl) ?_
  refine KOps.eql ?_
  refine KOps.assign ?_
  refine KOps.done ?_
  refine sqQ.normal ?_
  refine KA.sub (Sub.cons (t := 0) Look.eq (Sub.cons (t := 3) Look.eq (Sub.nil _))) ?_
  refine KA.condD ?_ ?_
  · intro c3
    refine KA.seq ?_
    refine KA.region rfl ?_
    refine KOps.assign ?_
    refine KOps.done ?_
    refine sqQ.normal ?_
    refine KA.sub (Sub.cons (t := 2) Look.eq (Sub.nil _)) ?_
    refine KA.ret ?_
    refine blQ.ret ?_
    refine sqQ.ret ?_
    refine fnQ.ret1 ?_
    exact ⟨by rw [checkE, if_pos (by omega)], rfl⟩
  · intro c3
    refine KA.seq ?_
    refine KA.region rfl ?_
    refine KOps.move ?_
    refine KOps.lenI (by first | assumption | exact Rd.ext hS.keeps (by assumption) | exact hS.rd 0 rfl | exact hS.rd 1 rfl | exact hS.rd 2 rfl | exact hS.rd 3 rfl | exact hS.rd 4 rfl) ?_
    refine KOps.gtr ?_
    refine KOps.assign ?_
    refine KOps.done ?_
    refine sqQ.normal ?_
    refine KA.sub (Sub.cons (t := 0) Look.eq (Sub.cons (t := 7) Look.eq (Sub.nil _))) ?_
    refine KA.condD ?_ ?_
    · intro c7
      refine KA.seq ?_
      refine KA.region rfl ?_
      refine KOps.assign ?_
      refine KOps.done ?_
      refine sqQ.normal ?_
      refine KA.sub (Sub.cons (t := 2) Look.eq (Sub.nil _)) ?_
      refine KA.ret ?_
      refine blQ.ret ?_
      refine sqQ.ret ?_
      refine fnQ.ret1 ?_
      exact ⟨by rw [checkE, if_neg (by omega), if_pos (by omega)], rfl⟩
    · intro c7
      refine KA.skip ?_
      refine blQ.normal ?_
      refine sqQ.normal ?_
      refine KA.sub (Sub.cons (t := 0) Look.eq (Sub.nil _)) ?_
      refine KA.seq ?_
      refine KA.region rfl ?_
      refine KOps.move ?_
      refine KOps.call rfl (eachP_c (by first | assumption | exact Rd.ext hS.keeps (by assumption) | exact hS.rd 0 rfl | exact hS.rd 1 rfl | exact hS.rd 2 rfl | exact hS.rd 3 rfl | exact hS.rd 4 rfl) (by omega)) ?_
      rintro _ _ ⟨rfl, rfl⟩
      refine KOps.assign ?_
      refine KOps.done ?_
      refine sqQ.normal ?_
      refine KA.sub (Sub.cons (t := 2) Look.eq (Sub.nil _)) ?_
      refine KA.ret ?_
      refine fnQ.ret1 ?_
      exact ⟨by rw [checkE, if_neg (by omega), if_neg (by omega)], rfl⟩

end Go.Am
