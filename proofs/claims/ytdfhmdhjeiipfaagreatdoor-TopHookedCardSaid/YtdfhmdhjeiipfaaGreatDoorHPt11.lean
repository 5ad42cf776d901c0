/-
  Contracts of the small functions of layer 13.
  Conditions: none.
-/
import Derived.Test.YtdfhmdhjeiipfaaGreatDoorGrA
import Derived.Test.YtdfhmdhjeiipfaaGreatDoorAmL
namespace Go.Am
set_option maxRecDepth 2000
theorem getD_mem13 {l : List Int} {i : Nat} (h : i < l.length) : l.getD i 0 ∈ l := by
  rw [List.getD_eq_getElem?_getD, List.getElem?_eq_getElem h]; exact List.getElem_mem h
theorem mem_getD {l : List Int} {x : Int} (h : x ∈ l) : ∃ i, i < l.length ∧ l.getD i 0 = x := by
  obtain ⟨i, hi, he⟩ := List.getElem_of_mem h
  exact ⟨i, hi, by rw [List.getD_eq_getElem?_getD, List.getElem?_eq_getElem hi, Option.getD_some, he]⟩
/-- The error at a place of a pack. -/
def badAt (l : List Int) (i : Nat) : Option Int := if 0 ≤ l.getD i 0 ∧ l.getD i 0 ≤ l.length - 1 then (if l.getD i 0 ∈ l.take i then some 6 else none) else some 2
def eachE (l : List Int) : Int := ((List.range l.length).findSome? (badAt l)).getD 0
theorem eachE_none {l : List Int} (h : ∀ j, j < l.length → badAt l j = none) : eachE l = 0 := by
  rw [eachE, List.findSome?_eq_none_iff.2 (by intro x hx; exact h x (List.mem_range.1 hx))]; rfl
theorem eachE_at {l : List Int} {i : Nat} {e : Int} (hi : i < l.length) (h : ∀ j, j < i → badAt l j = none) (he : badAt l i = some e) : eachE l = e := by
  have hr : List.range l.length = List.range i ++ i :: (List.range' (i + 1) (l.length - i - 1)) := by
    have ha := List.range'_append_1 (s := 0) (m := i) (n := l.length - i - 1 + 1)
    rw [Nat.zero_add] at ha
    rw [List.range_eq_range', List.range_eq_range', ← List.range'_succ, ha]
    congr 1; omega
  rw [eachE, hr, List.findSome?_append, List.findSome?_eq_none_iff.2 (by intro x hx; exact h x (List.mem_range.1 hx))]
  simp [List.findSome?_cons, he]
theorem mixed13 : Go.Proofs.Tryz.prog.follows .mixedOrders = true := by kernel_rfl

theorem between_c13 {h : AHeap} {a b c : Int} : ACalls Go.Proofs.Tryz.prog 44 [.int .i64 a, .int .i64 b, .int .i64 c] h (fun r h' => r = .bool (decide (a ≤ b ∧ b ≤ c)) ∧ h = h') := by
  refine KA.fn 15 [.tmp 6] Go.Proofs.Tryz.func44 rfl (by decide) rfl rfl (Nat.le_of_ble_eq_true rfl) ?_
  show KA _ 15 _ _ [(0, .int .i64 a), (1, .int .i64 b), (2, .int .i64 c)] _
  refine KA.seq ?_
  refine KA.region rfl ?_
  refine KOps.assign ?_
  refine KOps.done ?_
  refine sqQ.normal ?_
  refine KA.sub (Sub.cons (t := 0) Look.eq (Sub.cons (t := 1) Look.eq (Sub.cons (t := 2) Look.eq (Sub.nil _)))) ?_
  refine KA.seq ?_
  refine KA.region rfl ?_
  refine KOps.move ?_
  refine KOps.move ?_
  refine KOps.leq ?_
  refine KOps.move ?_
  refine KOps.guardB (dj := 10) rfl rfl true false rfl ?_ ?_
  · intro g10
    have g10 := of_decide_eq_true g10
    refine KOps.move ?_
    refine KOps.guardYes (dj := 10) rfl rfl ?_
    refine KOps.move ?_
    refine KOps.guardYes (dj := 10) rfl rfl ?_
    refine KOps.leq ?_
    refine KOps.pickT ?_
    refine KOps.assign ?_
    refine KOps.done ?_
    refine sqQ.normal ?_
    refine KA.sub (Sub.cons (t := 6) Look.eq (Sub.nil _)) ?_
    refine KA.ret ?_
    refine fnQ.ret1 ?_
    exact ⟨by congr 1; exact decide_eq_decide.2 (by omega), rfl⟩
  · intro g10
    have g10 := of_decide_eq_false g10
    refine KOps.guardNo (dj := 10) rfl rfl rfl ?_
    refine KOps.guardNo (dj := 10) rfl rfl rfl ?_
    refine KOps.pickF ?_
    refine KOps.assign ?_
    refine KOps.done ?_
    refine sqQ.normal ?_
    refine KA.sub (Sub.cons (t := 6) Look.eq (Sub.nil _)) ?_
    refine KA.ret ?_
    refine fnQ.ret1 ?_
    exact ⟨by congr 1; exact (decide_eq_false (by omega)).symm, rfl⟩

def checkE (l : List Int) : Int := if l.length = 0 then 4 else if 9 < l.length then 3 else eachE l

def maskOf (l : List Int) : Nat := l.foldl (fun m c => m ||| 1 <<< c.toNat) 0
theorem snoc_ind {α : Type} {P : List α → Prop} (h0 : P []) (h1 : ∀ l x, P l → P (l ++ [x])) (l : List α) : P l := by
  have h : ∀ r : List α, P r.reverse := by
    intro r
    induction r with
    | nil => exact h0
    | cons x r ih => rw [List.reverse_cons]; exact h1 _ _ ih
  simpa using h l.reverse
theorem maskOf_snoc (l : List Int) (x : Int) : maskOf (l ++ [x]) = maskOf l ||| 1 <<< x.toNat := by simp [maskOf]
theorem maskOf_bit (l : List Int) (h : ∀ x ∈ l, 0 ≤ x) (c : Int) (hc : 0 ≤ c) : (maskOf l).testBit c.toNat = decide (c ∈ l) := by
  induction l using snoc_ind with
  | h0 => simp [maskOf]
  | h1 l x ih =>
    rw [maskOf_snoc, Nat.testBit_or, ih (fun y hy => h y (by simp [hy])), Nat.one_shiftLeft, Nat.testBit_two_pow]
    have hx := h x (by simp)
    have : (decide (x.toNat = c.toNat)) = decide (c = x) := decide_eq_decide.2 (by omega)
    rw [this]
    simp
theorem maskOf_lt (l : List Int) (h : ∀ x ∈ l, 0 ≤ x ∧ x < 9) : maskOf l < 512 := by
  induction l using snoc_ind with
  | h0 => simp [maskOf]
  | h1 l x ih =>
    rw [maskOf_snoc, Nat.one_shiftLeft]
    have hx := h x (by simp)
    exact Nat.or_lt_two_pow (n := 9) (ih (fun y hy => h y (by simp [hy]))) (Nat.pow_lt_pow_right (by decide) (by omega))
theorem u16_and : ∀ m : Nat, m < 512 → ∀ c : Nat, c < 9 → bits .and .u16 ((m : Int).fdiv (2 ^ min (c : Int).toNat (IntKind.bits .u16))) 1 = if m.testBit c then 1 else 0 := by decide +kernel
theorem u16_or : ∀ m : Nat, m < 512 → ∀ c : Nat, c < 9 → bits .or .u16 (m : Int) (IntKind.wrap .u16 (1 * 2 ^ min (c : Int).toNat (IntKind.bits .u16))) = ((m ||| 1 <<< c : Nat) : Int) := by decide +kernel
theorem mask_and {l : List Int} (hb : ∀ x ∈ l, 0 ≤ x ∧ x < 9) {c : Int} (h0 : 0 ≤ c) (h9 : c < 9) : bits .and .u16 ((maskOf l : Int).fdiv (2 ^ min c.toNat (IntKind.bits .u16))) 1 = if c ∈ l then 1 else 0 := by
  have h := u16_and (maskOf l) (maskOf_lt l hb) c.toNat (by omega)
  rw [maskOf_bit l (fun x hx => (hb x hx).1) c h0, Int.toNat_natCast] at h
  simpa only [decide_eq_true_eq] using h
theorem mask_in {l : List Int} (hb : ∀ x ∈ l, 0 ≤ x ∧ x < 9) {c : Int} (h0 : 0 ≤ c) (h9 : c < 9) (h : bits .and .u16 ((maskOf l : Int).fdiv (2 ^ min c.toNat (IntKind.bits .u16))) 1 = 1) : c ∈ l := by
  rw [mask_and hb h0 h9] at h
  split at h
  · assumption
  · cases h
theorem mask_not {l : List Int} (hb : ∀ x ∈ l, 0 ≤ x ∧ x < 9) {c : Int} (h0 : 0 ≤ c) (h9 : c < 9) (h : ¬ bits .and .u16 ((maskOf l : Int).fdiv (2 ^ min c.toNat (IntKind.bits .u16))) 1 = 1) : c ∉ l := by
  intro hc
  exact h (by rw [mask_and hb h0 h9, if_pos hc])
theorem mask_or {l : List Int} (hb : ∀ x ∈ l, 0 ≤ x ∧ x < 9) {c : Int} (h0 : 0 ≤ c) (h9 : c < 9) : AV.int .u16 (bits .or .u16 (maskOf l : Int) (IntKind.wrap .u16 (1 * 2 ^ min c.toNat (IntKind.bits .u16)))) = .int .u16 ((maskOf l ||| 1 <<< c.toNat : Nat) : Int) := by
  have h := u16_or (maskOf l) (maskOf_lt l hb) c.toNat (by omega)
  rw [Int.toNat_natCast] at h
  rw [h]
theorem take_snoc {l : List Int} {i : Nat} (h : i < l.length) : l.take (i + 1) = l.take i ++ [l.getD i 0] := by
  rw [List.take_add_one, List.getD_eq_getElem?_getD, List.getElem?_eq_getElem h]; rfl
theorem badAt_in {l : List Int} {i : Nat} (h : badAt l i = none) : 0 ≤ l.getD i 0 ∧ l.getD i 0 ≤ l.length - 1 ∧ l.getD i 0 ∉ l.take i := by
  unfold badAt at h
  split at h
  · rename_i hb
    split at h
    · cases h
    · exact ⟨hb.1, hb.2, ‹_›⟩
  · cases h
theorem take_in {l : List Int} {i : Nat} (hl : l.length ≤ 9) (he : ∀ j, j < i → badAt l j = none) : ∀ x ∈ l.take i, 0 ≤ x ∧ x < 9 := by
  intro x hx
  obtain ⟨j, hj, rfl⟩ := mem_getD hx
  rw [List.length_take] at hj
  have h := badAt_in (he j (by omega))
  have e : (l.take i).getD j 0 = l.getD j 0 := by simp [List.getD_eq_getElem?_getD, List.getElem?_take, show j < i by omega]
  rw [e]; omega

theorem eachP_c {h : AHeap} {v : AV} {l : List Int} (hv : Row h v l) (hlen : l.length ≤ 9) : ACalls Go.Proofs.Tryz.prog 74 [v] h (fun r h' => r = .int .i64 (eachE l) ∧ h = h') := by
  refine KA.fn 30 [.tmp 2] Go.Proofs.Tryz.func74 rfl (by decide) rfl rfl (Nat.le_of_ble_eq_true rfl) ?_
  show KA _ 30 _ _ [(0, v)] _
  refine KA.seq ?_
  refine KA.region rfl ?_
  refine KOps.assign ?_
  refine KOps.done ?_
  refine sqQ.normal ?_
  refine KA.sub (Sub.cons (t := 0) Look.eq (Sub.nil _)) ?_
  refine KA.seq ?_
  refine KA.region rfl ?_
  refine KOps.assign ?_
  refine KOps.done ?_
  refine sqQ.normal ?_
  refine KA.seq ?_
  refine KA.seq ?_
  refine KA.region rfl ?_
  refine KOps.move ?_
  refine KOps.lenI (by first | assumption | exact Rd.ext hS.keeps (by assumption) | exact hS.rd 0 rfl | exact hS.rd 1 rfl | exact hS.rd 2 rfl | exact hS.rd 3 rfl | exact hS.rd 4 rfl) ?_
  refine KOps.move ?_
  refine KOps.done ?_
  refine sqQ.normal ?_
  refine KA.block ?_
  refine KA.loop (X := Nat) (fun i => [(0, v), (3, .int .u16 (maskOf (l.take i) : Nat)), (6, v), (7, .int .i64 l.length), (8, .int .i64 (i : Int))]) (fun i h' => h = h' ∧ i ≤ l.length ∧ ∀ j, j < i → badAt l j = none) (fun i => l.length - i) 0 (by repeat (first | exact Sub.nil _ | refine Sub.cons Look.eq ?_)) ⟨rfl, by omega, by omega⟩ ?_
  rintro i _ ⟨rfl, hi, he⟩
  refine KA.seq ?_
  refine KA.region rfl ?_
  refine KOps.lss ?_
  refine KOps.done ?_
  refine sqQ.normal ?_
  refine KA.seq ?_
  refine KA.condD ?_ ?_
  · intro c9
    refine KA.skip ?_
    refine sqQ.normal ?_
    refine KA.sub (Sub.cons (t := 0) Look.eq (Sub.cons (t := 3) Look.eq (Sub.cons (t := 6) Look.eq (Sub.cons (t := 7) Look.eq (Sub.cons (t := 8) Look.eq (Sub.nil _)))))) ?_
    refine KA.seq ?_
    refine KA.block ?_
    refine KA.seq ?_
    refine KA.region rfl ?_
    refine KOps.indexI (by first | assumption | exact Rd.ext hS.keeps (by assumption) | exact hS.rd 0 rfl | exact hS.rd 1 rfl | exact hS.rd 2 rfl | exact hS.rd 3 rfl | exact hS.rd 4 rfl) (by omega) (by omega) ?_
    intro p10 hp10
    refine KOps.loadI hp10 (by first | assumption | exact Rd.ext hS.keeps (by assumption) | exact hS.rd 0 rfl | exact hS.rd 1 rfl | exact hS.rd 2 rfl | exact hS.rd 3 rfl | exact hS.rd 4 rfl) (by omega) ?_
    refine KOps.assign ?_
    refine KOps.done ?_
    refine sqQ.normal ?_
    refine KA.sub (Sub.cons (t := 0) Look.eq (Sub.cons (t := 3) Look.eq (Sub.cons (t := 5) Look.eq (Sub.cons (t := 6) Look.eq (Sub.cons (t := 7) Look.eq (Sub.cons (t := 8) Look.eq (Sub.nil _))))))) ?_
    refine KA.seq ?_
    refine KA.block ?_
    refine KA.seq ?_
    refine KA.region rfl ?_
    refine KOps.move ?_
    refine KOps.move ?_
    refine KOps.lenI (by first | assumption | exact Rd.ext hS.keeps (by assumption) | exact hS.rd 0 rfl | exact hS.rd 1 rfl | exact hS.rd 2 rfl | exact hS.rd 3 rfl | exact hS.rd 4 rfl) ?_
    refine KOps.sub (by omega) (by omega) ?_
    refine KOps.call rfl (between_c13) ?_
    rintro _ _ ⟨rfl, rfl⟩
    refine KOps.not ?_
    refine KOps.assign ?_
    refine KOps.done ?_
    refine sqQ.normal ?_
    refine KA.sub (Sub.cons (t := 0) Look.eq (Sub.cons (t := 3) Look.eq (Sub.cons (t := 5) Look.eq (Sub.cons (t := 6) Look.eq (Sub.cons (t := 7) Look.eq (Sub.cons (t := 8) Look.eq (Sub.cons (t := 12) Look.eq (Sub.nil _)))))))) ?_
    refine KA.condN ?_ ?_
    · intro c12
      refine KA.seq ?_
      refine KA.region rfl ?_
      refine KOps.assign ?_
      refine KOps.done ?_
      refine sqQ.normal ?_
      refine KA.sub (Sub.cons (t := 2) Look.eq (Sub.nil _)) ?_
      refine KA.ret ?_
      refine blQ.ret ?_
      refine sqQ.ret ?_
      refine blQ.ret ?_
      refine sqQ.ret ?_
      refine lpQ.ret ?_
      refine blQ.ret ?_
      refine sqQ.ret ?_
      refine fnQ.ret1 ?_
      simp only [Int.toNat_natCast] at c12; exact ⟨by rw [eachE_at (i := i) (e := 2) (by omega) he (by rw [badAt, if_neg c12])], rfl⟩
    · intro c12
      refine KA.seq ?_
      refine KA.region rfl ?_
      refine KOps.move ?_
      refine KOps.move ?_
      refine KOps.shr (by omega) ?_
      refine KOps.bits (by simp) ?_
      refine KOps.eql ?_
      refine KOps.assign ?_
      refine KOps.done ?_
      refine sqQ.normal ?_
      refine KA.sub (Sub.cons (t := 0) Look.eq (Sub.cons (t := 3) Look.eq (Sub.cons (t := 5) Look.eq (Sub.cons (t := 6) Look.eq (Sub.cons (t := 7) Look.eq (Sub.cons (t := 8) Look.eq (Sub.cons (t := 19) Look.eq (Sub.nil _)))))))) ?_
      refine KA.condD ?_ ?_
      · intro c19
        refine KA.seq ?_
        refine KA.region rfl ?_
        refine KOps.assign ?_
        refine KOps.done ?_
        refine sqQ.normal ?_
        refine KA.sub (Sub.cons (t := 2) Look.eq (Sub.nil _)) ?_
        refine KA.ret ?_
        refine blQ.ret ?_
        refine sqQ.ret ?_
        refine blQ.ret ?_
        refine sqQ.ret ?_
        refine lpQ.ret ?_
        refine blQ.ret ?_
        refine sqQ.ret ?_
        refine fnQ.ret1 ?_
        simp only [Int.toNat_natCast] at c12 c19; have hb : ∀ x ∈ l.take i, 0 ≤ x ∧ x < 9 := take_in (by omega) he; exact ⟨by rw [eachE_at (i := i) (e := 6) (by omega) he (by rw [badAt, if_pos c12, if_pos (mask_in hb (by omega) (by omega) c19)])], rfl⟩
      · intro c19
        refine KA.skip ?_
        refine blQ.normal ?_
        refine sqQ.normal ?_
        refine KA.sub (Sub.cons (t := 0) Look.eq (Sub.cons (t := 3) Look.eq (Sub.cons (t := 5) Look.eq (Sub.cons (t := 6) Look.eq (Sub.cons (t := 7) Look.eq (Sub.cons (t := 8) Look.eq (Sub.nil _))))))) ?_
        refine KA.region rfl ?_
        refine KOps.move ?_
        refine KOps.move ?_
        refine KOps.shl (by omega) ?_
        refine KOps.bits (by simp) ?_
        refine KOps.assign ?_
        refine KOps.done ?_
        refine blQ.normal ?_
        refine sqQ.normal ?_
        refine KA.sub (Sub.cons (t := 0) Look.eq (Sub.cons (t := 3) Look.eq (Sub.cons (t := 6) Look.eq (Sub.cons (t := 7) Look.eq (Sub.cons (t := 8) Look.eq (Sub.nil _)))))) ?_
        refine KA.region rfl ?_
        refine KOps.add (by omega) (by omega) ?_
        refine KOps.move ?_
        refine KOps.done ?_
        simp only [Int.toNat_natCast] at c12 c19
        have hb : ∀ x ∈ l.take i, 0 ≤ x ∧ x < 9 := take_in (by omega) he
        have hc : badAt l i = none := by rw [badAt, if_pos c12, if_neg]; exact mask_not hb (by omega) (by omega) c19
        refine lpQ.normal (i + 1) (Sub.cons Look.eq (Sub.cons (by rw [take_snoc (by omega), maskOf_snoc]; exact Eq.trans Look.eq (mask_or (c := l.getD i 0) hb (by omega) (by omega))) (Sub.cons Look.eq (Sub.cons Look.eq (Sub.cons Look.eq (Sub.nil _)))))) ⟨rfl, by omega, ?_⟩ (by omega)
        intro j hj; rcases Nat.lt_succ_iff_lt_or_eq.1 hj with h1 | rfl
        · exact he j h1
        · exact hc
  · intro c9
    refine KA.exit ?_
    refine sqQ.exit ?_
    refine lpQ.exit ?_
    refine blQ.here ?_
    refine sqQ.normal ?_
    refine KA.sub (Sub.nil _) ?_
    refine KA.seq ?_
    refine KA.region rfl ?_
    refine KOps.assign ?_
    refine KOps.done ?_
    refine sqQ.normal ?_
    refine KA.ret ?_
    refine fnQ.ret1 ?_
    exact ⟨by rw [eachE_none (fun j hj => he j (by omega))], rfl⟩

theorem check_c13 {h : AHeap} {v : AV} {l : List Int} (hv : Row h v l) : ACalls Go.Proofs.Tryz.prog 45 [v] h (fun r h' => r = .int .i64 (checkE l) ∧ h = h') := by
  refine KA.fn 13 [.tmp 2] Go.Proofs.Tryz.func45 rfl (by decide) rfl rfl (Nat.le_of_ble_eq_true rfl) ?_
  show KA _ 13 _ _ [(0, v)] _
  refine KA.seq ?_
  refine KA.region rfl ?_
  refine KOps.assign ?_
  refine KOps.done ?_
  refine sqQ.normal ?_
  refine KA.sub (Sub.cons (t := 0) Look.eq (Sub.nil _)) ?_
  refine KA.seq ?_
  refine KA.block ?_
  refine KA.seq ?_
  refine KA.region rfl ?_
  refine KOps.move ?_
  refine KOps.lenI (by first | assumption | exact Rd.ext hS.keeps (by assumption) | exact hS.rd 0 rfl | exact hS.rd 1 rfl | exact hS.rd 2 rfl | exact hS.rd 3 rfl | exact hS.rd 4 rfl) ?_
  refine KOps.eql ?_
  refine KOps.assign ?_
  refine KOps.done ?_
  refine sqQ.normal ?_
  refine KA.sub (Sub.cons (t := 0) Look.eq (Sub.cons (t := 3) Look.eq (Sub.nil _))) ?_
  refine KA.condD ?_ ?_
  · intro c3
    refine KA.seq ?_
    refine KA.region rfl ?_
    refine KOps.assign ?_
    refine KOps.done ?_
    refine sqQ.normal ?_
    refine KA.sub (Sub.cons (t := 2) Look.eq (Sub.nil _)) ?_
    refine KA.ret ?_
    refine blQ.ret ?_
    refine sqQ.ret ?_
    refine fnQ.ret1 ?_
    exact ⟨by rw [checkE, if_pos (by omega)], rfl⟩
  · intro c3
    refine KA.seq ?_
    refine KA.region rfl ?_
    refine KOps.move ?_
    refine KOps.lenI (by first | assumption | exact Rd.ext hS.keeps (by assumption) | exact hS.rd 0 rfl | exact hS.rd 1 rfl | exact hS.rd 2 rfl | exact hS.rd 3 rfl | exact hS.rd 4 rfl) ?_
    refine KOps.gtr ?_
    refine KOps.assign ?_
    refine KOps.done ?_
    refine sqQ.normal ?_
    refine KA.sub (Sub.cons (t := 0) Look.eq (Sub.cons (t := 7) Look.eq (Sub.nil _))) ?_
    refine KA.condD ?_ ?_
    · intro c7
      refine KA.seq ?_
      refine KA.region rfl ?_
      refine KOps.assign ?_
      refine KOps.done ?_
      refine sqQ.normal ?_
      refine KA.sub (Sub.cons (t := 2) Look.eq (Sub.nil _)) ?_
      refine KA.ret ?_
      refine blQ.ret ?_
      refine sqQ.ret ?_
      refine fnQ.ret1 ?_
      exact ⟨by rw [checkE, if_neg (by omega), if_pos (by omega)], rfl⟩
    · intro c7
      refine KA.skip ?_
      refine blQ.normal ?_
      refine sqQ.normal ?_
      refine KA.sub (Sub.cons (t := 0) Look.eq (Sub.nil _)) ?_
      refine KA.seq ?_
      refine KA.region rfl ?_
      refine KOps.move ?_
      refine KOps.call rfl (eachP_c (by first | assumption | exact Rd.ext hS.keeps (by assumption) | exact hS.rd 0 rfl | exact hS.rd 1 rfl | exact hS.rd 2 rfl | exact hS.rd 3 rfl | exact hS.rd 4 rfl) (by omega)) ?_
      rintro _ _ ⟨rfl, rfl⟩
      refine KOps.assign ?_
      refine KOps.done ?_
      refine sqQ.normal ?_
      refine KA.sub (Sub.cons (t := 2) Look.eq (Sub.nil _)) ?_
      refine KA.ret ?_
      refine fnQ.ret1 ?_
      exact ⟨by rw [checkE, if_neg (by omega), if_neg (by omega)], rfl⟩

end Go.Am


namespace Go.Am
open Go.Gr

theorem cmpNaN_c {h : AHeap} {a : Int} : ACalls Go.Proofs.Tryz.prog 159 [.int .i64 a] h (fun r h' => r = .bool false ∧ h = h') := by
  refine KA.fn 6 [.tmp 2] Go.Proofs.Tryz.func159 rfl (by decide) rfl rfl (Nat.le_of_ble_eq_true rfl) ?_
  show KA _ 6 _ _ [(0, .int .i64 a)] _
  refine KA.seq ?_
  refine KA.region rfl ?_
  refine KOps.assign ?_
  refine KOps.done ?_
  refine sqQ.normal ?_
  refine KA.sub (Sub.cons (t := 0) Look.eq (Sub.nil _)) ?_
  refine KA.seq ?_
  refine KA.region rfl ?_
  refine KOps.move ?_
  refine KOps.move ?_
  refine KOps.neq ?_
  refine KOps.assign ?_
  refine KOps.done ?_
  refine sqQ.normal ?_
  refine KA.sub (Sub.cons (t := 2) Look.eq (Sub.nil _)) ?_
  refine KA.ret ?_
  refine fnQ.ret1 ?_
  exact ⟨by simp, rfl⟩

theorem isNaN_c {h : AHeap} {a : Int} : ACalls Go.Proofs.Tryz.prog 114 [.int .i64 a] h (fun r h' => r = .bool false ∧ h = h') := by
  refine KA.fn 6 [.tmp 2] Go.Proofs.Tryz.func114 rfl (by decide) rfl rfl (Nat.le_of_ble_eq_true rfl) ?_
  show KA _ 6 _ _ [(0, .int .i64 a)] _
  refine KA.seq ?_
  refine KA.region rfl ?_
  refine KOps.assign ?_
  refine KOps.done ?_
  refine sqQ.normal ?_
  refine KA.sub (Sub.cons (t := 0) Look.eq (Sub.nil _)) ?_
  refine KA.seq ?_
  refine KA.region rfl ?_
  refine KOps.move ?_
  refine KOps.move ?_
  refine KOps.neq ?_
  refine KOps.assign ?_
  refine KOps.done ?_
  refine sqQ.normal ?_
  refine KA.sub (Sub.cons (t := 2) Look.eq (Sub.nil _)) ?_
  refine KA.ret ?_
  refine fnQ.ret1 ?_
  exact ⟨by simp, rfl⟩

theorem less_c {h : AHeap} {a b : Int} : ACalls Go.Proofs.Tryz.prog 113 [.int .i64 a, .int .i64 b] h (fun r h' => r = .bool (decide (a < b)) ∧ h = h') := by
  refine KA.fn 17 [.tmp 4] Go.Proofs.Tryz.func113 rfl (by decide) rfl rfl (Nat.le_of_ble_eq_true rfl) ?_
  show KA _ 17 _ _ [(0, .int .i64 a), (1, .int .i64 b)] _
  refine KA.seq ?_
  refine KA.region rfl ?_
  refine KOps.assign ?_
  refine KOps.done ?_
  refine sqQ.normal ?_
  refine KA.sub (Sub.cons (t := 0) Look.eq (Sub.cons (t := 1) Look.eq (Sub.nil _))) ?_
  refine KA.seq ?_
  refine KA.region rfl ?_
  refine KOps.move ?_
  refine KOps.call rfl (cmpNaN_c) ?_
  rintro _ _ ⟨rfl, rfl⟩
  refine KOps.move ?_
  refine KOps.guardNo (dj := 7) rfl rfl rfl ?_
  refine KOps.guardNo (dj := 7) rfl rfl rfl ?_
  refine KOps.guardNo (dj := 7) rfl rfl rfl ?_
  refine KOps.pickF ?_
  refine KOps.move ?_
  refine KOps.guardYes (dj := 12) rfl rfl ?_
  refine KOps.move ?_
  refine KOps.guardYes (dj := 12) rfl rfl ?_
  refine KOps.move ?_
  refine KOps.guardYes (dj := 12) rfl rfl ?_
  refine KOps.lss ?_
  refine KOps.pickF ?_
  refine KOps.assign ?_
  refine KOps.done ?_
  refine sqQ.normal ?_
  refine KA.sub (Sub.cons (t := 4) Look.eq (Sub.nil _)) ?_
  refine KA.ret ?_
  refine fnQ.ret1 ?_
  exact ⟨rfl, rfl⟩

theorem mono_le {l : List Int} (hs : ∀ i j, i < j → j < l.length → l.getD i 0 ≤ l.getD j 0) {i j : Nat} (hij : i ≤ j) (hj : j < l.length) : l.getD i 0 ≤ l.getD j 0 := by
  rcases Nat.lt_or_eq_of_le hij with h | rfl
  · exact hs i j h hj
  · exact Int.le_refl _

theorem search_c {h : AHeap} {v : AV} {l : List Int} {c : Int} (hv : Row h v l) (hlen : l.length ≤ 4294967296) (hs : ∀ i j, i < j → j < l.length → l.getD i 0 ≤ l.getD j 0) : ACalls Go.Proofs.Tryz.prog 75 [v, .int .i64 c] h (fun r h' => (∃ b, r = .tup [.int .i64 (Go.Gr.pos l c : Nat), .bool b]) ∧ h = h') := by
  refine KA.fn 54 [.tmp 4, .tmp 5] Go.Proofs.Tryz.func75 rfl (by decide) rfl rfl (Nat.le_of_ble_eq_true rfl) ?_
  show KA _ 54 _ _ [(0, v), (1, .int .i64 c)] _
  refine KA.seq ?_
  refine KA.region rfl ?_
  refine KOps.assign ?_
  refine KOps.assign ?_
  refine KOps.done ?_
  refine sqQ.normal ?_
  refine KA.sub (Sub.cons (t := 0) Look.eq (Sub.cons (t := 1) Look.eq (Sub.nil _))) ?_
  refine KA.seq ?_
  refine KA.region rfl ?_
  refine KOps.move ?_
  refine KOps.lenI (by first | assumption | exact Rd.ext hS.keeps (by assumption)) ?_
  refine KOps.assign ?_
  refine KOps.done ?_
  refine sqQ.normal ?_
  refine KA.sub (Sub.cons (t := 0) Look.eq (Sub.cons (t := 1) Look.eq (Sub.cons (t := 6) Look.eq (Sub.nil _)))) ?_
  refine KA.seq ?_
  refine KA.region rfl ?_
  refine KOps.move ?_
  refine KOps.assign ?_
  refine KOps.assign ?_
  refine KOps.done ?_
  refine sqQ.normal ?_
  refine KA.sub (Sub.cons (t := 0) Look.eq (Sub.cons (t := 1) Look.eq (Sub.cons (t := 6) Look.eq (Sub.cons (t := 7) Look.eq (Sub.cons (t := 8) Look.eq (Sub.nil _)))))) ?_
  refine KA.seq ?_
  refine KA.block ?_
  refine KA.loop (X := Nat × Nat) (fun x => [(0, v), (1, .int .i64 c), (6, .int .i64 (l.length : Int)), (7, .int .i64 (x.1 : Int)), (8, .int .i64 (x.2 : Int))]) (fun x h' => h = h' ∧ x.1 ≤ x.2 ∧ x.2 ≤ l.length ∧ (∀ j, j < x.1 → l.getD j 0 < c) ∧ (∀ j, x.2 ≤ j → j < l.length → c ≤ l.getD j 0)) (fun x => x.2 - x.1) (0, l.length) (by repeat (first | exact Sub.nil _ | refine Sub.cons Look.eq ?_ | refine Sub.cons (Eq.trans Look.eq (congrArg (AV.int _) (by first | omega | (dsimp only; omega)))) ?_)) ⟨rfl, by omega, by omega, by simp, fun j h1 h2 => by omega⟩ ?_
  rintro ⟨i, j⟩ _ ⟨rfl, h1, h2, h3, h4⟩
  dsimp only at h1 h2 h3 h4 ⊢
  refine KA.seq ?_
  refine KA.seq ?_
  refine KA.region rfl ?_
  refine KOps.move ?_
  refine KOps.move ?_
  refine KOps.lss ?_
  refine KOps.done ?_
  refine sqQ.normal ?_
  refine KA.sub (Sub.cons (t := 0) Look.eq (Sub.cons (t := 1) Look.eq (Sub.cons (t := 6) Look.eq (Sub.cons (t := 7) Look.eq (Sub.cons (t := 8) Look.eq (Sub.cons (t := 15) Look.eq (Sub.nil _))))))) ?_
  refine KA.condD ?_ ?_
  · intro c15
    refine KA.skip ?_
    refine sqQ.normal ?_
    refine KA.sub (Sub.cons (t := 0) Look.eq (Sub.cons (t := 1) Look.eq (Sub.cons (t := 6) Look.eq (Sub.cons (t := 7) Look.eq (Sub.cons (t := 8) Look.eq (Sub.nil _)))))) ?_
    refine KA.block ?_
    refine KA.seq ?_
    refine KA.region rfl ?_
    refine KOps.move ?_
    refine KOps.move ?_
    refine KOps.add (by omega) (by omega) ?_
    refine KOps.convert ?_
    rw [wrapU64 (by omega) (by omega)]
    refine KOps.shr (by omega) ?_
    rw [half_nat]
    refine KOps.convert ?_
    rw [wrap64 (by omega) (by omega)]
    refine KOps.assign ?_
    refine KOps.done ?_
    refine sqQ.normal ?_
    refine KA.sub (Sub.cons (t := 0) Look.eq (Sub.cons (t := 1) Look.eq (Sub.cons (t := 6) Look.eq (Sub.cons (t := 7) Look.eq (Sub.cons (t := 8) Look.eq (Sub.cons (t := 9) Look.eq (Sub.nil _))))))) ?_
    refine KA.seq ?_
    refine KA.region rfl ?_
    refine KOps.move ?_
    refine KOps.move ?_
    refine KOps.indexIJ (by first | assumption | exact Rd.ext hS.keeps (by assumption)) (j := ((i + j) / 2)) rfl (by first | omega | (simp; omega)) ?_
    intro p24 hp24
    refine KOps.loadI hp24 (by first | assumption | exact Rd.ext hS.keeps (by assumption)) (by first | omega | (simp; omega)) ?_
    refine KOps.move ?_
    refine KOps.call rfl (less_c) ?_
    rintro _ _ ⟨rfl, rfl⟩
    refine KOps.done ?_
    refine sqQ.normal ?_
    refine KA.sub (Sub.cons (t := 0) Look.eq (Sub.cons (t := 1) Look.eq (Sub.cons (t := 6) Look.eq (Sub.cons (t := 7) Look.eq (Sub.cons (t := 8) Look.eq (Sub.cons (t := 9) Look.eq (Sub.cons (t := 27) Look.eq (Sub.nil _)))))))) ?_
    refine KA.condD ?_ ?_
    · intro c27
      refine KA.region rfl ?_
      refine KOps.move ?_
      refine KOps.add (by omega) (by omega) ?_
      refine KOps.assign ?_
      refine KOps.done ?_
      refine blQ.normal ?_
      refine lpQ.normal ((i + j) / 2 + 1, j) (by repeat (first | exact Sub.nil _ | refine Sub.cons Look.eq ?_ | refine Sub.cons (Eq.trans Look.eq (congrArg (AV.int _) (by first | omega | (dsimp only; omega)))) ?_)) ⟨rfl, by dsimp only; omega, by dsimp only; omega, fun q hq => ?_, h4⟩ (by dsimp only; omega)
      have := mono_le hs (i := q) (j := (i + j) / 2) (by dsimp only at hq; omega) (by omega)
      omega
    · intro c27
      refine KA.region rfl ?_
      refine KOps.move ?_
      refine KOps.assign ?_
      refine KOps.done ?_
      refine blQ.normal ?_
      refine lpQ.normal (i, (i + j) / 2) (by repeat (first | exact Sub.nil _ | refine Sub.cons Look.eq ?_ | refine Sub.cons (Eq.trans Look.eq (congrArg (AV.int _) (by first | omega | (dsimp only; omega)))) ?_)) ⟨rfl, by dsimp only; omega, by dsimp only; omega, h3, fun q hq1 hq2 => ?_⟩ (by dsimp only; omega)
      have := mono_le hs (i := (i + j) / 2) (j := q) (by dsimp only at hq1; omega) hq2
      omega
  · intro c15
    refine KA.exit ?_
    refine sqQ.exit ?_
    refine lpQ.exit ?_
    refine blQ.here ?_
    refine sqQ.normal ?_
    refine KA.sub (Sub.cons (t := 0) Look.eq (Sub.cons (t := 1) Look.eq (Sub.cons (t := 6) Look.eq (Sub.cons (t := 7) Look.eq (Sub.nil _))))) ?_
    refine KA.seq ?_
    refine KA.region rfl ?_
    have hp : Go.Gr.pos l c = i := pos_unique h3 (fun hl => h4 i (by omega) hl) (by omega)
    refine KOps.move ?_
    refine KOps.move ?_
    refine KOps.move ?_
    refine KOps.lss ?_
    refine KOps.move ?_
    refine KOps.guardB (dj := 35) rfl rfl true false rfl ?_ ?_
    · intro g35
      have g35 := of_decide_eq_true g35
      refine KOps.move ?_
      refine KOps.guardYes (dj := 35) rfl rfl ?_
      refine KOps.move ?_
      refine KOps.guardYes (dj := 35) rfl rfl ?_
      refine KOps.indexIJ (by first | assumption | exact Rd.ext hS.keeps (by assumption)) (j := i) (by omega) (by first | omega | (simp; omega)) ?_
      intro p38 hp38
      refine KOps.guardYes (dj := 35) rfl rfl ?_
      refine KOps.loadI hp38 (by first | assumption | exact Rd.ext hS.keeps (by assumption)) (by first | omega | (simp; omega)) ?_
      refine KOps.guardYes (dj := 35) rfl rfl ?_
      refine KOps.move ?_
      refine KOps.guardYes (dj := 35) rfl rfl ?_
      refine KOps.eql ?_
      refine KOps.guardYes (dj := 35) rfl rfl ?_
      refine KOps.move ?_
      refine KOps.guardB (dj := 42) rfl rfl false true rfl ?_ ?_
      · intro g42
        have g42 := of_decide_eq_false g42
        refine KOps.move ?_
        refine KOps.guardYes (dj := 42) rfl rfl ?_
        refine KOps.move ?_
        refine KOps.guardYes (dj := 42) rfl rfl ?_
        refine KOps.indexIJ (by first | assumption | exact Rd.ext hS.keeps (by assumption)) (j := i) (by omega) (by first | omega | (simp; omega)) ?_
        intro p45 hp45
        refine KOps.guardYes (dj := 42) rfl rfl ?_
        refine KOps.loadI hp45 (by first | assumption | exact Rd.ext hS.keeps (by assumption)) (by first | omega | (simp; omega)) ?_
        refine KOps.guardYes (dj := 42) rfl rfl ?_
        refine KOps.call rfl (isNaN_c) ?_
        rintro _ _ ⟨rfl, rfl⟩
        refine KOps.guardYes (dj := 42) rfl rfl ?_
        refine KOps.move ?_
        refine KOps.guardNo (dj := 48) rfl rfl rfl ?_
        refine KOps.guardNo (dj := 48) rfl rfl rfl ?_
        refine KOps.guardYes (dj := 42) rfl rfl ?_
        refine KOps.pickF ?_
        refine KOps.guardYes (dj := 35) rfl rfl ?_
        refine KOps.pickF ?_
        refine KOps.pickT ?_
        refine KOps.assign ?_
        refine KOps.assign ?_
        refine KOps.done ?_
        refine sqQ.normal ?_
        refine KA.sub (Sub.cons (t := 4) Look.eq (Sub.cons (t := 5) Look.eq (Sub.nil _))) ?_
        refine KA.ret ?_
        refine fnQ.retN ?_
        exact ⟨⟨_, by rw [hp]⟩, rfl⟩
      · intro g42
        have g42 := of_decide_eq_true g42
        refine KOps.guardNo (dj := 42) rfl rfl rfl ?_
        refine KOps.guardNo (dj := 42) rfl rfl rfl ?_
        refine KOps.guardNo (dj := 42) rfl rfl rfl ?_
        refine KOps.guardNo (dj := 42) rfl rfl rfl ?_
        refine KOps.guardNo (dj := 42) rfl rfl rfl ?_
        refine KOps.guardTup (dj := 48) rfl rfl ?_
        refine KOps.guardTup (dj := 48) rfl rfl ?_
        refine KOps.guardNo (dj := 42) rfl rfl rfl ?_
        refine KOps.guardYes (dj := 35) rfl rfl ?_
        refine KOps.pickT ?_
        refine KOps.pickT ?_
        refine KOps.assign ?_
        refine KOps.assign ?_
        refine KOps.done ?_
        refine sqQ.normal ?_
        refine KA.sub (Sub.cons (t := 4) Look.eq (Sub.cons (t := 5) Look.eq (Sub.nil _))) ?_
        refine KA.ret ?_
        refine fnQ.retN ?_
        exact ⟨⟨_, by rw [hp]⟩, rfl⟩
    · intro g35
      have g35 := of_decide_eq_false g35
      refine KOps.guardNo (dj := 35) rfl rfl rfl ?_
      refine KOps.guardNo (dj := 35) rfl rfl rfl ?_
      refine KOps.guardNo (dj := 35) rfl rfl rfl ?_
      refine KOps.guardNo (dj := 35) rfl rfl rfl ?_
      refine KOps.guardNo (dj := 35) rfl rfl rfl ?_
      refine KOps.guardNo (dj := 35) rfl rfl rfl ?_
      refine KOps.guardTup (dj := 42) rfl rfl ?_
      refine KOps.guardTup (dj := 42) rfl rfl ?_
      refine KOps.guardTup (dj := 42) rfl rfl ?_
      refine KOps.guardTup (dj := 42) rfl rfl ?_
      refine KOps.guardTup (dj := 42) rfl rfl ?_
      refine KOps.guardTup (dj := 42) rfl rfl ?_
      refine KOps.guardTup (dj := 48) rfl rfl ?_
      refine KOps.guardTup (dj := 48) rfl rfl ?_
      refine KOps.guardTup (dj := 42) rfl rfl ?_
      refine KOps.guardNo (dj := 35) rfl rfl rfl ?_
      refine KOps.pickF ?_
      refine KOps.assign ?_
      refine KOps.assign ?_
      refine KOps.done ?_
      refine sqQ.normal ?_
      refine KA.sub (Sub.cons (t := 4) Look.eq (Sub.cons (t := 5) Look.eq (Sub.nil _))) ?_
      refine KA.ret ?_
      refine fnQ.retN ?_
      exact ⟨⟨_, by rw [hp]⟩, rfl⟩

end Go.Am


namespace Go.Am
open Go.Gr

/-- The numbers from 0 on, each once. -/
def IsPack (l : List Int) : Prop := l.Nodup ∧ ∀ x ∈ l, 0 ≤ x ∧ x < l.length
theorem eachE_ok {l : List Int} (h : eachE l = 0) : ∀ i, i < l.length → badAt l i = none := by
  have key : ∀ i, i ≤ l.length → ∀ j, j < i → badAt l j = none := by
    intro i
    induction i with
    | zero => intro _ j hj; omega
    | succ i ih =>
      intro hi j hj
      have ih' := ih (by omega)
      by_cases hji : j = i
      · subst hji
        cases hb : badAt l j with
        | none => rfl
        | some e =>
          have h1 := eachE_at (by omega) ih' hb
          have h2 : e = 2 ∨ e = 6 := by
            unfold badAt at hb
            split at hb
            · split at hb
              · cases hb; exact .inr rfl
              · cases hb
            · cases hb; exact .inl rfl
          omega
      · exact ih' j (by omega)
  exact fun i hi => key l.length (Nat.le_refl _) i hi
theorem eachE_pack {l : List Int} (h : eachE l = 0) : IsPack l := by
  have h1 := eachE_ok h
  refine ⟨?_, ?_⟩
  · refine List.pairwise_iff_getElem.2 ?_
    intro i j hi hj hij he
    have h2 := (badAt_in (h1 j hj)).2.2
    apply h2
    have e1 : l.getD j 0 = l[i] := by rw [List.getD_eq_getElem?_getD, List.getElem?_eq_getElem hj, Option.getD_some, he]
    rw [e1]
    have : (l.take j)[i]'(by rw [List.length_take]; omega) = l[i] := by simp
    rw [← this]
    exact List.getElem_mem _
  · intro x hx
    obtain ⟨i, hi, rfl⟩ := mem_getD hx
    have h2 := badAt_in (h1 i hi)
    omega
theorem eachE_of {l : List Int} (h : IsPack l) : eachE l = 0 := by
  refine eachE_none fun j hj => ?_
  have h1 := h.2 _ (getD_mem13 hj)
  rw [badAt, if_pos (by omega), if_neg]
  intro hm
  obtain ⟨i, hi, he⟩ := mem_getD hm
  rw [List.length_take] at hi
  have h2 := List.pairwise_iff_getElem.1 h.1 i j (by omega) hj (by omega)
  simp only [List.getD_eq_getElem?_getD, List.getElem?_take, show i < j by omega, if_true, List.getElem?_eq_getElem hj, List.getElem?_eq_getElem (show i < l.length by omega), Option.getD_some] at he
  exact h2 he
theorem checkE_ok {l : List Int} (h : checkE l = 0) : 0 < l.length ∧ l.length ≤ 9 ∧ IsPack l := by
  unfold checkE at h
  split at h
  · omega
  · split at h
    · omega
    · exact ⟨by omega, by omega, eachE_pack h⟩
theorem checkE_of {l : List Int} (h0 : 0 < l.length) (h9 : l.length ≤ 9) (hp : IsPack l) : checkE l = 0 := by
  rw [checkE, if_neg (by omega), if_neg (by omega), eachE_of hp]

def okE {α : Type} (l : List Int) (d x : α) : α := if checkE l = 0 then x else d
theorem okE_yes {α : Type} {l : List Int} (h : checkE l = 0) (d x : α) : okE l d x = x := if_pos h
theorem okE_no {α : Type} {l : List Int} (h : ¬ checkE l = 0) (d x : α) : okE l d x = d := if_neg h

/-- Piles. -/
def lastD (p : List Int) : Int := p.getD (p.length - 1) 0
def roomy (ps : List (List Int)) (k : Nat) : List (List Int) := if k = ps.length then ps ++ [[]] else ps
theorem roomy_length (ps : List (List Int)) (k : Nat) : (roomy ps k).length = if k = ps.length then ps.length + 1 else ps.length := by
  unfold roomy; split <;> simp
theorem roomy_lt {ps : List (List Int)} {k : Nat} (h : k ≤ ps.length) : k < (roomy ps k).length := by rw [roomy_length]; split <;> omega
theorem getDL_set {ps : List (List Int)} {i j : Nat} {q : List Int} (hi : i < ps.length) : (ps.set i q).getD j [] = if i = j then q else ps.getD j [] := by
  simp only [List.getD_eq_getElem?_getD, List.getElem?_set]
  by_cases h : i = j
  · subst h; simp [hi]
  · simp [h]
theorem getDL_snoc (ps : List (List Int)) (q : List Int) (j : Nat) : (ps ++ [q]).getD j [] = if j = ps.length then q else ps.getD j [] := by
  simp only [List.getD_eq_getElem?_getD]
  rcases Nat.lt_trichotomy j ps.length with h | h | h
  · rw [List.getElem?_append_left h, if_neg (by omega)]
  · subst h; simp
  · rw [List.getElem?_eq_none (by simp; omega), if_neg (by omega), List.getElem?_eq_none (by omega)]
theorem roomy_getD (ps : List (List Int)) (k j : Nat) : (roomy ps k).getD j [] = ps.getD j [] := by
  unfold roomy
  split
  · rw [getDL_snoc]
    split
    · rename_i h; subst h; rw [List.getD_eq_getElem?_getD, List.getElem?_eq_none (Nat.le_refl _)]; rfl
    · rfl
  · rfl
theorem roomy_yes {ps : List (List Int)} {k : Nat} (h : k = ps.length) : roomy ps k = ps ++ [[]] := if_pos h
theorem roomy_no {ps : List (List Int)} {k : Nat} (h : ¬ k = ps.length) : roomy ps k = ps := if_neg h
end Go.Am


namespace Go.Am
open Go.Gr

/-- One card may stand behind another. -/
def ris (f : Bool) (a b : Int) : Bool := if f then decide (b < a) else decide (a < b)
end Go.Am


namespace Go.Am
open Go.Gr

def lgStep (f : Bool) (x : Int) (ys : List (Int × Int)) (m : Int) : Int := ys.foldl (fun m p => if ris f x p.1 then max m (1 + p.2) else m) m
def lgL (f : Bool) : List Int → List Int
  | [] => []
  | x :: xs => lgStep f x (xs.zip (lgL f xs)) 1 :: lgL f xs

end Go.Am


namespace Go.Am
open Go.Gr

/-- What must be moved, card by card. -/
def laterB (p : List Int) (c left : Nat) (last : Int) : Bool := decide (left = 0) || (List.range p.length).any fun e => decide (c < e) && (decide ((lgL false p).getD e 0 = (left : Int)) && decide (last < p.getD e 0))
def stay (p : List Int) (c left : Nat) (last : Int) : Bool := !(laterB p c left last) && (decide ((lgL false p).getD c 0 = (left : Int)) && !decide (p.getD c 0 < last))
end Go.Am


namespace Go.Am
open Go.Gr

/-- The first error of some. -/
def firstE (b : Nat → Option Int) (n : Nat) : Int := ((List.range n).findSome? b).getD 0
theorem firstE_none {b : Nat → Option Int} {n : Nat} (h : ∀ j, j < n → b j = none) : firstE b n = 0 := by
  rw [firstE, List.findSome?_eq_none_iff.2 (by intro x hx; exact h x (List.mem_range.1 hx))]; rfl
theorem firstE_at {b : Nat → Option Int} {n i : Nat} {e : Int} (hi : i < n) (h : ∀ j, j < i → b j = none) (he : b i = some e) : firstE b n = e := by
  have hr : List.range n = List.range i ++ i :: (List.range' (i + 1) (n - i - 1)) := by
    have ha := List.range'_append_1 (s := 0) (m := i) (n := n - i - 1 + 1)
    rw [Nat.zero_add] at ha
    rw [List.range_eq_range', List.range_eq_range', ← List.range'_succ, ha]
    congr 1; omega
  rw [firstE, hr, List.findSome?_append, List.findSome?_eq_none_iff.2 (by intro x hx; exact h x (List.mem_range.1 hx))]
  simp [List.findSome?_cons, he]
theorem firstE_zero {b : Nat → Option Int} {n : Nat} (hb : ∀ i, b i ≠ some 0) (h : firstE b n = 0) : ∀ j, j < n → b j = none := by
  have key : ∀ i, i ≤ n → ∀ j, j < i → b j = none := by
    intro i
    induction i with
    | zero => intro _ j hj; omega
    | succ i ih =>
      intro hi j hj
      have ih' := ih (by omega)
      by_cases hji : j = i
      · subst hji
        cases hq : b j with
        | none => rfl
        | some e =>
          have h1 := firstE_at (n := n) (by omega) ih' hq
          rw [h] at h1
          subst h1
          exact absurd hq (hb j)
      · exact ih' j (by omega)
  exact fun i hi => key n (Nat.le_refl _) i hi

end Go.Am


namespace Go.Am
open Go.Gr

/-- The row that becomes longer. -/
def insRow : List (List Int) → Int → Nat
  | [], _ => 0
  | R :: T, c => match Go.Gr.bump R c with
    | none => 0
    | some (b, _) => insRow T b + 1
theorem ins_cons (R : List Int) (T : List (List Int)) (c : Int) : ins (R :: T) c = if Go.Gr.pos R c = R.length then (R ++ [c]) :: T else R.set (Go.Gr.pos R c) c :: ins T (R.getD (Go.Gr.pos R c) 0) := by
  rw [ins, bump_pos]
  split <;> rename_i h <;> split at h <;> simp_all
theorem insRow_cons (R : List Int) (T : List (List Int)) (c : Int) : insRow (R :: T) c = if Go.Gr.pos R c = R.length then 0 else insRow T (R.getD (Go.Gr.pos R c) 0) + 1 := by
  rw [insRow, bump_pos]
  split <;> rename_i h <;> split at h <;> simp_all

theorem dropL_cons {T : List (List Int)} {k : Nat} (h : k < T.length) : T.drop k = T.getD k [] :: T.drop (k + 1) := by
  rw [List.drop_eq_getElem_cons h, List.getD_eq_getElem?_getD, List.getElem?_eq_getElem h]; rfl
theorem setL_eq {T : List (List Int)} {k : Nat} (h : k < T.length) (q : List Int) : T.set k q = T.take k ++ q :: T.drop (k + 1) := by
  rw [List.set_eq_take_append_cons_drop, if_pos h]

/-- On the way of a card through a table. -/
structure Way (T0 : List (List Int)) (c0 : Int) (T : List (List Int)) (k : Nat) (c : Int) : Prop where
  len : T.length = T0.length
  le : k ≤ T0.length
  same : ∀ j, k ≤ j → T.getD j [] = T0.getD j []
  ins : ins T0 c0 = T.take k ++ Go.Gr.ins (T.drop k) c
  row : insRow T0 c0 = k + insRow (T.drop k) c
theorem Way.start (T : List (List Int)) (c : Int) : Way T c T 0 c := ⟨rfl, Nat.zero_le _, fun _ _ => rfl, rfl, by simp⟩
theorem Way.next {T0 T : List (List Int)} {c0 c : Int} {k : Nat} (w : Way T0 c0 T k c) (hk : k < T0.length) (hp : Go.Gr.pos (T.getD k []) c ≠ (T.getD k []).length) : Way T0 c0 (T.set k ((T.getD k []).set (Go.Gr.pos (T.getD k []) c) c)) (k + 1) ((T.getD k []).getD (Go.Gr.pos (T.getD k []) c) 0) := by
  have hkT : k < T.length := by rw [w.len]; exact hk
  have ht : (T.set k ((T.getD k []).set (Go.Gr.pos (T.getD k []) c) c)).take (k + 1) = T.take k ++ [(T.getD k []).set (Go.Gr.pos (T.getD k []) c) c] := by
    rw [setL_eq hkT, List.take_append, List.length_take, List.take_take, Nat.min_eq_right (by omega), show k + 1 - min k T.length = 1 by omega]
    simp
  have hd : (T.set k ((T.getD k []).set (Go.Gr.pos (T.getD k []) c) c)).drop (k + 1) = T.drop (k + 1) := by
    rw [List.drop_set, if_pos (by omega)]
  refine ⟨by rw [List.length_set]; exact w.len, hk, ?_, ?_, ?_⟩
  · intro j hj
    rw [getDL_set hkT, if_neg (by omega)]
    exact w.same j (by omega)
  · rw [w.ins, ht, hd, dropL_cons hkT, ins_cons, if_neg hp]
    simp
  · rw [w.row, hd, dropL_cons hkT, insRow_cons, if_neg hp]
    omega
theorem Way.last {T0 T : List (List Int)} {c0 c : Int} {k : Nat} (w : Way T0 c0 T k c) (hk : k < T0.length) (hp : Go.Gr.pos (T.getD k []) c = (T.getD k []).length) : Go.Gr.ins T0 c0 = T.set k (T.getD k [] ++ [c]) ∧ insRow T0 c0 = k := by
  have hkT : k < T.length := by rw [w.len]; exact hk
  refine ⟨?_, ?_⟩
  · rw [w.ins, dropL_cons hkT, ins_cons, if_pos hp, setL_eq hkT]
  · rw [w.row, dropL_cons hkT, insRow_cons, if_pos hp]; rfl
theorem Way.new {T0 T : List (List Int)} {c0 c : Int} (w : Way T0 c0 T T0.length c) : Go.Gr.ins T0 c0 = T ++ [[c]] ∧ insRow T0 c0 = T0.length := by
  have h1 := w.ins
  have h2 := w.row
  rw [← w.len, List.drop_length, List.take_length] at h1
  rw [← w.len, List.drop_length] at h2
  exact ⟨h1, by rw [h2, ← w.len]; rfl⟩

theorem getDL_out {T : List (List Int)} {k : Nat} (h : T.length ≤ k) : T.getD k [] = [] := by
  rw [List.getD_eq_getElem?_getD, List.getElem?_eq_none h]; rfl
/-- The second table. -/
def recStep (S : List (List Int)) (k : Nat) (i : Nat) : List (List Int) := (roomy S k).set k ((roomy S k).getD k [] ++ [(i : Int)])
def recTo (l : List Int) : Nat → List (List Int)
  | 0 => []
  | i + 1 => recStep (recTo l i) (insRow (insAll (l.take i)) (l.getD i 0)) i
def recOf (l : List Int) : List (List Int) := recTo l l.length
theorem insAll_take {l : List Int} {i : Nat} (hi : i < l.length) : insAll (l.take (i + 1)) = ins (insAll (l.take i)) (l.getD i 0) := by rw [take_snoc hi, insAll_snoc]

def shapeL (T : List (List Int)) : List Nat := T.map List.length
theorem shape_ins (T : List (List Int)) (c : Int) : insRow T c ≤ T.length ∧ shapeL (ins T c) = if insRow T c = T.length then shapeL T ++ [1] else (shapeL T).set (insRow T c) ((T.getD (insRow T c) []).length + 1) := by
  induction T generalizing c with
  | nil => simp [insRow, ins, shapeL]
  | cons R T ih =>
    rw [insRow_cons, ins_cons]
    by_cases hp : Go.Gr.pos R c = R.length
    · rw [if_pos hp, if_pos hp]
      simp [shapeL]
    · rw [if_neg hp, if_neg hp]
      obtain ⟨h1, h2⟩ := ih (R.getD (Go.Gr.pos R c) 0)
      refine ⟨by simp; exact h1, ?_⟩
      simp only [shapeL, List.map_cons, List.length_set, List.length_cons] at h2 ⊢
      rw [h2]
      by_cases h3 : insRow T (R.getD (Go.Gr.pos R c) 0) = T.length
      · rw [if_pos h3, if_pos (by omega)]; rfl
      · rw [if_neg h3, if_neg (by omega)]
        rw [List.set_cons_succ, List.getD_cons_succ]
theorem shape_rec (S : List (List Int)) (k i : Nat) (hk : k ≤ S.length) : shapeL (recStep S k i) = if k = S.length then shapeL S ++ [1] else (shapeL S).set k ((S.getD k []).length + 1) := by
  unfold recStep shapeL
  rw [List.map_set, roomy_getD, List.length_append, List.length_singleton]
  by_cases h : k = S.length
  · rw [if_pos h, roomy_yes h]
    subst h
    simp
  · rw [if_neg h, roomy_no h]
theorem shapes (l : List Int) : ∀ i, i ≤ l.length → shapeL (recTo l i) = shapeL (insAll (l.take i)) := by
  intro i
  induction i with
  | zero => intro _; simp [recTo, insAll, shapeL]
  | succ i ih =>
    intro hi
    have h1 := ih (by omega)
    have hl : (recTo l i).length = (insAll (l.take i)).length := by have := congrArg List.length h1; simpa [shapeL] using this
    obtain ⟨h2, h3⟩ := shape_ins (insAll (l.take i)) (l.getD i 0)
    rw [insAll_take (by omega), h3, recTo, shape_rec _ _ _ (by omega), h1, hl]
    congr 2
    have : ∀ k, ((recTo l i).getD k []).length = (shapeL (recTo l i)).getD k 0 := by
      intro k; simp only [shapeL, List.getD_eq_getElem?_getD, List.getElem?_map]; cases (recTo l i)[k]? <;> rfl
    have h4 : ∀ k, ((insAll (l.take i)).getD k []).length = (shapeL (insAll (l.take i))).getD k 0 := by
      intro k; simp only [shapeL, List.getD_eq_getElem?_getD, List.getElem?_map]; cases (insAll (l.take i))[k]? <;> rfl
    rw [this, h4, h1]
theorem shapes_len (l : List Int) {i : Nat} (hi : i ≤ l.length) : (recTo l i).length = (insAll (l.take i)).length := by
  have := congrArg List.length (shapes l i hi)
  simpa [shapeL] using this
theorem shapes_row (l : List Int) {i : Nat} (hi : i ≤ l.length) (k : Nat) : ((recTo l i).getD k []).length = ((insAll (l.take i)).getD k []).length := by
  have h1 : ∀ T : List (List Int), (T.getD k []).length = (shapeL T).getD k 0 := by
    intro T; simp only [shapeL, List.getD_eq_getElem?_getD, List.getElem?_map]; cases T[k]? <;> rfl
  rw [h1, h1, shapes l i hi]

/-- No row has more than all. -/
theorem row_word (T : List (List Int)) (k : Nat) : (T.getD k []).length ≤ (wordT T).length := by
  induction T generalizing k with
  | nil => simp
  | cons R T ih =>
    rw [wordT_cons, List.length_append]
    cases k with
    | zero => simp
    | succ k => rw [List.getD_cons_succ]; have := ih k; omega
theorem rows_word {T : List (List Int)} (h : ∀ R ∈ T, R ≠ []) : T.length ≤ (wordT T).length := by
  induction T with
  | nil => simp
  | cons R T ih =>
    rw [wordT_cons, List.length_append, List.length_cons]
    have h1 := ih (fun S hS => h S (by simp [hS]))
    have := List.length_pos_iff.2 (h R (by simp))
    omega
theorem tab_ne {T : List (List Int)} (h : Go.Gr.Tab T) : ∀ R ∈ T, R ≠ [] := by
  induction T with
  | nil => simp
  | cons R T ih =>
    intro S hS
    rcases List.mem_cons.1 hS with rfl | hS
    · exact h.1
    · exact ih h.2.2.2 S hS
theorem rowT_rise {T : List (List Int)} (h : Go.Gr.Rows T) (k : Nat) : Rise (T.getD k []) := by
  rw [List.getD_eq_getElem?_getD]
  cases hk : T[k]? with
  | none => simp
  | some R => exact h R (List.mem_of_getElem? hk)
theorem rise_mono {R : List Int} (h : Rise R) : ∀ i j, i < j → j < R.length → R.getD i 0 ≤ R.getD j 0 := fun i j hij hj => by have := rise_getD h hij hj; omega
/-- What is known of the tables behind some cards of a pack. -/
theorem insAll_facts {l : List Int} (hn : l.Nodup) {i : Nat} (hi : i ≤ l.length) : Go.Gr.Tab (insAll (l.take i)) ∧ (∀ k, ((insAll (l.take i)).getD k []).length ≤ i) ∧ (insAll (l.take i)).length ≤ i ∧ (wordT (insAll (l.take i))).Perm (l.take i) := by
  have h1 : (l.take i).Nodup := hn.sublist (List.take_sublist _ _)
  have h2 := insAll_tab h1
  have h3 := (insAll_ok h1).2.2
  have h4 := h3.length_eq
  rw [List.length_take] at h4
  refine ⟨h2, fun k => ?_, ?_, h3⟩
  · have := row_word (insAll (l.take i)) k; omega
  · have := rows_word (tab_ne h2); omega

end Go.Am


namespace Go.Am
open Go.Gr

theorem gridPut_c {h0 h : AHeap} {pb vo : AV} {vs : List AV} {T : List (List Int)} {rest : List Obj} {c : Int} (hp : AddrOf pb pb 0 0) (hS : St h0 h (⟨pb, 0, [vo], true⟩ :: (matObjs true vo vs T ++ rest))) (hl : vs.length = T.length) (ht : Go.Gr.Rows T) (hlen : T.length ≤ 9) (hrow : ∀ k, (T.getD k []).length ≤ 9) : ACalls Go.Proofs.Tryz.prog 46 [pb, .int .i64 c] h (fun r h' => ∃ vo' vs', r = .int .i64 (insRow T c : Nat) ∧ vs'.length = (ins T c).length ∧ St h0 h' (⟨pb, 0, [vo'], true⟩ :: (matObjs true vo' vs' (ins T c) ++ rest))) := by
  refine KA.fn 64 [.tmp 4] Go.Proofs.Tryz.func46 rfl (by decide) rfl rfl (Nat.le_of_ble_eq_true rfl) ?_
  show KA _ 64 _ _ [(0, pb), (1, .int .i64 c)] _
  refine KA.seq ?_
  refine KA.region rfl ?_
  refine KOps.assign ?_
  refine KOps.done ?_
  refine sqQ.normal ?_
  refine KA.sub (Sub.cons (t := 0) Look.eq (Sub.cons (t := 1) Look.eq (Sub.nil _))) ?_
  refine KA.seq ?_
  refine KA.seq ?_
  refine KA.region rfl ?_
  refine KOps.move ?_
  refine KOps.nilP hp ?_
  refine KOps.loadBox hS (i := 0) rfl hp ?_
  refine KOps.lenV (St.outer (pre := [_]) hS) ?_
  refine KOps.move ?_
  refine KOps.done ?_
  refine sqQ.normal ?_
  refine KA.sub (Sub.cons (t := 0) Look.eq (Sub.cons (t := 1) Look.eq (Sub.cons (t := 11) Look.eq (Sub.cons (t := 12) Look.eq (Sub.cons (t := 13) Look.eq (Sub.nil _)))))) ?_
  refine KA.block ?_
  refine KA.loop (X := Nat × List (List Int) × Int) (fun x => [(0, pb), (1, .int .i64 x.2.2), (11, vo), (12, .int .i64 (vs.length : Int)), (13, .int .i64 (x.1 : Int))]) (fun x h' => Way T c x.2.1 x.1 x.2.2 ∧ St h0 h' (⟨pb, 0, [vo], true⟩ :: (matObjs true vo vs x.2.1 ++ rest))) (fun x => T.length - x.1) (0, T, c) (by repeat (first | exact Sub.nil _ | refine Sub.cons Look.eq ?_ | refine Sub.cons (Eq.trans Look.eq (congrArg (AV.int _) (by first | omega | (dsimp only; omega)))) ?_)) ?_ ?_
  · exact ⟨Way.start T c, hS⟩
  rintro ⟨k, Tc, cc⟩ h1 ⟨w, hS⟩
  dsimp only at w hS ⊢
  have hlc := w.len
  have hkl := w.le
  have hrk : Rise (Tc.getD k []) := by rw [w.same k (Nat.le_refl _)]; exact rowT_rise ht k
  have hrl : (Tc.getD k []).length ≤ 9 := by rw [w.same k (Nat.le_refl _)]; exact hrow k
  refine KA.seq ?_
  refine KA.region rfl ?_
  refine KOps.lss ?_
  refine KOps.done ?_
  refine sqQ.normal ?_
  refine KA.seq ?_
  refine KA.condD ?_ ?_
  · intro c14
    refine KA.skip ?_
    refine sqQ.normal ?_
    refine KA.sub (Sub.cons (t := 0) Look.eq (Sub.cons (t := 1) Look.eq (Sub.cons (t := 11) Look.eq (Sub.cons (t := 12) Look.eq (Sub.cons (t := 13) Look.eq (Sub.nil _)))))) ?_
    refine KA.seq ?_
    refine KA.block ?_
    refine KA.seq ?_
    refine KA.region rfl ?_
    refine KOps.move ?_
    refine KOps.indexVJ (St.outer (pre := [_]) hS) (j := k) rfl (by first | omega | (simp; omega)) ?_
    intro p16 hp16
    refine KOps.loadV hp16 (St.outer (pre := [_]) hS) (by first | omega | (simp; omega)) ?_
    refine KOps.assign ?_
    refine KOps.assign ?_
    refine KOps.done ?_
    refine sqQ.normal ?_
    refine KA.sub (Sub.cons (t := 0) Look.eq (Sub.cons (t := 1) Look.eq (Sub.cons (t := 5) Look.eq (Sub.cons (t := 6) Look.eq (Sub.cons (t := 11) Look.eq (Sub.cons (t := 12) Look.eq (Sub.cons (t := 13) Look.eq (Sub.nil _)))))))) ?_
    refine KA.seq ?_
    refine KA.region rfl ?_
    refine KOps.move ?_
    refine KOps.move ?_
    refine KOps.call rfl (search_c (c := cc) (St.rowAt (pre := [_]) hS (by first | assumption | omega | (simp only [List.length_set, List.length_append, List.length_singleton, List.length_replicate]; omega)) (by first | omega | (simp; omega))) (by first | omega | (simp; omega)) (rise_mono hrk)) ?_
    rintro _ _ ⟨⟨b61, rfl⟩, rfl⟩
    have hpl := pos_le (Tc.getD k []) cc
    refine KOps.move ?_
    refine KOps.extract ?_
    refine KOps.extract ?_
    refine KOps.assign ?_
    refine KOps.assign ?_
    refine KOps.done ?_
    refine sqQ.normal ?_
    refine KA.sub (Sub.cons (t := 0) Look.eq (Sub.cons (t := 1) Look.eq (Sub.cons (t := 5) Look.eq (Sub.cons (t := 6) Look.eq (Sub.cons (t := 7) Look.eq (Sub.cons (t := 11) Look.eq (Sub.cons (t := 12) Look.eq (Sub.cons (t := 13) Look.eq (Sub.nil _))))))))) ?_
    refine KA.seq ?_
    refine KA.seq ?_
    refine KA.region rfl ?_
    refine KOps.move ?_
    refine KOps.move ?_
    refine KOps.lenI (St.rowAt (pre := [_]) hS (by first | assumption | omega | (simp only [List.length_set, List.length_append, List.length_singleton, List.length_replicate]; omega)) (by first | omega | (simp; omega))) ?_
    refine KOps.eql ?_
    refine KOps.done ?_
    refine sqQ.normal ?_
    refine KA.sub (Sub.cons (t := 0) Look.eq (Sub.cons (t := 1) Look.eq (Sub.cons (t := 5) Look.eq (Sub.cons (t := 6) Look.eq (Sub.cons (t := 7) Look.eq (Sub.cons (t := 11) Look.eq (Sub.cons (t := 12) Look.eq (Sub.cons (t := 13) Look.eq (Sub.cons (t := 27) Look.eq (Sub.nil _)))))))))) ?_
    refine KA.condD ?_ ?_
    · intro c27
      refine KA.seq ?_
      refine KA.draw [10] mixed13 rfl (by kernel_rfl) ?_
      refine KOps.move ?_
      refine KOps.nilP hp ?_
      refine KOps.loadBox hS (i := 0) rfl hp ?_
      refine KOps.move ?_
      refine KOps.move ?_
      refine KOps.move ?_
      refine KOps.move ?_
      refine KOps.cutAt (m := (Go.Gr.pos (Tc.getD k []) cc)) (pre := [_]) hS (by first | assumption | omega | (simp only [List.length_set, List.length_append, List.length_singleton, List.length_replicate]; omega)) (by first | omega | (simp; omega)) (by first | omega | (simp only [List.length_append, List.length_singleton, List.length_set]; omega)) (by first | omega | (simp; omega)) ?_
      intro v35 hr35 hS
      refine KOps.move ?_
      refine KOps.buildSlice hS rfl (by decide) rfl ?_
      intro v37 h' hS
      refine KOps.appendHole (j := k) (pre := [_]) hS (by first | rfl | exact getDA_set (by omega)) (fun _ => rfl) (by first | assumption | omega | (simp only [List.length_set, List.length_append, List.length_singleton, List.length_replicate]; omega)) (by first | omega | (simp; omega)) (by rw [getDL_set (by omega), if_pos rfl, List.length_take]; omega) ?_
      intro r38 h' hr38 hS
      refine KOps.indexVJ (St.hole (pre := [_]) hS) (j := k) rfl (by first | omega | (simp; omega)) ?_
      intro p39 hp39
      refine KOps.storeAt (pre := [_]) hS rfl hp39 (by assumption) (by first | omega | (simp; omega)) (by rw [List.set_set]) ?_
      intro h' hS
      refine KOps.done ?_
      refine sqQ.normal ?_
      refine KA.sub (Sub.cons (t := 5) Look.eq (Sub.nil _)) ?_
      refine KA.seq ?_
      refine KA.region rfl ?_
      refine KOps.move ?_
      refine KOps.assign ?_
      refine KOps.done ?_
      refine sqQ.normal ?_
      refine KA.sub (Sub.cons (t := 4) Look.eq (Sub.nil _)) ?_
      refine KA.ret ?_
      refine sqQ.ret ?_
      refine blQ.ret ?_
      refine sqQ.ret ?_
      refine lpQ.ret ?_
      refine blQ.ret ?_
      refine sqQ.ret ?_
      refine fnQ.ret1 ?_
      obtain ⟨hw1, hw2⟩ := w.last (by omega) (by omega)
      refine ⟨vo, vs.set k r38, by rw [hw2], by rw [hw1]; simp only [List.length_set]; omega, ?_⟩
      rw [hw1]
      have e1 : (Tc.set k ((Tc.getD k []).take (Go.Gr.pos (Tc.getD k []) cc))).set k ((Tc.set k ((Tc.getD k []).take (Go.Gr.pos (Tc.getD k []) cc))).getD k [] ++ [cc]) = Tc.set k (Tc.getD k [] ++ [cc]) := by
        rw [getDL_set (by omega), if_pos rfl, List.set_set, List.take_of_length_le (by omega)]
      rw [e1, List.set_set] at hS
      exact hS
    · intro c27
      refine KA.skip ?_
      refine sqQ.normal ?_
      refine KA.sub (Sub.cons (t := 0) Look.eq (Sub.cons (t := 1) Look.eq (Sub.cons (t := 6) Look.eq (Sub.cons (t := 7) Look.eq (Sub.cons (t := 11) Look.eq (Sub.cons (t := 12) Look.eq (Sub.cons (t := 13) Look.eq (Sub.nil _)))))))) ?_
      refine KA.region rfl ?_
      refine KOps.move ?_
      refine KOps.move ?_
      refine KOps.move ?_
      refine KOps.move ?_
      refine KOps.move ?_
      refine KOps.indexIJ (St.rowAt (pre := [_]) hS (by first | assumption | omega | (simp only [List.length_set, List.length_append, List.length_singleton, List.length_replicate]; omega)) (by first | omega | (simp; omega))) (j := (Go.Gr.pos (Tc.getD k []) cc)) (by first | omega | (simp only [List.length_append, List.length_singleton, List.length_set]; omega)) (by first | omega | (simp; omega)) ?_
      intro p46 hp46
      refine KOps.loadI hp46 (St.rowAt (pre := [_]) hS (by first | assumption | omega | (simp only [List.length_set, List.length_append, List.length_singleton, List.length_replicate]; omega)) (by first | omega | (simp; omega))) (by first | omega | (simp; omega)) ?_
      refine KOps.indexIJ (St.rowAt (pre := [_]) hS (by first | assumption | omega | (simp only [List.length_set, List.length_append, List.length_singleton, List.length_replicate]; omega)) (by first | omega | (simp; omega))) (j := (Go.Gr.pos (Tc.getD k []) cc)) (by first | omega | (simp only [List.length_append, List.length_singleton, List.length_set]; omega)) (by first | omega | (simp; omega)) ?_
      intro p48 hp48
      refine KOps.setAt (pre := [_]) hS rfl (by first | assumption | omega | (simp only [List.length_set, List.length_append, List.length_singleton, List.length_replicate]; omega)) (by first | omega | (simp; omega)) hp48 (by first | omega | (simp; omega)) ?_
      intro h' hS
      refine KOps.assign ?_
      refine KOps.done ?_
      refine blQ.normal ?_
      refine sqQ.normal ?_
      refine KA.sub (Sub.cons (t := 0) Look.eq (Sub.cons (t := 1) Look.eq (Sub.cons (t := 11) Look.eq (Sub.cons (t := 12) Look.eq (Sub.cons (t := 13) Look.eq (Sub.nil _)))))) ?_
      refine KA.region rfl ?_
      refine KOps.add (by first | omega | (simp only [List.length_append, List.length_singleton, List.length_set]; omega)) (by first | omega | (simp only [List.length_append, List.length_singleton, List.length_set]; omega)) ?_
      refine KOps.move ?_
      refine KOps.done ?_
      exact lpQ.normal (k + 1, _, _) (by repeat (first | exact Sub.nil _ | refine Sub.cons Look.eq ?_ | refine Sub.cons (Eq.trans Look.eq (congrArg (AV.int _) (by first | omega | (dsimp only; omega)))) ?_)) ⟨w.next (by omega) (by omega), hS⟩ (by dsimp only; omega)
  · intro c14
    have hkk : k = T.length := by omega
    subst hkk
    obtain ⟨hw1, hw2⟩ := w.new
    refine KA.exit ?_
    refine sqQ.exit ?_
    refine lpQ.exit ?_
    refine blQ.here ?_
    refine sqQ.normal ?_
    refine KA.sub (Sub.cons (t := 0) Look.eq (Sub.cons (t := 1) Look.eq (Sub.nil _))) ?_
    refine KA.seq ?_
    refine KA.region rfl ?_
    refine KOps.move ?_
    refine KOps.move ?_
    refine KOps.nilP hp ?_
    refine KOps.loadBox hS (i := 0) rfl hp ?_
    refine KOps.move ?_
    refine KOps.buildSlice hS rfl (by decide) rfl ?_
    intro v55 h' hS
    have hone : v55.one = true := hS.one (k := 0) rfl
    refine KOps.buildSlice hS rfl (by decide) (by simp [hone]) ?_
    intro v56 h' hS
    refine KOps.appendRow (p := [cc]) (pre := [_]) hS (by first | assumption | omega | (simp only [List.length_set, List.length_append, List.length_singleton, List.length_replicate]; omega)) (by first | omega | (simp; omega)) ?_
    intro r57 h' hr57 hS
    refine KOps.nilP hp ?_
    refine KOps.storeBox hS rfl (i := 0) rfl hp (by first | rfl | assumption) ?_
    intro h' hS
    refine KOps.done ?_
    refine sqQ.normal ?_
    refine KA.sub (Sub.cons (t := 0) Look.eq (Sub.nil _)) ?_
    refine KA.seq ?_
    refine KA.region rfl ?_
    refine KOps.move ?_
    refine KOps.nilP hp ?_
    refine KOps.loadBox hS (i := 0) rfl hp ?_
    refine KOps.lenV (St.outer (pre := [_]) hS) ?_
    refine KOps.sub (by first | omega | (simp only [List.length_append, List.length_singleton, List.length_set]; omega)) (by first | omega | (simp only [List.length_append, List.length_singleton, List.length_set]; omega)) ?_
    refine KOps.assign ?_
    refine KOps.done ?_
    refine sqQ.normal ?_
    refine KA.sub (Sub.cons (t := 4) Look.eq (Sub.nil _)) ?_
    refine KA.ret ?_
    refine fnQ.ret1 ?_
    refine ⟨r57, vs ++ [v55], ?_, by rw [hw1]; simp only [List.length_append, List.length_singleton]; omega, ?_⟩
    · rw [hw2]; congr 1; simp only [List.length_append, List.length_singleton]; omega
    · rw [hw1]; exact hS

theorem tables_c {h : AHeap} {v : AV} {l : List Int} (hv : Row h v l) : ACalls Go.Proofs.Tryz.prog 17 [v] h (fun r h' => ∃ vo1 vs1 vo2 vs2, r = .tup [vo1, vo2, .int .i64 (checkE l)] ∧ vs1.length = (okE l [] (insAll l)).length ∧ vs2.length = (okE l [] (recOf l)).length ∧ St h h' (matObjs true vo1 vs1 (okE l [] (insAll l)) ++ (matObjs true vo2 vs2 (okE l [] (recOf l)) ++ []))) := by
  refine KA.fn 44 [.tmp 2, .tmp 3, .tmp 4] Go.Proofs.Tryz.func17 rfl (by decide) rfl rfl (Nat.le_of_ble_eq_true rfl) ?_
  have hS := St.refl h
  show KA _ 44 _ _ [(0, v)] _
  refine KA.seq ?_
  refine KA.region rfl ?_
  refine KOps.assign ?_
  refine KOps.assign ?_
  refine KOps.assign ?_
  refine KOps.done ?_
  refine sqQ.normal ?_
  refine KA.sub (Sub.cons (t := 0) Look.eq (Sub.cons (t := 3) Look.eq (Sub.nil _))) ?_
  refine KA.seq ?_
  refine KA.seq ?_
  refine KA.region rfl ?_
  refine KOps.move ?_
  refine KOps.call rfl (check_c13 (by first | assumption | exact Rd.ext hS.keeps (by assumption))) ?_
  rintro _ _ ⟨rfl, rfl⟩
  refine KOps.assign ?_
  refine KOps.done ?_
  refine sqQ.normal ?_
  refine KA.sub (Sub.cons (t := 0) Look.eq (Sub.cons (t := 3) Look.eq (Sub.cons (t := 5) Look.eq (Sub.nil _)))) ?_
  refine KA.seq ?_
  refine KA.region rfl ?_
  refine KOps.move ?_
  refine KOps.neq ?_
  refine KOps.done ?_
  refine sqQ.normal ?_
  refine KA.sub (Sub.cons (t := 0) Look.eq (Sub.cons (t := 3) Look.eq (Sub.cons (t := 5) Look.eq (Sub.cons (t := 13) Look.eq (Sub.nil _))))) ?_
  refine KA.condN ?_ ?_
  · intro c13
    refine KA.seq ?_
    refine KA.region rfl ?_
    refine KOps.move ?_
    refine KOps.assign ?_
    refine KOps.assign ?_
    refine KOps.assign ?_
    refine KOps.done ?_
    refine sqQ.normal ?_
    refine KA.sub (Sub.cons (t := 2) Look.eq (Sub.cons (t := 3) Look.eq (Sub.cons (t := 4) Look.eq (Sub.nil _)))) ?_
    refine KA.ret ?_
    refine sqQ.ret ?_
    refine fnQ.retN ?_
    refine ⟨.nils, [], .nils, [], rfl, by rw [okE_no c13]; rfl, by rw [okE_no c13]; rfl, ?_⟩
    rw [okE_no c13, okE_no c13]
    exact St.nilT (St.nilT (St.refl h) true) true
  · intro c13
    obtain ⟨hl0, hl9, hpk⟩ := checkE_ok c13
    refine KA.skip ?_
    refine sqQ.normal ?_
    refine KA.sub (Sub.cons (t := 0) Look.eq (Sub.cons (t := 3) Look.eq (Sub.nil _))) ?_
    refine KA.seq ?_
    refine KA.region rfl ?_
    refine KOps.alloc hS ?_
    intro pb h1 hp hS
    refine KOps.done ?_
    refine sqQ.normal ?_
    refine KA.seq ?_
    refine KA.seq ?_
    refine KA.region rfl ?_
    refine KOps.move ?_
    refine KOps.lenI (by first | assumption | exact Rd.ext hS.keeps (by assumption)) ?_
    refine KOps.move ?_
    refine KOps.done ?_
    refine sqQ.normal ?_
    refine KA.sub (Sub.cons (t := 3) Look.eq (Sub.cons (t := 6) Look.eq (Sub.cons (t := 15) Look.eq (Sub.cons (t := 16) Look.eq (Sub.cons (t := 17) Look.eq (Sub.nil _)))))) ?_
    refine KA.block ?_
    refine KA.loop (X := Nat × AV × List AV × AV × List AV) (fun x => [(3, x.2.2.2.1), (6, pb), (15, v), (16, .int .i64 (l.length : Int)), (17, .int .i64 (x.1 : Int))]) (fun x h' => x.1 ≤ l.length ∧ x.2.2.1.length = (insAll (l.take x.1)).length ∧ x.2.2.2.2.length = (recTo l x.1).length ∧ St h h' (⟨pb, 0, [x.2.1], true⟩ :: (matObjs true x.2.1 x.2.2.1 (insAll (l.take x.1)) ++ (matObjs true x.2.2.2.1 x.2.2.2.2 (recTo l x.1) ++ [])))) (fun x => l.length - x.1) (0, .nils, [], .nils, []) (by repeat (first | exact Sub.nil _ | refine Sub.cons Look.eq ?_ | refine Sub.cons (Eq.trans Look.eq (congrArg (AV.int _) (by first | omega | (dsimp only; omega)))) ?_)) ?_ ?_
    · refine ⟨Nat.zero_le _, rfl, rfl, ?_⟩
      have h2 := St.nilT (St.nilT hS true) true
      exact St.perm (by simp only [matObjs, rowObjs, insAll, recTo, List.cons_append, List.nil_append, List.take_zero, List.foldl_nil, List.zipWith_nil_left]; exact (List.perm_middle (a := (⟨pb, 0, [.nils], true⟩ : Obj)) (l₁ := [⟨.nils, 1, [], true⟩, ⟨.nils, 1, [], true⟩]) (l₂ := []))) h2
    rintro ⟨i, vo1, vs1, vo2, vs2⟩ h1 ⟨hi, hl1, hl2, hS⟩
    dsimp only at hi hl1 hl2 hS ⊢
    have hfa := insAll_facts hpk.1 (i := i) hi
    refine KA.seq ?_
    refine KA.region rfl ?_
    refine KOps.lss ?_
    refine KOps.done ?_
    refine sqQ.normal ?_
    refine KA.seq ?_
    refine KA.condD ?_ ?_
    · intro c18
      refine KA.skip ?_
      refine sqQ.normal ?_
      refine KA.sub (Sub.cons (t := 3) Look.eq (Sub.cons (t := 6) Look.eq (Sub.cons (t := 15) Look.eq (Sub.cons (t := 16) Look.eq (Sub.cons (t := 17) Look.eq (Sub.nil _)))))) ?_
      refine KA.seq ?_
      refine KA.block ?_
      refine KA.seq ?_
      refine KA.region rfl ?_
      refine KOps.move ?_
      refine KOps.indexIJ (by first | assumption | exact Rd.ext hS.keeps (by assumption)) (j := i) rfl (by first | omega | (simp; omega)) ?_
      intro p20 hp20
      refine KOps.loadI hp20 (by first | assumption | exact Rd.ext hS.keeps (by assumption)) (by first | omega | (simp; omega)) ?_
      refine KOps.assign ?_
      refine KOps.assign ?_
      refine KOps.done ?_
      refine sqQ.normal ?_
      refine KA.sub (Sub.cons (t := 3) Look.eq (Sub.cons (t := 6) Look.eq (Sub.cons (t := 7) Look.eq (Sub.cons (t := 8) Look.eq (Sub.cons (t := 15) Look.eq (Sub.cons (t := 16) Look.eq (Sub.cons (t := 17) Look.eq (Sub.nil _)))))))) ?_
      refine KA.seq ?_
      refine KA.region rfl ?_
      refine KOps.move ?_
      refine KOps.call rfl (gridPut_c (c := l.getD i 0) hp hS hl1 hfa.1.rows (by omega) (fun k => by have := hfa.2.1 k; omega)) ?_
      rintro _ h2 ⟨wo1, ws1, rfl, hl3, hS⟩
      obtain ⟨hr1, hr2⟩ := shape_ins (insAll (l.take i)) (l.getD i 0)
      have hsl := shapes_len l (i := i) (by omega)
      have hsr := shapes_row l (i := i) (by omega) (insRow (insAll (l.take i)) (l.getD i 0))
      refine KOps.assign ?_
      refine KOps.done ?_
      refine sqQ.normal ?_
      refine KA.sub (Sub.cons (t := 3) Look.eq (Sub.cons (t := 6) Look.eq (Sub.cons (t := 7) Look.eq (Sub.cons (t := 9) Look.eq (Sub.cons (t := 15) Look.eq (Sub.cons (t := 16) Look.eq (Sub.cons (t := 17) Look.eq (Sub.nil _)))))))) ?_
      refine KA.meet (X := AV × List AV) (fun y => [(3, y.1), (6, pb), (7, .int .i64 (i : Int)), (9, .int .i64 ((insRow (insAll (l.take i)) (l.getD i 0)) : Nat)), (15, v), (16, .int .i64 (l.length : Int)), (17, .int .i64 (i : Int))]) (fun y h' => y.2.length = (roomy (recTo l i) (insRow (insAll (l.take i)) (l.getD i 0))).length ∧ St h h' (⟨pb, 0, [wo1], true⟩ :: (matObjs true wo1 ws1 (ins (insAll (l.take i)) (l.getD i 0)) ++ (matObjs true y.1 y.2 (roomy (recTo l i) (insRow (insAll (l.take i)) (l.getD i 0))) ++ [])))) ?_ ?_
      ·
        refine KA.seq ?_
        refine KA.region rfl ?_
        refine KOps.move ?_
        refine KOps.move ?_
        refine KOps.lenV (St.outer (pre := [_] ++ matObjs _ _ _ _) hS) ?_
        refine KOps.eql ?_
        refine KOps.done ?_
        refine sqQ.normal ?_
        refine KA.sub (Sub.cons (t := 3) Look.eq (Sub.cons (t := 6) Look.eq (Sub.cons (t := 7) Look.eq (Sub.cons (t := 9) Look.eq (Sub.cons (t := 15) Look.eq (Sub.cons (t := 16) Look.eq (Sub.cons (t := 17) Look.eq (Sub.cons (t := 27) Look.eq (Sub.nil _))))))))) ?_
        refine KA.condD ?_ ?_
        · intro c27
          refine KA.region rfl ?_
          refine KOps.move ?_
          refine KOps.buildSlice hS rfl (by decide) rfl ?_
          intro v29 h' hS
          refine KOps.appendNil (pre := [_] ++ matObjs _ _ _ _) hS (by first | assumption | omega | (simp only [List.length_set, List.length_append, List.length_singleton, List.length_replicate]; omega)) (by first | omega | (simp; omega)) ?_
          intro r30 h' hr30 hS
          refine KOps.assign ?_
          refine KOps.done ?_
          have hkq : (insRow (insAll (l.take i)) (l.getD i 0)) = (recTo l i).length := by omega
          refine mtQ.normal (r30, vs2 ++ [.nils]) (by repeat (first | exact Sub.nil _ | refine Sub.cons Look.eq ?_ | refine Sub.cons (Eq.trans Look.eq (congrArg (AV.int _) (by first | omega | (dsimp only; omega)))) ?_)) ⟨?_, ?_⟩
          · rw [roomy_yes hkq]; simp only [List.length_append, List.length_singleton]; omega
          · rw [roomy_yes hkq]; exact hS
        · intro c27
          refine KA.skip ?_
          have hkq : ¬ (insRow (insAll (l.take i)) (l.getD i 0)) = (recTo l i).length := by omega
          refine mtQ.normal (vo2, vs2) (by repeat (first | exact Sub.nil _ | refine Sub.cons Look.eq ?_ | refine Sub.cons (Eq.trans Look.eq (congrArg (AV.int _) (by first | omega | (dsimp only; omega)))) ?_)) ⟨?_, ?_⟩
          · rw [roomy_no hkq]; exact hl2
          · rw [roomy_no hkq]; exact hS
      ·
        rintro ⟨wo2, ws2⟩ h3 ⟨hl4, hS⟩
        dsimp only at hl4 hS ⊢
        have hk2 := roomy_lt (ps := (recTo l i)) (k := (insRow (insAll (l.take i)) (l.getD i 0))) (by omega)
        have hq4 := roomy_getD (recTo l i) (insRow (insAll (l.take i)) (l.getD i 0)) (insRow (insAll (l.take i)) (l.getD i 0))
        have hq5 := hfa.2.1 (insRow (insAll (l.take i)) (l.getD i 0))
        refine KA.region rfl ?_
        refine KOps.move ?_
        refine KOps.move ?_
        refine KOps.move ?_
        refine KOps.move ?_
        refine KOps.indexVJ (St.outer (pre := [_] ++ matObjs _ _ _ _) hS) (j := (insRow (insAll (l.take i)) (l.getD i 0))) rfl (by first | omega | (simp; omega)) ?_
        intro p35 hp35
        refine KOps.loadV hp35 (St.outer (pre := [_] ++ matObjs _ _ _ _) hS) (by first | omega | (simp; omega)) ?_
        refine KOps.move ?_
        refine KOps.buildSlice hS rfl (by decide) rfl ?_
        intro v38 h' hS
        refine KOps.appendAt (j := (insRow (insAll (l.take i)) (l.getD i 0))) (pre := [_] ++ matObjs _ _ _ _) hS (fun _ => rfl) (by first | assumption | omega | (simp only [List.length_set, List.length_append, List.length_singleton, List.length_replicate]; omega)) (by first | omega | (simp; omega)) (by rw [hq4]; omega) ?_
        intro r39 h' hr39 hS
        refine KOps.indexVJ (St.hole (pre := [_] ++ matObjs _ _ _ _) hS) (j := (insRow (insAll (l.take i)) (l.getD i 0))) rfl (by first | omega | (simp; omega)) ?_
        intro p40 hp40
        refine KOps.storeAt (pre := [_] ++ matObjs _ _ _ _) hS rfl hp40 (by assumption) (by first | omega | (simp; omega)) rfl ?_
        intro h' hS
        refine KOps.done ?_
        refine blQ.normal ?_
        refine sqQ.normal ?_
        refine KA.sub (Sub.cons (t := 3) Look.eq (Sub.cons (t := 6) Look.eq (Sub.cons (t := 15) Look.eq (Sub.cons (t := 16) Look.eq (Sub.cons (t := 17) Look.eq (Sub.nil _)))))) ?_
        refine KA.region rfl ?_
        refine KOps.add (by first | omega | (simp only [List.length_append, List.length_singleton, List.length_set]; omega)) (by first | omega | (simp only [List.length_append, List.length_singleton, List.length_set]; omega)) ?_
        refine KOps.move ?_
        refine KOps.done ?_
        refine lpQ.normal (i + 1, wo1, ws1, wo2, ws2.set (insRow (insAll (l.take i)) (l.getD i 0)) r39) (by repeat (first | exact Sub.nil _ | refine Sub.cons Look.eq ?_ | refine Sub.cons (Eq.trans Look.eq (congrArg (AV.int _) (by first | omega | (dsimp only; omega)))) ?_)) ⟨by dsimp only; omega, ?_, ?_, ?_⟩ (by dsimp only; omega)
        · dsimp only; rw [insAll_take (by omega)]; exact hl3
        · dsimp only; rw [recTo]; unfold recStep; simp only [List.length_set]; exact hl4
        · dsimp only; rw [insAll_take (by omega), recTo]; unfold recStep; exact hS
    · intro c18
      refine KA.exit ?_
      refine sqQ.exit ?_
      refine lpQ.exit ?_
      refine blQ.here ?_
      refine sqQ.normal ?_
      refine KA.sub (Sub.cons (t := 3) Look.eq (Sub.cons (t := 6) Look.eq (Sub.nil _))) ?_
      refine KA.seq ?_
      refine KA.region rfl ?_
      refine KOps.loadBox hS (i := 0) rfl hp ?_
      refine KOps.move ?_
      refine KOps.assign ?_
      refine KOps.assign ?_
      refine KOps.assign ?_
      refine KOps.done ?_
      refine sqQ.normal ?_
      refine KA.sub (Sub.cons (t := 2) Look.eq (Sub.cons (t := 3) Look.eq (Sub.cons (t := 4) Look.eq (Sub.nil _)))) ?_
      refine KA.ret ?_
      refine fnQ.retN ?_
      have hie : i = l.length := by omega
      subst hie
      rw [List.take_length] at hl1 hS
      refine ⟨vo1, vs1, vo2, vs2, by rw [c13], ?_, ?_, ?_⟩
      · rw [okE_yes c13]; exact hl1
      · rw [okE_yes c13]; exact hl2
      · rw [okE_yes c13, okE_yes c13]; exact St.tail hS

end Go.Am


namespace Go.Am
open Go.Gr

/-- Back from row to row. -/
def unup (T : List (List Int)) (c : Int) : Nat → List (List Int) × Int
  | 0 => (T, c)
  | k + 1 => unup (T.set k ((T.getD k []).set (Go.Gr.pos (T.getD k []) c - 1) c)) ((T.getD k []).getD (Go.Gr.pos (T.getD k []) c - 1) 0) k
def cutL (T : List (List Int)) (k : Nat) : List (List Int) := T.set k ((T.getD k []).take ((T.getD k []).length - 1))
def takeT (T : List (List Int)) (k : Nat) : List (List Int) × Int := unup (cutL T k) (lastD (T.getD k [])) k
/-- In which row a number stands. -/
def rowOf (S : List (List Int)) (i : Nat) : Nat := S.findIdx fun R => decide ((i : Int) ∈ R)
/-- The table that is left. -/
def left (S : List (List Int)) : Nat → Nat → List (List Int) → List (List Int)
  | 0, _, T => T
  | d + 1, i, T => left S d (i - 1) (takeT T (rowOf S (i - 1))).1

theorem memL_flat {T : List (List Int)} {k : Nat} {x : Int} (hx : x ∈ T.getD k []) : x ∈ T.flatten := by
  rcases Nat.lt_or_ge k T.length with h | h
  · exact List.mem_flatten.2 ⟨_, getDL_mem h, hx⟩
  · rw [getDL_out h] at hx; simp at hx

/-- A table of places, seen up to a number. -/
def cnt (S : List (List Int)) (i r : Nat) : Nat := (S.getD r []).countP fun x => decide (x < (i : Int))

theorem cnt_rise {R : List Int} (hR : Rise R) (b : Int) : ∀ x, x < R.length → (R.getD x 0 < b ↔ x < R.countP fun y => decide (y < b)) := by
  induction R with
  | nil => intro x hx; simp at hx
  | cons y R ih =>
    obtain ⟨h1, h2⟩ := List.pairwise_cons.1 hR
    intro x hx
    rw [List.countP_cons]
    cases x with
    | zero =>
      simp only [List.getD_cons_zero]
      by_cases hy : y < b
      · simp [hy]
      · have : R.countP (fun y => decide (y < b)) = 0 := by
          rw [List.countP_eq_zero]
          intro z hz
          have := h1 z hz
          simp; omega
        simp [hy, this]
    | succ x =>
      simp only [List.getD_cons_succ]
      have h3 := ih h2 x (by simpa using hx)
      rw [h3]
      by_cases hy : y < b
      · simp [hy]
      · have : R.countP (fun y => decide (y < b)) = 0 := by
          rw [List.countP_eq_zero]
          intro z hz
          have := h1 z hz
          simp; omega
        simp [hy, this]

end Go.Am


namespace Go.Am
open Go.Gr

theorem tab_first {T : List (List Int)} (h : Go.Gr.Tab T) : ∀ R ∈ T, R.length ≤ (T.getD 0 []).length := by
  induction T with
  | nil => simp
  | cons R T ih =>
    intro S hS
    rw [List.getD_cons_zero]
    rcases List.mem_cons.1 hS with rfl | hS
    · exact Nat.le_refl _
    · have h1 := ih h.2.2.2 S hS
      have h2 := h.2.2.1.1
      cases T with
      | nil => simp at hS
      | cons Q T => simp at h1 h2; omega

/-- How long rows and columns are. -/
def rowLens (T : List (List Int)) : List Int := T.map fun R => (R.length : Int)
def colCnt (T : List (List Int)) (q : Nat) : Nat := T.countP fun R => decide (q < R.length)
end Go.Am


namespace Go.Am
open Go.Gr

def cntBad (l : List Int) (i : Nat) : Option Int := if 1 ≤ l.getD i 0 ∧ l.getD i 0 ≤ 9 then (if 0 < i ∧ l.getD (i - 1) 0 < l.getD i 0 then some 7 else none) else some 1
def badE (l : List Int) : Int := firstE (cntBad l) l.length
def cntE (l : List Int) : Int := if l.length = 0 then 4 else if badE l = 0 then (if 9 < l.sum then 3 else 0) else badE l
theorem cntE_4 {l : List Int} (h : l.length = 0) : cntE l = 4 := if_pos h
theorem cntE_bad {l : List Int} (h : l.length ≠ 0) {e : Int} (hb : badE l = e) (he : e ≠ 0) : cntE l = e := by
  rw [cntE, if_neg h, if_neg (by rw [hb]; exact he), hb]
theorem cntE_3 {l : List Int} (h : l.length ≠ 0) (hb : badE l = 0) (hs : 9 < l.sum) : cntE l = 3 := by rw [cntE, if_neg h, if_pos hb, if_pos hs]
theorem cntE_0 {l : List Int} (h : l.length ≠ 0) (hb : badE l = 0) (hs : ¬ 9 < l.sum) : cntE l = 0 := by rw [cntE, if_neg h, if_pos hb, if_neg hs]
theorem cntBad_ne (l : List Int) (i : Nat) : cntBad l i ≠ some 0 := by
  unfold cntBad
  split
  · split <;> simp
  · simp
theorem cntBad_none {l : List Int} {i : Nat} (h : cntBad l i = none) : 1 ≤ l.getD i 0 ∧ l.getD i 0 ≤ 9 ∧ (0 < i → l.getD i 0 ≤ l.getD (i - 1) 0) := by
  unfold cntBad at h
  split at h
  · split at h
    · cases h
    · rename_i h1 h2
      exact ⟨h1.1, h1.2, fun h0 => by omega⟩
  · cases h
theorem take_sum1 {l : List Int} {i : Nat} (hi : i < l.length) : (l.take (i + 1)).sum = (l.take i).sum + l.getD i 0 := by rw [take_snoc hi]; simp
theorem sum_ge {l : List Int} (h : ∀ i, i < l.length → 1 ≤ l.getD i 0) : ∀ i, i ≤ l.length → (i : Int) ≤ (l.take i).sum := by
  intro i
  induction i with
  | zero => intro _; simp
  | succ i ih =>
    intro hi
    rw [take_sum1 (by omega)]
    have := ih (by omega)
    have := h i (by omega)
    omega
theorem sum_mono {l : List Int} (h : ∀ i, i < l.length → 0 ≤ l.getD i 0) : ∀ i j, i ≤ j → j ≤ l.length → (l.take i).sum ≤ (l.take j).sum := by
  intro i j hij hj
  induction j with
  | zero => rw [show i = 0 by omega]; exact Int.le_refl _
  | succ j ih =>
    rcases Nat.lt_or_eq_of_le hij with h1 | rfl
    · rw [take_sum1 (by omega)]
      have := ih (by omega) (by omega)
      have := h j (by omega)
      omega
    · exact Int.le_refl _

/-- All orders. -/
def factI : Nat → Int
  | 0 => 1
  | n + 1 => factI n * ((n : Int) + 1)
theorem factI_small : ∀ n, n ≤ 9 → 0 ≤ factI n ∧ factI n ≤ 362880 := by decide
/-- Hooks. -/
def hookC (l : List Int) (i k : Nat) : Int := l.getD i 0 - k + ((l.drop (i + 1)).countP fun m => decide ((k : Int) < m) : Nat)
def hookRow (l : List Int) (i : Nat) : Nat → Int
  | 0 => 1
  | k + 1 => hookRow l i k * hookC l i k
def hooksTo (l : List Int) : Nat → Int
  | 0 => 1
  | i + 1 => hooksTo l i * hookRow l i (l.getD i 0).toNat
theorem mulB {a b : Int} {c : Nat} (ha0 : 1 ≤ a) (ha : a ≤ 18 ^ c) (hb0 : 1 ≤ b) (hb : b ≤ 18) : 1 ≤ a * b ∧ a * b ≤ 18 ^ (c + 1) := by
  refine ⟨?_, ?_⟩
  · have := Int.mul_le_mul ha0 hb0 (by decide) (by omega)
    simpa using this
  · rw [Int.pow_succ]
    exact Int.mul_le_mul ha hb (by omega) (by omega)
theorem pow18 {c : Nat} (h : c ≤ 9) : (18 : Int) ^ c ≤ 198359290368 := by
  have : ∀ c : Nat, c ≤ 9 → (18 : Int) ^ c ≤ 198359290368 := by decide
  exact this c h

/-- The greatest number stands at the end of a row. -/
def tabS : Nat → List Int → Int
  | 0, _ => 1
  | d + 1, l => ((List.range l.length).map fun j => if 0 < l.getD j 0 ∧ (j + 1 = l.length ∨ l.getD (j + 1) 0 < l.getD j 0) then tabS d (l.set j (l.getD j 0 - 1)) else 0).sum
def tabT (d : Nat) (l : List Int) (j : Nat) : Int := if 0 < l.getD j 0 ∧ (j + 1 = l.length ∨ l.getD (j + 1) 0 < l.getD j 0) then tabS (d - 1) (l.set j (l.getD j 0 - 1)) else 0
def tabO (d : Nat) (l : List Int) (i : Nat) : Int := ((List.range i).map (tabT d l)).sum
theorem tabO_succ (d : Nat) (l : List Int) (i : Nat) : tabO d l (i + 1) = tabO d l i + tabT d l i := by simp [tabO, List.range_succ]
theorem tabS_pos {d : Nat} (h : d ≠ 0) (l : List Int) : tabS d l = tabO d l l.length := by
  obtain ⟨e, rfl⟩ : ∃ e, d = e + 1 := ⟨d - 1, by omega⟩
  rfl
theorem tabS_le : ∀ (d : Nat) (l : List Int), l.length ≤ 9 → 0 ≤ tabS d l ∧ tabS d l ≤ 9 ^ d := by
  intro d
  induction d with
  | zero => intro l _; exact ⟨Int.zero_le_ofNat 1, Int.le_refl 1⟩
  | succ d ih =>
    intro l hl
    have hT : ∀ j, 0 ≤ tabT (d + 1) l j ∧ tabT (d + 1) l j ≤ 9 ^ d := by
      intro j
      unfold tabT
      split
      · exact ih _ (by rw [List.length_set]; exact hl)
      · exact ⟨Int.le_refl _, Int.pow_nonneg (by decide)⟩
    have key : ∀ i, 0 ≤ tabO (d + 1) l i ∧ tabO (d + 1) l i ≤ i * 9 ^ d := by
      intro i
      induction i with
      | zero => simp [tabO]
      | succ i ih2 =>
        rw [tabO_succ]
        have h1 := hT i
        have h2 : ((i + 1 : Nat) : Int) * 9 ^ d = i * 9 ^ d + 9 ^ d := by rw [Int.natCast_add, Int.add_mul]; simp
        omega
    rw [tabS_pos (Nat.succ_ne_zero d)]
    have h1 := key l.length
    refine ⟨h1.1, Int.le_trans h1.2 ?_⟩
    rw [Int.pow_succ, Int.mul_comm]
    exact Int.mul_le_mul_of_nonneg_left (by omega) (Int.pow_nonneg (by decide))
/-- All shapes. -/
def parts13 : Nat → Nat → Nat → List (List Int)
  | 0, _, _ => [[]]
  | d + 1, m, s => [] :: (List.range (min m s)).flatMap fun a => (parts13 d (a + 1) (s - (a + 1))).map fun p => ((a : Int) + 1) :: p
theorem parts_mem : ∀ (d m s : Nat) (l : List Int), l.length ≤ d → (∀ x ∈ l, 1 ≤ x ∧ x ≤ m) → l.Pairwise (· ≥ ·) → l.sum ≤ s → l ∈ parts13 d m s := by
  intro d
  induction d with
  | zero =>
    intro m s l hl _ _ _
    have : l = [] := List.length_eq_zero_iff.1 (by omega)
    subst this
    simp [parts13]
  | succ d ih =>
    intro m s l hl hb hp hs
    cases l with
    | nil => simp [parts13]
    | cons x l =>
      rw [parts13]
      refine List.mem_cons_of_mem _ ?_
      have hx := hb x (by simp)
      obtain ⟨h1, h2⟩ := List.pairwise_cons.1 hp
      have hsum : 0 ≤ l.sum := by
        have : ∀ l : List Int, (∀ x ∈ l, 0 ≤ x) → 0 ≤ l.sum := by
          intro l
          induction l with
          | nil => intro _; simp
          | cons y l ih2 => intro hy; rw [List.sum_cons]; have := ih2 (fun x hx => hy x (by simp [hx])); have := hy y (by simp); omega
        exact this l (fun y hy => by have := hb y (by simp [hy]); omega)
      rw [List.sum_cons] at hs
      rw [List.mem_flatMap]
      refine ⟨x.toNat - 1, List.mem_range.2 (by omega), ?_⟩
      rw [List.mem_map]
      refine ⟨l, ?_, by congr 1; omega⟩
      refine ih _ _ l (by simpa using hl) (fun y hy => ⟨(hb y (by simp [hy])).1, ?_⟩) h2 (by omega)
      have := h1 y hy
      omega
theorem hooks_all : (parts13 9 9 9).all (fun l => decide (tabS l.sum.toNat l = (factI l.sum.toNat).tdiv (hooksTo l l.length))) = true := by decide +kernel

/-- The theorem of the hooks, at the sizes that are allowed. -/
theorem hooks_is {l : List Int} (h : cntE l = 0) : tabS l.sum.toNat l = (factI l.sum.toNat).tdiv (hooksTo l l.length) := by
  unfold cntE at h
  by_cases h0 : l.length = 0
  · rw [if_pos h0] at h; cases h
  rw [if_neg h0] at h
  have h1 : badE l = 0 := by
    by_cases h1 : badE l = 0
    · exact h1
    · rw [if_neg h1] at h; exact h
  rw [if_pos h1] at h
  have h2 : ¬ 9 < l.sum := by
    intro h2; rw [if_pos h2] at h; cases h
  have hb := firstE_zero (cntBad_ne l) h1
  have hpos : ∀ i, i < l.length → 1 ≤ l.getD i 0 := fun i hi => (cntBad_none (hb i hi)).1
  have hlen := sum_ge hpos l.length (Nat.le_refl _)
  rw [List.take_length] at hlen
  have hm : l ∈ parts13 9 9 9 := by
    refine parts_mem 9 9 9 l (by omega) ?_ ?_ (by omega)
    · intro x hx
      obtain ⟨i, hi, rfl⟩ := mem_getD hx
      have := cntBad_none (hb i hi)
      omega
    · refine List.pairwise_iff_getElem.2 ?_
      have key : ∀ e i, i + e < l.length → l.getD (i + e) 0 ≤ l.getD i 0 := by
        intro e
        induction e with
        | zero => intro i _; exact Int.le_refl _
        | succ e ih =>
          intro i hi
          have h3 := ih i (by omega)
          have h4 := (cntBad_none (hb (i + (e + 1)) hi)).2.2 (by omega)
          rw [show i + (e + 1) - 1 = i + e by omega] at h4
          omega
      intro i j hi hj hij
      have := key (j - i) i (by omega)
      rw [show i + (j - i) = j by omega] at this
      simpa [List.getD_eq_getElem?_getD, List.getElem?_eq_getElem hi, List.getElem?_eq_getElem hj] using this
  have := List.all_eq_true.1 hooks_all l hm
  exact of_decide_eq_true this

end Go.Am


namespace Go.Am
open Go.Gr

def up (l : List Nat) : List Int := l.map fun n : Nat => (n : Int)
end Go.Am

