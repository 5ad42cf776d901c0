/-
  Layer 13: shapes, copies, rows turned around.
  Conditions: none.
-/
import Derived.Test.YtenkokebdgekbaaCo
import Derived.Test.YtenkokebdgekbaaPt5
import Derived.Test.YtenkokebdgekbaaPt9
namespace Go.Am
open Go.Gr
section
variable {P : Program} {n : Nat} {ops : Array Oper} {ex : List Nat} {Q : KF → AHeap → Prop} {k : Nat} {os : List Oper} {K : KF} {h h0 : AHeap} {d : Nat} {ty : TypeId} {pos : String} {after : Array Edge} {objs pre rest : List Obj}
theorem KOps.slcEq {t t' e : TypeId} {s z : Nat} {xs zs : List AV} {v : AV} {x y : Operand} [hx : EvK h.globs n K x v] [hy : EvK h.globs n K y .nils] [ht : SlT P t e s zs] (hr : Rd h v z xs) (hz : 0 < z) (hne : xs ≠ []) (hk : KOps P n ops ex Q (k + 1) os ((d, .bool false) :: K) h) : KOps P n ops ex Q k (⟨some d, .binOp .eql t x y t', ty, pos, after, none⟩ :: os) K h := by
  have hv : ∃ b o m full, v = .slc b o m z full := by
    rcases hr with ⟨_, h2⟩ | ⟨b, o, F, p, cs, h1, _⟩ | ⟨_, _, _, _, h0, _⟩
    · exact absurd h2 hne
    rotate_left
    · omega
    · rcases h1 with ⟨m, full, h1, _⟩ | ⟨h1, _⟩
      · exact ⟨b, o, m, full, h1⟩
      · omega
  obtain ⟨b, o, m, full, rfl⟩ := hv
  exact KOps.pure rfl (by simp only [apure, hx.eq, hy.eq, abin, ht.sl, if_true]) hk
end

theorem clone_c {h : AHeap} {v : AV} {l : List Int} (hv : Row h v l) (hlen : l.length ≤ 4294967295) (h0 : l ≠ []) : ACalls Go.Proofs.Try.prog 53 [v] h (fun r h' => St h h' [⟨r, 1, ints l, true⟩]) := by
  refine KA.fn 8 [.tmp 2] Go.Proofs.Try.func53 rfl (by decide) rfl rfl (Nat.le_of_ble_eq_true rfl) ?_
  have hS := St.refl h
  show KA _ 8 _ _ [(0, v)] _
  refine KA.seq ?_
  refine KA.region rfl ?_
  refine KOps.assign ?_
  refine KOps.done ?_
  refine sqQ.normal ?_
  refine KA.sub (Sub.cons (t := 0) Look.eq (Sub.nil _)) ?_
  refine KA.seq ?_
  refine KA.seq ?_
  refine KA.region rfl ?_
  refine KOps.move ?_
  refine KOps.slcEq hv (by decide) (by intro he; exact h0 (by simpa [ints] using he)) ?_
  refine KOps.done ?_
  refine sqQ.normal ?_
  refine KA.sub (Sub.cons (t := 0) Look.eq (Sub.cons (t := 4) Look.eq (Sub.nil _))) ?_
  refine KA.condF ?_
  refine KA.skip ?_
  refine sqQ.normal ?_
  refine KA.sub (Sub.cons (t := 0) Look.eq (Sub.nil _)) ?_
  refine KA.seq ?_
  refine KA.region rfl ?_
  refine KOps.buildSlice hS rfl (by decide) rfl ?_
  intro v5 h' hS
  refine KOps.move ?_
  refine KOps.appendAll hS (fun _ => rfl) (i := 0) (p := []) rfl (Row.ext hS.keeps hv) (by rw [List.length_nil]; omega) ?_
  intro r7 h6 hr7 hS
  simp only [List.set_cons_zero, List.nil_append] at hS
  refine KOps.assign ?_
  refine KOps.done ?_
  refine sqQ.normal ?_
  refine KA.sub (Sub.cons (t := 2) Look.eq (Sub.nil _)) ?_
  refine KA.ret ?_
  refine fnQ.ret1 ?_
  exact hS

theorem reverse_c {h0 h : AHeap} {v : AV} {l : List Int} {F : List Obj} (hS : St h0 h (⟨v, 1, ints l, true⟩ :: F)) (hlen : l.length ≤ 4294967295) : ACalls Go.Proofs.Try.prog 54 [v] h (fun _ h' => St h0 h' (⟨v, 1, ints l.reverse, true⟩ :: F)) := by
  refine KA.fn 28 [] Go.Proofs.Try.func54 rfl (by decide) rfl rfl (Nat.le_of_ble_eq_true rfl) ?_
  show KA _ 28 _ _ [(0, v)] _
  refine KA.seq ?_
  refine KA.region rfl ?_
  refine KOps.move ?_
  refine KOps.lenI (hS.rd 0 rfl) ?_
  refine KOps.sub (by first | omega | (simp only [List.length_append, List.length_singleton, List.length_set]; omega)) (by first | omega | (simp only [List.length_append, List.length_singleton, List.length_set]; omega)) ?_
  refine KOps.assign ?_
  refine KOps.assign ?_
  refine KOps.done ?_
  refine sqQ.normal ?_
  refine KA.sub (Sub.cons (t := 0) Look.eq (Sub.cons (t := 2) Look.eq (Sub.cons (t := 3) Look.eq (Sub.nil _)))) ?_
  refine KA.block ?_
  refine KA.loop (X := Nat × List Int) (fun x => [(0, v), (2, .int .i64 (x.1 : Int)), (3, .int .i64 ((l.length : Int) - 1 - x.1))]) (fun x h' => x.1 ≤ l.length ∧ x.2.length = l.length ∧ (∀ k, k < l.length → x.2.getD k 0 = if k < x.1 ∨ l.length ≤ k + x.1 then l.getD (l.length - 1 - k) 0 else l.getD k 0) ∧ St h0 h' (⟨v, 1, ints x.2, true⟩ :: F)) (fun x => l.length - x.1) (0, l) (by repeat (first | exact Sub.nil _ | refine Sub.cons Look.eq ?_ | refine Sub.cons (Eq.trans Look.eq (congrArg (AV.int _) (by first | omega | (dsimp only; omega)))) ?_)) ?_ ?_
  · refine ⟨Nat.zero_le _, rfl, ?_, hS⟩
    intro k hk
    rw [if_neg (by dsimp only; omega)]
  rintro ⟨i, m⟩ h1 ⟨hi, hml, hm, hS⟩
  dsimp only at hi hml hm hS ⊢
  refine KA.seq ?_
  refine KA.seq ?_
  refine KA.region rfl ?_
  refine KOps.move ?_
  refine KOps.move ?_
  refine KOps.lss ?_
  refine KOps.done ?_
  refine sqQ.normal ?_
  refine KA.sub (Sub.cons (t := 0) Look.eq (Sub.cons (t := 2) Look.eq (Sub.cons (t := 3) Look.eq (Sub.cons (t := 9) Look.eq (Sub.nil _))))) ?_
  refine KA.condD ?_ ?_
  · intro c9
    refine KA.skip ?_
    refine sqQ.normal ?_
    refine KA.sub (Sub.cons (t := 0) Look.eq (Sub.cons (t := 2) Look.eq (Sub.cons (t := 3) Look.eq (Sub.nil _)))) ?_
    refine KA.seq ?_
    refine KA.block ?_
    refine KA.draw [] mixed rfl (by kernel_rfl) ?_
    refine KOps.move ?_
    refine KOps.move ?_
    refine KOps.move ?_
    refine KOps.move ?_
    refine KOps.move ?_
    refine KOps.move ?_
    refine KOps.indexIJ (hS.rd 0 rfl) (j := (l.length - 1 - i)) (by first | omega | (simp only [List.length_append, List.length_singleton, List.length_set]; omega)) (by first | omega | (simp; omega)) ?_
    intro p20 hp20
    refine KOps.loadI hp20 (hS.rd 0 rfl) (by first | omega | (simp; omega)) ?_
    refine KOps.move ?_
    refine KOps.move ?_
    refine KOps.indexIJ (hS.rd 0 rfl) (j := i) rfl (by first | omega | (simp; omega)) ?_
    intro p24 hp24
    refine KOps.loadI hp24 (hS.rd 0 rfl) (by first | omega | (simp; omega)) ?_
    refine KOps.indexIJ (hS.rd 0 rfl) (j := i) rfl (by first | omega | (simp; omega)) ?_
    intro p26 hp26
    refine KOps.storeI hS rfl (i := 0) rfl hp26 (by first | omega | (simp; omega)) ?_
    intro h' hS
    simp only [List.set_cons_zero] at hS
    refine KOps.indexIJ (hS.rd 0 rfl) (j := (l.length - 1 - i)) (by first | omega | (simp only [List.length_append, List.length_singleton, List.length_set]; omega)) (by first | omega | (simp; omega)) ?_
    intro p27 hp27
    refine KOps.storeI hS rfl (i := 0) rfl hp27 (by first | omega | (simp; omega)) ?_
    intro h' hS
    simp only [List.set_cons_zero] at hS
    refine KOps.done ?_
    refine blQ.normal ?_
    refine sqQ.normal ?_
    refine KA.sub (Sub.cons (t := 0) Look.eq (Sub.cons (t := 2) Look.eq (Sub.cons (t := 3) Look.eq (Sub.nil _)))) ?_
    refine KA.region rfl ?_
    refine KOps.move ?_
    refine KOps.add (by first | omega | (simp only [List.length_append, List.length_singleton, List.length_set]; omega)) (by first | omega | (simp only [List.length_append, List.length_singleton, List.length_set]; omega)) ?_
    refine KOps.move ?_
    refine KOps.sub (by first | omega | (simp only [List.length_append, List.length_singleton, List.length_set]; omega)) (by first | omega | (simp only [List.length_append, List.length_singleton, List.length_set]; omega)) ?_
    refine KOps.assign ?_
    refine KOps.assign ?_
    refine KOps.done ?_
    refine lpQ.normal (i + 1, (m.set i (m.getD (l.length - 1 - i) 0)).set (l.length - 1 - i) (m.getD i 0)) (by repeat (first | exact Sub.nil _ | refine Sub.cons Look.eq ?_ | refine Sub.cons (Eq.trans Look.eq (congrArg (AV.int _) (by first | omega | (dsimp only; omega)))) ?_)) ⟨by dsimp only; omega, by simpa using hml, ?_, hS⟩ (by dsimp only; omega)
    intro k hk
    have h1 := hm i (by omega)
    have h2 := hm (l.length - 1 - i) (by omega)
    have h3 := hm k hk
    rw [if_neg (by omega)] at h1 h2
    dsimp only
    rw [getD_set (by rw [List.length_set]; omega), getD_set (by omega), h1, h2, h3]
    by_cases e1 : l.length - 1 - i = k
    · rw [if_pos e1, if_pos (by omega), show l.length - 1 - k = i by omega]
    · rw [if_neg e1]
      by_cases e2 : i = k
      · rw [if_pos e2, if_pos (by omega), e2]
      · rw [if_neg e2]
        by_cases e3 : k < i ∨ l.length ≤ k + i
        · rw [if_pos e3, if_pos (by omega)]
        · rw [if_neg e3, if_neg (by omega)]
  · intro c9
    refine KA.exit ?_
    refine sqQ.exit ?_
    refine lpQ.exit ?_
    refine blQ.here ?_
    refine fnQ.norm0 ?_
    have he : m = l.reverse := by
      refine ext_getD (by rw [List.length_reverse]; exact hml) ?_
      intro k hk
      rw [hm k (by omega), List.getD_eq_getElem?_getD (l := l.reverse), List.getElem?_reverse (by omega), ← List.getD_eq_getElem?_getD]
      split
      · rfl
      · rw [show l.length - 1 - k = k by omega]
    rw [he] at hS
    exact hS

end Go.Am
