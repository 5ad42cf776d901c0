/-
  Layer 13: shapes, copies, rows turned around.
  Conditions: none.
-/
import Derived.Test.YtenkokebdgekbaaCo
import Derived.Test.YtenkokebdgekbaaPt5
import Derived.Test.YtenkokebdgekbaaPt9
namespace Go.Am
open Go.Gr
theorem rowLens_take {T : List (List Int)} {i : Nat} (hi : i < T.length) : rowLens (T.take (i + 1)) = rowLens (T.take i) ++ [((T.getD i []).length : Int)] := by
  unfold rowLens
  rw [List.take_add_one, List.map_append, List.getElem?_eq_getElem hi]
  simp [List.getD_eq_getElem?_getD, List.getElem?_eq_getElem hi]
theorem rowLens_len (T : List (List Int)) : (rowLens T).length = T.length := List.length_map _
section
variable {P : Program} {n : Nat} {ops : Array Oper} {ex : List Nat} {Q : KF → AHeap → Prop} {k : Nat} {os : List Oper} {K : KF} {h h0 : AHeap} {d : Nat} {ty : TypeId} {pos : String} {after : Array Edge} {objs pre rest : List Obj}
end

theorem shape_c {h : AHeap} {v : AV} {T : List (List Int)} (hv : Mat h v T) (hlen : T.length ≤ 4294967295) (hrow : ∀ i, i < T.length → (T.getD i []).length ≤ 4294967295) : ACalls Go.Proofs.Try.prog 46 [v] h (fun r h' => St h h' [⟨r, 1, ints (rowLens T), true⟩]) := by
  refine KA.fn 19 [.tmp 2] Go.Proofs.Try.func46 rfl (by decide) rfl rfl (Nat.le_of_ble_eq_true rfl) ?_
  have hS := St.refl h
  obtain ⟨vs, hvs, hvl, hvr⟩ := hv
  show KA _ 19 _ _ [(0, v)] _
  refine KA.seq ?_
  refine KA.region rfl ?_
  refine KOps.assign ?_
  refine KOps.done ?_
  refine sqQ.normal ?_
  refine KA.sub (Sub.cons (t := 0) Look.eq (Sub.nil _)) ?_
  refine KA.seq ?_
  refine KA.region rfl ?_
  refine KOps.assign ?_
  refine KOps.done ?_
  refine sqQ.normal ?_
  refine KA.seq ?_
  refine KA.seq ?_
  refine KA.region rfl ?_
  refine KOps.move ?_
  refine KOps.lenV (Rd.ext hS.keeps hvs) ?_
  refine KOps.move ?_
  refine KOps.done ?_
  refine sqQ.normal ?_
  refine KA.sub (Sub.cons (t := 3) Look.eq (Sub.cons (t := 6) Look.eq (Sub.cons (t := 7) Look.eq (Sub.cons (t := 8) Look.eq (Sub.nil _))))) ?_
  refine KA.block ?_
  refine KA.loop (X := Nat × AV) (fun x => [(3, x.2), (6, v), (7, .int .i64 (T.length : Int)), (8, .int .i64 (x.1 : Int))]) (fun x h' => x.1 ≤ T.length ∧ St h h' [⟨x.2, 1, ints (rowLens (T.take x.1)), true⟩]) (fun x => T.length - x.1) (0, .nils) (by repeat (first | exact Sub.nil _ | refine Sub.cons Look.eq ?_ | refine Sub.cons (Eq.trans Look.eq (congrArg (AV.int _) (by first | omega | (dsimp only; omega)))) ?_)) ?_ ?_
  · exact ⟨Nat.zero_le _, St.nil hS 1⟩
  rintro ⟨i, vo⟩ h1 ⟨hi, hS⟩
  dsimp only at hi hS ⊢
  have hrl := rowLens_len (T.take i)
  rw [List.length_take] at hrl
  refine KA.seq ?_
  refine KA.region rfl ?_
  refine KOps.lss ?_
  refine KOps.done ?_
  refine sqQ.normal ?_
  refine KA.seq ?_
  refine KA.condD ?_ ?_
  · intro c9
    have hri := Row.ext hS.keeps (hvr i (by omega))
    refine KA.skip ?_
    refine sqQ.normal ?_
    refine KA.sub (Sub.cons (t := 3) Look.eq (Sub.cons (t := 6) Look.eq (Sub.cons (t := 7) Look.eq (Sub.cons (t := 8) Look.eq (Sub.nil _))))) ?_
    refine KA.seq ?_
    refine KA.block ?_
    refine KA.seq ?_
    refine KA.region rfl ?_
    refine KOps.indexVJ (Rd.ext hS.keeps hvs) (j := i) rfl (by first | omega | (simp; omega)) ?_
    intro p10 hp10
    refine KOps.loadV hp10 (Rd.ext hS.keeps hvs) (by first | omega | (simp; omega)) ?_
    refine KOps.assign ?_
    refine KOps.done ?_
    refine sqQ.normal ?_
    refine KA.sub (Sub.cons (t := 3) Look.eq (Sub.cons (t := 5) Look.eq (Sub.cons (t := 6) Look.eq (Sub.cons (t := 7) Look.eq (Sub.cons (t := 8) Look.eq (Sub.nil _)))))) ?_
    refine KA.region rfl ?_
    refine KOps.move ?_
    refine KOps.move ?_
    refine KOps.lenI (by first | assumption | exact Rd.ext hS.keeps (by assumption)) ?_
    refine KOps.buildSlice hS rfl (by decide) rfl ?_
    intro v15 h' hS
    refine KOps.appendI hS (fun _ => rfl) (i := 0) rfl (by first | omega | (simp; omega)) ?_
    intro r16 h' hr16 hS
    refine KOps.assign ?_
    refine KOps.done ?_
    refine blQ.normal ?_
    refine sqQ.normal ?_
    refine KA.sub (Sub.cons (t := 3) Look.eq (Sub.cons (t := 6) Look.eq (Sub.cons (t := 7) Look.eq (Sub.cons (t := 8) Look.eq (Sub.nil _))))) ?_
    refine KA.region rfl ?_
    refine KOps.add (by first | omega | (simp only [List.length_append, List.length_singleton, List.length_set]; omega)) (by first | omega | (simp only [List.length_append, List.length_singleton, List.length_set]; omega)) ?_
    refine KOps.move ?_
    refine KOps.done ?_
    rw [← rowLens_take (by omega)] at hS
    exact lpQ.normal (i + 1, r16) (by repeat (first | exact Sub.nil _ | refine Sub.cons Look.eq ?_ | refine Sub.cons (Eq.trans Look.eq (congrArg (AV.int _) (by first | omega | (dsimp only; omega)))) ?_)) ⟨by dsimp only; omega, hS⟩ (by dsimp only; omega)
  · intro c9
    refine KA.exit ?_
    refine sqQ.exit ?_
    refine lpQ.exit ?_
    refine blQ.here ?_
    refine sqQ.normal ?_
    refine KA.sub (Sub.cons (t := 3) Look.eq (Sub.nil _)) ?_
    refine KA.seq ?_
    refine KA.region rfl ?_
    refine KOps.move ?_
    refine KOps.assign ?_
    refine KOps.done ?_
    refine sqQ.normal ?_
    refine KA.sub (Sub.cons (t := 2) Look.eq (Sub.nil _)) ?_
    refine KA.ret ?_
    refine fnQ.ret1 ?_
    have hin : i = T.length := by omega
    subst hin
    rw [List.take_length] at hS
    exact hS

end Go.Am
