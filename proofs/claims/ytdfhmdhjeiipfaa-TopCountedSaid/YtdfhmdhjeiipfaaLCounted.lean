/-
  TopCounted: whatever the numbers, the Go function returns true: stamps that go by several ways, at most one by each, have as many flows as there are backs of two colours with so many cells; the first flow is the first of these backs.
  Conditions: none.
-/
import Derived.Test.YtdfhmdhjeiipfaaRows
import Derived.Test.YtdfhmdhjeiipfaaCvd
import Derived.WalkKit
import Derived.ProofKit
import Derived.OpenShut
import Derived.ShutString
import Derived.ChangeOld
import Derived.Below
import Derived.Carry
namespace Go.Proofs.Ytdfhmdhjeiipfaa.topCounted
open Go.ChangeShapes Go.WideShapes Go.ChangeAt Go.RowKit Go.Am

theorem own : ownKnob Try.prog.godebug = none := by kernel_rfl
theorem laid : laidOutB Try.prog = true := by kernel_rfl

set_option maxRecDepth 100000 in
theorem lifted (os : Os) (started : os.Started) (H : Type) (enc : TypeId × Value → H) :
    ReturnsInHanded {} Try.checked os 4 .any (Rows.topCountedSpec.pre6 enc Try.prog Try.f4 Rows.topCountedRow.domain false) (Rows.topCountedSpec.post enc Try.prog Try.f4 false true false false) := by
  refine returnsInHanded_of_change (C := Try.checked) own started (by kernel_rfl) Try.func4
    (ChangeSpec.witness6 (enc := enc) (C := Try.checked) false ⟨#[], #[.int .u8 0, .int .u8 0], []⟩ 8 (by kernel_rfl) (by kernel_rfl) (by kernel_rfl) (by kernel_rfl)) ?_
  intro W base args ds gs before hval0 hW hcnd _
  have hval : ∀ (j : Nat) t v, Try.f4.params[j]? = some t → args[j]? = some v → Value.okWide Try.prog W .any base t v := hval0
  have hW' := hW
  obtain ⟨p, q, hA0, hV, rfl, hfz, hnd⟩ := hW
  have hA : DataW.TrodAll enc Try.prog W 0 (fun _ => true) true Try.f4.params.toList args.toList ds p := hA0
  rw [Try.params4] at hA hval
  obtain ⟨v0, vs0, d0, ds0, p0, q0, hargs, rfl, rfl, h0, r0⟩ := trodAll_cons hA
  obtain ⟨v1, vs1, d1, ds1, p1, q1, rfl, rfl, rfl, h1, r1⟩ := trodAll_cons r0
  obtain ⟨rfl, rfl, rfl⟩ := trodAll_nil r1
  obtain rfl : args = #[v0, v1] := by cases args; simp_all
  obtain ⟨rfl, rfl⟩ := trodVars_none hV
  clear hA0 hval0
  have hlt0 : ∀ x ∈ p0, x.block < W.heap.size := fun x hx => hW'.lt x (by simp [hx])
  have hlt1 : ∀ x ∈ p1, x.block < W.heap.size := fun x hx => hW'.lt x (by simp [hx])
  have im0 := Imp.empty W
  obtain ⟨φ1, hp1, av1, x1, im1, le1, k1, hv1, hE1⟩ := imp_one (IC.int Try.underlying5) im0 (cells_of_int Try.underlying5 (hval 0 5 v0 rfl rfl)) h0
  obtain ⟨he1, hw1⟩ := hE1
  cases he1
  obtain ⟨φ2, hp2, av2, x2, im2, le2, k2, hv2, hE2⟩ := imp_one (IC.int Try.underlying5) im1 (cells_of_int Try.underlying5 (hval 1 5 v1 rfl rfl)) h1
  obtain ⟨he2, hw2⟩ := hE2
  cases he2
  have hv1 := hv1.mono le2
  refine (ACalls.law (law_counted_i (wf_u8 hw1).1 (wf_u8 hw1).2 (wf_u8 hw2).1 (wf_u8 hw2).2) (fun r _ h => h) im2 (vrels_cons hv1 (vrels_cons hv2 vrels_nil))).mono fun e W' ⟨he, bel⟩ => ?_
  subst he
  exact ⟨_, rfl, _, _, _, [], _, [], hW', trodAll_mk1 (shut_bool Try.underlying4 _), (trodAll_cons_mk (Below.trod laid (by kernel_rfl) (of_decide_eq_true (by kernel_rfl)) h0 bel hlt0) (trodAll_cons_mk (Below.trod laid (by kernel_rfl) (of_decide_eq_true (by kernel_rfl)) h1 bel hlt1) trodAll_mk0)), rfl, bel.frame _, fun h => by cases h⟩

theorem over : Rows.topCountedRow.holds Try.pinned (OpenSpec.ofChange Rows.topCountedSpec) :=
  OpenClaim.holds_of_wide 4 Try.f4 rfl rfl rfl rfl rfl rfl rfl ⟨rfl, rfl, rfl, rfl, rfl⟩ rfl rfl rfl rfl rfl (by kernel_rfl) Try.func4 (by kernel_rfl)
    (of_decide_eq_true (by kernel_rfl)) (by unfold Func.isWrapper; first | (rw [if_pos (by decide +kernel)]; kernel_rfl) | (rw [if_neg (by decide +kernel)]; exact ⟨rfl, rfl⟩))
    (fun os started H enc _ => lifted os started H enc)

theorem proved : Rows.TopCountedSaid := over
#print axioms proved
end Go.Proofs.Ytdfhmdhjeiipfaa.topCounted

