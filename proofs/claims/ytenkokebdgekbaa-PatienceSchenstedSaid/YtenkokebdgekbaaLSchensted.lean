/-
  PatienceSchensted: whatever the numbers, the Go function returns true: there are as many piles as the longest rising row has cards, and as many lists of the first table as the longest falling one (the theorem of Schensted, out of that of Greene).
  Conditions: none.
-/
import Derived.Test.YtenkokebdgekbaaRows
import Derived.Test.YtenkokebdgekbaaCr
import Derived.WalkKit
import Derived.ProofKit
import Derived.OpenShut
import Derived.ShutString
import Derived.ChangeOld
import Derived.Below
import Derived.Carry
namespace Go.Proofs.Ytenkokebdgekbaa.patienceSchensted
open Go.ChangeShapes Go.WideShapes Go.ChangeAt Go.RowKit Go.Am

theorem own : ownKnob Try.prog.godebug = none := by kernel_rfl
theorem laid : laidOutB Try.prog = true := by kernel_rfl

set_option maxRecDepth 100000 in
theorem lifted (os : Os) (started : os.Started) (H : Type) (enc : TypeId × Value → H) :
    ReturnsInHanded {} Try.checked os 13 .any (Rows.patienceSchenstedSpec.pre6 enc Try.prog Try.f13 Rows.patienceSchenstedRow.domain false) (Rows.patienceSchenstedSpec.post enc Try.prog Try.f13 false true false false) := by
  refine returnsInHanded_of_change (C := Try.checked) own started (by kernel_rfl) Try.func13
    (ChangeSpec.witness6 (enc := enc) (C := Try.checked) false ⟨#[], #[.int .u8 0, .agg #[.int .u8 0, .int .u8 0, .int .u8 0, .int .u8 0, .int .u8 0, .int .u8 0, .int .u8 0, .int .u8 0, .int .u8 0]], []⟩ 8 (by kernel_rfl) (by kernel_rfl) (by kernel_rfl) (by kernel_rfl)) ?_
  intro W base args ds gs before hval0 hW hcnd _
  have hval : ∀ (j : Nat) t v, Try.f13.params[j]? = some t → args[j]? = some v → Value.okWide Try.prog W .any base t v := hval0
  have hW' := hW
  obtain ⟨p, q, hA0, hV, rfl, hfz, hnd⟩ := hW
  have hA : DataW.TrodAll enc Try.prog W 0 (fun _ => true) true Try.f13.params.toList args.toList ds p := hA0
  rw [Try.params13] at hA hval
  obtain ⟨v0, vs0, d0, ds0, p0, q0, hargs, rfl, rfl, h0, r0⟩ := trodAll_cons hA
  obtain ⟨v1, vs1, d1, ds1, p1, q1, rfl, rfl, rfl, h1, r1⟩ := trodAll_cons r0
  obtain ⟨rfl, rfl, rfl⟩ := trodAll_nil r1
  obtain rfl : args = #[v0, v1] := by cases args; simp_all
  obtain ⟨rfl, rfl⟩ := trodVars_none hV
  clear hA0 hval0
  have hlt0 : ∀ x ∈ p0, x.block < W.heap.size := fun x hx => hW'.lt x (by simp [hx])
  have hlt1 : ∀ x ∈ p1, x.block < W.heap.size := fun x hx => hW'.lt x (by simp [hx])
  have im0 := Imp.empty W
  obtain ⟨φ1, hp1, av1, x1, im1, le1, k1, hv1, hE1⟩ := imp_one (IC.int Try.underlying5) im0 (cells_of_int Try.underlying5 (hval 0 5 v0 rfl rfl)) h0
  obtain ⟨he1, hw1⟩ := hE1
  cases he1
  obtain ⟨cs2, hcs2, _⟩ := cells_of_array Try.underlying47 (hval 1 47 v1 rfl rfl)
  obtain ⟨φ2, hp2, av2, x2, im2, le2, k2, hv2, hE2⟩ := imp_agg (IC.array Try.underlying47 (by kernel_rfl) (by kernel_rfl) Try.underlying5) im1 hcs2 h1
  obtain ⟨hb2, hl2, hw2⟩ := hE2
  subst hb2
  have hv1 := hv1.mono le2
  refine (ACalls.law (law_schensted hw1 hl2 hw2) (fun r _ h => h) im2 (vrels_cons hv1 (vrels_cons hv2 vrels_nil))).mono fun e W' ⟨he, bel⟩ => ?_
  subst he
  exact ⟨_, rfl, _, _, _, [], _, [], hW', trodAll_mk1 (shut_bool Try.underlying4 _), (trodAll_cons_mk (Below.trod laid (by kernel_rfl) (of_decide_eq_true (by kernel_rfl)) h0 bel hlt0) (trodAll_cons_mk (Below.trod laid (by kernel_rfl) (of_decide_eq_true (by kernel_rfl)) h1 bel hlt1) trodAll_mk0)), rfl, bel.frame _, fun h => by cases h⟩

theorem over : Rows.patienceSchenstedRow.holds Try.pinned (OpenSpec.ofChange Rows.patienceSchenstedSpec) :=
  OpenClaim.holds_of_wide 13 Try.f13 rfl rfl rfl rfl rfl rfl rfl ⟨rfl, rfl, rfl, rfl, rfl⟩ rfl rfl rfl rfl rfl (by kernel_rfl) Try.func13 (by kernel_rfl)
    (of_decide_eq_true (by kernel_rfl)) (by unfold Func.isWrapper; first | (rw [if_pos (by decide +kernel)]; kernel_rfl) | (rw [if_neg (by decide +kernel)]; exact ⟨rfl, rfl⟩))
    (fun os started H enc _ => lifted os started H enc)

theorem proved : Rows.PatienceSchenstedSaid := over
#print axioms proved
end Go.Proofs.Ytenkokebdgekbaa.patienceSchensted

