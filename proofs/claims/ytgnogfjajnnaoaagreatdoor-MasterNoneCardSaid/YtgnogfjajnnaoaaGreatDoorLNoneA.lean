/-
  MasterNone: whatever the line, the way and the number, the Go function returns true: a book that is none, or was not made, returns nothing, and its errors are those of nil.
  Conditions: none.
-/
import Derived.Test.YtgnogfjajnnaoaaGreatDoorRows
import Derived.Test.YtgnogfjajnnaoaaGreatDoorSz
import Derived.WalkKit
import Derived.ProofKit
import Derived.OpenShut
import Derived.ShutString
import Derived.ChangeOld
import Derived.Below
import Derived.Carry
import Derived.LaidMore
import Derived.Lay
import Derived.LaidLaws
import Derived.Stop.Joined
import Derived.SevenTiedAt
import Derived.Test.YtgnogfjajnnaoaaGreatDoorCards
import Derived.Test.YtgnogfjajnnaoaaGreatDoorTie
namespace Go.Proofs.YtgnogfjajnnaoaaGreatDoor.masterNone
open Go.ChangeShapes Go.WideShapes Go.ChangeAt Go.RowKit Go.Am
theorem own : ownKnob Tryz.prog.godebug = none := by kernel_rfl
theorem laid : laidOutB Tryz.prog = true := by kernel_rfl
theorem zipped (os : Os) : World.variablesZipB Tryz.checked.prog ((World.laidAll Tryz.prog os laidL).forCall (fun _ _ => 0) ⟨#[], #[.string ⟨#[]⟩, .string ⟨#[]⟩, .int .i64 0], []⟩) = true := by kernel_rfl
theorem begun (os : Os) : List.take ((begin Tryz.checked.prog (fun _ _ => 0) default).world.heap.size - Tryz.checked.prog.globals.size) (List.drop Tryz.checked.prog.globals.size (((World.laidAll Tryz.prog os laidL).forCall (fun _ _ => 0) ⟨#[], #[.string ⟨#[]⟩, .string ⟨#[]⟩, .int .i64 0], []⟩)).heap.toList) = List.drop Tryz.checked.prog.globals.size (begin Tryz.checked.prog (fun _ _ => 0) default).world.heap.toList := by kernel_rfl
theorem laidFits (os : Os) : World.layFits Tryz.prog (World.holding Tryz.prog os ⟨#[], #[], []⟩) laidL [] = true := by kernel_rfl
theorem laidIfaces (os : Os) : World.layIfaces Tryz.prog (World.holding Tryz.prog os ⟨#[], #[], []⟩) laidL (World.laidAll Tryz.prog os laidL) = true := by kernel_rfl
theorem noInits : Tryz.checked.prog.inits.idxOf? 5 = none := by kernel_rfl
set_option maxRecDepth 100000 in
theorem lifted (os : Os) (started : os.Started) (H : Type) (enc : TypeId × Value → H) :
    ReturnsInHanded {} Tryz.checked os 5 .any (fun w args => (Rows.masterNoneSpec.pre enc Tryz.prog Tryz.f5 [] false w args ∧ laidMetH Tryz.prog laidL w) ∧ sizedMet enc Tryz.prog Tryz.f5 (OpenSpec.ofChange Rows.masterNoneSpec) false w args)
      (Rows.masterNoneSpec.post enc Tryz.prog Tryz.f5 false true false false) := by
  refine returnsInHanded_of_change_andShaped (C := Tryz.checked) (X := fun w _ => laidMetH Tryz.prog laidL w) (fun _ _ _ hh h => h.of_heap hh) own started noInits Tryz.func5
    (ChangeSpec.witness_shaped (enc := enc) (C := Tryz.checked) (os := os) (X := fun w _ => laidMetH Tryz.prog laidL w) false (World.laidAll Tryz.prog os laidL) #[.string ⟨#[]⟩, .string ⟨#[]⟩, .int .i64 0] 8 (World.laidAll_os _ _ _) (World.shaped_of_ZipB (zipped os) (begun os)) (by kernel_rfl) (by kernel_rfl) (by kernel_rfl) (by rw [MakeChecks.laidMetH_plain _ _ _ (by kernel_rfl)]; exact laidMet_laidAll _ (laidFits os) (laidIfaces os))) ?_
  intro W base args ds gs before hval0 hW _ _ hL hsh _
  have hval : ∀ (j : Nat) t v, Tryz.f5.params[j]? = some t → args[j]? = some v → Value.okWide Tryz.prog W .any base t v := hval0
  have hW' := hW
  obtain ⟨p, q, hA0, hV, rfl, hfz, hnd⟩ := hW
  have hA : DataW.TrodAll enc Tryz.prog W 0 (fun _ => true) true Tryz.f5.params.toList args.toList ds p := hA0
  rw [Tryz.params5] at hA hval
  obtain ⟨v0, vs0, d0, ds0, p0, q0, hargs, rfl, rfl, h0, r0⟩ := trodAll_cons hA
  obtain ⟨v1, vs1, d1, ds1, p1, q1, rfl, rfl, rfl, h1, r1⟩ := trodAll_cons r0
  obtain ⟨v2, vs2, d2, ds2, p2, q2, rfl, rfl, rfl, h2, r2⟩ := trodAll_cons r1
  obtain ⟨rfl, rfl, rfl⟩ := trodAll_nil r2
  obtain rfl : args = #[v0, v1, v2] := by cases args; simp_all
  obtain ⟨rfl, rfl⟩ := trodVars_none hV
  clear hA0 hval0
  have hlt0 : ∀ x ∈ p0, x.block < W.heap.size := fun x hx => hW'.lt x (by simp [hx])
  have hlt1 : ∀ x ∈ p1, x.block < W.heap.size := fun x hx => hW'.lt x (by simp [hx])
  have hlt2 : ∀ x ∈ p2, x.block < W.heap.size := fun x hx => hW'.lt x (by simp [hx])
  obtain ⟨φ0, hp0, im0, hz0⟩ := vs_laid hL hsh
  obtain ⟨φ1, hp1, av1, x1, im1, le1, k1, hv1, hE1⟩ := imp_one (IC.str Tryz.underlying9) im0 (cells_of_string Tryz.underlying9 (hval 0 9 v0 rfl rfl)) h0
  obtain ⟨he1, hw1⟩ := hE1
  cases he1
  obtain ⟨φ2, hp2, av2, x2, im2, le2, k2, hv2, hE2⟩ := imp_one (IC.str Tryz.underlying9) im1 (cells_of_string Tryz.underlying9 (hval 1 9 v1 rfl rfl)) h1
  obtain ⟨he2, hw2⟩ := hE2
  cases he2
  have hv1 := hv1.mono le2
  obtain ⟨φ3, hp3, av3, x3, im3, le3, k3, hv3, hE3⟩ := imp_one (IC.int Tryz.underlying3) im2 (cells_of_int Tryz.underlying3 (hval 2 3 v2 rfl rfl)) h2
  obtain ⟨he3, hw3⟩ := hE3
  cases he3
  have hv1 := hv1.mono le3
  have hv2 := hv2.mono le3
  have hz1 := hz0.ext k1
  have hz2 := hz1.ext k2
  have hz3 := hz2.ext k3
  refine (ACalls.law (law_none hz3) (fun r _ h => h.1) im3 (vrels_cons hv1 (vrels_cons hv2 (vrels_cons hv3 vrels_nil)))).mono fun e W' ⟨he, bel⟩ => ?_
  subst he
  exact ⟨_, rfl, _, _, _, [], _, [], hW', trodAll_mk1 (shut_bool Tryz.underlying4 _), (trodAll_cons_mk (Below.trod laid (by kernel_rfl) (of_decide_eq_true (by kernel_rfl)) h0 bel hlt0) (trodAll_cons_mk (Below.trod laid (by kernel_rfl) (of_decide_eq_true (by kernel_rfl)) h1 bel hlt1) (trodAll_cons_mk (Below.trod laid (by kernel_rfl) (of_decide_eq_true (by kernel_rfl)) h2 bel hlt2) trodAll_mk0))), rfl, bel.frame _, fun h => by cases h⟩
set_option maxHeartbeats 4000000 in
theorem facts : joinedFacts Tryz.pinned.checked.prog 5 Tryz.f5 Rows.masterNoneSpec Rows.masterNoneRow = true := by
  unfold joinedFacts
  simp only [Bool.and_eq_true]
  refine ⟨⟨⟨⟨⟨⟨⟨⟨⟨⟨⟨⟨⟨⟨⟨⟨⟨⟨⟨⟨⟨⟨⟨⟨⟨⟨⟨⟨⟨⟨⟨?_, ?_⟩, ?_⟩, ?_⟩, ?_⟩, ?_⟩, ?_⟩, ?_⟩, ?_⟩, ?_⟩, ?_⟩, ?_⟩, ?_⟩, ?_⟩, ?_⟩, ?_⟩, ?_⟩, ?_⟩, ?_⟩, ?_⟩, ?_⟩, ?_⟩, ?_⟩, ?_⟩, ?_⟩, ?_⟩, ?_⟩, ?_⟩, ?_⟩, ?_⟩, ?_⟩, ?_⟩
  all_goals as_aux_lemma => kernel_rfl
theorem wrapped : Tryz.f5.isWrapper Tryz.pinned.checked.prog Rows.masterNoneRow.wrapper Rows.masterNoneRow.mainSum := by unfold Func.isWrapper; first | (rw [if_pos (by decide +kernel)]; kernel_rfl) | (rw [if_neg (by decide +kernel)]; exact ⟨rfl, rfl⟩)
theorem inst : Tryz.f5.isInstance Tryz.pinned.checked.prog Rows.masterNoneRow.origin Rows.masterNoneRow.targs := of_decide_eq_true (by kernel_rfl)
theorem named : Tryz.pinned.checked.prog.funcNamed Rows.masterNoneRow.func = some 5 := by kernel_rfl
theorem over : Rows.masterNoneRow.holds Tryz.pinned (OpenSpec.ofChange Rows.masterNoneSpec) :=
  OpenClaim.holds_of_wide 5 Tryz.f5 rfl rfl rfl rfl rfl rfl rfl ⟨rfl, rfl, rfl, rfl, rfl⟩ rfl rfl rfl rfl rfl named Tryz.func5 facts inst wrapped
    (fun os started H enc _ => lifted os started H enc)
end Go.Proofs.YtgnogfjajnnaoaaGreatDoor.masterNone
