/-
  TopBubbled: whatever the numbers, the Go function returns true: a table of neighbours that sorts exchanges as often as neighbours must be exchanged.
  Conditions: none.
-/
import Derived.Test.YtdfhmdhjeiipfaaDoorRows
import Derived.Test.YtdfhmdhjeiipfaaDoorVt
import Derived.Test.YtdfhmdhjeiipfaaDoorCvk
import Derived.WalkKit
import Derived.ProofKit
import Derived.OpenShut
import Derived.ShutString
import Derived.ChangeOld
import Derived.Below
import Derived.Carry
import Derived.LaidMore
import Derived.LaidLaws
import Derived.Stop.Joined
import Derived.SevenTiedAt
import Derived.Test.YtdfhmdhjeiipfaaDoorCards
import Derived.Test.YtdfhmdhjeiipfaaDoorTie
namespace Go.Proofs.YtdfhmdhjeiipfaaDoor.topBubbled
open Go.ChangeShapes Go.WideShapes Go.ChangeAt Go.RowKit Go.Am

theorem own : ownKnob Tryd.prog.godebug = none := by kernel_rfl
theorem laid : laidOutB Tryd.prog = true := by kernel_rfl

theorem door_met (os : Os) (args : Array Value) : laidMetH Tryd.prog laidL ((World.doorLaid Tryd.prog 400 os).forCall (fun _ _ => 0) ⟨#[], args, []⟩).memory := by
  rw [MakeChecks.laidMetH_plain _ _ _ (by kernel_rfl)]
  exact laidMet_of_run' 8 (by kernel_rfl) (by kernel_rfl)
set_option maxRecDepth 100000 in
theorem lifted (os : Os) (started : os.Started) (H : Type) (enc : TypeId × Value → H) :
    ReturnsInHanded {} Tryd.checked os 4 .any (fun w args => (Rows.topBubbledSpec.pre enc Tryd.prog Tryd.f4 [] false w args ∧ laidMetH Tryd.prog laidL w) ∧ sizedMet enc Tryd.prog Tryd.f4 (OpenSpec.ofChange Rows.topBubbledSpec) false w args)
      (Rows.topBubbledSpec.post enc Tryd.prog Tryd.f4 false true false false) := by
  refine returnsInHanded_of_change_and (C := Tryd.checked) (X := fun w _ => laidMetH Tryd.prog laidL w) (fun _ _ _ hh h => h.of_heap hh) own started (by kernel_rfl) Tryd.func4
    (ChangeSpec.witness_shaped (enc := enc) (C := Tryd.checked) (os := os) (X := fun w _ => laidMetH Tryd.prog laidL w) false (World.doorLaid Tryd.prog 400 os) #[.int .u8 0, .slice none 0 0] 8 rfl (World.shaped_of_RefB (by kernel_rfl) (by kernel_rfl)) (by kernel_rfl) (by kernel_rfl) (by kernel_rfl) (door_met os _)) ?_
  intro W base args ds gs before hval0 hW _ _ hL _
  have hval : ∀ (j : Nat) t v, Tryd.f4.params[j]? = some t → args[j]? = some v → Value.okWide Tryd.prog W .any base t v := hval0
  have hW' := hW
  obtain ⟨p, q, hA0, hV, rfl, hfz, hnd⟩ := hW
  have hA : DataW.TrodAll enc Tryd.prog W 0 (fun _ => true) true Tryd.f4.params.toList args.toList ds p := hA0
  rw [Tryd.params4] at hA hval
  obtain ⟨v0, vs0, d0, ds0, p0, q0, hargs, rfl, rfl, h0, r0⟩ := trodAll_cons hA
  obtain ⟨v1, vs1, d1, ds1, p1, q1, rfl, rfl, rfl, h1, r1⟩ := trodAll_cons r0
  obtain ⟨rfl, rfl, rfl⟩ := trodAll_nil r1
  obtain rfl : args = #[v0, v1] := by cases args; simp_all
  obtain ⟨rfl, rfl⟩ := trodVars_none hV
  clear hA0 hval0
  have hlt0 : ∀ x ∈ p0, x.block < W.heap.size := fun x hx => hW'.lt x (by simp [hx])
  have hlt1 : ∀ x ∈ p1, x.block < W.heap.size := fun x hx => hW'.lt x (by simp [hx])
  obtain ⟨φ0, hp0, im0, hz0⟩ := sizes_laid hL
  obtain ⟨φ1, hp1, av1, x1, im1, le1, k1, hv1, hE1⟩ := imp_one (IC.int Tryd.underlying5) im0 (cells_of_int Tryd.underlying5 (hval 0 5 v0 rfl rfl)) h0
  obtain ⟨he1, hw1⟩ := hE1
  cases he1
  obtain ⟨φ2, hp2, av2, x2, im2, le2, k2, hv2, hE2⟩ := imp_one (IC.slice (s := 1) Tryd.underlying33 (by kernel_rfl) (by decide) (IC.int Tryd.underlying5)) im1 (cells_of_slice Tryd.underlying33 (hval 1 33 v1 rfl rfl)) h1
  have hr2 := hE2.row.1
  have hw2 := hE2.row.2
  have hv1 := hv1.mono le2
  have hz1 := hz0.ext k1
  have hz2 := hz1.ext k2
  refine (ACalls.law (law_bubbled_i (wf_u8 hw1).1 (wf_u8 hw1).2 hr2 (fun x hx => wf_u8 (hw2 x hx)) (vrel_len hv2 hr2) hz2) (fun r _ h => h) im2 (vrels_cons hv1 (vrels_cons hv2 vrels_nil))).mono fun e W' ⟨he, bel⟩ => ?_
  subst he
  exact ⟨_, rfl, _, _, _, [], _, [], hW', trodAll_mk1 (shut_bool Tryd.underlying4 _), (trodAll_cons_mk (Below.trod laid (by kernel_rfl) (of_decide_eq_true (by kernel_rfl)) h0 bel hlt0) (trodAll_cons_mk (Below.trod laid (by kernel_rfl) (of_decide_eq_true (by kernel_rfl)) h1 bel hlt1) trodAll_mk0)), rfl, bel.frame _, fun h => by cases h⟩

theorem over : Rows.topBubbledRow.holds Tryd.pinned (OpenSpec.ofChange Rows.topBubbledSpec) :=
  OpenClaim.holds_of_wide 4 Tryd.f4 rfl rfl rfl rfl rfl rfl rfl ⟨rfl, rfl, rfl, rfl, rfl⟩ rfl rfl rfl rfl rfl (by kernel_rfl) Tryd.func4 (by kernel_rfl)
    (of_decide_eq_true (by kernel_rfl)) (by unfold Func.isWrapper; first | (rw [if_pos (by decide +kernel)]; kernel_rfl) | (rw [if_neg (by decide +kernel)]; exact ⟨rfl, rfl⟩))
    (fun os started H enc _ => lifted os started H enc)

theorem proved : Rows.TopBubbledCardSaid :=
  Claim7.holds_tied_plain_at .later [] [.data, .data] true (true, "7c60709e4fe4e131b1e0bfcc03d853cfd45a0bdb7d50cde1d2cfc68e263a4eb8") false
    over (fun _ h => by cases h) (by kernel_rfl) (fun _ h => by cases h) topBubbled_row_tie rfl ⟨rfl, rfl⟩ (by kernel_rfl) rfl
    (fun f fn hf hfn => by
      obtain rfl : f = 4 := Option.some.inj ((show Tryd.prog.funcNamed Rows.topBubbledRow.func = some 4 by kernel_rfl).symm.trans hf) |>.symm
      obtain rfl : fn = Tryd.f4 := (Option.some.inj (Tryd.func4.symm.trans hfn)).symm
      exact ⟨by kernel_rfl, fun j t ht => by
        rw [Tryd.params4] at ht
        have hm : t ∈ [5, 33] := by simpa using Array.mem_of_getElem? ht
        have hall : ([5, 33].all fun u => !Tryd.prog.wantsStandIn u) = true := by kernel_rfl
        exact (show Tryd.prog.wantsStandIn t = false by simpa using List.all_eq_true.1 hall t hm)⟩)
    (by kernel_rfl)
#print axioms proved
end Go.Proofs.YtdfhmdhjeiipfaaDoor.topBubbled

