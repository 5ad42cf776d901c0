/-
  ReaderTurned: whatever the numbers, the flag and the word left out, the Go function returns true: words backwards, or with their letters exchanged, are read short and long as the words turned, and safe words remain safe.
  Conditions: none.
-/
import Derived.Test.YtfoiccnlcheklaaDoorRows
import Derived.Test.YtfoiccnlcheklaaDoorCl
import Derived.Test.YtfoiccnlcheklaaDoorCp
import Derived.WalkKit
import Derived.ProofKit
import Derived.OpenShut
import Derived.ShutString
import Derived.ChangeOld
import Derived.Below
import Derived.Carry
import Derived.LaidMore
import Derived.LaidLaws
import Derived.Stop.Joined
import Derived.SevenTiedAt
import Derived.Test.YtfoiccnlcheklaaDoorCards
import Derived.Test.YtfoiccnlcheklaaDoorTie
namespace Go.Proofs.YtfoiccnlcheklaaDoor.readerTurned
open Go.ChangeShapes Go.WideShapes Go.ChangeAt Go.RowKit Go.Am

theorem own : ownKnob Tryd.prog.godebug = none := by kernel_rfl
theorem laid : laidOutB Tryd.prog = true := by kernel_rfl

theorem door_met (os : Os) (args : Array Value) : laidMetH Tryd.prog laidL ((World.doorLaid Tryd.prog 400 os).forCall (fun _ _ => 0) ⟨#[], args, []⟩).memory := by
  rw [MakeChecks.laidMetH_plain _ _ _ (by kernel_rfl)]
  exact laidMet_of_run' 8 (by kernel_rfl) (by kernel_rfl)
set_option maxRecDepth 100000 in
theorem lifted (os : Os) (started : os.Started) (H : Type) (enc : TypeId × Value → H) :
    ReturnsInHanded {} Tryd.checked os 12 .any (fun w args => (Rows.readerTurnedSpec.pre enc Tryd.prog Tryd.f12 [] false w args ∧ laidMetH Tryd.prog laidL w) ∧ sizedMet enc Tryd.prog Tryd.f12 (OpenSpec.ofChange Rows.readerTurnedSpec) false w args)
      (Rows.readerTurnedSpec.post enc Tryd.prog Tryd.f12 false true false false) := by
  refine returnsInHanded_of_change_and (C := Tryd.checked) (X := fun w _ => laidMetH Tryd.prog laidL w) (fun _ _ _ hh h => h.of_heap hh) own started (by kernel_rfl) Tryd.func12
    (ChangeSpec.witness_shaped (enc := enc) (C := Tryd.checked) (os := os) (X := fun w _ => laidMetH Tryd.prog laidL w) false (World.doorLaid Tryd.prog 400 os) #[.slice none 0 0, .int .u8 0, .bool false, .int .u8 0] 8 rfl (World.shaped_of_RefB (by kernel_rfl) (by kernel_rfl)) (by kernel_rfl) (by kernel_rfl) (by kernel_rfl) (door_met os _)) ?_
  intro W base args ds gs before hval0 hW _ _ hL _
  have hval : ∀ (j : Nat) t v, Tryd.f12.params[j]? = some t → args[j]? = some v → Value.okWide Tryd.prog W .any base t v := hval0
  have hW' := hW
  obtain ⟨p, q, hA0, hV, rfl, hfz, hnd⟩ := hW
  have hA : DataW.TrodAll enc Tryd.prog W 0 (fun _ => true) true Tryd.f12.params.toList args.toList ds p := hA0
  rw [Tryd.params12] at hA hval
  obtain ⟨v0, vs0, d0, ds0, p0, q0, hargs, rfl, rfl, h0, r0⟩ := trodAll_cons hA
  obtain ⟨v1, vs1, d1, ds1, p1, q1, rfl, rfl, rfl, h1, r1⟩ := trodAll_cons r0
  obtain ⟨v2, vs2, d2, ds2, p2, q2, rfl, rfl, rfl, h2, r2⟩ := trodAll_cons r1
  obtain ⟨v3, vs3, d3, ds3, p3, q3, rfl, rfl, rfl, h3, r3⟩ := trodAll_cons r2
  obtain ⟨rfl, rfl, rfl⟩ := trodAll_nil r3
  obtain rfl : args = #[v0, v1, v2, v3] := by cases args; simp_all
  obtain ⟨rfl, rfl⟩ := trodVars_none hV
  clear hA0 hval0
  have hlt0 : ∀ x ∈ p0, x.block < W.heap.size := fun x hx => hW'.lt x (by simp [hx])
  have hlt1 : ∀ x ∈ p1, x.block < W.heap.size := fun x hx => hW'.lt x (by simp [hx])
  have hlt2 : ∀ x ∈ p2, x.block < W.heap.size := fun x hx => hW'.lt x (by simp [hx])
  have hlt3 : ∀ x ∈ p3, x.block < W.heap.size := fun x hx => hW'.lt x (by simp [hx])
  obtain ⟨φ0, hp0, im0, hz0⟩ := sizes_laid hL
  obtain ⟨φ1, hp1, av1, x1, im1, le1, k1, hv1, hE1⟩ := imp_one (IC.slice (s := 1) Tryd.underlying60 (by kernel_rfl) (by decide) (IC.int Tryd.underlying43)) im0 (cells_of_slice Tryd.underlying60 (hval 0 60 v0 rfl rfl)) h0
  have hr1 := hE1.row.1
  have hw1 := hE1.row.2
  obtain ⟨φ2, hp2, av2, x2, im2, le2, k2, hv2, hE2⟩ := imp_one (IC.int Tryd.underlying5) im1 (cells_of_int Tryd.underlying5 (hval 1 5 v1 rfl rfl)) h1
  obtain ⟨he2, hw2⟩ := hE2
  cases he2
  have hv1 := hv1.mono le2
  have hr1 := hr1.ext k2
  obtain ⟨φ3, hp3, av3, x3, im3, le3, k3, hv3, hE3⟩ := imp_one (IC.bool Tryd.underlying4) im2 (cells_of_bool Tryd.underlying4 (hval 2 4 v2 rfl rfl)) h2
  cases hE3
  have hv1 := hv1.mono le3
  have hr1 := hr1.ext k3
  have hv2 := hv2.mono le3
  obtain ⟨φ4, hp4, av4, x4, im4, le4, k4, hv4, hE4⟩ := imp_one (IC.int Tryd.underlying5) im3 (cells_of_int Tryd.underlying5 (hval 3 5 v3 rfl rfl)) h3
  obtain ⟨he4, hw4⟩ := hE4
  cases he4
  have hv1 := hv1.mono le4
  have hr1 := hr1.ext k4
  have hv2 := hv2.mono le4
  have hv3 := hv3.mono le4
  have hz1 := hz0.ext k1
  have hz2 := hz1.ext k2
  have hz3 := hz2.ext k3
  have hz4 := hz3.ext k4
  refine (ACalls.law (law_turned_i hz4 hr1 (fun x hx => wf_u16 (hw1 x hx)) (vrel_len hv1 hr1) (wf_u8 hw2).1 (wf_u8 hw2).2 (wf_u8 hw4).1 (wf_u8 hw4).2) (fun r _ h => h) im4 (vrels_cons hv1 (vrels_cons hv2 (vrels_cons hv3 (vrels_cons hv4 vrels_nil))))).mono fun e W' ⟨he, bel⟩ => ?_
  subst he
  exact ⟨_, rfl, _, _, _, [], _, [], hW', trodAll_mk1 (shut_bool Tryd.underlying4 _), (trodAll_cons_mk (Below.trod laid (by kernel_rfl) (of_decide_eq_true (by kernel_rfl)) h0 bel hlt0) (trodAll_cons_mk (Below.trod laid (by kernel_rfl) (of_decide_eq_true (by kernel_rfl)) h1 bel hlt1) (trodAll_cons_mk (Below.trod laid (by kernel_rfl) (of_decide_eq_true (by kernel_rfl)) h2 bel hlt2) (trodAll_cons_mk (Below.trod laid (by kernel_rfl) (of_decide_eq_true (by kernel_rfl)) h3 bel hlt3) trodAll_mk0)))), rfl, bel.frame _, fun h => by cases h⟩

theorem over : Rows.readerTurnedRow.holds Tryd.pinned (OpenSpec.ofChange Rows.readerTurnedSpec) :=
  OpenClaim.holds_of_wide 12 Tryd.f12 rfl rfl rfl rfl rfl rfl rfl ⟨rfl, rfl, rfl, rfl, rfl⟩ rfl rfl rfl rfl rfl (by kernel_rfl) Tryd.func12 (by kernel_rfl)
    (of_decide_eq_true (by kernel_rfl)) (by unfold Func.isWrapper; first | (rw [if_pos (by decide +kernel)]; kernel_rfl) | (rw [if_neg (by decide +kernel)]; exact ⟨rfl, rfl⟩))
    (fun os started H enc _ => lifted os started H enc)

theorem proved : Rows.ReaderTurnedCardSaid :=
  Claim7.holds_tied_plain_at .later [] [.data] true (true, "0b3276a94f80e21269dcc4fe97bb0145021184f331f875f1aa485531dc632b2e") false
    over (fun _ h => by cases h) (by kernel_rfl) (fun _ h => by cases h) readerTurned_row_tie rfl ⟨rfl, rfl⟩ (by kernel_rfl) rfl
    (fun f fn hf hfn => by
      obtain rfl : f = 12 := Option.some.inj ((show Tryd.prog.funcNamed Rows.readerTurnedRow.func = some 12 by kernel_rfl).symm.trans hf) |>.symm
      obtain rfl : fn = Tryd.f12 := (Option.some.inj (Tryd.func12.symm.trans hfn)).symm
      exact ⟨by kernel_rfl, fun j t ht => by
        rw [Tryd.params12] at ht
        have hm : t ∈ [60, 5, 4, 5] := by simpa using Array.mem_of_getElem? ht
        have hall : ([60, 5, 4, 5].all fun u => !Tryd.prog.wantsStandIn u) = true := by kernel_rfl
        exact (show Tryd.prog.wantsStandIn t = false by simpa using List.all_eq_true.1 hall t hm)⟩)
    (by kernel_rfl)
#print axioms proved
end Go.Proofs.YtfoiccnlcheklaaDoor.readerTurned

