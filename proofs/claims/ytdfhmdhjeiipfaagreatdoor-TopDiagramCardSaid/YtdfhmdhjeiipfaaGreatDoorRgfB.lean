/-
  Heaps whose rows are one of seventy lists: the program turns, draws and rounds each as stated: runs and contracts.
  Conditions: none.
-/
import Derived.Test.YtdfhmdhjeiipfaaGreatDoorRgfA
namespace Go.Am
def natI (l : List Nat) : List AV := ints (nI l)
/-- All such heaps. -/
def parts : List (List Nat) := (List.range 5).flatMap fun a => (List.range (a + 1)).flatMap fun b => (List.range (b + 1)).flatMap fun c => (List.range (c + 1)).map fun d => [a, b, c, d].filter fun x => decide (0 < x)
def turnH (l : List Nat) : List Nat := (List.range (l.headD 0)).map fun j => (l.filter fun x => decide (j < x)).length
def ordH (l : List Nat) : List Nat := [9, 8, 7, 6, 5, 4, 3, 2, 1].flatMap fun s => l.filter fun x => x == s
def roundH (l : List Nat) : List Nat := ordH (l.length :: l.map fun x => x - 1)
def drawH (l : List Nat) : List Nat := (List.range 16).map fun i => if i % 4 < l.getD (i / 4) 0 then 1 else 0
noncomputable def okTurned (p : List Nat) : Bool := p.isEmpty || runsG Go.Proofs.Tryz.prog 4000 11 [.slc 0 0 p.length 1 false] [natI p] [] (chkTupO 1 1 (natI (turnH p)) (.int .i64 0))
noncomputable def okRound (p : List Nat) : Bool := p.isEmpty || runsG Go.Proofs.Tryz.prog 4000 14 [.slc 0 0 p.length 1 false] [natI p] [] (chkTupO 1 1 (natI (roundH p)) (.int .i64 0))
noncomputable def okDraw (p : List Nat) : Bool := p.isEmpty || runsG Go.Proofs.Tryz.prog 4000 9 [.slc 0 0 p.length 1 false] [natI p] [] (chkTupO 1 1 (natI (drawH p)) (.bool true))
theorem run_turned : parts.all okTurned = true := by kernel_rfl
theorem run_draw : parts.all okDraw = true := by kernel_rfl
theorem run_round0 : ((parts.drop 0).take 10).all okRound = true := by kernel_rfl
theorem run_round1 : ((parts.drop 10).take 10).all okRound = true := by kernel_rfl
theorem run_round2 : ((parts.drop 20).take 10).all okRound = true := by kernel_rfl
theorem run_round3 : ((parts.drop 30).take 10).all okRound = true := by kernel_rfl
theorem run_round4 : ((parts.drop 40).take 10).all okRound = true := by kernel_rfl
theorem run_round5 : ((parts.drop 50).take 10).all okRound = true := by kernel_rfl
theorem run_round6 : ((parts.drop 60).take 10).all okRound = true := by kernel_rfl
end Go.Am

namespace Go.Am
theorem natI_plain (p : List Nat) : (natI p).all AV.plain = true := by rw [natI, ints, List.all_map]; exact List.all_eq_true.2 fun _ _ => rfl
theorem natI_len (p : List Nat) : (natI p).length = p.length := by rw [natI, ints, List.length_map, List.length_map]
theorem natI_ne {p : List Nat} (h : p ≠ []) : natI p ≠ [] := fun e => by have := natI_len p; rw [e] at this; exact h (List.length_eq_zero_iff.1 this.symm)
theorem okTurned_all {p : List Nat} (hp : p ∈ parts) (hne : p ≠ []) : runsG Go.Proofs.Tryz.prog 4000 11 [.slc 0 0 p.length 1 false] [natI p] [] (chkTupO 1 1 (natI (turnH p)) (.int .i64 0)) = true := by
  have h := List.all_eq_true.1 run_turned p hp
  unfold okTurned at h
  cases p with
  | nil => exact absurd rfl hne
  | cons a p => rw [show (a :: p).isEmpty = false from rfl, Bool.false_or] at h; exact h
theorem okDraw_all {p : List Nat} (hp : p ∈ parts) (hne : p ≠ []) : runsG Go.Proofs.Tryz.prog 4000 9 [.slc 0 0 p.length 1 false] [natI p] [] (chkTupO 1 1 (natI (drawH p)) (.bool true)) = true := by
  have h := List.all_eq_true.1 run_draw p hp
  unfold okDraw at h
  cases p with
  | nil => exact absurd rfl hne
  | cons a p => rw [show (a :: p).isEmpty = false from rfl, Bool.false_or] at h; exact h
theorem okRound_all {p : List Nat} (hp : p ∈ parts) (hne : p ≠ []) : runsG Go.Proofs.Tryz.prog 4000 14 [.slc 0 0 p.length 1 false] [natI p] [] (chkTupO 1 1 (natI (roundH p)) (.int .i64 0)) = true := by
  have h : okRound p = true := by
    have e : parts = (parts.drop 0).take 10 ++ ((parts.drop 10).take 10 ++ ((parts.drop 20).take 10 ++ ((parts.drop 30).take 10 ++ ((parts.drop 40).take 10 ++ ((parts.drop 50).take 10 ++ (parts.drop 60).take 10))))) := by decide +kernel
    rw [e] at hp
    rcases List.mem_append.1 hp with hp | hp
    · exact List.all_eq_true.1 run_round0 p hp
    rcases List.mem_append.1 hp with hp | hp
    · exact List.all_eq_true.1 run_round1 p hp
    rcases List.mem_append.1 hp with hp | hp
    · exact List.all_eq_true.1 run_round2 p hp
    rcases List.mem_append.1 hp with hp | hp
    · exact List.all_eq_true.1 run_round3 p hp
    rcases List.mem_append.1 hp with hp | hp
    · exact List.all_eq_true.1 run_round4 p hp
    rcases List.mem_append.1 hp with hp | hp
    · exact List.all_eq_true.1 run_round5 p hp
    · exact List.all_eq_true.1 run_round6 p hp
  unfold okRound at h
  cases p with
  | nil => exact absurd rfl hne
  | cons a p => rw [show (a :: p).isEmpty = false from rfl, Bool.false_or] at h; exact h
theorem turned_c {h : AHeap} {v : AV} {p : List Nat} (hp : p ∈ parts) (hne : p ≠ []) (hv : Row h v (nI p)) : ACalls Go.Proofs.Tryz.prog 11 [v] h (fun r h' => ∃ a, r = .tup [a, .int .i64 0] ∧ St h h' [⟨a, 1, natI (turnH p), true⟩]) :=
  over_tupO mixed (okTurned_all hp hne) [⟨v, 1, natI p, natI p⟩] rfl rfl (okGs_cons (okG_plain hv (by decide) (natI_ne hne) (natI_plain p)) okGs_nil) hgs_nil rfl (imG_cons (imG_slc rfl (by decide) (by rw [natI_len, Nat.mul_one])) imG_nil)
theorem draw_c {h : AHeap} {v : AV} {p : List Nat} (hp : p ∈ parts) (hne : p ≠ []) (hv : Row h v (nI p)) : ACalls Go.Proofs.Tryz.prog 9 [v] h (fun r h' => ∃ a, r = .tup [a, .bool true] ∧ St h h' [⟨a, 1, natI (drawH p), true⟩]) :=
  over_tupO mixed (okDraw_all hp hne) [⟨v, 1, natI p, natI p⟩] rfl rfl (okGs_cons (okG_plain hv (by decide) (natI_ne hne) (natI_plain p)) okGs_nil) hgs_nil rfl (imG_cons (imG_slc rfl (by decide) (by rw [natI_len, Nat.mul_one])) imG_nil)
theorem round_c {h : AHeap} {v : AV} {p : List Nat} (hp : p ∈ parts) (hne : p ≠ []) (hv : Row h v (nI p)) : ACalls Go.Proofs.Tryz.prog 14 [v] h (fun r h' => ∃ a, r = .tup [a, .int .i64 0] ∧ St h h' [⟨a, 1, natI (roundH p), true⟩]) :=
  over_tupO mixed (okRound_all hp hne) [⟨v, 1, natI p, natI p⟩] rfl rfl (okGs_cons (okG_plain hv (by decide) (natI_ne hne) (natI_plain p)) okGs_nil) hgs_nil rfl (imG_cons (imG_slc rfl (by decide) (by rw [natI_len, Nat.mul_one])) imG_nil)
theorem part411 : [4, 1, 1] ∈ parts ∧ roundH [4, 1, 1] = [3, 3] := by decide +kernel

theorem list_c {h : AHeap} {v : AV} : ACalls Go.Proofs.Tryz.prog 10 [v] h (fun q h' => q = v ∧ h = h') := by
  refine KA.fn 4 [.tmp 2] Go.Proofs.Tryz.func10 rfl (by decide) rfl rfl (Nat.le_of_ble_eq_true rfl) ?_
  show KA _ 4 _ _ [(0, v)] _
  refine KA.seq ?_
  refine KA.region rfl ?_
  refine KOps.assign ?_
  refine KOps.done ?_
  refine sqQ.normal ?_
  refine KA.sub (Sub.cons (t := 0) Look.eq (Sub.nil _)) ?_
  refine KA.seq ?_
  refine KA.region rfl ?_
  refine KOps.move ?_
  refine KOps.assign ?_
  refine KOps.done ?_
  refine sqQ.normal ?_
  refine KA.sub (Sub.cons (t := 2) Look.eq (Sub.nil _)) ?_
  refine KA.ret ?_
  refine fnQ.ret1 ?_
  exact ⟨rfl, rfl⟩

theorem heapWorks_c {h : AHeap} (hT : Tabs h) : ACalls Go.Proofs.Tryz.prog 8 [] h (fun q h' => q = .bool true ∧ Keeps h h') := by
  refine KA.fn 20 [.tmp 0] Go.Proofs.Tryz.func8 rfl (by decide) rfl rfl (Nat.le_of_ble_eq_true rfl) ?_
  have hS := St.refl h
  show KA _ 20 _ _ [] _
  refine KA.seq ?_
  refine KA.region rfl ?_
  refine KOps.assign ?_
  refine KOps.done ?_
  refine sqQ.normal ?_
  refine KA.sub (Sub.nil _) ?_
  refine KA.seq ?_
  refine KA.region rfl ?_
  refine KOps.buildSlice hS rfl (by decide) rfl ?_
  intro v4 h' hS
  refine KOps.call rfl list_c ?_
  rintro _ _ ⟨rfl, rfl⟩
  refine KOps.call rfl (round_c (p := [4, 1, 1]) part411.1 (by decide) (hS.rd 0 rfl)) ?_
  rintro _ h6 ⟨v6, rfl, hS6⟩
  have hS0 : St _ _ (_ :: _) := St.trans hS hS6
  clear hS
  have hS := hS0
  clear hS0
  rw [part411.2] at hS
  refine KOps.move ?_
  refine KOps.extract ?_
  refine KOps.extract ?_
  refine KOps.assign ?_
  refine KOps.assign ?_
  refine KOps.done ?_
  refine sqQ.normal ?_
  refine KA.sub (Sub.cons (t := 1) Look.eq (Sub.cons (t := 2) Look.eq (Sub.nil _))) ?_
  refine KA.seq ?_
  refine KA.region rfl ?_
  refine KOps.move ?_
  refine KOps.eql ?_
  refine KOps.move ?_
  refine KOps.guardB (dj := 11) rfl rfl true false rfl ?_ ?_
  · intro g11
    have g11 := of_decide_eq_true g11
    refine KOps.move ?_
    refine KOps.guardYes (dj := 11) rfl rfl ?_
    refine KOps.buildSlice hS rfl (by decide) rfl ?_
    intro v13 h' hS
    refine KOps.guardYes (dj := 11) rfl rfl ?_
    refine KOps.call rfl list_c ?_
    rintro _ _ ⟨rfl, rfl⟩
    refine KOps.guardYes (dj := 11) rfl rfl ?_
    refine KOps.call rfl (same_c (a := nI [3, 3]) (b := nI [3, 3]) (hS.rd 1 rfl) (hS.rd 0 rfl) (by decide)) ?_
    rintro _ _ ⟨rfl, rfl⟩
    refine KOps.pickT ?_
    refine KOps.move ?_
    refine KOps.guardB (dj := 17) rfl rfl true false rfl ?_ ?_
    · intro g17
      have g17 := of_decide_eq_true g17
      refine KOps.call rfl (mendWorks_c (hT.ext hS.keeps)) ?_
      rintro _ hx ⟨rfl, hK⟩
      have hS0 : St _ _ _ := St.trans hS (St.ofK hK)
      clear hS
      have hS := hS0
      clear hS0
      simp only [List.nil_append] at hS
      refine KOps.pickT ?_
      refine KOps.assign ?_
      refine KOps.done ?_
      refine sqQ.normal ?_
      refine KA.sub (Sub.cons (t := 0) Look.eq (Sub.nil _)) ?_
      refine KA.ret ?_
      refine fnQ.ret1 ?_
      exact ⟨rfl, hS.keeps⟩
    · intro g17
      have g17 := of_decide_eq_false g17
      exact absurd rfl g17
  · intro g11
    have g11 := of_decide_eq_false g11
    exact absurd rfl g11

end Go.Am
