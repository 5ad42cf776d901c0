/-
  Layer 01: works: the examples hold.
  Conditions: none.
-/
import Derived.Test.YtildfacbjdhbnaaDoorPm
import Derived.Test.YtildfacbjdhbnaaDoorCl
import Derived.Test.YtildfacbjdhbnaaDoorRows
import Derived.MakeChecks
namespace Go.Am
theorem askWB0 : askE 3 wB 0 = 0 := by decide +kernel
theorem askWB1 : askE 3 wB 1 = 0 := by decide +kernel
theorem loWB0 : loOf wB (Int.toNat 0) = 5 := loWB (i := 0) (by decide)
theorem hiWB0 : hiOf wB (Int.toNat 0) = 6 := hiWB (i := 0) (by decide)

set_option synthInstance.maxHeartbeats 2000000 in
set_option synthInstance.maxSize 4000 in
set_option maxRecDepth 100000 in
theorem works_c {h : AHeap} (hSz : Sizes h) : ACalls Go.Proofs.Tryd.prog 16 [] h (fun q h' => q = .bool true ∧ Keeps h h') := by
  refine KA.fn 208 [.tmp 0] Go.Proofs.Tryd.func16 rfl (by decide) rfl rfl (Nat.le_of_ble_eq_true rfl) ?_
  have hS := St.refl h
  show KA _ 208 _ _ [] _
  refine KA.seq ?_
  refine KA.region rfl ?_
  refine KOps.assign ?_
  refine KOps.done ?_
  refine sqQ.normal ?_
  refine KA.sub (Sub.nil _) ?_
  refine KA.seq ?_
  refine KA.region rfl ?_
  refine KOps.call rfl (B_c) ?_
  rintro _ hb10 ⟨vb10, rfl, hSB⟩
  have hS0 : St _ _ (_ :: _) := St.trans hS hSB
  clear hS
  have hS := hS0
  clear hS0

  refine KOps.call rfl (stCan_c (hS.rd 0 rfl)) ?_
  rintro _ h11 ⟨rfl, hK⟩
  have hS0 : St _ _ (_ :: _) := St.trans hS (St.ofK hK)
  clear hS
  have hS := hS0
  clear hS0
  rw [canWB, chkWB]
  refine KOps.move ?_
  refine KOps.extract ?_
  refine KOps.extract ?_
  refine KOps.assign ?_
  refine KOps.assign ?_
  refine KOps.done ?_
  refine sqQ.normal ?_
  refine KA.sub (Sub.cons (t := 1) Look.eq (Sub.cons (t := 2) Look.eq (Sub.nil _))) ?_
  refine KA.seq ?_
  refine KA.region rfl ?_
  refine KOps.call rfl (C_c) ?_
  rintro _ hb20 ⟨vb20, rfl, hSB⟩
  have hS0 : St _ _ (_ :: _) := St.trans hS hSB
  clear hS
  have hS := hS0
  clear hS0

  refine KOps.call rfl (stCan_c (hS.rd 0 rfl)) ?_
  rintro _ h21 ⟨rfl, hK⟩
  have hS0 : St _ _ (_ :: _) := St.trans hS (St.ofK hK)
  clear hS
  have hS := hS0
  clear hS0
  rw [canWC, chkWC]
  refine KOps.move ?_
  refine KOps.extract ?_
  refine KOps.extract ?_
  refine KOps.assign ?_
  refine KOps.assign ?_
  refine KOps.done ?_
  refine sqQ.normal ?_
  refine KA.sub (Sub.cons (t := 1) Look.eq (Sub.cons (t := 2) Look.eq (Sub.cons (t := 3) Look.eq (Sub.cons (t := 4) Look.eq (Sub.nil _))))) ?_
  refine KA.seq ?_
  refine KA.region rfl ?_
  refine KOps.call rfl (B_c) ?_
  rintro _ hb30 ⟨vb30, rfl, hSB⟩
  have hS0 : St _ _ (_ :: _) := St.trans hS hSB
  clear hS
  have hS := hS0
  clear hS0

  refine KOps.call rfl (stFirst_c (hS.rd 0 rfl)) ?_
  rintro _ hrF ⟨vF, rfl, hSN⟩
  have hS0 : St _ _ (_ :: _) := St.trans hS hSN
  clear hS
  have hS := hS0
  clear hS0
  rw [agrWB, if_pos rfl, lexWB] at hS
  rw [agrWB]
  refine KOps.move ?_
  refine KOps.extract ?_
  refine KOps.extract ?_
  refine KOps.assign ?_
  refine KOps.assign ?_
  refine KOps.done ?_
  refine sqQ.normal ?_
  refine KA.sub (Sub.cons (t := 1) Look.eq (Sub.cons (t := 2) Look.eq (Sub.cons (t := 3) Look.eq (Sub.cons (t := 4) Look.eq (Sub.cons (t := 5) Look.eq (Sub.cons (t := 6) Look.eq (Sub.nil _))))))) ?_
  refine KA.seq ?_
  refine KA.region rfl ?_
  refine KOps.call rfl (B_c) ?_
  rintro _ hb40 ⟨vb40, rfl, hSB⟩
  have hS0 : St _ _ (_ :: _) := St.trans hS hSB
  clear hS
  have hS := hS0
  clear hS0

  refine KOps.buildSlice hS rfl (by decide) rfl ?_
  intro v36 h' hS
  refine KOps.call rfl (lst_c) ?_
  rintro _ _ ⟨rfl, rfl⟩
  refine KOps.call rfl (other_c (l := [5, 5, 5]) (hS.rd 1 rfl) (hS.rd 0 rfl)) ?_
  rintro _ hrO ⟨vO, rfl, hSN⟩
  have hS0 : St _ _ (_ :: _) := St.trans hS hSN
  clear hS
  have hS := hS0
  clear hS0
  rw [otherWB.2] at hS
  rw [otherWB.1]
  refine KOps.move ?_
  refine KOps.extract ?_
  refine KOps.extract ?_
  refine KOps.assign ?_
  refine KOps.assign ?_
  refine KOps.done ?_
  refine sqQ.normal ?_
  refine KA.sub (Sub.cons (t := 1) Look.eq (Sub.cons (t := 2) Look.eq (Sub.cons (t := 3) Look.eq (Sub.cons (t := 4) Look.eq (Sub.cons (t := 5) Look.eq (Sub.cons (t := 6) Look.eq (Sub.cons (t := 7) Look.eq (Sub.cons (t := 8) Look.eq (Sub.nil _))))))))) ?_
  refine KA.seq ?_
  refine KA.region rfl ?_
  refine KOps.call rfl (C_c) ?_
  rintro _ hb50 ⟨vb50, rfl, hSB⟩
  have hS0 : St _ _ (_ :: _) := St.trans hS hSB
  clear hS
  have hS := hS0
  clear hS0

  refine KOps.call rfl (against_c (hS.rd 0 rfl) (hSz.ext hS.keeps)) ?_
  rintro _ hrA ⟨vA, rfl, hSN⟩
  have hS0 : St _ _ (_ :: _) := St.trans hS hSN
  clear hS
  have hS := hS0
  clear hS0
  rw [agaWC, if_pos rfl, fewWC] at hS
  rw [agaWC]
  refine KOps.move ?_
  refine KOps.extract ?_
  refine KOps.extract ?_
  refine KOps.assign ?_
  refine KOps.assign ?_
  refine KOps.done ?_
  refine sqQ.normal ?_
  refine KA.sub (Sub.cons (t := 1) Look.eq (Sub.cons (t := 2) Look.eq (Sub.cons (t := 3) Look.eq (Sub.cons (t := 4) Look.eq (Sub.cons (t := 5) Look.eq (Sub.cons (t := 6) Look.eq (Sub.cons (t := 7) Look.eq (Sub.cons (t := 8) Look.eq (Sub.cons (t := 9) Look.eq (Sub.cons (t := 10) Look.eq (Sub.nil _))))))))))) ?_
  refine KA.seq ?_
  refine KA.region rfl ?_
  refine KOps.call rfl (B_c) ?_
  rintro _ hb60 ⟨vb60, rfl, hSB⟩
  have hS0 : St _ _ (_ :: _) := St.trans hS hSB
  clear hS
  have hS := hS0
  clear hS0

  refine KOps.call rfl (stSpan_c (i := 0) (hS.rd 0 rfl)) ?_
  rintro _ h61 ⟨rfl, hK⟩
  have hS0 : St _ _ (_ :: _) := St.trans hS (St.ofK hK)
  clear hS
  have hS := hS0
  clear hS0
  rw [askWB0, if_pos rfl, if_pos rfl, loWB0, hiWB0]
  refine KOps.move ?_
  refine KOps.extract ?_
  refine KOps.extract ?_
  refine KOps.extract ?_
  refine KOps.assign ?_
  refine KOps.assign ?_
  refine KOps.assign ?_
  refine KOps.done ?_
  refine sqQ.normal ?_
  refine KA.sub (Sub.cons (t := 1) Look.eq (Sub.cons (t := 2) Look.eq (Sub.cons (t := 3) Look.eq (Sub.cons (t := 4) Look.eq (Sub.cons (t := 5) Look.eq (Sub.cons (t := 6) Look.eq (Sub.cons (t := 7) Look.eq (Sub.cons (t := 8) Look.eq (Sub.cons (t := 9) Look.eq (Sub.cons (t := 10) Look.eq (Sub.cons (t := 11) Look.eq (Sub.cons (t := 12) Look.eq (Sub.cons (t := 13) Look.eq (Sub.nil _)))))))))))))) ?_
  refine KA.seq ?_
  refine KA.region rfl ?_
  refine KOps.call rfl (B_c) ?_
  rintro _ hb70 ⟨vb70, rfl, hSB⟩
  have hS0 : St _ _ (_ :: _) := St.trans hS hSB
  clear hS
  have hS := hS0
  clear hS0

  refine KOps.call rfl (stOpen_c (hS.rd 0 rfl)) ?_
  rintro _ hrP ⟨vP, rfl, hSN⟩
  have hS0 : St _ _ (_ :: _) := St.trans hS hSN
  clear hS
  have hS := hS0
  clear hS0
  rw [agrWB, if_pos rfl, openWB] at hS
  rw [agrWB]
  refine KOps.move ?_
  refine KOps.extract ?_
  refine KOps.extract ?_
  refine KOps.assign ?_
  refine KOps.assign ?_
  refine KOps.done ?_
  refine sqQ.normal ?_
  refine KA.sub (Sub.cons (t := 1) Look.eq (Sub.cons (t := 2) Look.eq (Sub.cons (t := 3) Look.eq (Sub.cons (t := 4) Look.eq (Sub.cons (t := 5) Look.eq (Sub.cons (t := 6) Look.eq (Sub.cons (t := 7) Look.eq (Sub.cons (t := 8) Look.eq (Sub.cons (t := 9) Look.eq (Sub.cons (t := 10) Look.eq (Sub.cons (t := 11) Look.eq (Sub.cons (t := 12) Look.eq (Sub.cons (t := 13) Look.eq (Sub.cons (t := 14) Look.eq (Sub.cons (t := 15) Look.eq (Sub.nil _)))))))))))))))) ?_
  refine KA.seq ?_
  refine KA.seq ?_
  refine KA.region rfl ?_
  refine KOps.move ?_
  refine KOps.neqF rfl ?_
  refine KOps.move ?_
  refine KOps.guardYes (dj := 59) rfl rfl ?_
  refine KOps.move ?_
  refine KOps.guardYes (dj := 59) rfl rfl ?_
  refine KOps.neqF rfl ?_
  refine KOps.pickF ?_
  refine KOps.move ?_
  refine KOps.guardYes (dj := 63) rfl rfl ?_
  refine KOps.move ?_
  refine KOps.guardYes (dj := 63) rfl rfl ?_
  refine KOps.neqF rfl ?_
  refine KOps.pickF ?_
  refine KOps.move ?_
  refine KOps.guardYes (dj := 67) rfl rfl ?_
  refine KOps.move ?_
  refine KOps.guardYes (dj := 67) rfl rfl ?_
  refine KOps.neqF rfl ?_
  refine KOps.pickF ?_
  refine KOps.move ?_
  refine KOps.guardYes (dj := 71) rfl rfl ?_
  refine KOps.move ?_
  refine KOps.guardYes (dj := 71) rfl rfl ?_
  refine KOps.neqF rfl ?_
  refine KOps.pickF ?_
  refine KOps.move ?_
  refine KOps.guardYes (dj := 75) rfl rfl ?_
  refine KOps.move ?_
  refine KOps.guardYes (dj := 75) rfl rfl ?_
  refine KOps.neqF rfl ?_
  refine KOps.pickF ?_
  refine KOps.move ?_
  refine KOps.guardYes (dj := 79) rfl rfl ?_
  refine KOps.move ?_
  refine KOps.guardYes (dj := 79) rfl rfl ?_
  refine KOps.neqF rfl ?_
  refine KOps.pickF ?_
  refine KOps.done ?_
  refine sqQ.normal ?_
  refine KA.sub (Sub.cons (t := 1) Look.eq (Sub.cons (t := 3) Look.eq (Sub.cons (t := 5) Look.eq (Sub.cons (t := 7) Look.eq (Sub.cons (t := 9) Look.eq (Sub.cons (t := 11) Look.eq (Sub.cons (t := 12) Look.eq (Sub.cons (t := 14) Look.eq (Sub.cons (t := 82) Look.eq (Sub.nil _)))))))))) ?_
  refine KA.condF ?_
  refine KA.skip ?_
  refine sqQ.normal ?_
  refine KA.sub (Sub.cons (t := 1) Look.eq (Sub.cons (t := 3) Look.eq (Sub.cons (t := 5) Look.eq (Sub.cons (t := 7) Look.eq (Sub.cons (t := 9) Look.eq (Sub.cons (t := 11) Look.eq (Sub.cons (t := 12) Look.eq (Sub.cons (t := 14) Look.eq (Sub.nil _))))))))) ?_
  refine KA.seq ?_
  refine KA.region rfl ?_
  refine KOps.call rfl (B_c) ?_
  rintro _ hb100 ⟨vb100, rfl, hSB⟩
  have hS0 : St _ _ (_ :: _) := St.trans hS hSB
  clear hS
  have hS := hS0
  clear hS0

  refine KOps.buildSlice hS rfl (by decide) rfl ?_
  intro v85 h' hS
  refine KOps.call rfl (lst_c) ?_
  rintro _ _ ⟨rfl, rfl⟩
  refine KOps.call rfl (stSays_c (l := [0, 1]) (i := 1) (hS.rd 1 rfl) (hS.rd 0 rfl) (by decide)) ?_
  rintro _ h103 ⟨rfl, hK⟩
  have hS0 : St _ _ (_ :: _) := St.trans hS (St.ofK hK)
  clear hS
  have hS := hS0
  clear hS0
  rw [sayWB.1, sayWB.2]
  refine KOps.move ?_
  refine KOps.extract ?_
  refine KOps.extract ?_
  refine KOps.assign ?_
  refine KOps.assign ?_
  refine KOps.done ?_
  refine sqQ.normal ?_
  refine KA.sub (Sub.cons (t := 1) Look.eq (Sub.cons (t := 2) Look.eq (Sub.cons (t := 3) Look.eq (Sub.cons (t := 5) Look.eq (Sub.cons (t := 7) Look.eq (Sub.cons (t := 9) Look.eq (Sub.cons (t := 11) Look.eq (Sub.cons (t := 12) Look.eq (Sub.cons (t := 14) Look.eq (Sub.cons (t := 16) Look.eq (Sub.nil _))))))))))) ?_
  refine KA.seq ?_
  refine KA.region rfl ?_
  refine KOps.call rfl (B_c) ?_
  rintro _ hb110 ⟨vb110, rfl, hSB⟩
  have hS0 : St _ _ (_ :: _) := St.trans hS hSB
  clear hS
  have hS := hS0
  clear hS0

  refine KOps.call rfl (bound_true_c (i := 1) (hS.rd 0 rfl) (hSz.ext hS.keeps)) ?_
  rintro _ hrD ⟨vD, rfl, hSN⟩
  have hS0 : St _ _ (_ :: _) := St.trans hS hSN
  clear hS
  have hS := hS0
  clear hS0
  rw [boundWB1] at hS
  rw [askWB1]
  refine KOps.move ?_
  refine KOps.extract ?_
  refine KOps.extract ?_
  refine KOps.assign ?_
  refine KOps.assign ?_
  refine KOps.done ?_
  refine sqQ.normal ?_
  refine KA.sub (Sub.cons (t := 1) Look.eq (Sub.cons (t := 2) Look.eq (Sub.cons (t := 3) Look.eq (Sub.cons (t := 4) Look.eq (Sub.cons (t := 5) Look.eq (Sub.cons (t := 7) Look.eq (Sub.cons (t := 9) Look.eq (Sub.cons (t := 11) Look.eq (Sub.cons (t := 12) Look.eq (Sub.cons (t := 14) Look.eq (Sub.cons (t := 16) Look.eq (Sub.cons (t := 17) Look.eq (Sub.nil _))))))))))))) ?_
  refine KA.seq ?_
  refine KA.region rfl ?_
  refine KOps.call rfl (B_c) ?_
  rintro _ hb120 ⟨vb120, rfl, hSB⟩
  have hS0 : St _ _ (_ :: _) := St.trans hS hSB
  clear hS
  have hS := hS0
  clear hS0

  refine KOps.call rfl (stSpans_c (hS.rd 0 rfl)) ?_
  rintro _ hrS ⟨vS, rfl, hSN⟩
  have hS0 : St _ _ (_ :: _) := St.trans hS hSN
  clear hS
  have hS := hS0
  clear hS0
  rw [agrWB, if_pos rfl, spansWB] at hS
  rw [agrWB]
  refine KOps.move ?_
  refine KOps.extract ?_
  refine KOps.extract ?_
  refine KOps.assign ?_
  refine KOps.assign ?_
  refine KOps.done ?_
  refine sqQ.normal ?_
  refine KA.sub (Sub.cons (t := 1) Look.eq (Sub.cons (t := 2) Look.eq (Sub.cons (t := 3) Look.eq (Sub.cons (t := 4) Look.eq (Sub.cons (t := 5) Look.eq (Sub.cons (t := 6) Look.eq (Sub.cons (t := 7) Look.eq (Sub.cons (t := 9) Look.eq (Sub.cons (t := 11) Look.eq (Sub.cons (t := 12) Look.eq (Sub.cons (t := 14) Look.eq (Sub.cons (t := 16) Look.eq (Sub.cons (t := 17) Look.eq (Sub.cons (t := 18) Look.eq (Sub.nil _))))))))))))))) ?_
  refine KA.seq ?_
  refine KA.region rfl ?_
  refine KOps.call rfl (B_c) ?_
  rintro _ hb130 ⟨vb130, rfl, hSB⟩
  have hS0 : St _ _ (_ :: _) := St.trans hS hSB
  clear hS
  have hS := hS0
  clear hS0

  refine KOps.buildSlice hS rfl (by decide) rfl ?_
  intro v102 h' hS
  refine KOps.call rfl (lst_c) ?_
  rintro _ _ ⟨rfl, rfl⟩
  refine KOps.call rfl (stSays_c (l := [2]) (i := 0) (hS.rd 1 rfl) (hS.rd 0 rfl) (by decide)) ?_
  rintro _ h133 ⟨rfl, hK⟩
  have hS0 : St _ _ (_ :: _) := St.trans hS (St.ofK hK)
  clear hS
  have hS := hS0
  clear hS0
  rw [sayWB2]
  refine KOps.move ?_
  refine KOps.extract ?_
  refine KOps.extract ?_
  refine KOps.assign ?_
  refine KOps.done ?_
  refine sqQ.normal ?_
  refine KA.sub (Sub.cons (t := 1) Look.eq (Sub.cons (t := 2) Look.eq (Sub.cons (t := 3) Look.eq (Sub.cons (t := 4) Look.eq (Sub.cons (t := 5) Look.eq (Sub.cons (t := 6) Look.eq (Sub.cons (t := 7) Look.eq (Sub.cons (t := 8) Look.eq (Sub.cons (t := 9) Look.eq (Sub.cons (t := 11) Look.eq (Sub.cons (t := 12) Look.eq (Sub.cons (t := 14) Look.eq (Sub.cons (t := 16) Look.eq (Sub.cons (t := 17) Look.eq (Sub.cons (t := 18) Look.eq (Sub.nil _)))))))))))))))) ?_
  refine KA.seq ?_
  refine KA.region rfl ?_
  refine KOps.call rfl (B_c) ?_
  rintro _ hb140 ⟨vb140, rfl, hSB⟩
  have hS0 : St _ _ (_ :: _) := St.trans hS hSB
  clear hS
  have hS := hS0
  clear hS0

  refine KOps.call rfl (against_c (hS.rd 0 rfl) (hSz.ext hS.keeps)) ?_
  rintro _ hrA2 ⟨vA2, rfl, hSN⟩
  have hS0 : St _ _ (_ :: _) := St.trans hS hSN
  clear hS
  have hS := hS0
  clear hS0
  rw [agaWB]
  refine KOps.move ?_
  refine KOps.extract ?_
  refine KOps.extract ?_
  refine KOps.assign ?_
  refine KOps.done ?_
  refine sqQ.normal ?_
  refine KA.sub (Sub.cons (t := 1) Look.eq (Sub.cons (t := 2) Look.eq (Sub.cons (t := 3) Look.eq (Sub.cons (t := 4) Look.eq (Sub.cons (t := 5) Look.eq (Sub.cons (t := 6) Look.eq (Sub.cons (t := 7) Look.eq (Sub.cons (t := 8) Look.eq (Sub.cons (t := 9) Look.eq (Sub.cons (t := 10) Look.eq (Sub.cons (t := 11) Look.eq (Sub.cons (t := 12) Look.eq (Sub.cons (t := 14) Look.eq (Sub.cons (t := 16) Look.eq (Sub.cons (t := 17) Look.eq (Sub.cons (t := 18) Look.eq (Sub.nil _))))))))))))))))) ?_
  refine KA.seq ?_
  refine KA.region rfl ?_
  refine KOps.move ?_
  refine KOps.eqlT rfl ?_
  refine KOps.move ?_
  refine KOps.guardYes (dj := 114) rfl rfl ?_
  refine KOps.move ?_
  refine KOps.guardYes (dj := 114) rfl rfl ?_
  refine KOps.eqlT rfl ?_
  refine KOps.pickT ?_
  refine KOps.move ?_
  refine KOps.guardYes (dj := 118) rfl rfl ?_
  refine KOps.move ?_
  refine KOps.guardYes (dj := 118) rfl rfl ?_
  refine KOps.eqlT rfl ?_
  refine KOps.pickT ?_
  refine KOps.move ?_
  refine KOps.guardYes (dj := 122) rfl rfl ?_
  refine KOps.move ?_
  refine KOps.guardYes (dj := 122) rfl rfl ?_
  refine KOps.eqlT rfl ?_
  refine KOps.pickT ?_
  refine KOps.move ?_
  refine KOps.guardYes (dj := 126) rfl rfl ?_
  refine KOps.move ?_
  refine KOps.guardYes (dj := 126) rfl rfl ?_
  refine KOps.eqlT rfl ?_
  refine KOps.pickT ?_
  refine KOps.move ?_
  refine KOps.guardYes (dj := 130) rfl rfl ?_
  refine KOps.move ?_
  refine KOps.pickT ?_
  refine KOps.move ?_
  refine KOps.guardYes (dj := 133) rfl rfl ?_
  refine KOps.move ?_
  refine KOps.guardYes (dj := 133) rfl rfl ?_
  refine KOps.not ?_
  refine KOps.pickT ?_
  refine KOps.move ?_
  refine KOps.guardYes (dj := 137) rfl rfl ?_
  refine KOps.move ?_
  refine KOps.guardYes (dj := 137) rfl rfl ?_
  refine KOps.eqlT rfl ?_
  refine KOps.pickT ?_
  refine KOps.move ?_
  refine KOps.guardYes (dj := 141) rfl rfl ?_
  refine KOps.move ?_
  refine KOps.guardYes (dj := 141) rfl rfl ?_
  refine KOps.eqlT rfl ?_
  refine KOps.pickT ?_
  refine KOps.move ?_
  refine KOps.guardYes (dj := 145) rfl rfl ?_
  refine KOps.move ?_
  refine KOps.guardYes (dj := 145) rfl rfl ?_
  refine KOps.eqlT rfl ?_
  refine KOps.pickT ?_
  refine KOps.move ?_
  refine KOps.guardYes (dj := 149) rfl rfl ?_
  refine KOps.move ?_
  refine KOps.guardYes (dj := 149) rfl rfl ?_
  refine KOps.buildSlice hS rfl (by decide) rfl ?_
  intro v151 h' hS
  refine KOps.guardYes (dj := 149) rfl rfl ?_
  refine KOps.call rfl (lst_c) ?_
  rintro _ _ ⟨rfl, rfl⟩
  refine KOps.guardYes (dj := 149) rfl rfl ?_
  refine KOps.call rfl (same_c (a := [5, 5, 5]) (b := [5, 5, 5]) (hS.rd 19 rfl) (hS.rd 0 rfl) (by decide)) ?_
  rintro _ _ ⟨rfl, rfl⟩
  rw [show decide (([5, 5, 5] : List Int) = [5, 5, 5]) = true from by decide]
  refine KOps.pickT ?_
  refine KOps.move ?_
  refine KOps.guardYes (dj := 155) rfl rfl ?_
  refine KOps.move ?_
  refine KOps.guardYes (dj := 155) rfl rfl ?_
  refine KOps.buildSlice hS rfl (by decide) rfl ?_
  intro v157 h' hS
  refine KOps.guardYes (dj := 155) rfl rfl ?_
  refine KOps.call rfl (lst_c) ?_
  rintro _ _ ⟨rfl, rfl⟩
  refine KOps.guardYes (dj := 155) rfl rfl ?_
  refine KOps.call rfl (same_c (a := [6, 6, 6]) (b := [6, 6, 6]) (hS.rd 17 rfl) (hS.rd 0 rfl) (by decide)) ?_
  rintro _ _ ⟨rfl, rfl⟩
  rw [show decide (([6, 6, 6] : List Int) = [6, 6, 6]) = true from by decide]
  refine KOps.pickT ?_
  refine KOps.move ?_
  refine KOps.guardYes (dj := 161) rfl rfl ?_
  refine KOps.move ?_
  refine KOps.guardYes (dj := 161) rfl rfl ?_
  refine KOps.buildSlice hS rfl (by decide) rfl ?_
  intro v163 h' hS
  refine KOps.guardYes (dj := 161) rfl rfl ?_
  refine KOps.call rfl (lst_c) ?_
  rintro _ _ ⟨rfl, rfl⟩
  refine KOps.guardYes (dj := 161) rfl rfl ?_
  refine KOps.call rfl (same_c (a := [0, 2]) (b := [0, 2]) (hS.rd 16 rfl) (hS.rd 0 rfl) (by decide)) ?_
  rintro _ _ ⟨rfl, rfl⟩
  rw [show decide (([0, 2] : List Int) = [0, 2]) = true from by decide]
  refine KOps.pickT ?_
  refine KOps.move ?_
  refine KOps.guardYes (dj := 167) rfl rfl ?_
  refine KOps.move ?_
  refine KOps.guardYes (dj := 167) rfl rfl ?_
  refine KOps.buildSlice hS rfl (by decide) rfl ?_
  intro v169 h' hS
  refine KOps.guardYes (dj := 167) rfl rfl ?_
  refine KOps.call rfl (lst_c) ?_
  rintro _ _ ⟨rfl, rfl⟩
  refine KOps.guardYes (dj := 167) rfl rfl ?_
  refine KOps.call rfl (same_c (a := [0, 1, 2]) (b := [0, 1, 2]) (hS.rd 14 rfl) (hS.rd 0 rfl) (by decide)) ?_
  rintro _ _ ⟨rfl, rfl⟩
  rw [show decide (([0, 1, 2] : List Int) = [0, 1, 2]) = true from by decide]
  refine KOps.pickT ?_
  refine KOps.move ?_
  refine KOps.guardYes (dj := 173) rfl rfl ?_
  refine KOps.move ?_
  refine KOps.guardYes (dj := 173) rfl rfl ?_
  refine KOps.buildSlice hS rfl (by decide) rfl ?_
  intro v175 h' hS
  refine KOps.guardYes (dj := 173) rfl rfl ?_
  refine KOps.call rfl (lst_c) ?_
  rintro _ _ ⟨rfl, rfl⟩
  refine KOps.guardYes (dj := 173) rfl rfl ?_
  refine KOps.call rfl (same_c (a := [0, 1]) (b := [0, 1]) (hS.rd 11 rfl) (hS.rd 0 rfl) (by decide)) ?_
  rintro _ _ ⟨rfl, rfl⟩
  rw [show decide (([0, 1] : List Int) = [0, 1]) = true from by decide]
  refine KOps.pickT ?_
  refine KOps.move ?_
  refine KOps.guardYes (dj := 179) rfl rfl ?_
  refine KOps.move ?_
  refine KOps.guardYes (dj := 179) rfl rfl ?_
  refine KOps.buildS2 (z0 := .int .i64 0) (z1 := .int .i64 0) (by kernel_rfl) (by rfl) (by kernel_rfl) (by kernel_rfl) (by kernel_rfl) (by first | rfl | assumption) (by first | rfl | assumption) ?_
  refine KOps.guardYes (dj := 179) rfl rfl ?_
  refine KOps.buildS2 (z0 := .int .i64 0) (z1 := .int .i64 0) (by kernel_rfl) (by rfl) (by kernel_rfl) (by kernel_rfl) (by kernel_rfl) (by first | rfl | assumption) (by first | rfl | assumption) ?_
  refine KOps.guardYes (dj := 179) rfl rfl ?_
  refine KOps.buildS2 (z0 := .int .i64 0) (z1 := .int .i64 0) (by kernel_rfl) (by rfl) (by kernel_rfl) (by kernel_rfl) (by kernel_rfl) (by first | rfl | assumption) (by first | rfl | assumption) ?_
  refine KOps.guardYes (dj := 179) rfl rfl ?_
  refine KOps.buildSliceS (cs := [.int .i64 5, .int .i64 6, .int .i64 5, .int .i64 6, .int .i64 5, .int .i64 6]) hS rfl rfl rfl (by decide) ?_
  intro v184 h' hS
  refine KOps.guardYes (dj := 179) rfl rfl ?_
  refine KOps.call rfl (spans_c (a := [(5, 6), (5, 6), (5, 6)]) (b := [(5, 6), (5, 6), (5, 6)]) (hS.rd 10 rfl) (hS.rd 0 rfl) (by decide)) ?_
  rintro _ _ ⟨rfl, rfl⟩
  rw [show decide (([(5, 6), (5, 6), (5, 6)] : List (Int × Int)) = [(5, 6), (5, 6), (5, 6)]) = true from by decide]
  refine KOps.pickT ?_
  refine KOps.move ?_
  refine KOps.guardYes (dj := 187) rfl rfl ?_
  refine KOps.call rfl (B_c) ?_
  rintro _ hb1576 ⟨vb1576, rfl, hSB⟩
  have hS0 : St _ _ (_ :: _) := St.trans hS hSB
  clear hS
  have hS := hS0
  clear hS0

  refine KOps.guardYes (dj := 187) rfl rfl ?_
  refine KOps.buildSlice hS rfl (by decide) rfl ?_
  intro v189 h' hS
  refine KOps.guardYes (dj := 187) rfl rfl ?_
  refine KOps.call rfl (lst_c) ?_
  rintro _ _ ⟨rfl, rfl⟩
  refine KOps.guardYes (dj := 187) rfl rfl ?_
  refine KOps.call rfl (verify_c (l := [5, 6, 6]) (hS.rd 1 rfl) (hS.rd 0 rfl)) ?_
  rintro _ h1579 ⟨rfl, hK⟩
  have hS0 : St _ _ (_ :: _) := St.trans hS (St.ofK hK)
  clear hS
  have hS := hS0
  clear hS0
  rw [verWB2]
  refine KOps.guardYes (dj := 187) rfl rfl ?_
  refine KOps.eqlT rfl ?_
  refine KOps.pickT ?_
  refine KOps.move ?_
  refine KOps.guardYes (dj := 194) rfl rfl ?_
  refine KOps.call rfl (C_c) ?_
  rintro _ hb1583 ⟨vb1583, rfl, hSB⟩
  have hS0 : St _ _ (_ :: _) := St.trans hS hSB
  clear hS
  have hS := hS0
  clear hS0

  refine KOps.guardYes (dj := 194) rfl rfl ?_
  refine KOps.buildSlice hS rfl (by decide) rfl ?_
  intro v196 h' hS
  refine KOps.guardYes (dj := 194) rfl rfl ?_
  refine KOps.call rfl (lst_c) ?_
  rintro _ _ ⟨rfl, rfl⟩
  refine KOps.guardYes (dj := 194) rfl rfl ?_
  refine KOps.call rfl (proves_c (l := [0, 2]) (hS.rd 1 rfl) (hS.rd 0 rfl) (by decide)) ?_
  rintro _ h1586 ⟨rfl, hK⟩
  have hS0 : St _ _ (_ :: _) := St.trans hS (St.ofK hK)
  clear hS
  have hS := hS0
  clear hS0
  rw [provWC]
  refine KOps.guardYes (dj := 194) rfl rfl ?_
  refine KOps.eqlT rfl ?_
  refine KOps.pickT ?_
  refine KOps.move ?_
  refine KOps.guardYes (dj := 201) rfl rfl ?_
  refine KOps.call rfl (C_c) ?_
  rintro _ hb1590 ⟨vb1590, rfl, hSB⟩
  have hS0 : St _ _ (_ :: _) := St.trans hS hSB
  clear hS
  have hS := hS0
  clear hS0

  refine KOps.guardYes (dj := 201) rfl rfl ?_
  refine KOps.buildSlice hS rfl (by decide) rfl ?_
  intro v203 h' hS
  refine KOps.guardYes (dj := 201) rfl rfl ?_
  refine KOps.call rfl (lst_c) ?_
  rintro _ _ ⟨rfl, rfl⟩
  refine KOps.guardYes (dj := 201) rfl rfl ?_
  refine KOps.call rfl (proves_c (l := [1]) (hS.rd 1 rfl) (hS.rd 0 rfl) (by decide)) ?_
  rintro _ h1593 ⟨rfl, hK⟩
  have hS0 : St _ _ (_ :: _) := St.trans hS (St.ofK hK)
  clear hS
  have hS := hS0
  clear hS0
  rw [provWC1]
  refine KOps.guardYes (dj := 201) rfl rfl ?_
  refine KOps.eqlT rfl ?_
  refine KOps.pickT ?_
  refine KOps.assign ?_
  refine KOps.done ?_
  refine sqQ.normal ?_
  refine KA.sub (Sub.cons (t := 0) Look.eq (Sub.nil _)) ?_
  refine KA.ret ?_
  refine fnQ.ret1 ?_
  exact ⟨rfl, hS.keeps⟩

end Go.Am

namespace Go.Am
theorem Row.nil (h : AHeap) : Row h .nils [] := .inl ⟨rfl, rfl⟩
theorem first_short (rm : Int) (ws : List W) : (if agreeE rm ws = 0 then firstOf ws else []).length ≤ 1000000 := by
  split
  · rename_i h
    obtain ⟨hB, hx⟩ := agree_ok h
    have h1 := (firstOf_is hx).fl.len
    have h2 := hB.len
    omega
  · simp
theorem few_short (p : Nat → Bool) (k : Nat) : (fewL p k).length ≤ 1000000 := by
  unfold fewL
  split
  · simp
  · rename_i b _
    have := roomsTo_len b 6
    omega
theorem again_short (rm : Int) (ws : List W) : (if againE rm ws = 0 then fewL (proofB ws) (2 ^ rm.toNat) else []).length ≤ 1000000 := by
  split
  · exact few_short _ _
  · simp
theorem bound_short (rm : Int) (ws : List W) (i : Int) (g : Bool) : (boundL rm ws i g).length ≤ 1000000 := by
  unfold boundL
  split
  · split
    · simp
    · exact few_short _ _
  · simp

theorem law_flows {h : AHeap} {rm : Int} {vW : AV} {ws : List W} (hv : Rd h vW 4 (flr wc ws)) (hSz : Sizes h) {vn : AV} {l : List Int} (hn : Row h vn l) : ACalls Go.Proofs.Tryd.prog 3 [.agg [.int .i64 rm, vW], vn] h (fun q h' => q = .bool true) := by
  refine KA.fn 77 [.tmp 4] Go.Proofs.Tryd.func3 rfl (by decide) rfl rfl (Nat.le_of_ble_eq_true rfl) ?_
  have hS := St.refl h
  have hvo : vW.one = true := hv.one
  show KA _ 77 _ _ [(0, .agg [.int .i64 rm, vW]), (1, vn)] _
  refine KA.seq ?_
  refine KA.region rfl ?_
  refine KOps.boxAll hS (by first | rfl | (simp [AV.one]; done) | (simp [AV.one]; assumption) | (simp [AV.one, *]; done)) ?_
  intro p2 h' hp2 hS
  refine KOps.assign ?_
  refine KOps.done ?_
  refine sqQ.normal ?_
  refine KA.sub (Sub.cons (t := 1) Look.eq (Sub.cons (t := 2) Look.eq (Sub.nil _))) ?_
  refine KA.seq ?_
  refine KA.seq ?_
  refine KA.region rfl ?_
  refine KOps.loadAll hS (i := 0) rfl hp2 (by rfl) (by decide) ?_
  refine KOps.move ?_
  refine KOps.call rfl (large_c (Rd.ext hS.keeps hv) (Row.ext hS.keeps hn)) ?_
  rintro _ hlg ⟨rfl, hK⟩
  have hS0 : St _ _ (_ :: _) := St.trans hS (St.ofK hK)
  clear hS
  have hS := hS0
  clear hS0

  refine KOps.done ?_
  refine sqQ.normal ?_
  refine KA.sub (Sub.cons (t := 1) Look.eq (Sub.cons (t := 2) Look.eq (Sub.cons (t := 16) Look.eq (Sub.nil _)))) ?_
  refine KA.condD ?_ ?_
  · intro c16
    refine KA.seq ?_
    refine KA.region rfl ?_
    refine KOps.call rfl (works_c (hSz.ext hS.keeps)) ?_
    rintro _ hwk ⟨rfl, hK⟩
    refine KOps.assign ?_
    refine KOps.done ?_
    refine sqQ.normal ?_
    refine KA.sub (Sub.cons (t := 4) Look.eq (Sub.nil _)) ?_
    refine KA.ret ?_
    refine sqQ.ret ?_
    refine fnQ.ret1 ?_
    exact rfl
  · intro c16
    refine KA.skip ?_
    refine sqQ.normal ?_
    refine KA.sub (Sub.cons (t := 1) Look.eq (Sub.cons (t := 2) Look.eq (Sub.nil _))) ?_
    refine KA.seq ?_
    refine KA.region rfl ?_
    refine KOps.loadAll hS (i := 0) rfl hp2 (by rfl) (by decide) ?_
    refine KOps.call rfl (given_c (Rd.ext hS.keeps hv) (by omega)) ?_
    rintro _ hg ⟨vG, rfl, hSG⟩
    have hS0 : St _ _ (_ :: _) := St.trans hS hSG
    clear hS
    have hS := hS0
    clear hS0
    have hvG : vG.one = true := St.one hS (k := 0) rfl
    refine KOps.alloc hS ?_
    intro p5 h' hp5 hS
    refine KOps.storeAll hS rfl (i := 0) rfl hp5 (by show (true && (vG.one && true)) = true; rw [hvG]; rfl) (by rfl) (by rfl) (by decide) ?_
    intro h' hS
    simp only [List.set_cons_zero, List.set_cons_succ, Nat.zero_add] at hS
    refine KOps.done ?_
    refine sqQ.normal ?_
    refine KA.sub (Sub.cons (t := 1) Look.eq (Sub.cons (t := 2) Look.eq (Sub.cons (t := 5) Look.eq (Sub.nil _)))) ?_
    refine KA.seq ?_
    refine KA.region rfl ?_
    refine KOps.loadAll hS (i := 2) rfl hp2 (by rfl) (by decide) ?_
    refine KOps.call rfl (stCan_c (Rd.ext hS.keeps hv)) ?_
    rintro _ hkk ⟨rfl, hK⟩
    have hS0 : St _ _ (_ :: _) := St.trans hS (St.ofK hK)
    clear hS
    have hS := hS0
    clear hS0

    refine KOps.move ?_
    refine KOps.extract ?_
    refine KOps.extract ?_
    refine KOps.assign ?_
    refine KOps.assign ?_
    refine KOps.done ?_
    refine sqQ.normal ?_
    refine KA.sub (Sub.cons (t := 1) Look.eq (Sub.cons (t := 2) Look.eq (Sub.cons (t := 5) Look.eq (Sub.cons (t := 6) Look.eq (Sub.cons (t := 7) Look.eq (Sub.nil _)))))) ?_
    refine KA.seq ?_
    refine KA.region rfl ?_
    refine KOps.loadAll hS (i := 0) rfl hp5 (by rfl) (by decide) ?_
    refine KOps.call rfl (refCan_c (hS.rd 1 rfl)) ?_
    rintro _ hkk ⟨rfl, hK⟩
    have hS0 : St _ _ (_ :: _) := St.trans hS (St.ofK hK)
    clear hS
    have hS := hS0
    clear hS0

    refine KOps.move ?_
    refine KOps.extract ?_
    refine KOps.extract ?_
    refine KOps.assign ?_
    refine KOps.assign ?_
    refine KOps.done ?_
    refine sqQ.normal ?_
    refine KA.sub (Sub.cons (t := 1) Look.eq (Sub.cons (t := 2) Look.eq (Sub.cons (t := 5) Look.eq (Sub.cons (t := 6) Look.eq (Sub.cons (t := 7) Look.eq (Sub.cons (t := 8) Look.eq (Sub.cons (t := 9) Look.eq (Sub.nil _)))))))) ?_
    refine KA.seq ?_
    refine KA.region rfl ?_
    refine KOps.loadAll hS (i := 2) rfl hp2 (by rfl) (by decide) ?_
    refine KOps.call rfl (stFirst_c (Rd.ext hS.keeps hv)) ?_
    rintro _ hrF ⟨vF, rfl, hSN⟩
    have hS0 : St _ _ (_ :: _) := St.trans hS hSN
    clear hS
    have hS := hS0
    clear hS0

    refine KOps.move ?_
    refine KOps.extract ?_
    refine KOps.extract ?_
    refine KOps.assign ?_
    refine KOps.assign ?_
    refine KOps.done ?_
    refine sqQ.normal ?_
    refine KA.sub (Sub.cons (t := 1) Look.eq (Sub.cons (t := 2) Look.eq (Sub.cons (t := 5) Look.eq (Sub.cons (t := 6) Look.eq (Sub.cons (t := 7) Look.eq (Sub.cons (t := 8) Look.eq (Sub.cons (t := 9) Look.eq (Sub.cons (t := 10) Look.eq (Sub.cons (t := 11) Look.eq (Sub.nil _)))))))))) ?_
    refine KA.seq ?_
    refine KA.region rfl ?_
    refine KOps.loadAll hS (i := 1) rfl hp5 (by rfl) (by decide) ?_
    refine KOps.call rfl (refFirstE_c (hS.rd 2 rfl)) ?_
    rintro _ hrR ⟨vR, rfl, hSN⟩
    have hS0 : St _ _ (_ :: _) := St.trans hS hSN
    clear hS
    have hS := hS0
    clear hS0

    refine KOps.move ?_
    refine KOps.extract ?_
    refine KOps.extract ?_
    refine KOps.assign ?_
    refine KOps.assign ?_
    refine KOps.done ?_
    refine sqQ.normal ?_
    refine KA.sub (Sub.cons (t := 1) Look.eq (Sub.cons (t := 2) Look.eq (Sub.cons (t := 5) Look.eq (Sub.cons (t := 6) Look.eq (Sub.cons (t := 7) Look.eq (Sub.cons (t := 8) Look.eq (Sub.cons (t := 9) Look.eq (Sub.cons (t := 10) Look.eq (Sub.cons (t := 11) Look.eq (Sub.cons (t := 12) Look.eq (Sub.cons (t := 13) Look.eq (Sub.nil _)))))))))))) ?_
    refine KA.seq ?_
    refine KA.draw [11, 20, 22, 28, 31, 35] mixed rfl (by kernel_rfl) ?_
    refine KOps.move ?_
    refine KOps.move ?_
    refine KOps.eqlB (by kernel_rfl) ?_
    rw [beq_self_eq_true]
    refine KOps.move ?_
    refine KOps.guardYes (dj := 43) rfl rfl ?_
    refine KOps.move ?_
    refine KOps.guardYes (dj := 43) rfl rfl ?_
    refine KOps.move ?_
    refine KOps.guardYes (dj := 43) rfl rfl ?_
    refine KOps.eqlT rfl ?_
    refine KOps.pickT ?_
    refine KOps.move ?_
    refine KOps.guardYes (dj := 48) rfl rfl ?_
    refine KOps.move ?_
    refine KOps.guardYes (dj := 48) rfl rfl ?_
    refine KOps.move ?_
    refine KOps.guardYes (dj := 48) rfl rfl ?_
    refine KOps.callK (by intro _ _ hr; exact hr.2 ▸ Keeps.refl _) (same_c (hS.rd 1 rfl) (hS.rd 0 rfl) (first_short rm ws)) ?_
    rintro _ _ ⟨rfl, rfl⟩
    rw [decide_eq_true rfl]
    refine KOps.pickT ?_
    refine KOps.move ?_
    refine KOps.guardYes (dj := 53) rfl rfl ?_
    refine KOps.move ?_
    refine KOps.guardYes (dj := 53) rfl rfl ?_
    refine KOps.move ?_
    refine KOps.guardYes (dj := 53) rfl rfl ?_
    refine KOps.eqlT rfl ?_
    refine KOps.pickT ?_
    refine KOps.move ?_
    refine KOps.guardYes (dj := 58) rfl rfl ?_
    refine KOps.loadAll hS (i := 4) rfl hp2 (by rfl) (by decide) ?_
    refine KOps.guardYes (dj := 58) rfl rfl ?_
    refine KOps.callK (by intro _ _ hr; exact hr.2) (check_c (Rd.ext hS.keeps hv)) ?_
    rintro _ hkk ⟨rfl, hK⟩
    have hS0 : St _ _ (_ :: _) := St.trans hS (St.ofK hK)
    clear hS
    have hS := hS0
    clear hS0

    refine KOps.guardYes (dj := 58) rfl rfl ?_
    refine KOps.loadAll hS (i := 2) rfl hp5 (by rfl) (by decide) ?_
    refine KOps.guardYes (dj := 58) rfl rfl ?_
    refine KOps.callK (by intro _ _ hr; exact hr.2) (refCheck_c (hS.rd 3 rfl)) ?_
    rintro _ hkk ⟨rfl, hK⟩
    have hS0 : St _ _ (_ :: _) := St.trans hS (St.ofK hK)
    clear hS
    have hS := hS0
    clear hS0

    refine KOps.guardYes (dj := 58) rfl rfl ?_
    refine KOps.eqlT rfl ?_
    refine KOps.pickT ?_
    refine KOps.move ?_
    refine KOps.guardYes (dj := 65) rfl rfl ?_
    refine KOps.loadAll hS (i := 4) rfl hp2 (by rfl) (by decide) ?_
    refine KOps.guardYes (dj := 65) rfl rfl ?_
    refine KOps.move ?_
    refine KOps.guardYes (dj := 65) rfl rfl ?_
    refine KOps.callK (by intro _ _ hr; exact hr.2) (verify_c (Rd.ext hS.keeps hv) (Row.ext hS.keeps hn)) ?_
    rintro _ hkk ⟨rfl, hK⟩
    have hS0 : St _ _ (_ :: _) := St.trans hS (St.ofK hK)
    clear hS
    have hS := hS0
    clear hS0

    refine KOps.guardYes (dj := 65) rfl rfl ?_
    refine KOps.loadAll hS (i := 2) rfl hp5 (by rfl) (by decide) ?_
    refine KOps.guardYes (dj := 65) rfl rfl ?_
    refine KOps.move ?_
    refine KOps.guardYes (dj := 65) rfl rfl ?_
    refine KOps.callK (by intro _ _ hr; exact hr.2) (refVerify_c (hS.rd 3 rfl) (Row.ext hS.keeps hn)) ?_
    rintro _ hkk ⟨rfl, hK⟩
    have hS0 : St _ _ (_ :: _) := St.trans hS (St.ofK hK)
    clear hS
    have hS := hS0
    clear hS0

    refine KOps.guardYes (dj := 65) rfl rfl ?_
    refine KOps.eqlT rfl ?_
    refine KOps.pickT ?_
    refine KOps.move ?_
    refine KOps.guardYes (dj := 74) rfl rfl ?_
    refine KOps.callK (by intro _ _ hr; exact hr.2) (works_c (hSz.ext hS.keeps)) ?_
    rintro _ hwk ⟨rfl, hK⟩
    have hS0 : St _ _ (_ :: _) := St.trans hS (St.ofK hK)
    clear hS
    have hS := hS0
    clear hS0

    refine KOps.pickT ?_
    refine KOps.assign ?_
    refine KOps.done ?_
    refine sqQ.normal ?_
    refine KA.sub (Sub.cons (t := 4) Look.eq (Sub.nil _)) ?_
    refine KA.ret ?_
    refine fnQ.ret1 ?_
    exact rfl

theorem law_against {h : AHeap} {rm : Int} {vW : AV} {ws : List W} (hv : Rd h vW 4 (flr wc ws)) (hSz : Sizes h) {vn : AV} {l : List Int} (hn : Row h vn l) : ACalls Go.Proofs.Tryd.prog 5 [.agg [.int .i64 rm, vW], vn] h (fun q h' => q = .bool true) := by
  refine KA.fn 46 [.tmp 4] Go.Proofs.Tryd.func5 rfl (by decide) rfl rfl (Nat.le_of_ble_eq_true rfl) ?_
  have hS := St.refl h
  have hvo : vW.one = true := hv.one
  show KA _ 46 _ _ [(0, .agg [.int .i64 rm, vW]), (1, vn)] _
  refine KA.seq ?_
  refine KA.region rfl ?_
  refine KOps.boxAll hS (by first | rfl | (simp [AV.one]; done) | (simp [AV.one]; assumption) | (simp [AV.one, *]; done)) ?_
  intro p2 h' hp2 hS
  refine KOps.assign ?_
  refine KOps.done ?_
  refine sqQ.normal ?_
  refine KA.sub (Sub.cons (t := 1) Look.eq (Sub.cons (t := 2) Look.eq (Sub.nil _))) ?_
  refine KA.seq ?_
  refine KA.seq ?_
  refine KA.region rfl ?_
  refine KOps.loadAll hS (i := 0) rfl hp2 (by rfl) (by decide) ?_
  refine KOps.move ?_
  refine KOps.call rfl (large_c (Rd.ext hS.keeps hv) (Row.ext hS.keeps hn)) ?_
  rintro _ hlg ⟨rfl, hK⟩
  have hS0 : St _ _ (_ :: _) := St.trans hS (St.ofK hK)
  clear hS
  have hS := hS0
  clear hS0

  refine KOps.done ?_
  refine sqQ.normal ?_
  refine KA.sub (Sub.cons (t := 1) Look.eq (Sub.cons (t := 2) Look.eq (Sub.cons (t := 12) Look.eq (Sub.nil _)))) ?_
  refine KA.condD ?_ ?_
  · intro c12
    refine KA.seq ?_
    refine KA.region rfl ?_
    refine KOps.call rfl (works_c (hSz.ext hS.keeps)) ?_
    rintro _ hwk ⟨rfl, hK⟩
    refine KOps.assign ?_
    refine KOps.done ?_
    refine sqQ.normal ?_
    refine KA.sub (Sub.cons (t := 4) Look.eq (Sub.nil _)) ?_
    refine KA.ret ?_
    refine sqQ.ret ?_
    refine fnQ.ret1 ?_
    exact rfl
  · intro c12
    refine KA.skip ?_
    refine sqQ.normal ?_
    refine KA.sub (Sub.cons (t := 1) Look.eq (Sub.cons (t := 2) Look.eq (Sub.nil _))) ?_
    refine KA.seq ?_
    refine KA.region rfl ?_
    refine KOps.loadAll hS (i := 0) rfl hp2 (by rfl) (by decide) ?_
    refine KOps.call rfl (given_c (Rd.ext hS.keeps hv) (by omega)) ?_
    rintro _ hg ⟨vG, rfl, hSG⟩
    have hS0 : St _ _ (_ :: _) := St.trans hS hSG
    clear hS
    have hS := hS0
    clear hS0
    have hvG : vG.one = true := St.one hS (k := 0) rfl
    refine KOps.alloc hS ?_
    intro p5 h' hp5 hS
    refine KOps.storeAll hS rfl (i := 0) rfl hp5 (by show (true && (vG.one && true)) = true; rw [hvG]; rfl) (by rfl) (by rfl) (by decide) ?_
    intro h' hS
    simp only [List.set_cons_zero, List.set_cons_succ, Nat.zero_add] at hS
    refine KOps.done ?_
    refine sqQ.normal ?_
    refine KA.sub (Sub.cons (t := 1) Look.eq (Sub.cons (t := 2) Look.eq (Sub.cons (t := 5) Look.eq (Sub.nil _)))) ?_
    refine KA.seq ?_
    refine KA.region rfl ?_
    refine KOps.loadAll hS (i := 2) rfl hp2 (by rfl) (by decide) ?_
    refine KOps.call rfl (against_c (Rd.ext hS.keeps hv) (hSz.ext hS.keeps)) ?_
    rintro _ hrA ⟨vA, rfl, hSN⟩
    have hS0 : St _ _ (_ :: _) := St.trans hS hSN
    clear hS
    have hS := hS0
    clear hS0

    refine KOps.move ?_
    refine KOps.extract ?_
    refine KOps.extract ?_
    refine KOps.assign ?_
    refine KOps.assign ?_
    refine KOps.done ?_
    refine sqQ.normal ?_
    refine KA.sub (Sub.cons (t := 1) Look.eq (Sub.cons (t := 2) Look.eq (Sub.cons (t := 5) Look.eq (Sub.cons (t := 6) Look.eq (Sub.cons (t := 7) Look.eq (Sub.nil _)))))) ?_
    refine KA.seq ?_
    refine KA.region rfl ?_
    refine KOps.loadAll hS (i := 1) rfl hp5 (by rfl) (by decide) ?_
    refine KOps.call rfl (refAgainst_c (hS.rd 2 rfl)) ?_
    rintro _ hrR ⟨vR, rfl, hSN⟩
    have hS0 : St _ _ (_ :: _) := St.trans hS hSN
    clear hS
    have hS := hS0
    clear hS0

    refine KOps.move ?_
    refine KOps.extract ?_
    refine KOps.extract ?_
    refine KOps.assign ?_
    refine KOps.assign ?_
    refine KOps.done ?_
    refine sqQ.normal ?_
    refine KA.sub (Sub.cons (t := 1) Look.eq (Sub.cons (t := 2) Look.eq (Sub.cons (t := 5) Look.eq (Sub.cons (t := 6) Look.eq (Sub.cons (t := 7) Look.eq (Sub.cons (t := 8) Look.eq (Sub.cons (t := 9) Look.eq (Sub.nil _)))))))) ?_
    refine KA.seq ?_
    refine KA.draw [2, 11, 14, 18] mixed rfl (by kernel_rfl) ?_
    refine KOps.move ?_
    refine KOps.move ?_
    refine KOps.callK (by intro _ _ hr; exact hr.2 ▸ Keeps.refl _) (same_c (hS.rd 1 rfl) (hS.rd 0 rfl) (again_short rm ws)) ?_
    rintro _ _ ⟨rfl, rfl⟩
    rw [decide_eq_true rfl]
    refine KOps.move ?_
    refine KOps.guardYes (dj := 29) rfl rfl ?_
    refine KOps.move ?_
    refine KOps.guardYes (dj := 29) rfl rfl ?_
    refine KOps.move ?_
    refine KOps.guardYes (dj := 29) rfl rfl ?_
    refine KOps.eqlT rfl ?_
    refine KOps.pickT ?_
    refine KOps.move ?_
    refine KOps.guardYes (dj := 34) rfl rfl ?_
    refine KOps.loadAll hS (i := 4) rfl hp2 (by rfl) (by decide) ?_
    refine KOps.guardYes (dj := 34) rfl rfl ?_
    refine KOps.move ?_
    refine KOps.guardYes (dj := 34) rfl rfl ?_
    refine KOps.callK (by intro _ _ hr; exact hr.2) (proves_c (Rd.ext hS.keeps hv) (Row.ext hS.keeps hn) (by omega)) ?_
    rintro _ hkk ⟨rfl, hK⟩
    have hS0 : St _ _ (_ :: _) := St.trans hS (St.ofK hK)
    clear hS
    have hS := hS0
    clear hS0

    refine KOps.guardYes (dj := 34) rfl rfl ?_
    refine KOps.loadAll hS (i := 2) rfl hp5 (by rfl) (by decide) ?_
    refine KOps.guardYes (dj := 34) rfl rfl ?_
    refine KOps.move ?_
    refine KOps.guardYes (dj := 34) rfl rfl ?_
    refine KOps.callK (by intro _ _ hr; exact hr.2) (refProves_c (hS.rd 3 rfl) (Row.ext hS.keeps hn) (by omega)) ?_
    rintro _ hkk ⟨rfl, hK⟩
    have hS0 : St _ _ (_ :: _) := St.trans hS (St.ofK hK)
    clear hS
    have hS := hS0
    clear hS0

    refine KOps.guardYes (dj := 34) rfl rfl ?_
    refine KOps.eqlT rfl ?_
    refine KOps.pickT ?_
    refine KOps.move ?_
    refine KOps.guardYes (dj := 43) rfl rfl ?_
    refine KOps.callK (by intro _ _ hr; exact hr.2) (works_c (hSz.ext hS.keeps)) ?_
    rintro _ hwk ⟨rfl, hK⟩
    have hS0 : St _ _ (_ :: _) := St.trans hS (St.ofK hK)
    clear hS
    have hS := hS0
    clear hS0

    refine KOps.pickT ?_
    refine KOps.assign ?_
    refine KOps.done ?_
    refine sqQ.normal ?_
    refine KA.sub (Sub.cons (t := 4) Look.eq (Sub.nil _)) ?_
    refine KA.ret ?_
    refine fnQ.ret1 ?_
    exact rfl

theorem bound_c {h : AHeap} {rm i : Int} {vW : AV} {ws : List W} (hv : Rd h vW 4 (flr wc ws)) (hSz : Sizes h) (g : Bool) : ACalls Go.Proofs.Tryd.prog 42 [.agg [.int .i64 rm, vW], .int .i64 i, .bool g] h (fun q h' => ∃ vo, q = .tup [vo, .int .i64 (askE rm ws i)] ∧ St h h' [⟨vo, 1, ints (boundL rm ws i g), true⟩]) := by
  cases g
  · exact bound_false_c hv hSz
  · exact bound_true_c hv hSz
theorem refBound_c {h : AHeap} {rm i : Int} {vW : AV} {ws : List W} (hv : Rd h vW 4 (flr wc ws)) (g : Bool) : ACalls Go.Proofs.Tryd.prog 43 [.agg [.int .i64 rm, vW], .int .i64 i, .bool g] h (fun q h' => ∃ vo, q = .tup [vo, .int .i64 (askE rm ws i)] ∧ St h h' [⟨vo, 1, ints (boundL rm ws i g), true⟩]) := by
  cases g
  · exact refBound_false_c hv
  · exact refBound_true_c hv

theorem law_bounds {h : AHeap} {rm i : Int} {g : Bool} {vW : AV} {ws : List W} (hv : Rd h vW 4 (flr wc ws)) (hSz : Sizes h) {vn : AV} {l : List Int} (hn : Row h vn l) : ACalls Go.Proofs.Tryd.prog 7 [.agg [.int .i64 rm, vW], vn, .int .i64 i, .bool g] h (fun q h' => q = .bool true) := by
  refine KA.fn 73 [.tmp 8] Go.Proofs.Tryd.func7 rfl (by decide) rfl rfl (Nat.le_of_ble_eq_true rfl) ?_
  have hS := St.refl h
  have hvo : vW.one = true := hv.one
  show KA _ 73 _ _ [(0, .agg [.int .i64 rm, vW]), (1, vn), (2, .int .i64 i), (3, .bool g)] _
  refine KA.seq ?_
  refine KA.region rfl ?_
  refine KOps.boxAll hS (by first | rfl | (simp [AV.one]; done) | (simp [AV.one]; assumption) | (simp [AV.one, *]; done)) ?_
  intro p4 h' hp4 hS
  refine KOps.assign ?_
  refine KOps.done ?_
  refine sqQ.normal ?_
  refine KA.sub (Sub.cons (t := 1) Look.eq (Sub.cons (t := 2) Look.eq (Sub.cons (t := 3) Look.eq (Sub.cons (t := 4) Look.eq (Sub.nil _))))) ?_
  refine KA.seq ?_
  refine KA.seq ?_
  refine KA.region rfl ?_
  refine KOps.loadAll hS (i := 0) rfl hp4 (by rfl) (by decide) ?_
  refine KOps.move ?_
  refine KOps.call rfl (large_c (Rd.ext hS.keeps hv) (Row.ext hS.keeps hn)) ?_
  rintro _ hlg ⟨rfl, hK⟩
  have hS0 : St _ _ (_ :: _) := St.trans hS (St.ofK hK)
  clear hS
  have hS := hS0
  clear hS0

  refine KOps.done ?_
  refine sqQ.normal ?_
  refine KA.sub (Sub.cons (t := 1) Look.eq (Sub.cons (t := 2) Look.eq (Sub.cons (t := 3) Look.eq (Sub.cons (t := 4) Look.eq (Sub.cons (t := 20) Look.eq (Sub.nil _)))))) ?_
  refine KA.condD ?_ ?_
  · intro c20
    refine KA.seq ?_
    refine KA.region rfl ?_
    refine KOps.call rfl (works_c (hSz.ext hS.keeps)) ?_
    rintro _ hwk ⟨rfl, hK⟩
    refine KOps.assign ?_
    refine KOps.done ?_
    refine sqQ.normal ?_
    refine KA.sub (Sub.cons (t := 8) Look.eq (Sub.nil _)) ?_
    refine KA.ret ?_
    refine sqQ.ret ?_
    refine fnQ.ret1 ?_
    exact rfl
  · intro c20
    refine KA.skip ?_
    refine sqQ.normal ?_
    refine KA.sub (Sub.cons (t := 1) Look.eq (Sub.cons (t := 2) Look.eq (Sub.cons (t := 3) Look.eq (Sub.cons (t := 4) Look.eq (Sub.nil _))))) ?_
    refine KA.seq ?_
    refine KA.region rfl ?_
    refine KOps.loadAll hS (i := 0) rfl hp4 (by rfl) (by decide) ?_
    refine KOps.call rfl (given_c (Rd.ext hS.keeps hv) (by omega)) ?_
    rintro _ hg ⟨vG, rfl, hSG⟩
    have hS0 : St _ _ (_ :: _) := St.trans hS hSG
    clear hS
    have hS := hS0
    clear hS0
    have hvG : vG.one = true := St.one hS (k := 0) rfl
    refine KOps.alloc hS ?_
    intro p9 h' hp9 hS
    refine KOps.storeAll hS rfl (i := 0) rfl hp9 (by show (true && (vG.one && true)) = true; rw [hvG]; rfl) (by rfl) (by rfl) (by decide) ?_
    intro h' hS
    simp only [List.set_cons_zero, List.set_cons_succ, Nat.zero_add] at hS
    refine KOps.done ?_
    refine sqQ.normal ?_
    refine KA.sub (Sub.cons (t := 1) Look.eq (Sub.cons (t := 2) Look.eq (Sub.cons (t := 3) Look.eq (Sub.cons (t := 4) Look.eq (Sub.cons (t := 9) Look.eq (Sub.nil _)))))) ?_
    refine KA.seq ?_
    refine KA.region rfl ?_
    refine KOps.loadAll hS (i := 2) rfl hp4 (by rfl) (by decide) ?_
    refine KOps.move ?_
    refine KOps.move ?_
    refine KOps.call rfl (stSays_c (Rd.ext hS.keeps hv) (Row.ext hS.keeps hn) (by omega)) ?_
    rintro _ hkk ⟨rfl, hK⟩
    have hS0 : St _ _ (_ :: _) := St.trans hS (St.ofK hK)
    clear hS
    have hS := hS0
    clear hS0

    refine KOps.move ?_
    refine KOps.extract ?_
    refine KOps.extract ?_
    refine KOps.assign ?_
    refine KOps.assign ?_
    refine KOps.done ?_
    refine sqQ.normal ?_
    refine KA.sub (Sub.cons (t := 1) Look.eq (Sub.cons (t := 2) Look.eq (Sub.cons (t := 3) Look.eq (Sub.cons (t := 4) Look.eq (Sub.cons (t := 9) Look.eq (Sub.cons (t := 10) Look.eq (Sub.cons (t := 11) Look.eq (Sub.nil _)))))))) ?_
    refine KA.seq ?_
    refine KA.region rfl ?_
    refine KOps.loadAll hS (i := 0) rfl hp9 (by rfl) (by decide) ?_
    refine KOps.move ?_
    refine KOps.move ?_
    refine KOps.call rfl (refSaysE_c (hS.rd 1 rfl) (Row.ext hS.keeps hn) (by omega)) ?_
    rintro _ hkk ⟨rfl, hK⟩
    have hS0 : St _ _ (_ :: _) := St.trans hS (St.ofK hK)
    clear hS
    have hS := hS0
    clear hS0

    refine KOps.move ?_
    refine KOps.extract ?_
    refine KOps.extract ?_
    refine KOps.assign ?_
    refine KOps.assign ?_
    refine KOps.done ?_
    refine sqQ.normal ?_
    refine KA.sub (Sub.cons (t := 2) Look.eq (Sub.cons (t := 3) Look.eq (Sub.cons (t := 4) Look.eq (Sub.cons (t := 9) Look.eq (Sub.cons (t := 10) Look.eq (Sub.cons (t := 11) Look.eq (Sub.cons (t := 12) Look.eq (Sub.cons (t := 13) Look.eq (Sub.nil _))))))))) ?_
    refine KA.seq ?_
    refine KA.region rfl ?_
    refine KOps.loadAll hS (i := 2) rfl hp4 (by rfl) (by decide) ?_
    refine KOps.move ?_
    refine KOps.move ?_
    refine KOps.call rfl (bound_c (Rd.ext hS.keeps hv) (hSz.ext hS.keeps) g) ?_
    rintro _ hrA ⟨vA, rfl, hSN⟩
    have hS0 : St _ _ (_ :: _) := St.trans hS hSN
    clear hS
    have hS := hS0
    clear hS0

    refine KOps.move ?_
    refine KOps.extract ?_
    refine KOps.extract ?_
    refine KOps.assign ?_
    refine KOps.assign ?_
    refine KOps.done ?_
    refine sqQ.normal ?_
    refine KA.sub (Sub.cons (t := 2) Look.eq (Sub.cons (t := 3) Look.eq (Sub.cons (t := 9) Look.eq (Sub.cons (t := 10) Look.eq (Sub.cons (t := 11) Look.eq (Sub.cons (t := 12) Look.eq (Sub.cons (t := 13) Look.eq (Sub.cons (t := 14) Look.eq (Sub.cons (t := 15) Look.eq (Sub.nil _)))))))))) ?_
    refine KA.seq ?_
    refine KA.region rfl ?_
    refine KOps.loadAll hS (i := 1) rfl hp9 (by rfl) (by decide) ?_
    refine KOps.move ?_
    refine KOps.move ?_
    refine KOps.call rfl (refBound_c (hS.rd 2 rfl) g) ?_
    rintro _ hrB ⟨vB, rfl, hSN⟩
    have hS0 : St _ _ (_ :: _) := St.trans hS hSN
    clear hS
    have hS := hS0
    clear hS0

    refine KOps.move ?_
    refine KOps.extract ?_
    refine KOps.extract ?_
    refine KOps.assign ?_
    refine KOps.assign ?_
    refine KOps.done ?_
    refine sqQ.normal ?_
    refine KA.sub (Sub.cons (t := 10) Look.eq (Sub.cons (t := 11) Look.eq (Sub.cons (t := 12) Look.eq (Sub.cons (t := 13) Look.eq (Sub.cons (t := 14) Look.eq (Sub.cons (t := 15) Look.eq (Sub.cons (t := 16) Look.eq (Sub.cons (t := 17) Look.eq (Sub.nil _))))))))) ?_
    refine KA.seq ?_
    refine KA.region rfl ?_
    refine KOps.move ?_
    refine KOps.move ?_
    refine KOps.eqlT rfl ?_
    refine KOps.move ?_
    refine KOps.guardYes (dj := 55) rfl rfl ?_
    refine KOps.move ?_
    refine KOps.guardYes (dj := 55) rfl rfl ?_
    refine KOps.move ?_
    refine KOps.guardYes (dj := 55) rfl rfl ?_
    refine KOps.eqlT rfl ?_
    refine KOps.pickT ?_
    refine KOps.move ?_
    refine KOps.guardYes (dj := 60) rfl rfl ?_
    refine KOps.move ?_
    refine KOps.guardYes (dj := 60) rfl rfl ?_
    refine KOps.move ?_
    refine KOps.guardYes (dj := 60) rfl rfl ?_
    refine KOps.call rfl (same_c (hS.rd 1 rfl) (hS.rd 0 rfl) (bound_short rm ws i g)) ?_
    rintro _ _ ⟨rfl, rfl⟩
    rw [decide_eq_true rfl]
    refine KOps.pickT ?_
    refine KOps.move ?_
    refine KOps.guardYes (dj := 65) rfl rfl ?_
    refine KOps.move ?_
    refine KOps.guardYes (dj := 65) rfl rfl ?_
    refine KOps.move ?_
    refine KOps.guardYes (dj := 65) rfl rfl ?_
    refine KOps.eqlT rfl ?_
    refine KOps.pickT ?_
    refine KOps.move ?_
    refine KOps.guardYes (dj := 70) rfl rfl ?_
    refine KOps.call rfl (works_c (hSz.ext hS.keeps)) ?_
    rintro _ hwk ⟨rfl, hK⟩
    have hS0 : St _ _ (_ :: _) := St.trans hS (St.ofK hK)
    clear hS
    have hS := hS0
    clear hS0

    refine KOps.pickT ?_
    refine KOps.assign ?_
    refine KOps.done ?_
    refine sqQ.normal ?_
    refine KA.sub (Sub.cons (t := 8) Look.eq (Sub.nil _)) ?_
    refine KA.ret ?_
    refine fnQ.ret1 ?_
    exact rfl

end Go.Am

namespace Go.Am
/-- A struct of numbers of one kind. -/
theorem IC.nums {H : Type} {enc : TypeId × Value → H} {P : Program} {t : TypeId} {fs : Array Field} {n : Nat} {k : IntKind} (ht : P.underlying t = some (.struct fs)) (hc : P.cellsOf t = n) (hf : ∀ i, i < n → ∃ f, fs[i]? = some f ∧ f.offset = i ∧ P.cellsOf f.type = 1 ∧ P.underlying f.type = some (.int k)) (hs : fs.size = n) : IC enc P t (EArr k n) := by
  refine ⟨?_, fun _ _ _ _ _ h => h⟩
  intro W φ h im fuel cs y hy
  obtain ⟨xs, m, rfl, rfl, hl, hxl, hx⟩ := DataW.trod_struct ht hy
  rw [hc] at hl
  obtain ⟨l, rfl, hw⟩ := ints_of (k := k) (cs := cs) (by
    intro i hi
    obtain ⟨f, hf1, hf2, hf3, hf4⟩ := hf i (by omega)
    have h2 := hx i f hf1
    rw [hf2, hf3, List.getElem?_eq_getElem (by omega)] at h2
    obtain ⟨c, h3, _, h4⟩ := DataW.trod_int hf4 h2
    refine ⟨c, ?_, h4⟩
    have h5 : ((cs.drop i).take 1)[0]? = some (.int k c) := by rw [h3]; rfl
    simpa [List.getElem?_take, List.getElem?_drop] using h5)
  refine ⟨φ, h, l.map (AV.int k), l, im, Emb.le_refl φ, Keeps.refl h, ⟨by simp, ?_⟩, rfl, by simpa using hl, hw⟩
  intro j a b ha hb
  rw [List.getElem?_map] at ha hb
  cases hj : l[j]? with
  | none => rw [hj] at ha; cases ha
  | some x =>
    rw [hj] at ha hb
    cases ha
    cases hb
    exact .int k x
/-- A struct of two parts. -/
def EPair {X Y : Type} (s0 : Nat) (E0 : AHeap → List AV → X → Prop) (E1 : AHeap → List AV → Y → Prop) (h : AHeap) (avs : List AV) (p : X × Y) : Prop := E0 h (avs.take s0) p.1 ∧ E1 h (avs.drop s0) p.2
theorem VRels.split {φ : Emb} {a b : List AV} {cs : List Value} {s : Nat} (h1 : VRels φ a (cs.take s)) (h2 : VRels φ b (cs.drop s)) (hs : s ≤ cs.length) : VRels φ (a ++ b) cs ∧ (a ++ b).take s = a ∧ (a ++ b).drop s = b := by
  have ha : a.length = s := by rw [h1.1, List.length_take]; omega
  have h3 := VRels.append h1 h2
  rw [List.take_append_drop] at h3
  exact ⟨h3, by rw [← ha, List.take_left], by rw [← ha, List.drop_left]⟩
theorem IC.pair {H : Type} {enc : TypeId × Value → H} {P : Program} {t : TypeId} {f0 f1 : Field} {s0 s1 : Nat} {X Y : Type} {E0 : AHeap → List AV → X → Prop} {E1 : AHeap → List AV → Y → Prop} (ht : P.underlying t = some (.struct #[f0, f1])) (hc : P.cellsOf t = s0 + s1) (h0 : f0.offset = 0) (h1 : f1.offset = s0) (hc0 : P.cellsOf f0.type = s0) (hc1 : P.cellsOf f1.type = s1) (i0 : IC enc P f0.type E0) (i1 : IC enc P f1.type E1) : IC enc P t (EPair s0 E0 E1) := by
  refine ⟨?_, fun h h' avs x k hE => ⟨i0.mono _ _ _ _ k hE.1, i1.mono _ _ _ _ k hE.2⟩⟩
  intro W φ h im fuel cs y hy
  obtain ⟨xs, m, rfl, rfl, hl, hxl, hx⟩ := DataW.trod_struct ht hy
  rw [hc] at hl
  have hxl : xs.length = 2 := hxl
  have e0 := hx 0 f0 rfl
  have e1 := hx 1 f1 rfl
  rw [h0, hc0, List.drop_zero, List.getElem?_eq_getElem (by omega)] at e0
  rw [h1, hc1, List.take_of_length_le (by rw [List.length_drop]; omega), List.getElem?_eq_getElem (by omega)] at e1
  obtain ⟨φ1, hp1, a, x, im1, le1, k1, hv1, hE1⟩ := i0.imp W φ h im m _ _ e0
  obtain ⟨φ2, hp2, b, z, im2, le2, k2, hv2, hE2⟩ := i1.imp W φ1 hp1 im1 m _ _ e1
  obtain ⟨q1, q2, q3⟩ := VRels.split (hv1.mono le2) hv2 (by omega)
  exact ⟨φ2, hp2, a ++ b, (x, z), im2, Emb.le_trans le1 le2, k1.trans k2, q1, by rw [q2]; exact i0.mono _ _ _ _ k2 hE1, by rw [q3]; exact hE2⟩
/-- A table, as the first package-level variable. -/
theorem Imp.table {W : World} {cs : List AV} (hcell : ∀ (j : Nat) (x : AV), cs[j]? = some x → ∃ v, W.cell? ⟨0, j, none⟩ = some v ∧ ∀ φ, VRel φ x v) (h0 : 0 < W.heap.size) : ∃ φ h, Imp W φ h ∧ h.globs.contains 0 = true ∧ Rd h (.ptr 0 0) 0 cs := by
  obtain ⟨im, _⟩ := (Imp.empty W).push cs (some (0, 0, cs.length)) (by
    intro k i z hq
    cases hq
    refine ⟨h0, fun j x hx => ?_⟩
    obtain ⟨v, h1, h2⟩ := hcell j x hx
    exact ⟨v, by rw [Nat.zero_add]; exact h1, h2 _⟩)
  refine ⟨_, ⟨(h00.push (.cells none 0 cs)).blks, (h00.push (.cells none 0 cs)).fams, [0]⟩, ⟨⟨?_, im.rel.lt, im.rel.blk, im.rel.arr, im.rel.one, im.rel.sep, im.rel.map, im.rel.ext⟩, im.ro, im.out⟩, rfl, .inr (.inl ⟨0, 0, none, 0, cs, .inr ⟨rfl, rfl⟩, rfl, rfl, by rw [List.drop_zero, List.take_length]⟩)⟩
  intro g hg
  have hg : g = 0 := by simpa using hg
  subst hg
  exact ⟨cs.length, rfl⟩
end Go.Am

namespace Go.Am
open Go.ChangeShapes Go.WideShapes
def wOf (l : List Int) : W := ⟨l.getD 0 0, l.getD 1 0, l.getD 2 0, l.getD 3 0⟩
theorem wc_of {l : List Int} (h : l.length = 4) : l.map (AV.int .i64) = wc (wOf l) := by
  match l, h with
  | [a, b, c, d], _ => rfl
theorem rows_books {h : AHeap} : ∀ {rows : List (List AV)} {xs : List (List Int)}, rows.length = xs.length → (∀ (i : Nat) (r : List AV) (x : List Int), rows[i]? = some r → xs[i]? = some x → r.length = 4 ∧ EArr .i64 4 h r x) → rows.flatten = flr wc (xs.map wOf) := by
  intro rows
  induction rows with
  | nil => intro xs hl _; rw [List.length_eq_zero_iff.1 hl.symm]; rfl
  | cons r rows ih =>
    intro xs hl hx
    cases xs with
    | nil => cases hl
    | cons x xs =>
      obtain ⟨_, h1, h2, _⟩ := hx 0 r x rfl rfl
      rw [List.flatten_cons, ih (by simpa using hl) (fun i r y hr hy => hx (i + 1) r y (by simpa using hr) (by simpa using hy)), h1, wc_of h2]
      rfl
theorem books_of {h : AHeap} {avs : List AV} {x : Int × List (List Int)} (hE : EPair 1 (EInt .i64) (ESl 4 (EArr .i64 4)) h avs x) : ∃ (rm : Int) (vW : AV) (ws : List W), avs = [.int .i64 rm, vW] ∧ Rd h vW 4 (flr wc ws) := by
  obtain ⟨⟨h1, _⟩, v, rows, h2, h3, h4, h5⟩ := hE
  refine ⟨x.1, v, x.2.map wOf, ?_, ?_⟩
  · rw [← List.take_append_drop 1 avs, h1, h2]; rfl
  · rw [← rows_books h4 h5]; exact h3
section
open Go.Proofs.Tryd
theorem ic_way {H : Type} {enc : TypeId × Value → H} : IC enc Go.Proofs.Tryd.prog 74 (EArr .i64 4) := IC.nums Go.Proofs.Tryd.underlying74 (by kernel_rfl) (by
  intro i hi
  match i, hi with
  | 0, _ => exact ⟨_, rfl, rfl, by kernel_rfl, Go.Proofs.Tryd.underlying3⟩
  | 1, _ => exact ⟨_, rfl, rfl, by kernel_rfl, Go.Proofs.Tryd.underlying3⟩
  | 2, _ => exact ⟨_, rfl, rfl, by kernel_rfl, Go.Proofs.Tryd.underlying3⟩
  | 3, _ => exact ⟨_, rfl, rfl, by kernel_rfl, Go.Proofs.Tryd.underlying3⟩) rfl
theorem ic_books {H : Type} {enc : TypeId × Value → H} : IC enc Go.Proofs.Tryd.prog 24 (EPair 1 (EInt .i64) (ESl 4 (EArr .i64 4))) :=
  IC.pair (s0 := 1) (s1 := 1) Go.Proofs.Tryd.underlying24 (by kernel_rfl) rfl rfl (by kernel_rfl) (by kernel_rfl) (IC.int Go.Proofs.Tryd.underlying3) (IC.slice (s := 4) Go.Proofs.Tryd.underlying22 (by kernel_rfl) (by decide) ic_way)
end
def laidL : List (String × DataW Unit) := [("spadille/stamp.sizes", Go.Proofs.YtildfacbjdhbnaaDoor.Rows.laid_spadille_stamp_sizes)]
def litI : DataW Unit → Option Int
  | .lit (.int .i8 n) => some n
  | _ => none
def aggL : DataW Unit → List (DataW Unit)
  | .agg l => l
  | _ => []
theorem laid_lits : (aggL Go.Proofs.YtildfacbjdhbnaaDoor.Rows.laid_spadille_stamp_sizes).map litI = (List.range 64).map fun s => some ((roomsTo s 6).length : Int) := by kernel_rfl
theorem sizes_laid {W : World} (h : laidMetH Go.Proofs.Tryd.prog laidL W) : ∃ φ hp, Imp W φ hp ∧ Sizes hp := by
  rw [MakeChecks.laidMetH_plain _ _ _ (by kernel_rfl)] at h
  obtain ⟨ps, ⟨g0, t0, cs0, f0, p0, q0, hg0, ht0, hv0, hd0, _, _⟩, _, _⟩ := h
  obtain rfl := Option.some.inj ((show Go.Proofs.Tryd.prog.globalNamed "spadille/stamp.sizes" = some 0 by kernel_rfl).symm.trans hg0)
  obtain rfl := Option.some.inj ((show (Go.Proofs.Tryd.prog.globals[0]?).map (·.type) = some 126 by kernel_rfl).symm.trans ht0)
  obtain ⟨xs, m, rfl, hx1, hl, hxl, hx⟩ := DataW.trod_array Go.Proofs.Tryd.underlying126 hd0
  have c1 : Go.Proofs.Tryd.prog.cellsOf 125 = 1 := by kernel_rfl
  have c2 : Go.Proofs.Tryd.prog.cellsOf 126 = 64 := by kernel_rfl
  rw [c2] at hl
  have hd := (Prod.mk.inj hx1).1
  have hxs : xs.map (fun x => litI x.1) = (List.range 64).map fun s => some ((roomsTo s 6).length : Int) := by
    rw [← laid_lits, hd]
    show _ = (xs.map (·.1)).map litI
    rw [List.map_map]; rfl
  have key : ∀ i, i < 64 → cs0.toList[i]? = some (.int .i8 ((roomsTo i 6).length : Int)) := by
    intro i hi
    have h2 := hx i hi
    rw [c1, Nat.mul_one, List.getElem?_eq_getElem (by omega)] at h2
    obtain ⟨c, h3, h4, _⟩ := DataW.trod_int Go.Proofs.Tryd.underlying125 h2
    have h5 : ((cs0.toList.drop i).take 1)[0]? = some (.int .i8 c) := by rw [h3]; rfl
    have h6 : cs0.toList[i]? = some (.int .i8 c) := by simpa [List.getElem?_take, List.getElem?_drop] using h5
    have h7 := congrArg (fun l => l[i]?) hxs
    simp only [List.getElem?_map, List.getElem?_eq_getElem (show i < xs.length by omega), List.getElem?_range hi, Option.map_some, Option.some.injEq] at h7
    rw [h4] at h7
    have h8 : c = ((roomsTo i 6).length : Int) := by simpa [litI] using h7
    rw [h6, h8]
  have hcell : ∀ i, i < 64 → W.cell? ⟨0, i, none⟩ = some (.int .i8 ((roomsTo i 6).length : Int)) := by
    intro i hi
    rw [World.var?_cell hg0 hv0 i, ← Array.getElem?_toList]
    exact key i hi
  obtain ⟨φ, hp, im, h1, h2⟩ := Imp.table (W := W) (cs := sizesC) (by
    intro j x hj
    have hj64 : j < 64 := by
      have := (List.getElem?_eq_some_iff.1 hj).1
      simpa [sizesC] using this
    have h3 := sizes_get hj64
    rw [Nat.zero_add] at h3
    rw [h3] at hj
    cases hj
    exact ⟨_, hcell j hj64, fun φ => .int _ _⟩) (by
    have h3 := hcell 0 (by decide)
    unfold World.cell? at h3
    split at h3
    · rename_i hc
      exact (Array.getElem?_eq_some_iff.1 hc).1
    · cases h3)
  exact ⟨φ, hp, im, h1, h2⟩
end Go.Am
