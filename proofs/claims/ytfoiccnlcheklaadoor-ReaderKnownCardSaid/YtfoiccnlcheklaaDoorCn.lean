/-
  Layer 08: the law on the examples of the chapter: the Go function returns true.
  Conditions: none.
-/
import Derived.Test.YtfoiccnlcheklaaDoorCm
namespace Go.Am
theorem q_wt : wtS (wd [true]) = 1 := by rw [wtS_wd (by decide)]; decide
theorem q_cls : clsS (wd [true]) = 1 := by rw [clsS_wd (by decide)]; decide
theorem q_wt0 : wtS (wd []) = 0 := by rw [wtS_wd (by decide)]; decide
theorem q_cls0 : clsS (wd []) = 0 := by rw [clsS_wd (by decide)]; decide
theorem q_se : shortE (wd [true, true, true]) = 0 := by rw [shortE_wd (by decide)]; decide
theorem q_s : shortS (wd [true, true, true]) = [[true, true]] := by rw [shortS_wd q_se]; decide +kernel
theorem q_n : ((codeS 4 1).length : Int) = 3 := by
  have h : codeS 4 1 = codeW 4 1 := codeS_nat (a := 4) (b := 1) (by decide) (by decide)
  rw [h, codeW_len]
  decide +kernel
theorem q_m : ((codeS 5 0).length : Int) = 6 := by
  have h : codeS 5 0 = codeW 5 0 := codeS_nat (a := 5) (b := 0) (by decide) (by decide)
  rw [h, codeW_len]
  decide +kernel
theorem q_ask1 : askE 3 (wd [false, true]) = 0 := askE_0 (chk_wd (by decide)) (by decide) (by rw [wd_size]; decide)
theorem q_cut1 : cutS 3 (wd [false, true]) = [[false, false, true], [false, true, false], [false, true, true], [true, false, true]] := (cutS_wd (a := 3) q_ask1).trans (by decide +kernel)
theorem q_ask2 : askE 3 (wd [false, true, true]) = 0 := askE_0 (chk_wd (by decide)) (by decide) (by rw [wd_size]; decide)
theorem q_cut2 : cutS 3 (wd [false, true, true]) = [[false, true, true]] := (cutS_wd (a := 3) q_ask2).trans (by decide +kernel)
theorem q_ask3 : askE 4 (wd [false, true, true, false, false]) = 0 := askE_0 (chk_wd (by decide)) (by decide) (by rw [wd_size]; decide)
theorem q_rest1 : restE 4 0 (wd [false, true, true, false, false]) = 0 ∧ restS 4 0 (wd [false, true, true, false, false]) = [false, true, true, false] := rest_some (a := 4) (b := 0) q_ask3 (by decide) (by decide +kernel)
theorem q_ask4 : askE 4 (wd [false, true, true, false]) = 0 := askE_0 (chk_wd (by decide)) (by decide) (by rw [wd_size]; decide)
theorem q_rest2 : restE 4 0 (wd [false, true, true, false]) = 0 ∧ restS 4 0 (wd [false, true, true, false]) = [false, true, true, false] := rest_some (a := 4) (b := 0) q_ask4 (by decide) (by decide +kernel)
theorem q_safe : safeV [wd [false, false, false, false], wd [false, true, true, false], wd [true, false, false, true], wd [true, true, true, true]] = .tup [.int .i64 0, .int .i64 0, .int .i64 0] := by
  have he := errTo_words (ws := [[false, false, false, false], [false, true, true, false], [true, false, false, true], [true, true, true, true]]) (m := 4) (by decide) (by decide) (by decide)
  refine safe_none (ss := [[false, false, false, false], [false, true, true, false], [true, false, false, true], [true, true, true, true]].map wd) (by decide) he (fun a b h1 h2 => ?_)
  have h2 : b < 4 := h2
  rw [clS_words (show a < 4 by omega) h2]
  have hall : ∀ b : Nat, b < 4 → ∀ a : Nat, a < b → clashW ([[false, false, false, false], [false, true, true, false], [true, false, false, true], [true, true, true, true]].getD a []) ([[false, false, false, false], [false, true, true, false], [true, false, false, true], [true, true, true, true]].getD b []) = false := by decide +kernel
  exact hall b h2 a h1
theorem q_most : mostE 3 = 0 ∧ mostV 3 = 2 := by
  have h := mostE_nat (n := 3) (by decide)
  exact ⟨h.1, h.2.trans most_nums.2.2.1⟩
theorem q_bad : chkS ⟨#[48, 49, 50]⟩ = 10 := by decide +kernel
theorem q_long : chkS (wd [false, false, false, false, false, false, false, false, false, false, false]) = 19 := chk_19 (by rw [wd_size]; decide)
set_option synthInstance.maxSize 4000 in
set_option synthInstance.maxHeartbeats 2000000 in
set_option maxRecDepth 100000 in
theorem law_known {h : AHeap} (hTab : Tab h) : ACalls Go.Proofs.Tryd.prog 10 [] h (fun r _ => r = .bool true) := by
  refine KA.fn 180 [.tmp 0] Go.Proofs.Tryd.func10 rfl (by decide) rfl rfl (Nat.le_of_ble_eq_true rfl) ?_
  have hS := St.refl h
  show KA _ 180 _ _ [] _
  refine KA.seq ?_
  refine KA.region rfl ?_
  refine KOps.assign ?_
  refine KOps.done ?_
  refine sqQ.normal ?_
  refine KA.sub (Sub.nil _) ?_
  refine KA.seq ?_
  refine KA.region rfl ?_
  refine KOps.call rfl (classP_c) ?_
  rintro _ _ ⟨rfl, rfl⟩
  refine KOps.move ?_
  refine KOps.extract ?_
  refine KOps.extract ?_
  refine KOps.extract ?_
  refine KOps.assign ?_
  refine KOps.assign ?_
  refine KOps.assign ?_
  refine KOps.done ?_
  refine sqQ.normal ?_
  refine KA.sub (Sub.cons (t := 1) Look.eq (Sub.cons (t := 2) Look.eq (Sub.cons (t := 3) Look.eq (Sub.nil _)))) ?_
  refine KA.seq ?_
  refine KA.region rfl ?_
  refine KOps.call rfl (classP_c) ?_
  rintro _ _ ⟨rfl, rfl⟩
  refine KOps.move ?_
  refine KOps.extract ?_
  refine KOps.extract ?_
  refine KOps.extract ?_
  refine KOps.assign ?_
  refine KOps.assign ?_
  refine KOps.assign ?_
  refine KOps.done ?_
  refine sqQ.normal ?_
  refine KA.sub (Sub.cons (t := 1) Look.eq (Sub.cons (t := 2) Look.eq (Sub.cons (t := 3) Look.eq (Sub.cons (t := 4) Look.eq (Sub.cons (t := 5) Look.eq (Sub.cons (t := 6) Look.eq (Sub.nil _))))))) ?_
  refine KA.seq ?_
  refine KA.region rfl ?_
  refine KOps.call rfl (shortP_c) ?_
  rintro _ h37 ⟨v37, rfl, hS37⟩
  have hS0 : St _ _ (_ :: _) := St.trans hS hS37
  clear hS
  have hS := hS0
  clear hS0
  refine KOps.move ?_
  refine KOps.extract ?_
  refine KOps.extract ?_
  refine KOps.assign ?_
  refine KOps.assign ?_
  refine KOps.done ?_
  refine sqQ.normal ?_
  refine KA.sub (Sub.cons (t := 1) Look.eq (Sub.cons (t := 2) Look.eq (Sub.cons (t := 3) Look.eq (Sub.cons (t := 4) Look.eq (Sub.cons (t := 5) Look.eq (Sub.cons (t := 6) Look.eq (Sub.cons (t := 7) Look.eq (Sub.cons (t := 8) Look.eq (Sub.nil _))))))))) ?_
  refine KA.seq ?_
  refine KA.region rfl ?_
  refine KOps.call rfl (sizePF_c) ?_
  rintro _ _ ⟨rfl, rfl⟩
  refine KOps.move ?_
  refine KOps.extract ?_
  refine KOps.extract ?_
  refine KOps.assign ?_
  refine KOps.assign ?_
  refine KOps.done ?_
  refine sqQ.normal ?_
  refine KA.sub (Sub.cons (t := 1) Look.eq (Sub.cons (t := 2) Look.eq (Sub.cons (t := 3) Look.eq (Sub.cons (t := 4) Look.eq (Sub.cons (t := 5) Look.eq (Sub.cons (t := 6) Look.eq (Sub.cons (t := 7) Look.eq (Sub.cons (t := 8) Look.eq (Sub.cons (t := 9) Look.eq (Sub.cons (t := 10) Look.eq (Sub.nil _))))))))))) ?_
  refine KA.seq ?_
  refine KA.region rfl ?_
  refine KOps.call rfl (sizePF_c) ?_
  rintro _ _ ⟨rfl, rfl⟩
  refine KOps.move ?_
  refine KOps.extract ?_
  refine KOps.extract ?_
  refine KOps.assign ?_
  refine KOps.assign ?_
  refine KOps.done ?_
  refine sqQ.normal ?_
  refine KA.sub (Sub.cons (t := 1) Look.eq (Sub.cons (t := 2) Look.eq (Sub.cons (t := 3) Look.eq (Sub.cons (t := 4) Look.eq (Sub.cons (t := 5) Look.eq (Sub.cons (t := 6) Look.eq (Sub.cons (t := 7) Look.eq (Sub.cons (t := 8) Look.eq (Sub.cons (t := 9) Look.eq (Sub.cons (t := 10) Look.eq (Sub.cons (t := 11) Look.eq (Sub.cons (t := 12) Look.eq (Sub.nil _))))))))))))) ?_
  refine KA.seq ?_
  refine KA.region rfl ?_
  refine KOps.call rfl (cutP_c) ?_
  rintro _ h49 ⟨v49, rfl, hS49⟩
  have hS0 : St _ _ (_ :: _) := St.trans hS hS49
  clear hS
  have hS := hS0
  clear hS0
  refine KOps.move ?_
  refine KOps.extract ?_
  refine KOps.extract ?_
  refine KOps.assign ?_
  refine KOps.assign ?_
  refine KOps.done ?_
  refine sqQ.normal ?_
  refine KA.sub (Sub.cons (t := 1) Look.eq (Sub.cons (t := 2) Look.eq (Sub.cons (t := 3) Look.eq (Sub.cons (t := 4) Look.eq (Sub.cons (t := 5) Look.eq (Sub.cons (t := 6) Look.eq (Sub.cons (t := 7) Look.eq (Sub.cons (t := 8) Look.eq (Sub.cons (t := 9) Look.eq (Sub.cons (t := 10) Look.eq (Sub.cons (t := 11) Look.eq (Sub.cons (t := 12) Look.eq (Sub.cons (t := 13) Look.eq (Sub.cons (t := 14) Look.eq (Sub.nil _))))))))))))))) ?_
  refine KA.seq ?_
  refine KA.region rfl ?_
  refine KOps.call rfl (cutP_c) ?_
  rintro _ h53 ⟨v53, rfl, hS53⟩
  have hS0 : St _ _ (_ :: _) := St.trans hS hS53
  clear hS
  have hS := hS0
  clear hS0
  refine KOps.move ?_
  refine KOps.extract ?_
  refine KOps.extract ?_
  refine KOps.assign ?_
  refine KOps.assign ?_
  refine KOps.done ?_
  refine sqQ.normal ?_
  refine KA.sub (Sub.cons (t := 1) Look.eq (Sub.cons (t := 2) Look.eq (Sub.cons (t := 3) Look.eq (Sub.cons (t := 4) Look.eq (Sub.cons (t := 5) Look.eq (Sub.cons (t := 6) Look.eq (Sub.cons (t := 7) Look.eq (Sub.cons (t := 8) Look.eq (Sub.cons (t := 9) Look.eq (Sub.cons (t := 10) Look.eq (Sub.cons (t := 11) Look.eq (Sub.cons (t := 12) Look.eq (Sub.cons (t := 13) Look.eq (Sub.cons (t := 14) Look.eq (Sub.cons (t := 15) Look.eq (Sub.cons (t := 16) Look.eq (Sub.nil _))))))))))))))))) ?_
  refine KA.seq ?_
  refine KA.region rfl ?_
  refine KOps.call rfl (restPF_c) ?_
  rintro _ _ ⟨rfl, rfl⟩
  refine KOps.move ?_
  refine KOps.extract ?_
  refine KOps.extract ?_
  refine KOps.assign ?_
  refine KOps.assign ?_
  refine KOps.done ?_
  refine sqQ.normal ?_
  refine KA.sub (Sub.cons (t := 1) Look.eq (Sub.cons (t := 2) Look.eq (Sub.cons (t := 3) Look.eq (Sub.cons (t := 4) Look.eq (Sub.cons (t := 5) Look.eq (Sub.cons (t := 6) Look.eq (Sub.cons (t := 7) Look.eq (Sub.cons (t := 8) Look.eq (Sub.cons (t := 9) Look.eq (Sub.cons (t := 10) Look.eq (Sub.cons (t := 11) Look.eq (Sub.cons (t := 12) Look.eq (Sub.cons (t := 13) Look.eq (Sub.cons (t := 14) Look.eq (Sub.cons (t := 15) Look.eq (Sub.cons (t := 16) Look.eq (Sub.cons (t := 17) Look.eq (Sub.cons (t := 18) Look.eq (Sub.nil _))))))))))))))))))) ?_
  refine KA.seq ?_
  refine KA.region rfl ?_
  refine KOps.call rfl (restPF_c) ?_
  rintro _ _ ⟨rfl, rfl⟩
  refine KOps.move ?_
  refine KOps.extract ?_
  refine KOps.extract ?_
  refine KOps.assign ?_
  refine KOps.assign ?_
  refine KOps.done ?_
  refine sqQ.normal ?_
  refine KA.sub (Sub.cons (t := 1) Look.eq (Sub.cons (t := 2) Look.eq (Sub.cons (t := 3) Look.eq (Sub.cons (t := 4) Look.eq (Sub.cons (t := 5) Look.eq (Sub.cons (t := 6) Look.eq (Sub.cons (t := 7) Look.eq (Sub.cons (t := 8) Look.eq (Sub.cons (t := 9) Look.eq (Sub.cons (t := 10) Look.eq (Sub.cons (t := 11) Look.eq (Sub.cons (t := 12) Look.eq (Sub.cons (t := 13) Look.eq (Sub.cons (t := 14) Look.eq (Sub.cons (t := 15) Look.eq (Sub.cons (t := 16) Look.eq (Sub.cons (t := 17) Look.eq (Sub.cons (t := 18) Look.eq (Sub.cons (t := 19) Look.eq (Sub.cons (t := 20) Look.eq (Sub.nil _))))))))))))))))))))) ?_
  refine KA.seq ?_
  refine KA.region rfl ?_
  refine KOps.buildSlice hS rfl (by decide) rfl ?_
  intro v65 h' hS
  refine KOps.call rfl (list_c) ?_
  rintro _ _ ⟨rfl, rfl⟩
  refine KOps.call rfl (safeP_c (ss := [wd [false, false, false, false], wd [false, true, true, false], wd [true, false, false, true], wd [true, true, true, true]]) (hS.rd 0 rfl) (by decide)) ?_
  rintro _ hx ⟨rfl, hK⟩
  have hS0 : St _ _ _ := St.trans hS (St.ofK hK)
  clear hS
  have hS := hS0
  clear hS0
  simp only [List.nil_append] at hS
  rw [q_safe]
  refine KOps.move ?_
  refine KOps.extract ?_
  refine KOps.extract ?_
  refine KOps.extract ?_
  refine KOps.assign ?_
  refine KOps.assign ?_
  refine KOps.assign ?_
  refine KOps.done ?_
  refine sqQ.normal ?_
  refine KA.sub (Sub.cons (t := 1) Look.eq (Sub.cons (t := 2) Look.eq (Sub.cons (t := 3) Look.eq (Sub.cons (t := 4) Look.eq (Sub.cons (t := 5) Look.eq (Sub.cons (t := 6) Look.eq (Sub.cons (t := 7) Look.eq (Sub.cons (t := 8) Look.eq (Sub.cons (t := 9) Look.eq (Sub.cons (t := 10) Look.eq (Sub.cons (t := 11) Look.eq (Sub.cons (t := 12) Look.eq (Sub.cons (t := 13) Look.eq (Sub.cons (t := 14) Look.eq (Sub.cons (t := 15) Look.eq (Sub.cons (t := 16) Look.eq (Sub.cons (t := 17) Look.eq (Sub.cons (t := 18) Look.eq (Sub.cons (t := 19) Look.eq (Sub.cons (t := 20) Look.eq (Sub.cons (t := 23) Look.eq (Sub.nil _)))))))))))))))))))))) ?_
  refine KA.seq ?_
  refine KA.region rfl ?_
  refine KOps.call rfl (mostP_c (hTab.ext hS.keeps)) ?_
  rintro _ hx ⟨rfl, hK⟩
  have hS0 : St _ _ _ := St.trans hS (St.ofK hK)
  clear hS
  have hS := hS0
  clear hS0
  simp only [List.nil_append] at hS
  refine KOps.move ?_
  refine KOps.extract ?_
  refine KOps.extract ?_
  refine KOps.assign ?_
  refine KOps.assign ?_
  refine KOps.done ?_
  refine sqQ.normal ?_
  refine KA.sub (Sub.cons (t := 1) Look.eq (Sub.cons (t := 2) Look.eq (Sub.cons (t := 3) Look.eq (Sub.cons (t := 4) Look.eq (Sub.cons (t := 5) Look.eq (Sub.cons (t := 6) Look.eq (Sub.cons (t := 7) Look.eq (Sub.cons (t := 8) Look.eq (Sub.cons (t := 9) Look.eq (Sub.cons (t := 10) Look.eq (Sub.cons (t := 11) Look.eq (Sub.cons (t := 12) Look.eq (Sub.cons (t := 13) Look.eq (Sub.cons (t := 14) Look.eq (Sub.cons (t := 15) Look.eq (Sub.cons (t := 16) Look.eq (Sub.cons (t := 17) Look.eq (Sub.cons (t := 18) Look.eq (Sub.cons (t := 19) Look.eq (Sub.cons (t := 20) Look.eq (Sub.cons (t := 23) Look.eq (Sub.cons (t := 24) Look.eq (Sub.cons (t := 25) Look.eq (Sub.nil _)))))))))))))))))))))))) ?_
  refine KA.seq ?_
  refine KA.region rfl ?_
  refine KOps.move ?_
  refine KOps.eqlY (chk_wd (by decide)) ?_
  refine KOps.move ?_
  refine KOps.guardYes (dj := 77) rfl rfl ?_
  refine KOps.move ?_
  refine KOps.guardYes (dj := 77) rfl rfl ?_
  refine KOps.eqlY (chk_wd (by decide)) ?_
  refine KOps.pickT ?_
  refine KOps.move ?_
  refine KOps.guardYes (dj := 81) rfl rfl ?_
  refine KOps.move ?_
  refine KOps.guardYes (dj := 81) rfl rfl ?_
  refine KOps.eqlY (q_se) ?_
  refine KOps.pickT ?_
  refine KOps.move ?_
  refine KOps.guardYes (dj := 85) rfl rfl ?_
  refine KOps.move ?_
  refine KOps.guardYes (dj := 85) rfl rfl ?_
  refine KOps.eqlY (codeE_nat (a := 4) (b := 1) (by decide) (by decide)) ?_
  refine KOps.pickT ?_
  refine KOps.move ?_
  refine KOps.guardYes (dj := 89) rfl rfl ?_
  refine KOps.move ?_
  refine KOps.guardYes (dj := 89) rfl rfl ?_
  refine KOps.eqlY (codeE_nat (a := 5) (b := 0) (by decide) (by decide)) ?_
  refine KOps.pickT ?_
  refine KOps.move ?_
  refine KOps.guardYes (dj := 93) rfl rfl ?_
  refine KOps.move ?_
  refine KOps.guardYes (dj := 93) rfl rfl ?_
  refine KOps.eqlY (q_ask1) ?_
  refine KOps.pickT ?_
  refine KOps.move ?_
  refine KOps.guardYes (dj := 97) rfl rfl ?_
  refine KOps.move ?_
  refine KOps.guardYes (dj := 97) rfl rfl ?_
  refine KOps.eqlY (q_ask2) ?_
  refine KOps.pickT ?_
  refine KOps.move ?_
  refine KOps.guardYes (dj := 101) rfl rfl ?_
  refine KOps.move ?_
  refine KOps.guardYes (dj := 101) rfl rfl ?_
  refine KOps.eqlY (q_rest1.1) ?_
  refine KOps.pickT ?_
  refine KOps.move ?_
  refine KOps.guardYes (dj := 105) rfl rfl ?_
  refine KOps.move ?_
  refine KOps.guardYes (dj := 105) rfl rfl ?_
  refine KOps.eqlY (q_rest2.1) ?_
  refine KOps.pickT ?_
  refine KOps.move ?_
  refine KOps.guardYes (dj := 109) rfl rfl ?_
  refine KOps.move ?_
  refine KOps.guardYes (dj := 109) rfl rfl ?_
  refine KOps.eqlY (rfl) ?_
  refine KOps.pickT ?_
  refine KOps.move ?_
  refine KOps.guardYes (dj := 113) rfl rfl ?_
  refine KOps.move ?_
  refine KOps.guardYes (dj := 113) rfl rfl ?_
  refine KOps.eqlY (q_most.1) ?_
  refine KOps.pickT ?_
  refine KOps.move ?_
  refine KOps.guardYes (dj := 117) rfl rfl ?_
  refine KOps.move ?_
  refine KOps.guardYes (dj := 117) rfl rfl ?_
  refine KOps.eqlY (by rw [q_wt]; rfl) ?_
  refine KOps.pickT ?_
  refine KOps.move ?_
  refine KOps.guardYes (dj := 121) rfl rfl ?_
  refine KOps.move ?_
  refine KOps.guardYes (dj := 121) rfl rfl ?_
  refine KOps.eqlY (by rw [q_cls]; rfl) ?_
  refine KOps.pickT ?_
  refine KOps.move ?_
  refine KOps.guardYes (dj := 125) rfl rfl ?_
  refine KOps.move ?_
  refine KOps.guardYes (dj := 125) rfl rfl ?_
  refine KOps.move ?_
  refine KOps.guardYes (dj := 125) rfl rfl ?_
  refine KOps.add (by rw [q_wt0, q_cls0]; decide) (by rw [q_wt0, q_cls0]; decide) ?_
  refine KOps.guardYes (dj := 125) rfl rfl ?_
  refine KOps.eqlY (by rw [q_wt0, q_cls0]; rfl) ?_
  refine KOps.pickT ?_
  refine KOps.move ?_
  refine KOps.guardYes (dj := 131) rfl rfl ?_
  refine KOps.move ?_
  refine KOps.guardYes (dj := 131) rfl rfl ?_
  refine KOps.buildSlice hS rfl (by decide) rfl ?_
  intro v133 h' hS
  refine KOps.guardYes (dj := 131) rfl rfl ?_
  refine KOps.call rfl (list_c) ?_
  rintro _ _ ⟨rfl, rfl⟩
  refine KOps.guardYes (dj := 131) rfl rfl ?_
  refine KOps.call rfl (same_t (l := (shortS (wd [true, true, true]))) (m := [[true, true]]) (hS.rd 4 rfl) (hS.rd 0 rfl) (by rw [q_s]; decide) q_s) ?_
  rintro _ _ ⟨rfl, rfl⟩
  refine KOps.pickT ?_
  refine KOps.move ?_
  refine KOps.guardYes (dj := 137) rfl rfl ?_
  refine KOps.move ?_
  refine KOps.guardYes (dj := 137) rfl rfl ?_
  refine KOps.eqlY (q_n) ?_
  refine KOps.pickT ?_
  refine KOps.move ?_
  refine KOps.guardYes (dj := 141) rfl rfl ?_
  refine KOps.move ?_
  refine KOps.guardYes (dj := 141) rfl rfl ?_
  refine KOps.eqlY (q_m) ?_
  refine KOps.pickT ?_
  refine KOps.move ?_
  refine KOps.guardYes (dj := 145) rfl rfl ?_
  refine KOps.move ?_
  refine KOps.guardYes (dj := 145) rfl rfl ?_
  refine KOps.buildSlice hS rfl (by decide) rfl ?_
  intro v147 h' hS
  refine KOps.guardYes (dj := 145) rfl rfl ?_
  refine KOps.call rfl (list_c) ?_
  rintro _ _ ⟨rfl, rfl⟩
  refine KOps.guardYes (dj := 145) rfl rfl ?_
  refine KOps.call rfl (same_t (l := (cutS 3 (wd [false, true]))) (m := [[false, false, true], [false, true, false], [false, true, true], [true, false, true]]) (hS.rd 4 rfl) (hS.rd 0 rfl) (by rw [q_cut1]; decide) q_cut1) ?_
  rintro _ _ ⟨rfl, rfl⟩
  refine KOps.pickT ?_
  refine KOps.move ?_
  refine KOps.guardYes (dj := 151) rfl rfl ?_
  refine KOps.move ?_
  refine KOps.guardYes (dj := 151) rfl rfl ?_
  refine KOps.buildSlice hS rfl (by decide) rfl ?_
  intro v153 h' hS
  refine KOps.guardYes (dj := 151) rfl rfl ?_
  refine KOps.call rfl (list_c) ?_
  rintro _ _ ⟨rfl, rfl⟩
  refine KOps.guardYes (dj := 151) rfl rfl ?_
  refine KOps.call rfl (same_t (l := (cutS 3 (wd [false, true, true]))) (m := [[false, true, true]]) (hS.rd 4 rfl) (hS.rd 0 rfl) (by rw [q_cut2]; decide) q_cut2) ?_
  rintro _ _ ⟨rfl, rfl⟩
  refine KOps.pickT ?_
  refine KOps.move ?_
  refine KOps.guardYes (dj := 157) rfl rfl ?_
  refine KOps.move ?_
  refine KOps.guardYes (dj := 157) rfl rfl ?_
  refine KOps.wEqlY q_rest1.2 ?_
  refine KOps.pickT ?_
  refine KOps.move ?_
  refine KOps.guardYes (dj := 161) rfl rfl ?_
  refine KOps.move ?_
  refine KOps.guardYes (dj := 161) rfl rfl ?_
  refine KOps.wEqlY q_rest2.2 ?_
  refine KOps.pickT ?_
  refine KOps.move ?_
  refine KOps.guardYes (dj := 165) rfl rfl ?_
  refine KOps.move ?_
  refine KOps.guardYes (dj := 165) rfl rfl ?_
  refine KOps.eqlY (by rw [q_most.2]; rfl) ?_
  refine KOps.pickT ?_
  refine KOps.move ?_
  refine KOps.guardYes (dj := 169) rfl rfl ?_
  refine KOps.call rfl (checkF_c) ?_
  rintro _ _ ⟨rfl, rfl⟩
  refine KOps.guardYes (dj := 169) rfl rfl ?_
  refine KOps.eqlY (q_bad) ?_
  refine KOps.pickT ?_
  refine KOps.move ?_
  refine KOps.guardYes (dj := 173) rfl rfl ?_
  refine KOps.call rfl (checkF_c) ?_
  rintro _ _ ⟨rfl, rfl⟩
  refine KOps.guardYes (dj := 173) rfl rfl ?_
  refine KOps.eqlY (q_long) ?_
  refine KOps.pickT ?_
  refine KOps.move ?_
  refine KOps.guardYes (dj := 177) rfl rfl ?_
  refine KOps.call rfl (works_c (hTab.ext hS.keeps)) ?_
  rintro _ hx ⟨rfl, hK⟩
  have hS0 : St _ _ _ := St.trans hS (St.ofK hK)
  clear hS
  have hS := hS0
  clear hS0
  simp only [List.nil_append] at hS
  refine KOps.pickT ?_
  refine KOps.assign ?_
  refine KOps.done ?_
  refine sqQ.normal ?_
  refine KA.sub (Sub.cons (t := 0) Look.eq (Sub.nil _)) ?_
  refine KA.ret ?_
  refine fnQ.ret1 ?_
  exact rfl

end Go.Am
