/-
  Layer 13: the law that tables lead back to packs.
  Conditions: none.
-/
import Derived.Test.YtenkokebdgekbaaCx
import Derived.Test.YtenkokebdgekbaaCu
import Derived.Test.YtenkokebdgekbaaCo
import Derived.Test.YtenkokebdgekbaaCi
namespace Go.Am
open Go.Gr
theorem ordered_n {h : AHeap} {v : AV} {T : List (List Int)} {n : Nat} (hv : Mat h v T) (ht : Tab T) (hp : IsPack T.flatten) (hn : T.flatten.length = n) (h9 : n ≤ 9) : ACalls Go.Proofs.Try.prog 45 [v, .int .i64 (n : Int)] h (fun r h' => r = .bool true ∧ St h h' []) := by
  subst hn
  exact ordered_c hv ht hp h9
theorem rowLens_shape (T S : List (List Int)) : rowLens T = rowLens S ↔ shapeL T = shapeL S := by
  have h : ∀ T : List (List Int), rowLens T = (shapeL T).map fun n : Nat => (n : Int) := fun T => by simp [rowLens, shapeL]
  rw [h, h]
  refine ⟨fun h => (List.map_inj_right (fun a b hab => by omega)).1 h, fun h => by rw [h]⟩
theorem rowLens_get {T : List (List Int)} {m : Nat} (h : ∀ j, (T.getD j []).length ≤ m) : ∀ x ∈ rowLens T, 0 ≤ x ∧ x ≤ (m : Int) := by
  intro x hx
  simp only [rowLens, List.mem_map] at hx
  obtain ⟨R, hR, rfl⟩ := hx
  obtain ⟨j, hj, he⟩ := List.mem_iff_getElem.1 hR
  have := h j
  rw [List.getD_eq_getElem?_getD, List.getElem?_eq_getElem hj, Option.getD_some, he] at this
  omega
theorem small_of {T : List (List Int)} (h1 : T.length ≤ 9) (h2 : ∀ j, (T.getD j []).length ≤ 9) : Small T := ⟨by omega, fun i => by have := h2 i; omega⟩
theorem rec_facts {l : List Int} (hc : checkE l = 0) : (Tab (insAll l) ∧ IsPack (insAll l).flatten ∧ (insAll l).flatten.length = l.length) ∧ (Tab (recOf l) ∧ IsPack (recOf l).flatten ∧ (recOf l).flatten.length = l.length) ∧ shapeL (insAll l) = shapeL (recOf l) ∧
    (insAll l).length ≤ 9 ∧ (∀ j, ((insAll l).getD j []).length ≤ 9) ∧ (recOf l).length ≤ 9 ∧ (∀ j, ((recOf l).getD j []).length ≤ 9) ∧ packE (insAll l) (recOf l) = 0 ∧ packOf (insAll l) (recOf l) = l := by
  obtain ⟨h0, h9, hp⟩ := checkE_ok hc
  have ha := insAll_pack hp
  have hb1 := recOf_tab hp.1
  have hb2 := recOf_pack l
  have hs : shapeL (insAll l) = shapeL (recOf l) := by
    have := shapes l l.length (Nat.le_refl _)
    rw [List.take_length] at this
    exact this.symm
  have key : ∀ T : List (List Int), Tab T → T.flatten.length = l.length → T.length ≤ 9 ∧ ∀ j, (T.getD j []).length ≤ 9 := by
    intro T ht hl
    have h1 := rows_flat (tab_ne ht)
    refine ⟨by omega, fun j => ?_⟩
    by_cases hj : j < T.length
    · have := (ord_row ht hj).2.2; omega
    · rw [getDL_out (by omega)]; exact Nat.zero_le _
  have hne : ∀ T : List (List Int), T.flatten.length = l.length → T ≠ [] := by
    rintro T hl rfl
    simp at hl; omega
  obtain ⟨k1, k2⟩ := key _ ha.1 ha.2.2
  obtain ⟨k3, k4⟩ := key _ hb1 hb2.2
  have e1 := stdE_of ha.1 ha.2.1 (hne _ ha.2.2) (by omega)
  have e2 := stdE_of hb1 hb2.1 (hne _ hb2.2) (by omega)
  have hpe : packE (insAll l) (recOf l) = 0 := by unfold packE; rw [if_pos e1, if_pos e2, if_pos hs]
  refine ⟨ha, ⟨hb1, hb2⟩, hs, k1, k2, k3, k4, hpe, ?_⟩
  unfold packOf
  rw [if_pos hpe, hb2.2]
  exact unpack_back hp.1

theorem law_robinson {h : AHeap} {a b : Int} {c : List Int} (ha : (Lit.int .u8 a).wf = true) (hc : c.length = 9) (hw : ∀ x ∈ c, (Lit.int .u8 x).wf = true) (hb0 : (Lit.int .u8 b).wf = true) : ACalls Go.Proofs.Try.prog 8 [.int .u8 a, .agg (bytes c), .int .u8 b] h (fun r _ => r = .bool true) := by
  refine KA.fn 207 [.tmp 6] Go.Proofs.Try.func8 rfl (by decide) rfl rfl (Nat.le_of_ble_eq_true rfl) ?_
  have hS := St.refl h
  have haba := wf_u8 ha
  have habb := wf_u8 hb0
  have hta := Int.tmod_nonneg 9 haba.1
  have hua := Int.tmod_lt_of_pos a (show (0 : Int) < 9 by decide)
  have htb := Int.tmod_nonneg 5 habb.1
  have hub := Int.tmod_lt_of_pos b (show (0 : Int) < 5 by decide)
  show KA _ 207 _ _ [(0, .int .u8 a), (1, .agg (bytes c)), (2, .int .u8 b)] _
  refine KA.seq ?_
  refine KA.region rfl ?_
  refine KOps.boxU hS ?_
  intro p4 h1 hp4 hS
  have hb : Rd h1 p4 0 (bytes c) := hS.rd 0 rfl
  refine KOps.assign ?_
  refine KOps.done ?_
  refine sqQ.normal ?_
  refine KA.sub (Sub.cons (t := 0) Look.eq (Sub.cons (t := 2) Look.eq (Sub.cons (t := 4) Look.eq (Sub.nil _)))) ?_
  refine KA.seq ?_
  refine KA.region rfl ?_
  refine KOps.move ?_
  refine KOps.convU haba.1 haba.2 ?_
  refine KOps.rem (by decide) (by omega) (by omega) ?_
  refine KOps.add (by omega) (by omega) ?_
  obtain ⟨n, hn⟩ : ∃ n : Nat, 1 + a.tmod 9 = (n : Int) := ⟨(1 + a.tmod 9).toNat, by omega⟩
  rw [hn]
  refine KOps.loadAgg (z := 9) hp4 hb (by decide) (by rw [bytes_len]; omega) ?_
  rw [List.drop_zero, List.take_of_length_le (by rw [bytes_len]; omega)]
  refine KOps.call rfl (mixed_c (n := n) (by omega) (by omega) hc hw) ?_
  rintro v7 h2 ⟨l, hS2, hln, hch⟩
  have hv7 : Row h2 v7 l := hS2.rd 0 rfl
  have hS := St.refl h2
  have hl9 : l.length ≤ 9 := by omega
  obtain ⟨hfa, hfr, hsh, hk1, hk2, hk3, hk4, hpe, hpo⟩ := rec_facts hch
  refine KOps.assign ?_
  refine KOps.done ?_
  refine sqQ.normal ?_
  refine KA.sub (Sub.cons (t := 2) Look.eq (Sub.cons (t := 7) Look.eq (Sub.nil _))) ?_
  refine KA.seq ?_
  refine KA.region rfl ?_
  refine KOps.move ?_
  refine KOps.call rfl (tables_c hv7) ?_
  rintro _ h3 ⟨vo1, vs1, vo2, vs2, rfl, hl1, hl2, hS3⟩
  rw [okE_yes hch] at hl1 hl2 hS3
  rw [okE_yes hch] at hS3
  rw [hch]
  have hA : Mat h3 vo1 (insAll l) := St.mat (pre := []) hl1 hS3
  have hB : Mat h3 vo2 (recOf l) := St.mat (pre := matObjs true vo1 vs1 (insAll l)) hl2 hS3
  have hv7 := Row.ext hS3.keeps hv7
  have hS := St.refl h3
  refine KOps.move ?_
  refine KOps.extract ?_
  refine KOps.extract ?_
  refine KOps.extract ?_
  refine KOps.assign ?_
  refine KOps.assign ?_
  refine KOps.assign ?_
  refine KOps.done ?_
  refine sqQ.normal ?_
  refine KA.sub (Sub.cons (t := 2) Look.eq (Sub.cons (t := 7) Look.eq (Sub.cons (t := 8) Look.eq (Sub.cons (t := 9) Look.eq (Sub.cons (t := 10) Look.eq (Sub.nil _)))))) ?_
  refine KA.seq ?_
  refine KA.seq ?_
  refine KA.region rfl ?_
  refine KOps.move ?_
  refine KOps.neqF rfl ?_
  refine KOps.move ?_
  refine KOps.guardYes (dj := 45) rfl rfl ?_
  refine KOps.move ?_
  refine KOps.guardYes (dj := 45) rfl rfl ?_
  refine KOps.move ?_
  refine KOps.guardYes (dj := 45) rfl rfl ?_
  refine KOps.lenI hv7 ?_
  refine KOps.guardYes (dj := 45) rfl rfl ?_
  refine KOps.call rfl (ordered_n hA hfa.1 hfa.2.1 hfa.2.2 (by first | omega | (simp; omega))) ?_
  rintro _ h4 ⟨rfl, hS4⟩
  have hv7 := Row.ext hS4.keeps hv7
  have hA := Mat.ext hS4.keeps hA
  have hB := Mat.ext hS4.keeps hB
  refine KOps.guardYes (dj := 45) rfl rfl ?_
  refine KOps.not ?_
  refine KOps.pickF ?_
  refine KOps.move ?_
  refine KOps.guardYes (dj := 52) rfl rfl ?_
  refine KOps.move ?_
  refine KOps.guardYes (dj := 52) rfl rfl ?_
  refine KOps.move ?_
  refine KOps.guardYes (dj := 52) rfl rfl ?_
  refine KOps.lenI hv7 ?_
  refine KOps.guardYes (dj := 52) rfl rfl ?_
  refine KOps.call rfl (ordered_n hB hfr.1 hfr.2.1 hfr.2.2 (by first | omega | (simp; omega))) ?_
  rintro _ h5 ⟨rfl, hS5⟩
  have hv7 := Row.ext hS5.keeps hv7
  have hA := Mat.ext hS5.keeps hA
  have hB := Mat.ext hS5.keeps hB
  refine KOps.guardYes (dj := 52) rfl rfl ?_
  refine KOps.not ?_
  refine KOps.pickF ?_
  refine KOps.move ?_
  refine KOps.guardYes (dj := 59) rfl rfl ?_
  refine KOps.move ?_
  refine KOps.guardYes (dj := 59) rfl rfl ?_
  refine KOps.call rfl (shape_c hA (by first | omega | (simp; omega)) (fun i _ => by have := hk2 i; omega)) ?_
  rintro v61 h6 hS6
  have hr61 : Row h6 v61 (rowLens (insAll l)) := hS6.rd 0 rfl
  have hv7 := Row.ext hS6.keeps hv7
  have hA := Mat.ext hS6.keeps hA
  have hB := Mat.ext hS6.keeps hB
  refine KOps.guardYes (dj := 59) rfl rfl ?_
  refine KOps.move ?_
  refine KOps.guardYes (dj := 59) rfl rfl ?_
  refine KOps.call rfl (shape_c hB (by first | omega | (simp; omega)) (fun i _ => by have := hk4 i; omega)) ?_
  rintro v63 h7 hS7
  have hr63 : Row h7 v63 (rowLens (recOf l)) := hS7.rd 0 rfl
  have hv7 := Row.ext hS7.keeps hv7
  have hA := Mat.ext hS7.keeps hA
  have hB := Mat.ext hS7.keeps hB
  have hr61 := Row.ext hS7.keeps hr61
  refine KOps.guardYes (dj := 59) rfl rfl ?_
  refine KOps.call rfl (same_t ((rowLens_shape _ _).2 hsh) hr61 hr63 (by rw [rowLens_len]; omega)) ?_
  rintro _ _ ⟨rfl, rfl⟩
  refine KOps.guardYes (dj := 59) rfl rfl ?_
  refine KOps.not ?_
  refine KOps.pickF ?_
  refine KOps.done ?_
  refine sqQ.normal ?_
  refine KA.sub (Sub.cons (t := 2) Look.eq (Sub.cons (t := 7) Look.eq (Sub.cons (t := 8) Look.eq (Sub.cons (t := 9) Look.eq (Sub.cons (t := 66) Look.eq (Sub.nil _)))))) ?_
  refine KA.condF ?_
  refine KA.skip ?_
  refine sqQ.normal ?_
  refine KA.sub (Sub.cons (t := 2) Look.eq (Sub.cons (t := 7) Look.eq (Sub.cons (t := 8) Look.eq (Sub.cons (t := 9) Look.eq (Sub.nil _))))) ?_
  refine KA.seq ?_
  refine KA.region rfl ?_
  refine KOps.move ?_
  refine KOps.move ?_
  refine KOps.call rfl (pack_c hA hB (small_of hk1 hk2) (small_of hk3 hk4)) ?_
  rintro _ h8 ⟨vp, rfl, hK8, hvp⟩
  rw [hpo] at hvp
  rw [hpe]
  have hv7 := Row.ext hK8 hv7
  refine KOps.move ?_
  refine KOps.extract ?_
  refine KOps.extract ?_
  refine KOps.assign ?_
  refine KOps.assign ?_
  refine KOps.done ?_
  refine sqQ.normal ?_
  refine KA.sub (Sub.cons (t := 2) Look.eq (Sub.cons (t := 7) Look.eq (Sub.cons (t := 11) Look.eq (Sub.cons (t := 12) Look.eq (Sub.nil _))))) ?_
  refine KA.seq ?_
  refine KA.seq ?_
  refine KA.region rfl ?_
  refine KOps.move ?_
  refine KOps.neqF rfl ?_
  refine KOps.move ?_
  refine KOps.guardYes (dj := 75) rfl rfl ?_
  refine KOps.move ?_
  refine KOps.guardYes (dj := 75) rfl rfl ?_
  refine KOps.move ?_
  refine KOps.guardYes (dj := 75) rfl rfl ?_
  refine KOps.call rfl (same_t rfl hvp hv7 (by first | omega | (simp; omega))) ?_
  rintro _ _ ⟨rfl, rfl⟩
  refine KOps.guardYes (dj := 75) rfl rfl ?_
  refine KOps.not ?_
  refine KOps.pickF ?_
  refine KOps.done ?_
  refine sqQ.normal ?_
  refine KA.sub (Sub.cons (t := 2) Look.eq (Sub.cons (t := 80) Look.eq (Sub.nil _))) ?_
  refine KA.condF ?_
  refine KA.skip ?_
  refine sqQ.normal ?_
  refine KA.sub (Sub.cons (t := 2) Look.eq (Sub.nil _)) ?_
  refine KA.seq ?_
  refine KA.region rfl ?_
  refine KOps.move ?_
  refine KOps.convU habb.1 habb.2 ?_
  refine KOps.rem (by decide) (by omega) (by omega) ?_
  refine KOps.add (by omega) (by omega) ?_
  obtain ⟨m, hm⟩ : ∃ m : Nat, 1 + b.tmod 5 = (m : Int) := ⟨(1 + b.tmod 5).toNat, by omega⟩
  rw [hm]
  have hm1 : 1 ≤ m := by omega
  have hm5 : m ≤ 5 := by omega
  obtain ⟨hq1, hq2, hq3, hq4, hq5⟩ := rob_end hm1 hm5
  refine KOps.assign ?_
  refine KOps.done ?_
  refine sqQ.normal ?_
  refine KA.sub (Sub.cons (t := 13) Look.eq (Sub.nil _)) ?_
  refine KA.seq ?_
  refine KA.region rfl ?_
  refine KOps.move ?_
  refine KOps.call rfl (standardL_c (n := (m : Int)) (by first | omega | (simp; omega)) (by first | omega | (simp; omega)) (by rw [Int.toNat_natCast]; omega)) ?_
  rintro vL h9 ⟨hK9, hL⟩
  rw [Int.toNat_natCast] at hL
  obtain ⟨us, hL0, hul, hL2⟩ := id hL
  have hS := St.refl h9
  refine KOps.assign ?_
  refine KOps.done ?_
  refine sqQ.normal ?_
  refine KA.sub (Sub.cons (t := 13) Look.eq (Sub.cons (t := 14) Look.eq (Sub.nil _))) ?_
  refine KA.seq ?_
  refine KA.region rfl ?_
  refine KOps.makeMap hS rfl ?_
  intro v87 h' hv87 hS
  refine KOps.makeMap hS rfl ?_
  intro v88 h' hv88 hS
  refine KOps.assign ?_
  refine KOps.assign ?_
  refine KOps.done ?_
  refine sqQ.normal ?_
  refine KA.sub (Sub.cons (t := 13) Look.eq (Sub.cons (t := 14) Look.eq (Sub.cons (t := 15) Look.eq (Sub.cons (t := 16) Look.eq (Sub.nil _))))) ?_
  refine KA.seq ?_
  refine KA.region rfl ?_
  refine KOps.assign ?_
  refine KOps.done ?_
  refine sqQ.normal ?_
  refine KA.seq ?_
  refine KA.seq ?_
  refine KA.region rfl ?_
  refine KOps.move ?_
  refine KOps.lenV (Rd.ext hS.keeps hL0) ?_
  refine KOps.move ?_
  refine KOps.done ?_
  refine sqQ.normal ?_
  refine KA.block ?_
  refine KA.loop (X := Nat) (fun i => [(13, .int .i64 (m : Int)), (14, vL), (15, v87), (16, v88), (17, .int .i64 ((metTo m i).length : Int)), (89, vL), (90, .int .i64 ((stdAll m).length : Int)), (91, .int .i64 (i : Int))]) (fun i h' => i ≤ (stdAll m).length ∧ St h9 h' [mapO v88 (entL (AV.int .i64) AV.bool ((metTo m i).map fun x : Int => (x, true))), mapO v87 (entL (AV.int .i64) (AV.int .i64) (cntTo m i))]) (fun i => (stdAll m).length - i) 0 (by repeat (first | exact Sub.nil _ | refine Sub.cons Look.eq ?_ | refine Sub.cons (Eq.trans Look.eq (congrArg (AV.int _) (by first | omega | (dsimp only; omega)))) ?_)) ?_ ?_
  · exact ⟨Nat.zero_le _, hS⟩
  rintro i h10 ⟨hi, hS⟩
  refine KA.seq ?_
  refine KA.region rfl ?_
  refine KOps.lss ?_
  refine KOps.done ?_
  refine sqQ.normal ?_
  refine KA.seq ?_
  refine KA.condD ?_ ?_
  · intro c92
    have hx : Mat _ (us.getD i .bot) ((stdAll m).getD i []) := Mat.ext hS.keeps (hL2 i (by omega))
    obtain ⟨hx1, hx2, hx3, hx4⟩ := rob_tab hm1 hm5 (i := i) (by omega)
    refine KA.skip ?_
    refine sqQ.normal ?_
    refine KA.sub (Sub.cons (t := 13) Look.eq (Sub.cons (t := 14) Look.eq (Sub.cons (t := 15) Look.eq (Sub.cons (t := 16) Look.eq (Sub.cons (t := 17) Look.eq (Sub.cons (t := 89) Look.eq (Sub.cons (t := 90) Look.eq (Sub.cons (t := 91) Look.eq (Sub.nil _))))))))) ?_
    refine KA.seq ?_
    refine KA.block ?_
    refine KA.seq ?_
    refine KA.region rfl ?_
    refine KOps.indexVJ (Rd.ext hS.keeps hL0) (j := i) rfl (by first | omega | (simp; omega)) ?_
    intro p93 hp93
    refine KOps.loadV hp93 (Rd.ext hS.keeps hL0) (by first | omega | (simp; omega)) ?_
    refine KOps.assign ?_
    refine KOps.done ?_
    refine sqQ.normal ?_
    refine KA.sub (Sub.cons (t := 13) Look.eq (Sub.cons (t := 14) Look.eq (Sub.cons (t := 15) Look.eq (Sub.cons (t := 16) Look.eq (Sub.cons (t := 17) Look.eq (Sub.cons (t := 19) Look.eq (Sub.cons (t := 89) Look.eq (Sub.cons (t := 90) Look.eq (Sub.cons (t := 91) Look.eq (Sub.nil _)))))))))) ?_
    refine KA.seq ?_
    refine KA.seq ?_
    refine KA.region rfl ?_
    refine KOps.move ?_
    refine KOps.call rfl (standard_c hx (small_of (by omega) (fun j => by have := hx3 j; omega))) ?_
    rintro _ h11 ⟨rfl, hS11⟩
    rw [hx1]
    have hS0 : St _ _ (_ :: _ :: _) := St.trans hS hS11
    clear hS
    have hS := hS0
    clear hS0
    have hx := Mat.ext hS11.keeps hx
    refine KOps.neqF rfl ?_
    refine KOps.done ?_
    refine sqQ.normal ?_
    refine KA.sub (Sub.cons (t := 13) Look.eq (Sub.cons (t := 14) Look.eq (Sub.cons (t := 15) Look.eq (Sub.cons (t := 16) Look.eq (Sub.cons (t := 17) Look.eq (Sub.cons (t := 19) Look.eq (Sub.cons (t := 89) Look.eq (Sub.cons (t := 90) Look.eq (Sub.cons (t := 91) Look.eq (Sub.cons (t := 97) Look.eq (Sub.nil _))))))))))) ?_
    refine KA.condF ?_
    refine KA.skip ?_
    refine sqQ.normal ?_
    refine KA.sub (Sub.cons (t := 13) Look.eq (Sub.cons (t := 14) Look.eq (Sub.cons (t := 15) Look.eq (Sub.cons (t := 16) Look.eq (Sub.cons (t := 17) Look.eq (Sub.cons (t := 19) Look.eq (Sub.cons (t := 89) Look.eq (Sub.cons (t := 90) Look.eq (Sub.cons (t := 91) Look.eq (Sub.nil _)))))))))) ?_
    refine KA.seq ?_
    refine KA.region rfl ?_
    refine KOps.move ?_
    refine KOps.move ?_
    refine KOps.call rfl (shape_c hx (by first | omega | (simp; omega)) (fun i _ => by have := hx3 i; omega)) ?_
    rintro v100 h12 hS12
    have hr100 : Row h12 v100 (rowLens ((stdAll m).getD i [])) := hS12.rd 0 rfl
    have hS0 : St _ _ (_ :: _ :: _ :: _) := St.trans hS hS12
    clear hS
    have hS := St.tail hS0
    clear hS0
    have hx := Mat.ext hS12.keeps hx
    refine KOps.call rfl (key_c hr100 (by rw [rowLens_len]; omega) (fun y hy => by have := rowLens_get hx3 y hy; omega)) ?_
    rintro _ _ ⟨rfl, rfl⟩
    refine KOps.lookupD (kf := AV.int .i64) (vf := AV.int .i64) (w := 0) EvK.eq (St.rdM hS 1 rfl hv87) rfl rfl ?_
    have hcv := cnt_val (n := m) i (by omega) (keyL (rowLens ((stdAll m).getD i [])))
    refine KOps.add (by first | omega | (simp only [List.length_append, List.length_singleton, List.length_set]; omega)) (by first | omega | (simp only [List.length_append, List.length_singleton, List.length_set]; omega)) ?_
    refine KOps.mapPutK (kf := AV.int .i64) (vf := AV.int .i64) (i := 1) (b := _) EvK.eq rfl hS hv87 rfl rfl ?_
    intro h' hS
    refine KOps.done ?_
    refine sqQ.normal ?_
    refine KA.sub (Sub.cons (t := 13) Look.eq (Sub.cons (t := 14) Look.eq (Sub.cons (t := 15) Look.eq (Sub.cons (t := 16) Look.eq (Sub.cons (t := 17) Look.eq (Sub.cons (t := 19) Look.eq (Sub.cons (t := 89) Look.eq (Sub.cons (t := 90) Look.eq (Sub.cons (t := 91) Look.eq (Sub.nil _)))))))))) ?_
    refine KA.seq ?_
    refine KA.region rfl ?_
    refine KOps.move ?_
    refine KOps.lenV (Rd.ext hS.keeps hL0) ?_
    refine KOps.move ?_
    refine KOps.done ?_
    refine sqQ.normal ?_
    refine KA.block ?_
    refine KA.loop (X := Nat) (fun j => [(13, .int .i64 (m : Int)), (14, vL), (15, v87), (16, v88), (17, .int .i64 ((metTo m i ++ metIn ((stdAll m).take j) ((stdAll m).getD i [])).length : Int)), (19, us.getD i .bot), (89, vL), (90, .int .i64 ((stdAll m).length : Int)), (91, .int .i64 (i : Int)), (104, vL), (105, .int .i64 ((stdAll m).length : Int)), (106, .int .i64 (j : Int))]) (fun j h' => j ≤ (stdAll m).length ∧ St h9 h' [mapO v88 (entL (AV.int .i64) AV.bool (((metTo m i ++ metIn ((stdAll m).take j) ((stdAll m).getD i []))).map fun x : Int => (x, true))), mapO v87 (entL (AV.int .i64) (AV.int .i64) (cntTo m (i + 1)))]) (fun j => (stdAll m).length - j) 0 (by repeat (first | exact Sub.nil _ | refine Sub.cons Look.eq ?_ | refine Sub.cons (Eq.trans Look.eq (congrArg (AV.int _) (by first | omega | (dsimp only; omega)))) ?_ | refine Sub.cons (Eq.trans Look.eq (by rw [List.take_zero]; simp [metIn])) ?_)) ?_ ?_
    · refine ⟨Nat.zero_le _, ?_⟩
      rw [cntTo_succ (by omega)]
      rw [show (metTo m i ++ metIn ((stdAll m).take 0) ((stdAll m).getD i [])) = metTo m i by simp [metIn]]
      exact hS
    rintro j h14 ⟨hj, hS⟩
    refine KA.seq ?_
    refine KA.region rfl ?_
    refine KOps.lss ?_
    refine KOps.done ?_
    refine sqQ.normal ?_
    refine KA.seq ?_
    refine KA.condD ?_ ?_
    · intro c107
      have hx : Mat _ (us.getD i .bot) ((stdAll m).getD i []) := Mat.ext hS.keeps (hL2 i (by omega))
      have hy : Mat _ (us.getD j .bot) ((stdAll m).getD j []) := Mat.ext hS.keeps (hL2 j (by omega))
      obtain ⟨hx1, hx2, hx3, hx4⟩ := rob_tab hm1 hm5 (i := i) (by omega)
      obtain ⟨hy1, hy2, hy3, hy4⟩ := rob_tab hm1 hm5 (i := j) (by omega)
      have hms := metIn_succ ((stdAll m).getD i []) (show j < (stdAll m).length by omega)
      have hbd := (met_sub (n := m) (i := i) (j := j) (by omega) (by omega)).length_le
      refine KA.skip ?_
      refine sqQ.normal ?_
      refine KA.sub (Sub.cons (t := 13) Look.eq (Sub.cons (t := 14) Look.eq (Sub.cons (t := 15) Look.eq (Sub.cons (t := 16) Look.eq (Sub.cons (t := 17) Look.eq (Sub.cons (t := 19) Look.eq (Sub.cons (t := 89) Look.eq (Sub.cons (t := 90) Look.eq (Sub.cons (t := 91) Look.eq (Sub.cons (t := 104) Look.eq (Sub.cons (t := 105) Look.eq (Sub.cons (t := 106) Look.eq (Sub.nil _))))))))))))) ?_
      refine KA.seq ?_
      refine KA.block ?_
      refine KA.seq ?_
      refine KA.region rfl ?_
      refine KOps.indexVJ (Rd.ext hS.keeps hL0) (j := j) rfl (by first | omega | (simp; omega)) ?_
      intro p108 hp108
      refine KOps.loadV hp108 (Rd.ext hS.keeps hL0) (by first | omega | (simp; omega)) ?_
      refine KOps.assign ?_
      refine KOps.done ?_
      refine sqQ.normal ?_
      refine KA.sub (Sub.cons (t := 13) Look.eq (Sub.cons (t := 14) Look.eq (Sub.cons (t := 15) Look.eq (Sub.cons (t := 16) Look.eq (Sub.cons (t := 17) Look.eq (Sub.cons (t := 19) Look.eq (Sub.cons (t := 21) Look.eq (Sub.cons (t := 89) Look.eq (Sub.cons (t := 90) Look.eq (Sub.cons (t := 91) Look.eq (Sub.cons (t := 104) Look.eq (Sub.cons (t := 105) Look.eq (Sub.cons (t := 106) Look.eq (Sub.nil _)))))))))))))) ?_
      refine KA.seq ?_
      refine KA.region rfl ?_
      refine KOps.move ?_
      refine KOps.move ?_
      refine KOps.call rfl (pack_c hx hy (small_of (by omega) (fun j => by have := hx3 j; omega)) (small_of (by omega) (fun j => by have := hy3 j; omega))) ?_
      rintro _ h15 ⟨vq, rfl, hK15, hvq⟩
      have hS0 : St _ _ (_ :: _ :: _) := St.trans hS (St.ofK hK15)
      clear hS
      have hS := hS0
      clear hS0
      have hx := Mat.ext hK15 hx
      have hy := Mat.ext hK15 hy
      refine KOps.move ?_
      refine KOps.extract ?_
      refine KOps.extract ?_
      refine KOps.assign ?_
      refine KOps.assign ?_
      refine KOps.done ?_
      refine sqQ.normal ?_
      refine KA.sub (Sub.cons (t := 13) Look.eq (Sub.cons (t := 14) Look.eq (Sub.cons (t := 15) Look.eq (Sub.cons (t := 16) Look.eq (Sub.cons (t := 17) Look.eq (Sub.cons (t := 19) Look.eq (Sub.cons (t := 21) Look.eq (Sub.cons (t := 22) Look.eq (Sub.cons (t := 23) Look.eq (Sub.cons (t := 89) Look.eq (Sub.cons (t := 90) Look.eq (Sub.cons (t := 91) Look.eq (Sub.cons (t := 104) Look.eq (Sub.cons (t := 105) Look.eq (Sub.cons (t := 106) Look.eq (Sub.nil _)))))))))))))))) ?_
      refine KA.seq ?_
      refine KA.seq ?_
      refine KA.region rfl ?_
      refine KOps.move ?_
      refine KOps.call rfl (shape_c hx (by first | omega | (simp; omega)) (fun i _ => by have := hx3 i; omega)) ?_
      rintro v117 h16 hS16
      have hr117 : Row h16 v117 (rowLens ((stdAll m).getD i [])) := hS16.rd 0 rfl
      have hS0 : St _ _ (_ :: _ :: _ :: _) := St.trans hS hS16
      clear hS
      have hS := St.tail hS0
      clear hS0
      have hx := Mat.ext hS16.keeps hx
      have hy := Mat.ext hS16.keeps hy
      have hvq := Row.ext hS16.keeps hvq
      refine KOps.move ?_
      refine KOps.call rfl (shape_c hy (by first | omega | (simp; omega)) (fun i _ => by have := hy3 i; omega)) ?_
      rintro v119 h17 hS17
      have hr119 : Row h17 v119 (rowLens ((stdAll m).getD j [])) := hS17.rd 0 rfl
      have hS0 : St _ _ (_ :: _ :: _ :: _) := St.trans hS hS17
      clear hS
      have hS := St.tail hS0
      clear hS0
      have hx := Mat.ext hS17.keeps hx
      have hy := Mat.ext hS17.keeps hy
      have hvq := Row.ext hS17.keeps hvq
      have hr117 := Row.ext hS17.keeps hr117
      refine KOps.call rfl (same_c hr117 hr119 (by rw [rowLens_len]; omega)) ?_
      rintro _ _ ⟨rfl, rfl⟩
      refine KOps.not ?_
      refine KOps.done ?_
      refine sqQ.normal ?_
      refine KA.sub (Sub.cons (t := 13) Look.eq (Sub.cons (t := 14) Look.eq (Sub.cons (t := 15) Look.eq (Sub.cons (t := 16) Look.eq (Sub.cons (t := 17) Look.eq (Sub.cons (t := 19) Look.eq (Sub.cons (t := 21) Look.eq (Sub.cons (t := 22) Look.eq (Sub.cons (t := 23) Look.eq (Sub.cons (t := 89) Look.eq (Sub.cons (t := 90) Look.eq (Sub.cons (t := 91) Look.eq (Sub.cons (t := 104) Look.eq (Sub.cons (t := 105) Look.eq (Sub.cons (t := 106) Look.eq (Sub.cons (t := 121) Look.eq (Sub.nil _))))))))))))))))) ?_
      refine KA.condN ?_ ?_
      · intro c121
        have hsn : ¬ shapeL ((stdAll m).getD i []) = shapeL ((stdAll m).getD j []) := fun hq => c121 ((rowLens_shape _ _).2 hq)
        have hpo2 := rob_other hm1 hm5 (i := i) (j := j) (by omega) (by omega) hsn
        rw [if_neg hsn, List.append_nil] at hms
        refine KA.seq ?_
        refine KA.seq ?_
        refine KA.region rfl ?_
        refine KOps.move ?_
        refine KOps.neqF hpo2.1 ?_
        refine KOps.move ?_
        refine KOps.guardYes (dj := 124) rfl rfl ?_
        refine KOps.move ?_
        refine KOps.guardYes (dj := 124) rfl rfl ?_
        refine KOps.lenI hvq ?_
        refine KOps.guardYes (dj := 124) rfl rfl ?_
        refine KOps.gtr ?_
        rw [decide_eq_false (by rw [hpo2.2]; simp)]
        refine KOps.pickF ?_
        refine KOps.done ?_
        refine sqQ.normal ?_
        refine KA.sub (Sub.cons (t := 13) Look.eq (Sub.cons (t := 14) Look.eq (Sub.cons (t := 15) Look.eq (Sub.cons (t := 16) Look.eq (Sub.cons (t := 17) Look.eq (Sub.cons (t := 19) Look.eq (Sub.cons (t := 89) Look.eq (Sub.cons (t := 90) Look.eq (Sub.cons (t := 91) Look.eq (Sub.cons (t := 104) Look.eq (Sub.cons (t := 105) Look.eq (Sub.cons (t := 106) Look.eq (Sub.cons (t := 125) Look.eq (Sub.cons (t := 126) Look.eq (Sub.cons (t := 127) Look.eq (Sub.cons (t := 128) Look.eq (Sub.nil _))))))))))))))))) ?_
        refine KA.condF ?_
        refine KA.skip ?_
        refine sqQ.normal ?_
        refine KA.sub (Sub.cons (t := 13) Look.eq (Sub.cons (t := 14) Look.eq (Sub.cons (t := 15) Look.eq (Sub.cons (t := 16) Look.eq (Sub.cons (t := 17) Look.eq (Sub.cons (t := 19) Look.eq (Sub.cons (t := 89) Look.eq (Sub.cons (t := 90) Look.eq (Sub.cons (t := 91) Look.eq (Sub.cons (t := 104) Look.eq (Sub.cons (t := 105) Look.eq (Sub.cons (t := 106) Look.eq (Sub.cons (t := 125) Look.eq (Sub.cons (t := 126) Look.eq (Sub.cons (t := 127) Look.eq (Sub.nil _)))))))))))))))) ?_
        refine KA.exit ?_
        refine sqQ.exit ?_
        refine blQ.here ?_
        refine sqQ.normal ?_
        refine KA.region rfl ?_
        refine KOps.add (by first | omega | (simp only [List.length_append, List.length_singleton, List.length_set]; omega)) (by first | omega | (simp only [List.length_append, List.length_singleton, List.length_set]; omega)) ?_
        refine KOps.move ?_
        refine KOps.done ?_
        rw [← hms] at hS
        exact lpQ.normal (j + 1) (by repeat (first | exact Sub.nil _ | refine Sub.cons Look.eq ?_ | refine Sub.cons (Eq.trans Look.eq (congrArg (AV.int _) (by first | omega | (dsimp only; omega)))) ?_ | refine Sub.cons (Eq.trans Look.eq (by rw [hms])) ?_)) ⟨by omega, hS⟩ (by omega)
      · intro c121
        have hsn : shapeL ((stdAll m).getD i []) = shapeL ((stdAll m).getD j []) := (rowLens_shape _ _).1 c121
        obtain ⟨hp1, hp2, hp3, hp4, hp5, hp6⟩ := rob_pair hm1 hm5 (i := i) (j := j) (by omega) (by omega) hsn
        rw [if_pos hsn] at hms
        rw [hp1]
        refine KA.skip ?_
        refine sqQ.normal ?_
        refine KA.sub (Sub.cons (t := 13) Look.eq (Sub.cons (t := 14) Look.eq (Sub.cons (t := 15) Look.eq (Sub.cons (t := 16) Look.eq (Sub.cons (t := 17) Look.eq (Sub.cons (t := 19) Look.eq (Sub.cons (t := 21) Look.eq (Sub.cons (t := 22) Look.eq (Sub.cons (t := 23) Look.eq (Sub.cons (t := 89) Look.eq (Sub.cons (t := 90) Look.eq (Sub.cons (t := 91) Look.eq (Sub.cons (t := 104) Look.eq (Sub.cons (t := 105) Look.eq (Sub.cons (t := 106) Look.eq (Sub.nil _)))))))))))))))) ?_
        refine KA.seq ?_
        refine KA.seq ?_
        refine KA.region rfl ?_
        skip
        refine KOps.move ?_
        refine KOps.neqF rfl ?_
        refine KOps.move ?_
        refine KOps.guardYes (dj := 131) rfl rfl ?_
        refine KOps.move ?_
        refine KOps.guardYes (dj := 131) rfl rfl ?_
        refine KOps.lenI hvq ?_
        refine KOps.guardYes (dj := 131) rfl rfl ?_
        refine KOps.move ?_
        refine KOps.guardYes (dj := 131) rfl rfl ?_
        refine KOps.neqF (by omega) ?_
        refine KOps.pickF ?_
        refine KOps.move ?_
        refine KOps.guardYes (dj := 137) rfl rfl ?_
        refine KOps.move ?_
        refine KOps.guardYes (dj := 137) rfl rfl ?_
        refine KOps.call rfl (check_c hvq) ?_
        rintro _ _ ⟨rfl, rfl⟩
        rw [hp3]
        refine KOps.guardYes (dj := 137) rfl rfl ?_
        refine KOps.neqF rfl ?_
        refine KOps.pickF ?_
        refine KOps.done ?_
        refine sqQ.normal ?_
        refine KA.sub (Sub.cons (t := 13) Look.eq (Sub.cons (t := 14) Look.eq (Sub.cons (t := 15) Look.eq (Sub.cons (t := 16) Look.eq (Sub.cons (t := 17) Look.eq (Sub.cons (t := 19) Look.eq (Sub.cons (t := 21) Look.eq (Sub.cons (t := 22) Look.eq (Sub.cons (t := 89) Look.eq (Sub.cons (t := 90) Look.eq (Sub.cons (t := 91) Look.eq (Sub.cons (t := 104) Look.eq (Sub.cons (t := 105) Look.eq (Sub.cons (t := 106) Look.eq (Sub.cons (t := 132) Look.eq (Sub.cons (t := 133) Look.eq (Sub.cons (t := 134) Look.eq (Sub.cons (t := 135) Look.eq (Sub.cons (t := 138) Look.eq (Sub.cons (t := 139) Look.eq (Sub.cons (t := 140) Look.eq (Sub.cons (t := 141) Look.eq (Sub.nil _))))))))))))))))))))))) ?_
        refine KA.condF ?_
        refine KA.skip ?_
        refine sqQ.normal ?_
        refine KA.sub (Sub.cons (t := 13) Look.eq (Sub.cons (t := 14) Look.eq (Sub.cons (t := 15) Look.eq (Sub.cons (t := 16) Look.eq (Sub.cons (t := 17) Look.eq (Sub.cons (t := 19) Look.eq (Sub.cons (t := 21) Look.eq (Sub.cons (t := 22) Look.eq (Sub.cons (t := 89) Look.eq (Sub.cons (t := 90) Look.eq (Sub.cons (t := 91) Look.eq (Sub.cons (t := 104) Look.eq (Sub.cons (t := 105) Look.eq (Sub.cons (t := 106) Look.eq (Sub.cons (t := 132) Look.eq (Sub.cons (t := 133) Look.eq (Sub.cons (t := 134) Look.eq (Sub.cons (t := 135) Look.eq (Sub.cons (t := 138) Look.eq (Sub.cons (t := 139) Look.eq (Sub.cons (t := 140) Look.eq (Sub.nil _)))))))))))))))))))))) ?_
        refine KA.seq ?_
        refine KA.region rfl ?_
        refine KOps.move ?_
        refine KOps.call rfl (tables_c hvq) ?_
        rintro _ h18 ⟨wo1, ws1, wo2, ws2, rfl, hl3, hl4, hS18⟩
        rw [okE_yes hp3] at hl3 hl4 hS18
        rw [okE_yes hp3] at hS18
        rw [hp3]
        rw [hp4] at hl3 hS18
        rw [hp5] at hl4 hS18
        have hC : Mat h18 wo1 ((stdAll m).getD i []) := St.mat (pre := []) hl3 hS18
        have hD : Mat h18 wo2 ((stdAll m).getD j []) := St.mat (pre := matObjs true wo1 ws1 ((stdAll m).getD i [])) hl4 hS18
        have hx := Mat.ext hS18.keeps hx
        have hy := Mat.ext hS18.keeps hy
        have hvq := Row.ext hS18.keeps hvq
        have hS0 : St _ _ (_ :: _ :: _) := St.trans hS (St.ofK hS18.keeps)
        clear hS
        have hS := hS0
        clear hS0
        refine KOps.move ?_
        refine KOps.extract ?_
        refine KOps.extract ?_
        refine KOps.extract ?_
        refine KOps.assign ?_
        refine KOps.assign ?_
        refine KOps.assign ?_
        refine KOps.done ?_
        refine sqQ.normal ?_
        refine KA.sub (Sub.cons (t := 13) Look.eq (Sub.cons (t := 14) Look.eq (Sub.cons (t := 15) Look.eq (Sub.cons (t := 16) Look.eq (Sub.cons (t := 17) Look.eq (Sub.cons (t := 19) Look.eq (Sub.cons (t := 21) Look.eq (Sub.cons (t := 22) Look.eq (Sub.cons (t := 24) Look.eq (Sub.cons (t := 25) Look.eq (Sub.cons (t := 26) Look.eq (Sub.cons (t := 89) Look.eq (Sub.cons (t := 90) Look.eq (Sub.cons (t := 91) Look.eq (Sub.cons (t := 104) Look.eq (Sub.cons (t := 105) Look.eq (Sub.cons (t := 106) Look.eq (Sub.cons (t := 132) Look.eq (Sub.cons (t := 133) Look.eq (Sub.cons (t := 134) Look.eq (Sub.cons (t := 135) Look.eq (Sub.cons (t := 138) Look.eq (Sub.cons (t := 139) Look.eq (Sub.cons (t := 140) Look.eq (Sub.nil _))))))))))))))))))))))))) ?_
        refine KA.seq ?_
        refine KA.seq ?_
        refine KA.region rfl ?_
        refine KOps.move ?_
        refine KOps.neqF rfl ?_
        refine KOps.move ?_
        refine KOps.guardYes (dj := 150) rfl rfl ?_
        refine KOps.move ?_
        refine KOps.guardYes (dj := 150) rfl rfl ?_
        refine KOps.move ?_
        refine KOps.guardYes (dj := 150) rfl rfl ?_
        refine KOps.call rfl (alike_t rfl hC hx (by first | omega | (simp; omega)) (fun i _ => by have := hx3 i; omega)) ?_
        rintro _ _ ⟨rfl, rfl⟩
        refine KOps.guardYes (dj := 150) rfl rfl ?_
        refine KOps.not ?_
        refine KOps.pickF ?_
        refine KOps.move ?_
        refine KOps.guardYes (dj := 156) rfl rfl ?_
        refine KOps.move ?_
        refine KOps.guardYes (dj := 156) rfl rfl ?_
        refine KOps.move ?_
        refine KOps.guardYes (dj := 156) rfl rfl ?_
        refine KOps.call rfl (alike_t rfl hD hy (by first | omega | (simp; omega)) (fun i _ => by have := hy3 i; omega)) ?_
        rintro _ _ ⟨rfl, rfl⟩
        refine KOps.guardYes (dj := 156) rfl rfl ?_
        refine KOps.not ?_
        refine KOps.pickF ?_
        refine KOps.done ?_
        refine sqQ.normal ?_
        refine KA.sub (Sub.cons (t := 13) Look.eq (Sub.cons (t := 14) Look.eq (Sub.cons (t := 15) Look.eq (Sub.cons (t := 16) Look.eq (Sub.cons (t := 17) Look.eq (Sub.cons (t := 19) Look.eq (Sub.cons (t := 22) Look.eq (Sub.cons (t := 89) Look.eq (Sub.cons (t := 90) Look.eq (Sub.cons (t := 91) Look.eq (Sub.cons (t := 104) Look.eq (Sub.cons (t := 105) Look.eq (Sub.cons (t := 106) Look.eq (Sub.cons (t := 132) Look.eq (Sub.cons (t := 133) Look.eq (Sub.cons (t := 134) Look.eq (Sub.cons (t := 135) Look.eq (Sub.cons (t := 138) Look.eq (Sub.cons (t := 139) Look.eq (Sub.cons (t := 140) Look.eq (Sub.cons (t := 151) Look.eq (Sub.cons (t := 152) Look.eq (Sub.cons (t := 153) Look.eq (Sub.cons (t := 154) Look.eq (Sub.cons (t := 157) Look.eq (Sub.cons (t := 158) Look.eq (Sub.cons (t := 159) Look.eq (Sub.cons (t := 160) Look.eq (Sub.cons (t := 161) Look.eq (Sub.nil _)))))))))))))))))))))))))))))) ?_
        refine KA.condF ?_
        refine KA.skip ?_
        refine sqQ.normal ?_
        refine KA.sub (Sub.cons (t := 13) Look.eq (Sub.cons (t := 14) Look.eq (Sub.cons (t := 15) Look.eq (Sub.cons (t := 16) Look.eq (Sub.cons (t := 17) Look.eq (Sub.cons (t := 19) Look.eq (Sub.cons (t := 22) Look.eq (Sub.cons (t := 89) Look.eq (Sub.cons (t := 90) Look.eq (Sub.cons (t := 91) Look.eq (Sub.cons (t := 104) Look.eq (Sub.cons (t := 105) Look.eq (Sub.cons (t := 106) Look.eq (Sub.cons (t := 132) Look.eq (Sub.cons (t := 133) Look.eq (Sub.cons (t := 134) Look.eq (Sub.cons (t := 135) Look.eq (Sub.cons (t := 138) Look.eq (Sub.cons (t := 139) Look.eq (Sub.cons (t := 140) Look.eq (Sub.cons (t := 151) Look.eq (Sub.cons (t := 152) Look.eq (Sub.cons (t := 153) Look.eq (Sub.cons (t := 154) Look.eq (Sub.cons (t := 157) Look.eq (Sub.cons (t := 158) Look.eq (Sub.cons (t := 159) Look.eq (Sub.cons (t := 160) Look.eq (Sub.nil _))))))))))))))))))))))))))))) ?_
        refine KA.seq ?_
        refine KA.region rfl ?_
        refine KOps.move ?_
        refine KOps.move ?_
        refine KOps.call rfl (key_c hvq (by first | omega | (simp; omega)) (fun y hy => by have := (checkE_ok hp3).2.2.2 y hy; omega)) ?_
        rintro _ _ ⟨rfl, rfl⟩
        rw [hp6]
        refine KOps.mapPutK (kf := AV.int .i64) (vf := AV.bool) (i := 0) (b := true) EvK.eq rfl hS hv88 rfl rfl ?_
        intro h' hS
        refine KOps.done ?_
        refine sqQ.normal ?_
        refine KA.sub (Sub.cons (t := 13) Look.eq (Sub.cons (t := 14) Look.eq (Sub.cons (t := 15) Look.eq (Sub.cons (t := 16) Look.eq (Sub.cons (t := 17) Look.eq (Sub.cons (t := 19) Look.eq (Sub.cons (t := 89) Look.eq (Sub.cons (t := 90) Look.eq (Sub.cons (t := 91) Look.eq (Sub.cons (t := 104) Look.eq (Sub.cons (t := 105) Look.eq (Sub.cons (t := 106) Look.eq (Sub.cons (t := 132) Look.eq (Sub.cons (t := 133) Look.eq (Sub.cons (t := 134) Look.eq (Sub.cons (t := 135) Look.eq (Sub.cons (t := 138) Look.eq (Sub.cons (t := 139) Look.eq (Sub.cons (t := 140) Look.eq (Sub.cons (t := 151) Look.eq (Sub.cons (t := 152) Look.eq (Sub.cons (t := 153) Look.eq (Sub.cons (t := 154) Look.eq (Sub.cons (t := 157) Look.eq (Sub.cons (t := 158) Look.eq (Sub.cons (t := 159) Look.eq (Sub.cons (t := 160) Look.eq (Sub.nil _)))))))))))))))))))))))))))) ?_
        refine KA.region rfl ?_
        refine KOps.move ?_
        refine KOps.add (by first | omega | (simp only [List.length_append, List.length_singleton, List.length_set]; omega)) (by first | omega | (simp only [List.length_append, List.length_singleton, List.length_set]; omega)) ?_
        refine KOps.assign ?_
        refine KOps.done ?_
        refine blQ.normal ?_
        refine sqQ.normal ?_
        refine KA.sub (Sub.cons (t := 13) Look.eq (Sub.cons (t := 14) Look.eq (Sub.cons (t := 15) Look.eq (Sub.cons (t := 16) Look.eq (Sub.cons (t := 17) Look.eq (Sub.cons (t := 19) Look.eq (Sub.cons (t := 89) Look.eq (Sub.cons (t := 90) Look.eq (Sub.cons (t := 91) Look.eq (Sub.cons (t := 104) Look.eq (Sub.cons (t := 105) Look.eq (Sub.cons (t := 106) Look.eq (Sub.cons (t := 132) Look.eq (Sub.cons (t := 133) Look.eq (Sub.cons (t := 134) Look.eq (Sub.cons (t := 135) Look.eq (Sub.cons (t := 138) Look.eq (Sub.cons (t := 139) Look.eq (Sub.cons (t := 140) Look.eq (Sub.cons (t := 151) Look.eq (Sub.cons (t := 152) Look.eq (Sub.cons (t := 153) Look.eq (Sub.cons (t := 154) Look.eq (Sub.cons (t := 157) Look.eq (Sub.cons (t := 158) Look.eq (Sub.cons (t := 159) Look.eq (Sub.cons (t := 160) Look.eq (Sub.nil _)))))))))))))))))))))))))))) ?_
        refine KA.region rfl ?_
        refine KOps.add (by first | omega | (simp only [List.length_append, List.length_singleton, List.length_set]; omega)) (by first | omega | (simp only [List.length_append, List.length_singleton, List.length_set]; omega)) ?_
        refine KOps.move ?_
        refine KOps.done ?_
        have hnd := hq1.sublist (met_sub (n := m) (i := i) (j := j + 1) (by omega) (by omega))
        rw [hms, ← List.append_assoc] at hnd
        rw [mput_set (fun hin => (List.nodup_append.1 hnd).2.2 _ hin _ (List.mem_singleton.2 rfl) rfl), List.append_assoc, ← hms] at hS
        exact lpQ.normal (j + 1) (by repeat (first | exact Sub.nil _ | refine Sub.cons Look.eq ?_ | refine Sub.cons (Eq.trans Look.eq (congrArg (AV.int _) (by first | omega | (dsimp only; omega)))) ?_ | refine Sub.cons (Eq.trans Look.eq (congrArg (AV.int _) (by rw [hms]; simp only [List.length_append, List.length_singleton]; omega))) ?_)) ⟨by omega, hS⟩ (by omega)
    · intro c107
      refine KA.exit ?_
      refine sqQ.exit ?_
      refine lpQ.exit ?_
      refine blQ.here ?_
      refine blQ.normal ?_
      refine sqQ.normal ?_
      refine KA.sub (Sub.cons (t := 13) Look.eq (Sub.cons (t := 14) Look.eq (Sub.cons (t := 15) Look.eq (Sub.cons (t := 16) Look.eq (Sub.cons (t := 17) Look.eq (Sub.cons (t := 89) Look.eq (Sub.cons (t := 90) Look.eq (Sub.cons (t := 91) Look.eq (Sub.nil _))))))))) ?_
      refine KA.region rfl ?_
      refine KOps.add (by first | omega | (simp only [List.length_append, List.length_singleton, List.length_set]; omega)) (by first | omega | (simp only [List.length_append, List.length_singleton, List.length_set]; omega)) ?_
      refine KOps.move ?_
      refine KOps.done ?_
      have hje : j = (stdAll m).length := by omega
      subst hje
      rw [List.take_length, ← metTo_succ (by omega)] at hS
      exact lpQ.normal (i + 1) (by repeat (first | exact Sub.nil _ | refine Sub.cons Look.eq ?_ | refine Sub.cons (Eq.trans Look.eq (congrArg (AV.int _) (by first | omega | (dsimp only; omega)))) ?_ | refine Sub.cons (Eq.trans Look.eq (by rw [metTo_succ (by omega), List.take_length])) ?_)) ⟨by omega, hS⟩ (by omega)
  · intro c92
    refine KA.exit ?_
    refine sqQ.exit ?_
    refine lpQ.exit ?_
    refine blQ.here ?_
    refine sqQ.normal ?_
    refine KA.sub (Sub.cons (t := 13) Look.eq (Sub.cons (t := 14) Look.eq (Sub.cons (t := 15) Look.eq (Sub.cons (t := 16) Look.eq (Sub.cons (t := 17) Look.eq (Sub.nil _)))))) ?_
    refine KA.seq ?_
    refine KA.seq ?_
    refine KA.region rfl ?_
    refine KOps.move ?_
    refine KOps.lenV (Rd.ext hS.keeps hL0) ?_
    refine KOps.move ?_
    refine KOps.done ?_
    refine sqQ.normal ?_
    refine KA.sub (Sub.cons (t := 13) Look.eq (Sub.cons (t := 15) Look.eq (Sub.cons (t := 16) Look.eq (Sub.cons (t := 17) Look.eq (Sub.cons (t := 169) Look.eq (Sub.cons (t := 170) Look.eq (Sub.cons (t := 171) Look.eq (Sub.nil _)))))))) ?_
    refine KA.block ?_
    refine KA.loop (X := Nat) (fun k => [(13, .int .i64 (m : Int)), (15, v87), (16, v88), (17, .int .i64 ((metTo m (stdAll m).length).length : Int)), (169, vL), (170, .int .i64 ((stdAll m).length : Int)), (171, .int .i64 (k : Int))]) (fun k h' => k ≤ (stdAll m).length ∧ St h9 h' [mapO v88 (entL (AV.int .i64) AV.bool ((metTo m (stdAll m).length).map fun x : Int => (x, true))), mapO v87 (entL (AV.int .i64) (AV.int .i64) (cntTo m (stdAll m).length))]) (fun k => (stdAll m).length - k) 0 (by repeat (first | exact Sub.nil _ | refine Sub.cons Look.eq ?_ | refine Sub.cons (Eq.trans Look.eq (congrArg (AV.int _) (by first | omega | (dsimp only; omega)))) ?_ | refine Sub.cons (Eq.trans Look.eq (by rw [show i = (stdAll m).length by omega])) ?_)) ?_ ?_
    · have hie : i = (stdAll m).length := by omega
      subst hie
      exact ⟨Nat.zero_le _, hS⟩
    rintro k h20 ⟨hk, hS⟩
    refine KA.seq ?_
    refine KA.region rfl ?_
    refine KOps.lss ?_
    refine KOps.done ?_
    refine sqQ.normal ?_
    refine KA.seq ?_
    refine KA.condD ?_ ?_
    · intro c172
      have hz : Mat _ (us.getD k .bot) ((stdAll m).getD k []) := Mat.ext hS.keeps (hL2 k (by omega))
      obtain ⟨hz1, hz2, hz3, hz4⟩ := rob_tab hm1 hm5 (i := k) (by omega)
      refine KA.skip ?_
      refine sqQ.normal ?_
      refine KA.sub (Sub.cons (t := 13) Look.eq (Sub.cons (t := 15) Look.eq (Sub.cons (t := 16) Look.eq (Sub.cons (t := 17) Look.eq (Sub.cons (t := 169) Look.eq (Sub.cons (t := 170) Look.eq (Sub.cons (t := 171) Look.eq (Sub.nil _)))))))) ?_
      refine KA.seq ?_
      refine KA.block ?_
      refine KA.seq ?_
      refine KA.region rfl ?_
      refine KOps.indexVJ (Rd.ext hS.keeps hL0) (j := k) rfl (by first | omega | (simp; omega)) ?_
      intro p173 hp173
      refine KOps.loadV hp173 (Rd.ext hS.keeps hL0) (by first | omega | (simp; omega)) ?_
      refine KOps.assign ?_
      refine KOps.done ?_
      refine sqQ.normal ?_
      refine KA.sub (Sub.cons (t := 13) Look.eq (Sub.cons (t := 15) Look.eq (Sub.cons (t := 16) Look.eq (Sub.cons (t := 17) Look.eq (Sub.cons (t := 28) Look.eq (Sub.cons (t := 169) Look.eq (Sub.cons (t := 170) Look.eq (Sub.cons (t := 171) Look.eq (Sub.nil _))))))))) ?_
      refine KA.seq ?_
      refine KA.region rfl ?_
      refine KOps.move ?_
      refine KOps.call rfl (shape_c hz (by first | omega | (simp; omega)) (fun i _ => by have := hz3 i; omega)) ?_
      rintro v177 h21 hS21
      have hr177 : Row h21 v177 (rowLens ((stdAll m).getD k [])) := hS21.rd 0 rfl
      have hS0 : St _ _ (_ :: _ :: _ :: _) := St.trans hS hS21
      clear hS
      have hS := St.tail hS0
      clear hS0
      have hz := Mat.ext hS21.keeps hz
      refine KOps.call rfl (count_c hr177 (by rw [rowLens_len]; omega)) ?_
      rintro _ h22 ⟨rfl, hS22⟩
      rw [if_pos hz4, hz4]
      have hS0 : St _ _ (_ :: _ :: _) := St.trans hS hS22
      clear hS
      have hS := hS0
      clear hS0
      have hz := Mat.ext hS22.keeps hz
      refine KOps.move ?_
      refine KOps.extract ?_
      refine KOps.extract ?_
      refine KOps.assign ?_
      refine KOps.assign ?_
      refine KOps.done ?_
      refine sqQ.normal ?_
      refine KA.sub (Sub.cons (t := 13) Look.eq (Sub.cons (t := 15) Look.eq (Sub.cons (t := 16) Look.eq (Sub.cons (t := 17) Look.eq (Sub.cons (t := 28) Look.eq (Sub.cons (t := 29) Look.eq (Sub.cons (t := 30) Look.eq (Sub.cons (t := 169) Look.eq (Sub.cons (t := 170) Look.eq (Sub.cons (t := 171) Look.eq (Sub.nil _))))))))))) ?_
      refine KA.seq ?_
      refine KA.region rfl ?_
      refine KOps.move ?_
      refine KOps.neqF rfl ?_
      refine KOps.move ?_
      refine KOps.guardYes (dj := 183) rfl rfl ?_
      refine KOps.move ?_
      refine KOps.guardYes (dj := 183) rfl rfl ?_
      refine KOps.move ?_
      refine KOps.guardYes (dj := 183) rfl rfl ?_
      refine KOps.move ?_
      refine KOps.guardYes (dj := 183) rfl rfl ?_
      refine KOps.call rfl (shape_c hz (by first | omega | (simp; omega)) (fun i _ => by have := hz3 i; omega)) ?_
      rintro v187 h23 hS23
      have hr187 : Row h23 v187 (rowLens ((stdAll m).getD k [])) := hS23.rd 0 rfl
      have hS0 : St _ _ (_ :: _ :: _ :: _) := St.trans hS hS23
      clear hS
      have hS := St.tail hS0
      clear hS0
      have hz := Mat.ext hS23.keeps hz
      refine KOps.guardYes (dj := 183) rfl rfl ?_
      refine KOps.call rfl (key_c hr187 (by rw [rowLens_len]; omega) (fun y hy => by have := rowLens_get hz3 y hy; omega)) ?_
      rintro _ _ ⟨rfl, rfl⟩
      refine KOps.guardYes (dj := 183) rfl rfl ?_
      refine KOps.lookupD (kf := AV.int .i64) (vf := AV.int .i64) (w := 0) EvK.eq (St.rdM hS 1 rfl hv87) rfl rfl ?_
      rw [hq5 k (by omega), Option.getD_some]
      refine KOps.guardYes (dj := 183) rfl rfl ?_
      refine KOps.neqF rfl ?_
      refine KOps.pickF ?_
      refine KOps.done ?_
      refine sqQ.normal ?_
      refine KA.sub (Sub.cons (t := 13) Look.eq (Sub.cons (t := 15) Look.eq (Sub.cons (t := 16) Look.eq (Sub.cons (t := 17) Look.eq (Sub.cons (t := 169) Look.eq (Sub.cons (t := 170) Look.eq (Sub.cons (t := 171) Look.eq (Sub.cons (t := 184) Look.eq (Sub.cons (t := 185) Look.eq (Sub.cons (t := 186) Look.eq (Sub.cons (t := 187) Look.eq (Sub.cons (t := 188) Look.eq (Sub.cons (t := 189) Look.eq (Sub.cons (t := 190) Look.eq (Sub.cons (t := 191) Look.eq (Sub.nil _)))))))))))))))) ?_
      refine KA.condF ?_
      refine KA.skip ?_
      refine blQ.normal ?_
      refine sqQ.normal ?_
      refine KA.sub (Sub.cons (t := 13) Look.eq (Sub.cons (t := 15) Look.eq (Sub.cons (t := 16) Look.eq (Sub.cons (t := 17) Look.eq (Sub.cons (t := 169) Look.eq (Sub.cons (t := 170) Look.eq (Sub.cons (t := 171) Look.eq (Sub.cons (t := 184) Look.eq (Sub.cons (t := 185) Look.eq (Sub.cons (t := 186) Look.eq (Sub.cons (t := 187) Look.eq (Sub.cons (t := 188) Look.eq (Sub.cons (t := 189) Look.eq (Sub.cons (t := 190) Look.eq (Sub.nil _))))))))))))))) ?_
      refine KA.region rfl ?_
      refine KOps.add (by first | omega | (simp only [List.length_append, List.length_singleton, List.length_set]; omega)) (by first | omega | (simp only [List.length_append, List.length_singleton, List.length_set]; omega)) ?_
      refine KOps.move ?_
      refine KOps.done ?_
      exact lpQ.normal (k + 1) (by repeat (first | exact Sub.nil _ | refine Sub.cons Look.eq ?_ | refine Sub.cons (Eq.trans Look.eq (congrArg (AV.int _) (by first | omega | (dsimp only; omega)))) ?_)) ⟨by omega, hS⟩ (by omega)
    · intro c172
      refine KA.exit ?_
      refine sqQ.exit ?_
      refine lpQ.exit ?_
      refine blQ.here ?_
      refine sqQ.normal ?_
      refine KA.sub (Sub.cons (t := 13) Look.eq (Sub.cons (t := 16) Look.eq (Sub.cons (t := 17) Look.eq (Sub.nil _)))) ?_
      refine KA.seq ?_
      refine KA.region rfl ?_
      refine KOps.move ?_
      refine KOps.move ?_
      refine KOps.call rfl (packs_c (n := m) (by first | omega | (simp; omega))) ?_
      rintro vq h25 ⟨hK25, hq25⟩
      obtain ⟨qs, hqs, hql, hqr⟩ := hq25
      have hS0 : St _ _ (_ :: _ :: _) := St.trans hS (St.ofK hK25)
      clear hS
      have hS := hS0
      clear hS0
      refine KOps.lenV hqs ?_
      refine KOps.eqlT (by omega) ?_
      refine KOps.move ?_
      refine KOps.guardYes (dj := 198) rfl rfl ?_
      refine KOps.move ?_
      refine KOps.guardYes (dj := 198) rfl rfl ?_
      refine KOps.mapLen (St.rdM hS 0 rfl hv88) ?_
      refine KOps.guardYes (dj := 198) rfl rfl ?_
      refine KOps.move ?_
      refine KOps.guardYes (dj := 198) rfl rfl ?_
      refine KOps.eqlT (by rw [List.length_map, List.length_map]) ?_
      refine KOps.pickT ?_
      refine KOps.move ?_
      refine KOps.guardYes (dj := 204) rfl rfl ?_
      refine KOps.call rfl (works_c _) ?_
      rintro _ _ ⟨rfl, rfl⟩
      refine KOps.pickT ?_
      refine KOps.assign ?_
      refine KOps.done ?_
      refine sqQ.normal ?_
      refine KA.sub (Sub.cons (t := 6) Look.eq (Sub.nil _)) ?_
      refine KA.ret ?_
      refine fnQ.ret1 ?_
      rfl

end Go.Am
