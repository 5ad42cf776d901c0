/-
  Layer 13: the law of packs upside down, of inverses, and of packs without a card.
  Conditions: none.
-/
import Derived.Test.YtenkokebdgekbaaCy
import Derived.Test.YtenkokebdgekbaaPt17
namespace Go.Am
open Go.Gr
theorem pack_check {l : List Int} (hp : IsPack l) (h0 : 0 < l.length) (h9 : l.length ≤ 9) : checkE l = 0 := checkE_of h0 h9 hp

theorem law_turned {h : AHeap} {a b : Int} {c : List Int} (ha : (Lit.int .u8 a).wf = true) (hc : c.length = 9) (hw : ∀ x ∈ c, (Lit.int .u8 x).wf = true) (hb0 : (Lit.int .u8 b).wf = true) : ACalls Go.Proofs.Try.prog 10 [.int .u8 a, .agg (bytes c), .int .u8 b] h (fun r _ => r = .bool true) := by
  refine KA.fn 257 [.tmp 6] Go.Proofs.Try.func10 rfl (by decide) rfl rfl (Nat.le_of_ble_eq_true rfl) ?_
  have hS := St.refl h
  have haba := wf_u8 ha
  have habb := wf_u8 hb0
  have hta := Int.tmod_nonneg 8 haba.1
  have hua := Int.tmod_lt_of_pos a (show (0 : Int) < 8 by decide)
  show KA _ 257 _ _ [(0, .int .u8 a), (1, .agg (bytes c)), (2, .int .u8 b)] _
  refine KA.seq ?_
  refine KA.region rfl ?_
  refine KOps.boxU hS ?_
  intro p4 h1 hp4 hS
  have hb : Rd h1 p4 0 (bytes c) := hS.rd 0 rfl
  refine KOps.assign ?_
  refine KOps.done ?_
  refine sqQ.normal ?_
  refine KA.sub (Sub.cons (t := 0) Look.eq (Sub.cons (t := 2) Look.eq (Sub.cons (t := 4) Look.eq (Sub.nil _)))) ?_
  refine KA.seq ?_
  refine KA.region rfl ?_
  refine KOps.move ?_
  refine KOps.convU haba.1 haba.2 ?_
  refine KOps.rem (by decide) (by omega) (by omega) ?_
  refine KOps.add (by omega) (by omega) ?_
  obtain ⟨n, hn⟩ : ∃ n : Nat, 2 + a.tmod 8 = (n : Int) := ⟨(2 + a.tmod 8).toNat, by omega⟩
  rw [hn]
  refine KOps.loadAgg (z := 9) hp4 hb (by decide) (by rw [bytes_len]; omega) ?_
  rw [List.drop_zero, List.take_of_length_le (by rw [bytes_len]; omega)]
  refine KOps.call rfl (mixed_c (n := n) (by omega) (by omega) hc hw) ?_
  rintro v7 h2 ⟨l, hS2, hln, hch⟩
  have hv7 : Row h2 v7 l := hS2.rd 0 rfl
  clear hS
  have hS := St.refl h2
  have hl9 : l.length ≤ 9 := by omega
  have hl2 : 2 ≤ l.length := by omega
  have hpk := (checkE_ok hch).2.2
  have hprv : IsPack l.reverse := hpk.perm (List.reverse_perm l).symm
  have hiv := inv_places hpk
  have htu := Int.tmod_nonneg (l.length : Int) habb.1
  have htv := Int.tmod_lt_of_pos b (show (0 : Int) < (l.length : Int) by omega)
  obtain ⟨hlp, hll⟩ := less_pack hpk htu htv
  have hcr : checkE l.reverse = 0 := pack_check hprv (by rw [List.length_reverse]; omega) (by rw [List.length_reverse]; omega)
  have hci : checkE (placesL l) = 0 := pack_check hiv.pr (by rw [placesL_len]; omega) (by rw [placesL_len]; omega)
  have hcl : checkE (lessL l (b.tmod l.length)) = 0 := pack_check hlp (by omega) (by omega)
  obtain ⟨hfa, hfr, hsh, hk1, hk2, hk3, hk4, _, _⟩ := rec_facts hch
  have hpi1 : insAll (placesL l) = recOf l := insAll_inv hiv.symm
  have hpi2 : recOf (placesL l) = insAll l := (insAll_inv hiv).symm
  have hpr1 := insAll_rev hpk
  have hb1 := rev_best hpk.1
  have hb2 := less_best hpk htu htv false
  have hb3 := less_best hpk htu htv true
  have hbl := bestOf_len l false
  have hbl2 := bestOf_len l true
  refine KOps.assign ?_
  refine KOps.done ?_
  refine sqQ.normal ?_
  refine KA.sub (Sub.cons (t := 2) Look.eq (Sub.cons (t := 7) Look.eq (Sub.nil _))) ?_
  refine KA.seq ?_
  refine KA.region rfl ?_
  refine KOps.move ?_
  refine KOps.lenI (Row.ext hS.keeps hv7) ?_
  refine KOps.assign ?_
  refine KOps.done ?_
  refine sqQ.normal ?_
  refine KA.sub (Sub.cons (t := 2) Look.eq (Sub.cons (t := 7) Look.eq (Sub.cons (t := 8) Look.eq (Sub.nil _)))) ?_
  refine KA.seq ?_
  refine KA.draw [] mixed rfl (by kernel_rfl) ?_
  refine KOps.move ?_
  refine KOps.call rfl (clone_c (Row.ext hS.keeps hv7) (by omega) (by intro he; rw [he] at hl2; simp at hl2)) ?_
  rintro v47 h3 hS3
  have hS0 : St _ _ (_ :: _) := St.trans hS hS3
  clear hS
  have hS := hS0
  clear hS0
  refine KOps.move ?_
  refine KOps.makeI hS (by first | omega | (simp only [List.length_append, List.length_singleton, List.length_set]; omega)) (by first | omega | (simp only [List.length_append, List.length_singleton, List.length_set]; omega)) (by first | omega | (simp only [List.length_append, List.length_singleton, List.length_set]; omega)) ?_
  intro v49 h' hS
  refine KOps.assign ?_
  refine KOps.assign ?_
  refine KOps.done ?_
  refine sqQ.normal ?_
  refine KA.sub (Sub.cons (t := 2) Look.eq (Sub.cons (t := 7) Look.eq (Sub.cons (t := 8) Look.eq (Sub.cons (t := 9) Look.eq (Sub.cons (t := 10) Look.eq (Sub.nil _)))))) ?_
  refine KA.seq ?_
  refine KA.region rfl ?_
  refine KOps.move ?_
  refine KOps.call rfl (reverse_c (F := [⟨v49, 1, ints (List.replicate l.length 0), true⟩]) (St.pick [1, 0] (by decide) (by rw [Int.toNat_natCast]; rfl) hS) (by omega)) ?_
  rintro _ h4 hS4
  clear hS
  have hS := hS4
  clear hS4
  refine KOps.done ?_
  refine sqQ.normal ?_
  refine KA.sub (Sub.cons (t := 2) Look.eq (Sub.cons (t := 7) Look.eq (Sub.cons (t := 8) Look.eq (Sub.cons (t := 9) Look.eq (Sub.cons (t := 10) Look.eq (Sub.nil _)))))) ?_
  refine KA.seq ?_
  refine KA.seq ?_
  refine KA.region rfl ?_
  refine KOps.move ?_
  refine KOps.lenI (Row.ext hS.keeps hv7) ?_
  refine KOps.move ?_
  refine KOps.done ?_
  refine sqQ.normal ?_
  refine KA.block ?_
  refine KA.loop (X := Nat) (fun i => [(2, .int .u8 b), (7, v7), (8, .int .i64 (l.length : Int)), (9, v47), (10, v49), (52, v7), (53, .int .i64 (l.length : Int)), (54, .int .i64 (i : Int))]) (fun i h' => i ≤ l.length ∧ St h2 h' [⟨v47, 1, ints l.reverse, true⟩, ⟨v49, 1, ints (placesT l i), true⟩]) (fun i => l.length - i) 0 (by repeat (first | exact Sub.nil _ | refine Sub.cons Look.eq ?_ | refine Sub.cons (Eq.trans Look.eq (congrArg (AV.int _) (by first | omega | (dsimp only; omega)))) ?_)) ?_ ?_
  · refine ⟨Nat.zero_le _, ?_⟩
    rw [placesT_zero]
    exact hS
  rintro i h5 ⟨hi, hS⟩
  refine KA.seq ?_
  refine KA.region rfl ?_
  refine KOps.lss ?_
  refine KOps.done ?_
  refine sqQ.normal ?_
  refine KA.seq ?_
  refine KA.condD ?_ ?_
  · intro c55
    refine KA.skip ?_
    refine sqQ.normal ?_
    refine KA.sub (Sub.cons (t := 2) Look.eq (Sub.cons (t := 7) Look.eq (Sub.cons (t := 8) Look.eq (Sub.cons (t := 9) Look.eq (Sub.cons (t := 10) Look.eq (Sub.cons (t := 52) Look.eq (Sub.cons (t := 53) Look.eq (Sub.cons (t := 54) Look.eq (Sub.nil _))))))))) ?_
    refine KA.seq ?_
    refine KA.block ?_
    refine KA.seq ?_
    refine KA.region rfl ?_
    refine KOps.move ?_
    refine KOps.indexIJ (Row.ext hS.keeps hv7) (j := i) rfl (by first | omega | (simp; omega)) ?_
    intro p57 hp57
    refine KOps.loadI hp57 (Row.ext hS.keeps hv7) (by first | omega | (simp; omega)) ?_
    refine KOps.assign ?_
    refine KOps.assign ?_
    refine KOps.done ?_
    refine sqQ.normal ?_
    refine KA.sub (Sub.cons (t := 2) Look.eq (Sub.cons (t := 7) Look.eq (Sub.cons (t := 8) Look.eq (Sub.cons (t := 9) Look.eq (Sub.cons (t := 10) Look.eq (Sub.cons (t := 11) Look.eq (Sub.cons (t := 12) Look.eq (Sub.cons (t := 52) Look.eq (Sub.cons (t := 53) Look.eq (Sub.cons (t := 54) Look.eq (Sub.nil _))))))))))) ?_
    refine KA.region rfl ?_
    have hbi := hpk.2 _ (getD_mem (l := l) (i := i) (by omega))
    have hpt := placesT_len l i
    refine KOps.move ?_
    refine KOps.move ?_
    refine KOps.move ?_
    refine KOps.indexIJ (hS.rd 1 rfl) (j := (l.getD i 0).toNat) (by first | omega | (simp only [List.length_append, List.length_singleton, List.length_set]; omega)) (by first | omega | (simp; omega)) ?_
    intro p62 hp62
    refine KOps.storeI hS rfl (i := 1) rfl hp62 (by first | omega | (simp; omega)) ?_
    intro h' hS
    refine KOps.done ?_
    refine blQ.normal ?_
    refine sqQ.normal ?_
    refine KA.sub (Sub.cons (t := 2) Look.eq (Sub.cons (t := 7) Look.eq (Sub.cons (t := 8) Look.eq (Sub.cons (t := 9) Look.eq (Sub.cons (t := 10) Look.eq (Sub.cons (t := 52) Look.eq (Sub.cons (t := 53) Look.eq (Sub.cons (t := 54) Look.eq (Sub.nil _))))))))) ?_
    refine KA.region rfl ?_
    refine KOps.add (by first | omega | (simp only [List.length_append, List.length_singleton, List.length_set]; omega)) (by first | omega | (simp only [List.length_append, List.length_singleton, List.length_set]; omega)) ?_
    refine KOps.move ?_
    refine KOps.done ?_
    simp only [List.set_cons_succ, List.set_cons_zero] at hS
    rw [placesT_succ hpk (by omega)] at hS
    exact lpQ.normal (i + 1) (by repeat (first | exact Sub.nil _ | refine Sub.cons Look.eq ?_ | refine Sub.cons (Eq.trans Look.eq (congrArg (AV.int _) (by first | omega | (dsimp only; omega)))) ?_)) ⟨by omega, hS⟩ (by omega)
  · intro c55
    refine KA.exit ?_
    refine sqQ.exit ?_
    refine lpQ.exit ?_
    refine blQ.here ?_
    refine sqQ.normal ?_
    refine KA.sub (Sub.cons (t := 2) Look.eq (Sub.cons (t := 7) Look.eq (Sub.cons (t := 8) Look.eq (Sub.cons (t := 9) Look.eq (Sub.cons (t := 10) Look.eq (Sub.nil _)))))) ?_
    refine KA.seq ?_
    refine KA.region rfl ?_
    refine KOps.assign ?_
    refine KOps.done ?_
    refine sqQ.normal ?_
    refine KA.seq ?_
    refine KA.region rfl ?_
    refine KOps.move ?_
    refine KOps.convU habb.1 habb.2 ?_
    refine KOps.move ?_
    refine KOps.rem (by omega) (by omega) (by omega) ?_
    refine KOps.assign ?_
    refine KOps.done ?_
    refine sqQ.normal ?_
    refine KA.sub (Sub.cons (t := 7) Look.eq (Sub.cons (t := 8) Look.eq (Sub.cons (t := 9) Look.eq (Sub.cons (t := 10) Look.eq (Sub.cons (t := 13) Look.eq (Sub.cons (t := 14) Look.eq (Sub.nil _))))))) ?_
    refine KA.seq ?_
    refine KA.seq ?_
    refine KA.region rfl ?_
    refine KOps.move ?_
    refine KOps.lenI (Row.ext hS.keeps hv7) ?_
    refine KOps.move ?_
    refine KOps.done ?_
    refine sqQ.normal ?_
    refine KA.block ?_
    refine KA.loop (X := Nat × AV) (fun x => [(7, v7), (8, .int .i64 (l.length : Int)), (9, v47), (10, v49), (13, x.2), (14, .int .i64 (b.tmod l.length)), (68, v7), (69, .int .i64 (l.length : Int)), (70, .int .i64 (x.1 : Int))]) (fun x h' => x.1 ≤ l.length ∧ St h2 h' [⟨v47, 1, ints l.reverse, true⟩, ⟨v49, 1, ints (placesT l l.length), true⟩, ⟨x.2, 1, ints (lessL (l.take x.1) (b.tmod l.length)), true⟩]) (fun x => l.length - x.1) (0, .nils) (by repeat (first | exact Sub.nil _ | refine Sub.cons Look.eq ?_ | refine Sub.cons (Eq.trans Look.eq (congrArg (AV.int _) (by first | omega | (dsimp only; omega)))) ?_)) ?_ ?_
    · have hie : i = l.length := by omega
      subst hie
      exact ⟨Nat.zero_le _, St.addNil 1 true hS⟩
    rintro ⟨j, vz⟩ h5 ⟨hj, hS⟩
    dsimp only at hj hS ⊢
    have hzero : True := trivial
    have hlz := lessL_len (l.take j) (b.tmod l.length)
    rw [List.length_take] at hlz
    refine KA.seq ?_
    refine KA.region rfl ?_
    refine KOps.lss ?_
    refine KOps.done ?_
    refine sqQ.normal ?_
    refine KA.seq ?_
    refine KA.condD ?_ ?_
    · intro c71
      refine KA.skip ?_
      refine sqQ.normal ?_
      refine KA.sub (Sub.cons (t := 7) Look.eq (Sub.cons (t := 8) Look.eq (Sub.cons (t := 9) Look.eq (Sub.cons (t := 10) Look.eq (Sub.cons (t := 13) Look.eq (Sub.cons (t := 14) Look.eq (Sub.cons (t := 68) Look.eq (Sub.cons (t := 69) Look.eq (Sub.cons (t := 70) Look.eq (Sub.nil _)))))))))) ?_
      refine KA.seq ?_
      refine KA.block ?_
      refine KA.seq ?_
      refine KA.region rfl ?_
      refine KOps.indexIJ (Row.ext hS.keeps hv7) (j := j) rfl (by first | omega | (simp; omega)) ?_
      intro p72 hp72
      refine KOps.loadI hp72 (Row.ext hS.keeps hv7) (by first | omega | (simp; omega)) ?_
      refine KOps.assign ?_
      refine KOps.done ?_
      refine sqQ.normal ?_
      refine KA.sub (Sub.cons (t := 7) Look.eq (Sub.cons (t := 8) Look.eq (Sub.cons (t := 9) Look.eq (Sub.cons (t := 10) Look.eq (Sub.cons (t := 13) Look.eq (Sub.cons (t := 14) Look.eq (Sub.cons (t := 16) Look.eq (Sub.cons (t := 68) Look.eq (Sub.cons (t := 69) Look.eq (Sub.cons (t := 70) Look.eq (Sub.nil _))))))))))) ?_
      refine KA.block ?_
      refine KA.seq ?_
      refine KA.region rfl ?_
      refine KOps.move ?_
      refine KOps.move ?_
      refine KOps.lss ?_
      refine KOps.assign ?_
      refine KOps.done ?_
      refine sqQ.normal ?_
      refine KA.sub (Sub.cons (t := 7) Look.eq (Sub.cons (t := 8) Look.eq (Sub.cons (t := 9) Look.eq (Sub.cons (t := 10) Look.eq (Sub.cons (t := 13) Look.eq (Sub.cons (t := 14) Look.eq (Sub.cons (t := 16) Look.eq (Sub.cons (t := 68) Look.eq (Sub.cons (t := 69) Look.eq (Sub.cons (t := 70) Look.eq (Sub.cons (t := 74) Look.eq (Sub.nil _)))))))))))) ?_
      refine KA.condD ?_ ?_
      · intro c74
        refine KA.region rfl ?_
        refine KOps.move ?_
        refine KOps.move ?_
        refine KOps.buildSlice hS rfl (by decide) rfl ?_
        intro v80 h' hS
        refine KOps.appendI hS (fun _ => rfl) (i := 2) rfl (by first | omega | (simp; omega)) ?_
        intro r81 h' hr81 hS
        refine KOps.assign ?_
        refine KOps.done ?_
        refine blQ.normal ?_
        refine blQ.normal ?_
        refine sqQ.normal ?_
        refine KA.sub (Sub.cons (t := 7) Look.eq (Sub.cons (t := 8) Look.eq (Sub.cons (t := 9) Look.eq (Sub.cons (t := 10) Look.eq (Sub.cons (t := 13) Look.eq (Sub.cons (t := 14) Look.eq (Sub.cons (t := 68) Look.eq (Sub.cons (t := 69) Look.eq (Sub.cons (t := 70) Look.eq (Sub.nil _)))))))))) ?_
        refine KA.region rfl ?_
        refine KOps.add (by first | omega | (simp only [List.length_append, List.length_singleton, List.length_set]; omega)) (by first | omega | (simp only [List.length_append, List.length_singleton, List.length_set]; omega)) ?_
        refine KOps.move ?_
        refine KOps.done ?_
        simp only [List.set_cons_succ, List.set_cons_zero] at hS
        have hlt := lessL_take (l := l) (x := b.tmod l.length) (i := j) (by omega)
        rw [if_pos c74] at hlt
        rw [← hlt] at hS
        exact lpQ.normal (j + 1, r81) (by repeat (first | exact Sub.nil _ | refine Sub.cons Look.eq ?_ | refine Sub.cons (Eq.trans Look.eq (congrArg (AV.int _) (by first | omega | (dsimp only; omega)))) ?_)) ⟨by dsimp only; omega, hS⟩ (by dsimp only; omega)
      · intro c74
        refine KA.seq ?_
        refine KA.region rfl ?_
        refine KOps.move ?_
        refine KOps.move ?_
        refine KOps.gtr ?_
        refine KOps.assign ?_
        refine KOps.done ?_
        refine sqQ.normal ?_
        refine KA.sub (Sub.cons (t := 7) Look.eq (Sub.cons (t := 8) Look.eq (Sub.cons (t := 9) Look.eq (Sub.cons (t := 10) Look.eq (Sub.cons (t := 13) Look.eq (Sub.cons (t := 14) Look.eq (Sub.cons (t := 16) Look.eq (Sub.cons (t := 68) Look.eq (Sub.cons (t := 69) Look.eq (Sub.cons (t := 70) Look.eq (Sub.cons (t := 82) Look.eq (Sub.nil _)))))))))))) ?_
        refine KA.condD ?_ ?_
        · intro c82
          refine KA.region rfl ?_
          have hbi := hpk.2 _ (getD_mem (l := l) (i := j) (by omega))
          refine KOps.move ?_
          refine KOps.move ?_
          refine KOps.sub (by first | omega | (simp only [List.length_append, List.length_singleton, List.length_set]; omega)) (by first | omega | (simp only [List.length_append, List.length_singleton, List.length_set]; omega)) ?_
          refine KOps.buildSlice hS rfl (by decide) rfl ?_
          intro v89 h' hS
          refine KOps.appendI hS (fun _ => rfl) (i := 2) rfl (by first | omega | (simp; omega)) ?_
          intro r90 h' hr90 hS
          refine KOps.assign ?_
          refine KOps.done ?_
          refine blQ.normal ?_
          refine blQ.normal ?_
          refine sqQ.normal ?_
          refine KA.sub (Sub.cons (t := 7) Look.eq (Sub.cons (t := 8) Look.eq (Sub.cons (t := 9) Look.eq (Sub.cons (t := 10) Look.eq (Sub.cons (t := 13) Look.eq (Sub.cons (t := 14) Look.eq (Sub.cons (t := 68) Look.eq (Sub.cons (t := 69) Look.eq (Sub.cons (t := 70) Look.eq (Sub.nil _)))))))))) ?_
          refine KA.region rfl ?_
          refine KOps.add (by first | omega | (simp only [List.length_append, List.length_singleton, List.length_set]; omega)) (by first | omega | (simp only [List.length_append, List.length_singleton, List.length_set]; omega)) ?_
          refine KOps.move ?_
          refine KOps.done ?_
          simp only [List.set_cons_succ, List.set_cons_zero] at hS
          have hlt := lessL_take (l := l) (x := b.tmod l.length) (i := j) (by omega)
          rw [if_neg c74, if_pos c82] at hlt
          rw [← hlt] at hS
          exact lpQ.normal (j + 1, r90) (by repeat (first | exact Sub.nil _ | refine Sub.cons Look.eq ?_ | refine Sub.cons (Eq.trans Look.eq (congrArg (AV.int _) (by first | omega | (dsimp only; omega)))) ?_)) ⟨by dsimp only; omega, hS⟩ (by dsimp only; omega)
        · intro c82
          refine KA.skip ?_
          refine blQ.normal ?_
          refine blQ.normal ?_
          refine sqQ.normal ?_
          refine KA.sub (Sub.cons (t := 7) Look.eq (Sub.cons (t := 8) Look.eq (Sub.cons (t := 9) Look.eq (Sub.cons (t := 10) Look.eq (Sub.cons (t := 13) Look.eq (Sub.cons (t := 14) Look.eq (Sub.cons (t := 68) Look.eq (Sub.cons (t := 69) Look.eq (Sub.cons (t := 70) Look.eq (Sub.nil _)))))))))) ?_
          refine KA.region rfl ?_
          refine KOps.add (by first | omega | (simp only [List.length_append, List.length_singleton, List.length_set]; omega)) (by first | omega | (simp only [List.length_append, List.length_singleton, List.length_set]; omega)) ?_
          refine KOps.move ?_
          refine KOps.done ?_
          have hlt := lessL_take (l := l) (x := b.tmod l.length) (i := j) (by omega)
          rw [if_neg c74, if_neg c82, List.append_nil] at hlt
          rw [← hlt] at hS
          exact lpQ.normal (j + 1, vz) (by repeat (first | exact Sub.nil _ | refine Sub.cons Look.eq ?_ | refine Sub.cons (Eq.trans Look.eq (congrArg (AV.int _) (by first | omega | (dsimp only; omega)))) ?_)) ⟨by dsimp only; omega, hS⟩ (by dsimp only; omega)
    · intro c71
      refine KA.exit ?_
      refine sqQ.exit ?_
      refine lpQ.exit ?_
      refine blQ.here ?_
      refine sqQ.normal ?_
      refine KA.sub (Sub.cons (t := 7) Look.eq (Sub.cons (t := 8) Look.eq (Sub.cons (t := 9) Look.eq (Sub.cons (t := 10) Look.eq (Sub.cons (t := 13) Look.eq (Sub.nil _)))))) ?_
      refine KA.seq ?_
      refine KA.region rfl ?_
      have hje : j = l.length := by omega
      subst hje
      rw [List.take_length] at hS
      have hk5 := hS.keeps
      have hd : Row h5 v47 l.reverse := hS.rd 0 rfl
      have hi : Row h5 v49 (placesL l) := by
        rw [← placesT_full hpk]
        exact hS.rd 1 rfl
      have hz : Row h5 vz (lessL l (b.tmod l.length)) := hS.rd 2 rfl
      have hv7 := Row.ext hk5 hv7
      clear hS
      have hS := St.refl h5
      refine KOps.move ?_
      refine KOps.call rfl (tables_c (Row.ext hS.keeps hv7)) ?_
      rintro _ h6 ⟨vo1, vs1, vo2, vs2, rfl, hl1, hl2, hS6⟩
      rw [okE_yes hch] at hl1 hl2 hS6
      rw [okE_yes hch] at hS6
      rw [hch]
      have hA : Mat h6 vo1 (insAll l) := St.mat (pre := []) hl1 hS6
      have hB : Mat h6 vo2 (recOf l) := St.mat (pre := matObjs true vo1 vs1 (insAll l)) hl2 hS6
      have hv7 := Row.ext hS6.keeps hv7
      have hd := Row.ext hS6.keeps hd
      have hi := Row.ext hS6.keeps hi
      have hz := Row.ext hS6.keeps hz
      refine KOps.move ?_
      refine KOps.extract ?_
      refine KOps.extract ?_
      refine KOps.extract ?_
      refine KOps.assign ?_
      refine KOps.assign ?_
      refine KOps.assign ?_
      refine KOps.done ?_
      refine sqQ.normal ?_
      refine KA.sub (Sub.cons (t := 7) Look.eq (Sub.cons (t := 8) Look.eq (Sub.cons (t := 9) Look.eq (Sub.cons (t := 10) Look.eq (Sub.cons (t := 13) Look.eq (Sub.cons (t := 17) Look.eq (Sub.cons (t := 18) Look.eq (Sub.cons (t := 19) Look.eq (Sub.nil _))))))))) ?_
      refine KA.seq ?_
      refine KA.region rfl ?_
      refine KOps.move ?_
      refine KOps.call rfl (tables_c hd) ?_
      rintro _ h7 ⟨wo1, ws1, wo2, ws2, rfl, hl3, hl4, hS7⟩
      rw [okE_yes hcr] at hl3 hl4 hS7
      rw [okE_yes hcr] at hS7
      rw [hcr]
      rw [hpr1] at hl3 hS7
      have hC : Mat h7 wo1 (colsOf (insAll l)) := St.mat (pre := []) hl3 hS7
      have hv7 := Row.ext hS7.keeps hv7
      have hd := Row.ext hS7.keeps hd
      have hi := Row.ext hS7.keeps hi
      have hz := Row.ext hS7.keeps hz
      have hA := Mat.ext hS7.keeps hA
      have hB := Mat.ext hS7.keeps hB
      refine KOps.move ?_
      refine KOps.extract ?_
      refine KOps.extract ?_
      refine KOps.extract ?_
      refine KOps.assign ?_
      refine KOps.assign ?_
      refine KOps.assign ?_
      refine KOps.done ?_
      refine sqQ.normal ?_
      refine KA.sub (Sub.cons (t := 7) Look.eq (Sub.cons (t := 8) Look.eq (Sub.cons (t := 9) Look.eq (Sub.cons (t := 10) Look.eq (Sub.cons (t := 13) Look.eq (Sub.cons (t := 17) Look.eq (Sub.cons (t := 18) Look.eq (Sub.cons (t := 19) Look.eq (Sub.cons (t := 20) Look.eq (Sub.cons (t := 22) Look.eq (Sub.nil _))))))))))) ?_
      refine KA.seq ?_
      refine KA.region rfl ?_
      refine KOps.move ?_
      refine KOps.call rfl (tables_c hi) ?_
      rintro _ h8 ⟨uo1, us1, uo2, us2, rfl, hl5, hl6, hS8⟩
      rw [okE_yes hci] at hl5 hl6 hS8
      rw [okE_yes hci] at hS8
      rw [hci]
      rw [hpi1] at hl5 hS8
      rw [hpi2] at hl6 hS8
      have hD : Mat h8 uo1 (recOf l) := St.mat (pre := []) hl5 hS8
      have hE : Mat h8 uo2 (insAll l) := St.mat (pre := matObjs true uo1 us1 (recOf l)) hl6 hS8
      have hv7 := Row.ext hS8.keeps hv7
      have hd := Row.ext hS8.keeps hd
      have hi := Row.ext hS8.keeps hi
      have hz := Row.ext hS8.keeps hz
      have hA := Mat.ext hS8.keeps hA
      have hB := Mat.ext hS8.keeps hB
      have hC := Mat.ext hS8.keeps hC
      refine KOps.move ?_
      refine KOps.extract ?_
      refine KOps.extract ?_
      refine KOps.extract ?_
      refine KOps.assign ?_
      refine KOps.assign ?_
      refine KOps.assign ?_
      refine KOps.done ?_
      refine sqQ.normal ?_
      refine KA.sub (Sub.cons (t := 7) Look.eq (Sub.cons (t := 8) Look.eq (Sub.cons (t := 9) Look.eq (Sub.cons (t := 13) Look.eq (Sub.cons (t := 17) Look.eq (Sub.cons (t := 18) Look.eq (Sub.cons (t := 19) Look.eq (Sub.cons (t := 20) Look.eq (Sub.cons (t := 22) Look.eq (Sub.cons (t := 23) Look.eq (Sub.cons (t := 24) Look.eq (Sub.cons (t := 25) Look.eq (Sub.nil _))))))))))))) ?_
      refine KA.seq ?_
      refine KA.seq ?_
      refine KA.region rfl ?_
      refine KOps.move ?_
      refine KOps.neqF rfl ?_
      refine KOps.move ?_
      refine KOps.guardYes (dj := 112) rfl rfl ?_
      refine KOps.move ?_
      refine KOps.guardYes (dj := 112) rfl rfl ?_
      refine KOps.neqF rfl ?_
      refine KOps.pickF ?_
      refine KOps.move ?_
      refine KOps.guardYes (dj := 116) rfl rfl ?_
      refine KOps.move ?_
      refine KOps.guardYes (dj := 116) rfl rfl ?_
      refine KOps.neqF rfl ?_
      refine KOps.pickF ?_
      refine KOps.move ?_
      refine KOps.guardYes (dj := 120) rfl rfl ?_
      refine KOps.move ?_
      refine KOps.guardYes (dj := 120) rfl rfl ?_
      refine KOps.move ?_
      refine KOps.guardYes (dj := 120) rfl rfl ?_
      refine KOps.call rfl (alike_t rfl hD hB (by first | omega | (simp; omega)) (fun i _ => by have := hk4 i; omega)) ?_
      rintro _ _ ⟨rfl, rfl⟩
      refine KOps.guardYes (dj := 120) rfl rfl ?_
      refine KOps.not ?_
      refine KOps.pickF ?_
      refine KOps.move ?_
      refine KOps.guardYes (dj := 126) rfl rfl ?_
      refine KOps.move ?_
      refine KOps.guardYes (dj := 126) rfl rfl ?_
      refine KOps.move ?_
      refine KOps.guardYes (dj := 126) rfl rfl ?_
      refine KOps.call rfl (alike_t rfl hE hA (by first | omega | (simp; omega)) (fun i _ => by have := hk2 i; omega)) ?_
      rintro _ _ ⟨rfl, rfl⟩
      refine KOps.guardYes (dj := 126) rfl rfl ?_
      refine KOps.not ?_
      refine KOps.pickF ?_
      refine KOps.move ?_
      refine KOps.guardYes (dj := 132) rfl rfl ?_
      refine KOps.move ?_
      refine KOps.guardYes (dj := 132) rfl rfl ?_
      refine KOps.move ?_
      refine KOps.guardYes (dj := 132) rfl rfl ?_
      refine KOps.call rfl (ordered_n hA hfa.1 hfa.2.1 (by omega) (by omega)) ?_
      rintro _ h9 ⟨rfl, hS9⟩
      have hv7 := Row.ext hS9.keeps hv7
      have hd := Row.ext hS9.keeps hd
      have hi := Row.ext hS9.keeps hi
      have hz := Row.ext hS9.keeps hz
      have hA := Mat.ext hS9.keeps hA
      have hB := Mat.ext hS9.keeps hB
      have hC := Mat.ext hS9.keeps hC
      obtain ⟨us, hA0, hA1, hA2⟩ := id hA
      clear hS
      have hS := St.refl h9
      refine KOps.guardYes (dj := 132) rfl rfl ?_
      refine KOps.not ?_
      refine KOps.pickF ?_
      refine KOps.done ?_
      refine sqQ.normal ?_
      refine KA.sub (Sub.cons (t := 7) Look.eq (Sub.cons (t := 9) Look.eq (Sub.cons (t := 13) Look.eq (Sub.cons (t := 17) Look.eq (Sub.cons (t := 20) Look.eq (Sub.cons (t := 137) Look.eq (Sub.nil _))))))) ?_
      refine KA.condF ?_
      refine KA.skip ?_
      refine sqQ.normal ?_
      refine KA.sub (Sub.cons (t := 7) Look.eq (Sub.cons (t := 9) Look.eq (Sub.cons (t := 13) Look.eq (Sub.cons (t := 17) Look.eq (Sub.cons (t := 20) Look.eq (Sub.nil _)))))) ?_
      refine KA.seq ?_
      refine KA.region rfl ?_
      refine KOps.assign ?_
      refine KOps.done ?_
      refine sqQ.normal ?_
      refine KA.seq ?_
      refine KA.seq ?_
      refine KA.region rfl ?_
      refine KOps.move ?_
      refine KOps.lenV hA0 ?_
      refine KOps.move ?_
      refine KOps.done ?_
      refine sqQ.normal ?_
      refine KA.sub (Sub.cons (t := 7) Look.eq (Sub.cons (t := 9) Look.eq (Sub.cons (t := 13) Look.eq (Sub.cons (t := 20) Look.eq (Sub.cons (t := 26) Look.eq (Sub.cons (t := 138) Look.eq (Sub.cons (t := 139) Look.eq (Sub.cons (t := 140) Look.eq (Sub.nil _))))))))) ?_
      refine KA.block ?_
      refine KA.loop (X := Nat × AV × List AV) (fun x => [(7, v7), (9, v47), (13, vz), (20, wo1), (26, x.2.1), (138, vo1), (139, .int .i64 ((insAll l).length : Int)), (140, .int .i64 (x.1 : Int))]) (fun x h' => x.1 ≤ (insAll l).length ∧ x.2.2.length = (colsOf ((insAll l).take x.1)).length ∧ St h9 h' (matObjs true x.2.1 x.2.2 (colsOf ((insAll l).take x.1)) ++ [])) (fun x => (insAll l).length - x.1) (0, .nils, []) (by repeat (first | exact Sub.nil _ | refine Sub.cons Look.eq ?_ | refine Sub.cons (Eq.trans Look.eq (congrArg (AV.int _) (by first | omega | (dsimp only; omega)))) ?_)) ?_ ?_
      · exact ⟨Nat.zero_le _, rfl, St.nilT hS true⟩
      rintro ⟨i, vc, ns⟩ h10 ⟨hi10, hnl, hS⟩
      dsimp only at hi10 hnl hS ⊢
      refine KA.seq ?_
      refine KA.region rfl ?_
      refine KOps.lss ?_
      refine KOps.done ?_
      refine sqQ.normal ?_
      refine KA.seq ?_
      refine KA.condD ?_ ?_
      · intro c141
        refine KA.skip ?_
        refine sqQ.normal ?_
        refine KA.sub (Sub.cons (t := 7) Look.eq (Sub.cons (t := 9) Look.eq (Sub.cons (t := 13) Look.eq (Sub.cons (t := 20) Look.eq (Sub.cons (t := 26) Look.eq (Sub.cons (t := 138) Look.eq (Sub.cons (t := 139) Look.eq (Sub.cons (t := 140) Look.eq (Sub.nil _))))))))) ?_
        refine KA.seq ?_
        refine KA.block ?_
        refine KA.seq ?_
        refine KA.region rfl ?_
        refine KOps.indexVJ (Rd.ext hS.keeps hA0) (j := i) rfl (by first | omega | (simp; omega)) ?_
        intro p142 hp142
        refine KOps.loadV hp142 (Rd.ext hS.keeps hA0) (by first | omega | (simp; omega)) ?_
        refine KOps.assign ?_
        refine KOps.done ?_
        refine sqQ.normal ?_
        refine KA.sub (Sub.cons (t := 7) Look.eq (Sub.cons (t := 9) Look.eq (Sub.cons (t := 13) Look.eq (Sub.cons (t := 20) Look.eq (Sub.cons (t := 26) Look.eq (Sub.cons (t := 28) Look.eq (Sub.cons (t := 138) Look.eq (Sub.cons (t := 139) Look.eq (Sub.cons (t := 140) Look.eq (Sub.nil _)))))))))) ?_
        refine KA.seq ?_
        refine KA.region rfl ?_
        refine KOps.move ?_
        refine KOps.lenI (Rd.ext hS.keeps (hA2 i (by omega))) ?_
        refine KOps.move ?_
        refine KOps.done ?_
        refine sqQ.normal ?_
        refine KA.sub (Sub.cons (t := 7) Look.eq (Sub.cons (t := 9) Look.eq (Sub.cons (t := 13) Look.eq (Sub.cons (t := 20) Look.eq (Sub.cons (t := 26) Look.eq (Sub.cons (t := 138) Look.eq (Sub.cons (t := 139) Look.eq (Sub.cons (t := 140) Look.eq (Sub.cons (t := 144) Look.eq (Sub.cons (t := 145) Look.eq (Sub.cons (t := 146) Look.eq (Sub.nil _)))))))))))) ?_
        refine KA.block ?_
        refine KA.loop (X := Nat × AV × List AV) (fun x => [(7, v7), (9, v47), (13, vz), (20, wo1), (26, x.2.1), (138, vo1), (139, .int .i64 ((insAll l).length : Int)), (140, .int .i64 (i : Int)), (144, us.getD i .bot), (145, .int .i64 (((insAll l).getD i []).length : Int)), (146, .int .i64 (x.1 : Int))]) (fun x h' => x.1 ≤ ((insAll l).getD i []).length ∧ x.2.2.length = (colsIn (colsOf ((insAll l).take i)) ((insAll l).getD i []) x.1).length ∧ St h9 h' (matObjs true x.2.1 x.2.2 (colsIn (colsOf ((insAll l).take i)) ((insAll l).getD i []) x.1) ++ [])) (fun x => ((insAll l).getD i []).length - x.1) (0, vc, ns) (by repeat (first | exact Sub.nil _ | refine Sub.cons Look.eq ?_ | refine Sub.cons (Eq.trans Look.eq (congrArg (AV.int _) (by first | omega | (dsimp only; omega)))) ?_)) ?_ ?_
        · rw [colsIn_zero]
          exact ⟨Nat.zero_le _, hnl, hS⟩
        rintro ⟨j, vc, ns⟩ h11 ⟨hj11, hnl, hS⟩
        dsimp only at hj11 hnl hS ⊢
        have hk2i := hk2 i
        have hcl2 := colsIn_len (colsOf ((insAll l).take i)) ((insAll l).getD i []) j
        refine KA.seq ?_
        refine KA.region rfl ?_
        refine KOps.lss ?_
        refine KOps.done ?_
        refine sqQ.normal ?_
        refine KA.seq ?_
        refine KA.condD ?_ ?_
        · intro c147
          refine KA.skip ?_
          refine sqQ.normal ?_
          refine KA.sub (Sub.cons (t := 7) Look.eq (Sub.cons (t := 9) Look.eq (Sub.cons (t := 13) Look.eq (Sub.cons (t := 20) Look.eq (Sub.cons (t := 26) Look.eq (Sub.cons (t := 138) Look.eq (Sub.cons (t := 139) Look.eq (Sub.cons (t := 140) Look.eq (Sub.cons (t := 144) Look.eq (Sub.cons (t := 145) Look.eq (Sub.cons (t := 146) Look.eq (Sub.nil _)))))))))))) ?_
          refine KA.seq ?_
          refine KA.block ?_
          refine KA.seq ?_
          refine KA.region rfl ?_
          refine KOps.move ?_
          refine KOps.indexIJ (Rd.ext hS.keeps (hA2 i (by omega))) (j := j) rfl (by first | omega | (simp; omega)) ?_
          intro p149 hp149
          refine KOps.loadI hp149 (Rd.ext hS.keeps (hA2 i (by omega))) (by first | omega | (simp; omega)) ?_
          refine KOps.assign ?_
          refine KOps.assign ?_
          refine KOps.done ?_
          refine sqQ.normal ?_
          refine KA.sub (Sub.cons (t := 7) Look.eq (Sub.cons (t := 9) Look.eq (Sub.cons (t := 13) Look.eq (Sub.cons (t := 20) Look.eq (Sub.cons (t := 26) Look.eq (Sub.cons (t := 29) Look.eq (Sub.cons (t := 30) Look.eq (Sub.cons (t := 138) Look.eq (Sub.cons (t := 139) Look.eq (Sub.cons (t := 140) Look.eq (Sub.cons (t := 144) Look.eq (Sub.cons (t := 145) Look.eq (Sub.cons (t := 146) Look.eq (Sub.nil _)))))))))))))) ?_
          refine KA.meet (X := AV × List AV) (fun N_ => [(7, v7), (9, v47), (13, vz), (20, wo1), (26, N_.1), (29, .int .i64 (j : Int)), (30, .int .i64 (((insAll l).getD i []).getD j 0)), (138, vo1), (139, .int .i64 ((insAll l).length : Int)), (140, .int .i64 (i : Int)), (144, us.getD i .bot), (145, .int .i64 (((insAll l).getD i []).length : Int)), (146, .int .i64 (j : Int))]) (fun N_ h' => N_.2.length = (roomy (colsIn (colsOf ((insAll l).take i)) ((insAll l).getD i []) j) j).length ∧ St h9 h' (matObjs true N_.1 N_.2 (roomy (colsIn (colsOf ((insAll l).take i)) ((insAll l).getD i []) j) j) ++ [])) ?_ ?_
          ·
            refine KA.seq ?_
            refine KA.region rfl ?_
            refine KOps.move ?_
            refine KOps.move ?_
            refine KOps.lenV (St.outer (pre := []) hS) ?_
            refine KOps.eql ?_
            refine KOps.done ?_
            refine sqQ.normal ?_
            refine KA.sub (Sub.cons (t := 7) Look.eq (Sub.cons (t := 9) Look.eq (Sub.cons (t := 13) Look.eq (Sub.cons (t := 20) Look.eq (Sub.cons (t := 26) Look.eq (Sub.cons (t := 29) Look.eq (Sub.cons (t := 30) Look.eq (Sub.cons (t := 138) Look.eq (Sub.cons (t := 139) Look.eq (Sub.cons (t := 140) Look.eq (Sub.cons (t := 144) Look.eq (Sub.cons (t := 145) Look.eq (Sub.cons (t := 146) Look.eq (Sub.cons (t := 154) Look.eq (Sub.nil _))))))))))))))) ?_
            refine KA.condD ?_ ?_
            · intro c154
              refine KA.region rfl ?_
              refine KOps.move ?_
              refine KOps.buildSlice hS rfl (by decide) rfl ?_
              intro v156 h' hS
              refine KOps.appendNil (pre := []) hS (by first | assumption | omega | (simp only [List.length_set, List.length_append, List.length_singleton, List.length_replicate, List.length_take]; omega)) (by first | omega | (simp; omega)) ?_
              intro r157 h' hr157 hS
              refine KOps.assign ?_
              refine KOps.done ?_
              have hjc : j = (colsIn (colsOf ((insAll l).take i)) ((insAll l).getD i []) j).length := by omega
              exact mtQ.normal (r157, ns ++ [.nils]) (by repeat (first | exact Sub.nil _ | refine Sub.cons Look.eq ?_ | refine Sub.cons (Eq.trans Look.eq (congrArg (AV.int _) (by first | omega | (dsimp only; omega)))) ?_)) ⟨by rw [roomy_yes hjc]; simp [hnl], by rw [roomy_yes hjc]; exact hS⟩
            · intro c154
              refine KA.skip ?_
              have hjc : ¬ j = (colsIn (colsOf ((insAll l).take i)) ((insAll l).getD i []) j).length := by omega
              exact mtQ.normal (vc, ns) (by repeat (first | exact Sub.nil _ | refine Sub.cons Look.eq ?_ | refine Sub.cons (Eq.trans Look.eq (congrArg (AV.int _) (by first | omega | (dsimp only; omega)))) ?_)) ⟨by rw [roomy_no hjc]; exact hnl, by rw [roomy_no hjc]; exact hS⟩
          ·
            rintro N2 h12 ⟨hnl, hS⟩
            have hrg := roomy_getD (colsIn (colsOf ((insAll l).take i)) ((insAll l).getD i []) j) j j
            have hrl := roomy_lt (ps := (colsIn (colsOf ((insAll l).take i)) ((insAll l).getD i []) j)) (k := j) (by omega)
            have hcg := colsIn_get (colsOf ((insAll l).take i)) ((insAll l).getD i []) j j
            rw [if_neg (by omega), List.append_nil] at hcg
            have hcr2 := colsOf_row (tab_take hfa.1 i) j
            rw [List.length_take] at hcr2
            refine KA.region rfl ?_
            refine KOps.move ?_
            refine KOps.move ?_
            refine KOps.move ?_
            refine KOps.move ?_
            refine KOps.indexVJ (St.outer (pre := []) hS) (j := j) rfl (by first | omega | (simp; omega)) ?_
            intro p162 hp162
            refine KOps.loadV hp162 (St.outer (pre := []) hS) (by first | omega | (simp; omega)) ?_
            refine KOps.move ?_
            refine KOps.buildSlice hS rfl (by decide) rfl ?_
            intro v165 h' hS
            refine KOps.appendAt (j := j) (pre := []) hS (fun _ => rfl) (by first | assumption | omega | (simp only [List.length_set, List.length_append, List.length_singleton, List.length_replicate, List.length_take]; omega)) (by first | omega | (simp; omega)) (by rw [hrg, hcg]; omega) ?_
            intro r166 h' hr166 hS
            refine KOps.indexVJ (St.hole (pre := []) hS) (j := j) rfl (by first | omega | (simp; omega)) ?_
            intro p167 hp167
            refine KOps.storeAt (pre := []) hS rfl hp167 (by assumption) (by first | omega | (simp; omega)) rfl ?_
            intro h' hS
            refine KOps.done ?_
            refine blQ.normal ?_
            refine sqQ.normal ?_
            refine KA.sub (Sub.cons (t := 7) Look.eq (Sub.cons (t := 9) Look.eq (Sub.cons (t := 13) Look.eq (Sub.cons (t := 20) Look.eq (Sub.cons (t := 26) Look.eq (Sub.cons (t := 138) Look.eq (Sub.cons (t := 139) Look.eq (Sub.cons (t := 140) Look.eq (Sub.cons (t := 144) Look.eq (Sub.cons (t := 145) Look.eq (Sub.cons (t := 146) Look.eq (Sub.nil _)))))))))))) ?_
            refine KA.region rfl ?_
            refine KOps.add (by first | omega | (simp only [List.length_append, List.length_singleton, List.length_set]; omega)) (by first | omega | (simp only [List.length_append, List.length_singleton, List.length_set]; omega)) ?_
            refine KOps.move ?_
            refine KOps.done ?_
            rw [colsIn_succ] at hS
            refine lpQ.normal (j + 1, N2.1, N2.2.set j r166) (by repeat (first | exact Sub.nil _ | refine Sub.cons Look.eq ?_ | refine Sub.cons (Eq.trans Look.eq (congrArg (AV.int _) (by first | omega | (dsimp only; omega)))) ?_)) ⟨by dsimp only; omega, ?_, hS⟩ (by dsimp only; omega)
            dsimp only
            rw [List.length_set, hnl, ← colsIn_succ, List.length_set]
        · intro c147
          refine KA.exit ?_
          refine sqQ.exit ?_
          refine lpQ.exit ?_
          refine blQ.here ?_
          refine blQ.normal ?_
          refine sqQ.normal ?_
          refine KA.sub (Sub.cons (t := 7) Look.eq (Sub.cons (t := 9) Look.eq (Sub.cons (t := 13) Look.eq (Sub.cons (t := 20) Look.eq (Sub.cons (t := 26) Look.eq (Sub.cons (t := 138) Look.eq (Sub.cons (t := 139) Look.eq (Sub.cons (t := 140) Look.eq (Sub.nil _))))))))) ?_
          refine KA.region rfl ?_
          refine KOps.add (by first | omega | (simp only [List.length_append, List.length_singleton, List.length_set]; omega)) (by first | omega | (simp only [List.length_append, List.length_singleton, List.length_set]; omega)) ?_
          refine KOps.move ?_
          refine KOps.done ?_
          have hje : j = ((insAll l).getD i []).length := by omega
          subst hje
          rw [cols_end hfa.1 (by omega)] at hS hnl
          exact lpQ.normal (i + 1, vc, ns) (by repeat (first | exact Sub.nil _ | refine Sub.cons Look.eq ?_ | refine Sub.cons (Eq.trans Look.eq (congrArg (AV.int _) (by first | omega | (dsimp only; omega)))) ?_)) ⟨by dsimp only; omega, hnl, hS⟩ (by dsimp only; omega)
      · intro c141
        have hie : i = (insAll l).length := by omega
        have hce : colsOf (insAll l) = colsOf ((insAll l).take i) := by rw [hie, List.take_length]
        refine KA.exit ?_
        refine sqQ.exit ?_
        refine lpQ.exit ?_
        refine blQ.here ?_
        refine sqQ.normal ?_
        refine KA.sub (Sub.cons (t := 7) Look.eq (Sub.cons (t := 9) Look.eq (Sub.cons (t := 13) Look.eq (Sub.cons (t := 20) Look.eq (Sub.cons (t := 26) Look.eq (Sub.nil _)))))) ?_
        refine KA.seq ?_
        refine KA.seq ?_
        refine KA.region rfl ?_
        refine KOps.move ?_
        refine KOps.move ?_
        refine KOps.call rfl (alike_t hce (hC.ext hS.keeps) (St.mat (pre := []) hnl hS) (by have := hk2 0; unfold colsOf; rw [List.length_map, List.length_range]; omega) (fun i _ => by have := colsOf_row hfa.1 i; omega)) ?_
        rintro _ _ ⟨rfl, rfl⟩
        have hk11 := hS.keeps
        have hv7 := Row.ext hk11 hv7
        have hd := Row.ext hk11 hd
        have hi := Row.ext hk11 hi
        have hz := Row.ext hk11 hz
        refine KOps.not ?_
        refine KOps.done ?_
        refine sqQ.normal ?_
        refine KA.sub (Sub.cons (t := 7) Look.eq (Sub.cons (t := 9) Look.eq (Sub.cons (t := 13) Look.eq (Sub.cons (t := 173) Look.eq (Sub.nil _))))) ?_
        refine KA.condF ?_
        refine KA.skip ?_
        refine sqQ.normal ?_
        refine KA.sub (Sub.cons (t := 7) Look.eq (Sub.cons (t := 9) Look.eq (Sub.cons (t := 13) Look.eq (Sub.nil _)))) ?_
        refine KA.seq ?_
        refine KA.region rfl ?_
        refine KOps.move ?_
        refine KOps.call rfl (rising_c (by first | assumption | exact Rd.ext hS.keeps (by assumption))) ?_
        rintro _ h12 ⟨vr, rfl, hS12⟩
        rw [okE_yes hch] at hS12
        rw [hch]
        have hr1 : Row h12 vr (bestOf l false) := hS12.rd 0 rfl
        have hv7 := Row.ext hS12.keeps hv7
        have hd := Row.ext hS12.keeps hd
        have hi := Row.ext hS12.keeps hi
        have hz := Row.ext hS12.keeps hz
        refine KOps.move ?_
        refine KOps.extract ?_
        refine KOps.extract ?_
        refine KOps.assign ?_
        refine KOps.assign ?_
        refine KOps.done ?_
        refine sqQ.normal ?_
        refine KA.sub (Sub.cons (t := 7) Look.eq (Sub.cons (t := 9) Look.eq (Sub.cons (t := 13) Look.eq (Sub.cons (t := 19) Look.eq (Sub.cons (t := 31) Look.eq (Sub.nil _)))))) ?_
        refine KA.seq ?_
        refine KA.region rfl ?_
        refine KOps.move ?_
        refine KOps.call rfl (falling_c hd) ?_
        rintro _ h13 ⟨vf, rfl, hS13⟩
        rw [okE_yes hcr] at hS13
        rw [hcr]
        have hr2 : Row h13 vf (bestOf l.reverse true) := hS13.rd 0 rfl
        have hv7 := Row.ext hS13.keeps hv7
        have hd := Row.ext hS13.keeps hd
        have hi := Row.ext hS13.keeps hi
        have hz := Row.ext hS13.keeps hz
        have hr1 := Row.ext hS13.keeps hr1
        refine KOps.move ?_
        refine KOps.extract ?_
        refine KOps.extract ?_
        refine KOps.assign ?_
        refine KOps.assign ?_
        refine KOps.done ?_
        refine sqQ.normal ?_
        refine KA.sub (Sub.cons (t := 7) Look.eq (Sub.cons (t := 13) Look.eq (Sub.cons (t := 19) Look.eq (Sub.cons (t := 22) Look.eq (Sub.cons (t := 31) Look.eq (Sub.cons (t := 32) Look.eq (Sub.nil _))))))) ?_
        refine KA.seq ?_
        refine KA.region rfl ?_
        refine KOps.move ?_
        refine KOps.call rfl (rising_c hz) ?_
        rintro _ h14 ⟨vt, rfl, hS14⟩
        rw [okE_yes hcl] at hS14
        rw [hcl]
        have hr3 : Row h14 vt (bestOf (lessL l (b.tmod l.length)) false) := hS14.rd 0 rfl
        have hv7 := Row.ext hS14.keeps hv7
        have hd := Row.ext hS14.keeps hd
        have hi := Row.ext hS14.keeps hi
        have hz := Row.ext hS14.keeps hz
        have hr1 := Row.ext hS14.keeps hr1
        have hr2 := Row.ext hS14.keeps hr2
        refine KOps.move ?_
        refine KOps.extract ?_
        refine KOps.extract ?_
        refine KOps.assign ?_
        refine KOps.assign ?_
        refine KOps.done ?_
        refine sqQ.normal ?_
        refine KA.sub (Sub.cons (t := 7) Look.eq (Sub.cons (t := 13) Look.eq (Sub.cons (t := 19) Look.eq (Sub.cons (t := 22) Look.eq (Sub.cons (t := 25) Look.eq (Sub.cons (t := 31) Look.eq (Sub.cons (t := 32) Look.eq (Sub.cons (t := 33) Look.eq (Sub.nil _))))))))) ?_
        refine KA.seq ?_
        refine KA.region rfl ?_
        refine KOps.move ?_
        refine KOps.call rfl (falling_c hz) ?_
        rintro _ h15 ⟨vu, rfl, hS15⟩
        rw [okE_yes hcl] at hS15
        rw [hcl]
        have hr4 : Row h15 vu (bestOf (lessL l (b.tmod l.length)) true) := hS15.rd 0 rfl
        have hv7 := Row.ext hS15.keeps hv7
        have hd := Row.ext hS15.keeps hd
        have hi := Row.ext hS15.keeps hi
        have hz := Row.ext hS15.keeps hz
        have hr1 := Row.ext hS15.keeps hr1
        have hr2 := Row.ext hS15.keeps hr2
        have hr3 := Row.ext hS15.keeps hr3
        refine KOps.move ?_
        refine KOps.extract ?_
        refine KOps.extract ?_
        refine KOps.assign ?_
        refine KOps.assign ?_
        refine KOps.done ?_
        refine sqQ.normal ?_
        refine KA.sub (Sub.cons (t := 7) Look.eq (Sub.cons (t := 19) Look.eq (Sub.cons (t := 22) Look.eq (Sub.cons (t := 25) Look.eq (Sub.cons (t := 31) Look.eq (Sub.cons (t := 32) Look.eq (Sub.cons (t := 33) Look.eq (Sub.cons (t := 34) Look.eq (Sub.cons (t := 35) Look.eq (Sub.nil _)))))))))) ?_
        refine KA.seq ?_
        refine KA.region rfl ?_
        refine KOps.move ?_
        refine KOps.call rfl (falling_c hv7) ?_
        rintro _ h16 ⟨ve, rfl, hS16⟩
        rw [okE_yes hch] at hS16
        rw [hch]
        have hr5 : Row h16 ve (bestOf l true) := hS16.rd 0 rfl
        have hv7 := Row.ext hS16.keeps hv7
        have hd := Row.ext hS16.keeps hd
        have hi := Row.ext hS16.keeps hi
        have hz := Row.ext hS16.keeps hz
        have hr1 := Row.ext hS16.keeps hr1
        have hr2 := Row.ext hS16.keeps hr2
        have hr3 := Row.ext hS16.keeps hr3
        have hr4 := Row.ext hS16.keeps hr4
        refine KOps.move ?_
        refine KOps.extract ?_
        refine KOps.extract ?_
        refine KOps.assign ?_
        refine KOps.assign ?_
        refine KOps.done ?_
        refine sqQ.normal ?_
        refine KA.sub (Sub.cons (t := 19) Look.eq (Sub.cons (t := 22) Look.eq (Sub.cons (t := 25) Look.eq (Sub.cons (t := 31) Look.eq (Sub.cons (t := 32) Look.eq (Sub.cons (t := 33) Look.eq (Sub.cons (t := 34) Look.eq (Sub.cons (t := 35) Look.eq (Sub.cons (t := 36) Look.eq (Sub.cons (t := 37) Look.eq (Sub.nil _))))))))))) ?_
        refine KA.seq ?_
        refine KA.region rfl ?_
        refine KOps.move ?_
        refine KOps.eqlT rfl ?_
        refine KOps.move ?_
        refine KOps.guardYes (dj := 201) rfl rfl ?_
        refine KOps.move ?_
        refine KOps.guardYes (dj := 201) rfl rfl ?_
        refine KOps.eqlT rfl ?_
        refine KOps.pickT ?_
        refine KOps.move ?_
        refine KOps.guardYes (dj := 205) rfl rfl ?_
        refine KOps.move ?_
        refine KOps.guardYes (dj := 205) rfl rfl ?_
        refine KOps.eqlT rfl ?_
        refine KOps.pickT ?_
        refine KOps.move ?_
        refine KOps.guardYes (dj := 209) rfl rfl ?_
        refine KOps.move ?_
        refine KOps.guardYes (dj := 209) rfl rfl ?_
        refine KOps.eqlT rfl ?_
        refine KOps.pickT ?_
        refine KOps.move ?_
        refine KOps.guardYes (dj := 213) rfl rfl ?_
        refine KOps.move ?_
        refine KOps.guardYes (dj := 213) rfl rfl ?_
        refine KOps.eqlT rfl ?_
        refine KOps.pickT ?_
        refine KOps.move ?_
        refine KOps.guardYes (dj := 217) rfl rfl ?_
        refine KOps.move ?_
        refine KOps.guardYes (dj := 217) rfl rfl ?_
        refine KOps.lenI hr1 ?_
        refine KOps.guardYes (dj := 217) rfl rfl ?_
        refine KOps.move ?_
        refine KOps.guardYes (dj := 217) rfl rfl ?_
        refine KOps.lenI hr2 ?_
        refine KOps.guardYes (dj := 217) rfl rfl ?_
        refine KOps.eqlT (by omega) ?_
        refine KOps.pickT ?_
        refine KOps.move ?_
        refine KOps.guardYes (dj := 224) rfl rfl ?_
        refine KOps.move ?_
        refine KOps.guardYes (dj := 224) rfl rfl ?_
        refine KOps.lenI hr3 ?_
        refine KOps.guardYes (dj := 224) rfl rfl ?_
        refine KOps.move ?_
        refine KOps.guardYes (dj := 224) rfl rfl ?_
        refine KOps.lenI hr1 ?_
        refine KOps.guardYes (dj := 224) rfl rfl ?_
        refine KOps.leq ?_
        rw [decide_eq_true (by omega)]
        refine KOps.pickT ?_
        refine KOps.move ?_
        refine KOps.guardYes (dj := 231) rfl rfl ?_
        refine KOps.move ?_
        refine KOps.guardYes (dj := 231) rfl rfl ?_
        refine KOps.lenI hr3 ?_
        refine KOps.guardYes (dj := 231) rfl rfl ?_
        refine KOps.move ?_
        refine KOps.guardYes (dj := 231) rfl rfl ?_
        refine KOps.lenI hr1 ?_
        refine KOps.guardYes (dj := 231) rfl rfl ?_
        refine KOps.sub (by first | omega | (simp only [List.length_append, List.length_singleton, List.length_set]; omega)) (by first | omega | (simp only [List.length_append, List.length_singleton, List.length_set]; omega)) ?_
        refine KOps.guardYes (dj := 231) rfl rfl ?_
        refine KOps.geq ?_
        rw [decide_eq_true (by omega)]
        refine KOps.pickT ?_
        refine KOps.move ?_
        refine KOps.guardYes (dj := 239) rfl rfl ?_
        refine KOps.move ?_
        refine KOps.guardYes (dj := 239) rfl rfl ?_
        refine KOps.lenI hr4 ?_
        refine KOps.guardYes (dj := 239) rfl rfl ?_
        refine KOps.move ?_
        refine KOps.guardYes (dj := 239) rfl rfl ?_
        refine KOps.lenI hr5 ?_
        refine KOps.guardYes (dj := 239) rfl rfl ?_
        refine KOps.leq ?_
        rw [decide_eq_true (by omega)]
        refine KOps.pickT ?_
        refine KOps.move ?_
        refine KOps.guardYes (dj := 246) rfl rfl ?_
        refine KOps.move ?_
        refine KOps.guardYes (dj := 246) rfl rfl ?_
        refine KOps.lenI hr4 ?_
        refine KOps.guardYes (dj := 246) rfl rfl ?_
        refine KOps.move ?_
        refine KOps.guardYes (dj := 246) rfl rfl ?_
        refine KOps.lenI hr5 ?_
        refine KOps.guardYes (dj := 246) rfl rfl ?_
        refine KOps.sub (by first | omega | (simp only [List.length_append, List.length_singleton, List.length_set]; omega)) (by first | omega | (simp only [List.length_append, List.length_singleton, List.length_set]; omega)) ?_
        refine KOps.guardYes (dj := 246) rfl rfl ?_
        refine KOps.geq ?_
        rw [decide_eq_true (by omega)]
        refine KOps.pickT ?_
        refine KOps.move ?_
        refine KOps.guardYes (dj := 254) rfl rfl ?_
        refine KOps.call rfl (works_c _) ?_
        rintro _ _ ⟨rfl, rfl⟩
        refine KOps.pickT ?_
        refine KOps.assign ?_
        refine KOps.done ?_
        refine sqQ.normal ?_
        refine KA.sub (Sub.cons (t := 6) Look.eq (Sub.nil _)) ?_
        refine KA.ret ?_
        refine fnQ.ret1 ?_
        rfl

end Go.Am
