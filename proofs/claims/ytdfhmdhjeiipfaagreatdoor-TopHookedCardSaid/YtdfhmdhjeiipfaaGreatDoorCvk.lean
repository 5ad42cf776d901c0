/-
  Tops: shapes of tables, turned: the law.
  Conditions: none.
-/
import Derived.Test.YtdfhmdhjeiipfaaGreatDoorGrA
import Derived.Test.YtdfhmdhjeiipfaaGreatDoorHkc
namespace Go.Am
open Go.Gr (insAll)
theorem drop_rev {l : List Int} {k : Nat} (h0 : 0 < k) (hk : k ≤ l.length) : (l.drop k).reverse ++ [l.getD (k - 1) 0] = (l.drop (k - 1)).reverse := by
  rw [List.drop_eq_getElem_cons (show k - 1 < l.length by omega), List.reverse_cons, show k - 1 + 1 = k by omega, List.getD_eq_getElem?_getD, List.getElem?_eq_getElem (show k - 1 < l.length by omega)]
  rfl

theorem pileWorks_c {h : AHeap} (hT : Tabs h) : ACalls Go.Proofs.Tryz.prog 18 [] h (fun q h' => q = .bool true ∧ Keeps h h') := by
  refine KA.fn 18 [.tmp 0] Go.Proofs.Tryz.func18 rfl (by decide) rfl rfl (Nat.le_of_ble_eq_true rfl) ?_
  have hS := St.refl h
  obtain ⟨hc1, hc2⟩ := count321
  show KA _ 18 _ _ [] _
  refine KA.seq ?_
  refine KA.region rfl ?_
  refine KOps.assign ?_
  refine KOps.done ?_
  refine sqQ.normal ?_
  refine KA.sub (Sub.nil _) ?_
  refine KA.seq ?_
  refine KA.region rfl ?_
  refine KOps.buildSlice hS rfl (by decide) rfl ?_
  intro v4 h' hS
  refine KOps.call rfl list_c ?_
  rintro w4 _ ⟨rfl, rfl⟩
  refine KOps.call rfl (count_c (l := nI [3, 2, 1]) (hS.rd 0 rfl) (by decide)) ?_
  rintro _ h6 ⟨rfl, hS6⟩
  have hS0 : St _ _ _ := St.trans hS hS6
  clear hS
  have hS := hS0
  clear hS0
  simp only [List.nil_append] at hS
  rw [hc2, if_pos rfl, hc1]
  refine KOps.move ?_
  refine KOps.extract ?_
  refine KOps.extract ?_
  refine KOps.assign ?_
  refine KOps.assign ?_
  refine KOps.done ?_
  refine sqQ.normal ?_
  refine KA.sub (Sub.cons (t := 1) Look.eq (Sub.cons (t := 2) Look.eq (Sub.nil _))) ?_
  refine KA.seq ?_
  refine KA.region rfl ?_
  refine KOps.move ?_
  refine KOps.eql ?_
  refine KOps.move ?_
  refine KOps.guardB (dj := 11) rfl rfl true false rfl ?_ ?_
  · intro g11
    have g11 := of_decide_eq_true g11
    refine KOps.move ?_
    refine KOps.guardYes (dj := 11) rfl rfl ?_
    refine KOps.eql ?_
    refine KOps.pickT ?_
    refine KOps.move ?_
    refine KOps.guardB (dj := 15) rfl rfl true false rfl ?_ ?_
    · intro g15
      have g15 := of_decide_eq_true g15
      refine KOps.call rfl (heapWorks_c (hT.ext hS.keeps)) ?_
      rintro _ hx ⟨rfl, hK⟩
      have hS0 : St _ _ _ := St.trans hS (St.ofK hK)
      clear hS
      have hS := hS0
      clear hS0
      simp only [List.nil_append] at hS
      refine KOps.pickT ?_
      refine KOps.assign ?_
      refine KOps.done ?_
      refine sqQ.normal ?_
      refine KA.sub (Sub.cons (t := 0) Look.eq (Sub.nil _)) ?_
      refine KA.ret ?_
      refine fnQ.ret1 ?_
      exact ⟨rfl, hS.keeps⟩
    · intro g15
      have g15 := of_decide_eq_false g15
      exact absurd rfl g15
  · intro g11
    have g11 := of_decide_eq_false g11
    exact absurd rfl g11

theorem law_hooked {h : AHeap} {v : AV} {c : Nat} {bs : List Int} (hc : c ≤ 255) (hv : Rd h v 1 (bs.map (AV.int .u8))) (hbs : ∀ x ∈ bs, 0 ≤ x ∧ x ≤ 255) (hlen : bs.length ≤ 9223372036854775807) (hT : Tabs h) : ACalls Go.Proofs.Tryz.prog 4 [v, .int .u8 (c : Int)] h (fun q _ => q = .bool true) := by
  refine KA.fn 202 [.tmp 4] Go.Proofs.Tryz.func4 rfl (by decide) rfl rfl (Nat.le_of_ble_eq_true rfl) ?_
  have hS := St.refl h
  show KA _ 202 _ _ [(0, v), (1, .int .u8 (c : Int))] _
  refine KA.seq ?_
  refine KA.region rfl ?_
  refine KOps.assign ?_
  refine KOps.done ?_
  refine sqQ.normal ?_
  refine KA.sub (Sub.cons (t := 0) Look.eq (Sub.cons (t := 1) Look.eq (Sub.nil _))) ?_
  refine KA.seq ?_
  refine KA.region rfl ?_
  refine KOps.assign ?_
  refine KOps.done ?_
  refine sqQ.normal ?_
  refine KA.seq ?_
  refine KA.region rfl ?_
  refine KOps.assign ?_
  refine KOps.done ?_
  refine sqQ.normal ?_
  refine KA.meet (X := AV × List Nat) (fun x => [(0, v), (1, .int .u8 (c : Int)), (5, x.1)]) (fun x h' => Hps x.2 ∧ x.2.sum ≤ 9 ∧ St h h' [⟨x.1, 1, natI x.2, true⟩]) ?_ ?_
  ·
    refine KA.seq ?_
    refine KA.region rfl ?_
    refine KOps.move ?_
    refine KOps.lenI (Rd.ext hS.keeps hv) ?_
    refine KOps.move ?_
    refine KOps.done ?_
    refine sqQ.normal ?_
    refine KA.block ?_
    refine KA.loop (X := Nat × AV × List Nat) (fun x => [(0, v), (1, .int .u8 (c : Int)), (31, v), (32, .int .i64 (bs.length : Int)), (5, x.2.1), (6, .int .i64 ((9 - x.2.2.sum : Nat) : Int)), (33, .int .i64 (x.1 : Int))]) (fun x h' => x.1 ≤ bs.length ∧ Hps x.2.2 ∧ x.2.2.sum ≤ 9 ∧ St h h' [⟨x.2.1, 1, natI x.2.2, true⟩]) (fun x => bs.length - x.1) (0, .nils, []) (by repeat (first | exact Sub.nil _ | refine Sub.cons Look.eq ?_ | refine Sub.cons (Eq.trans Look.eq (congrArg (AV.int _) (by first | omega | (dsimp only; omega)))) ?_)) ?_ ?_
    · exact ⟨Nat.zero_le _, ⟨List.Pairwise.nil, fun x hx => by cases hx⟩, by decide, hS.nil 1⟩
    rintro ⟨i, vH, p⟩ h5 ⟨hi, hp, hps, hS⟩
    dsimp only at hi hp hps hS ⊢
    have hpl := len_sum p hp.2
    refine KA.seq ?_
    refine KA.region rfl ?_
    refine KOps.lss ?_
    refine KOps.done ?_
    refine sqQ.normal ?_
    refine KA.seq ?_
    refine KA.condD ?_ ?_
    · intro c34
      obtain ⟨y, hy⟩ : ∃ y : Nat, bs.getD i 0 = (y : Int) := ⟨(bs.getD i 0).toNat, by have := hbs _ (getD_mem13 (show i < bs.length by omega)); omega⟩
      have hy2 := hbs _ (getD_mem13 (show i < bs.length by omega))
      rw [hy] at hy2
      refine KA.skip ?_
      refine sqQ.normal ?_
      refine KA.sub (Sub.cons (t := 0) Look.eq (Sub.cons (t := 1) Look.eq (Sub.cons (t := 5) Look.eq (Sub.cons (t := 6) Look.eq (Sub.cons (t := 31) Look.eq (Sub.cons (t := 32) Look.eq (Sub.cons (t := 33) Look.eq (Sub.nil _)))))))) ?_
      refine KA.seq ?_
      refine KA.block ?_
      refine KA.seq ?_
      refine KA.region rfl ?_
      refine KOps.indexIJ (Rd.ext hS.keeps hv) (j := i) rfl (by first | omega | (simp; done) | (simp; omega)) ?_
      intro p35 hp35
      refine KOps.load hp35 (Rd.ext hS.keeps hv) (show (bs.map (AV.int .u8))[i]? = some (.int .u8 (bs.getD i 0)) by simp [List.getElem?_map, List.getElem?_eq_getElem (show i < bs.length by omega), List.getD_eq_getElem?_getD]) ?_
      rw [hy]
      refine KOps.assign ?_
      refine KOps.done ?_
      refine sqQ.normal ?_
      refine KA.sub (Sub.cons (t := 0) Look.eq (Sub.cons (t := 1) Look.eq (Sub.cons (t := 5) Look.eq (Sub.cons (t := 6) Look.eq (Sub.cons (t := 8) Look.eq (Sub.cons (t := 31) Look.eq (Sub.cons (t := 32) Look.eq (Sub.cons (t := 33) Look.eq (Sub.nil _))))))))) ?_
      refine KA.seq ?_
      refine KA.seq ?_
      refine KA.region rfl ?_
      refine KOps.move ?_
      refine KOps.eql ?_
      refine KOps.done ?_
      refine sqQ.normal ?_
      refine KA.sub (Sub.cons (t := 0) Look.eq (Sub.cons (t := 1) Look.eq (Sub.cons (t := 5) Look.eq (Sub.cons (t := 6) Look.eq (Sub.cons (t := 8) Look.eq (Sub.cons (t := 31) Look.eq (Sub.cons (t := 32) Look.eq (Sub.cons (t := 33) Look.eq (Sub.cons (t := 38) Look.eq (Sub.nil _)))))))))) ?_
      refine KA.condD ?_ ?_
      · intro c38
        refine KA.exit ?_
        refine sqQ.exit ?_
        refine blQ.exit rfl ?_
        refine sqQ.exit ?_
        refine lpQ.exit ?_
        refine blQ.here ?_
        exact mtQ.normal (vH, p) (by repeat (first | exact Sub.nil _ | refine Sub.cons Look.eq ?_ | refine Sub.cons (Eq.trans Look.eq (congrArg (AV.int _) (by first | omega | (dsimp only; omega)))) ?_)) ⟨hp, hps, hS⟩
      · intro c38
        refine KA.skip ?_
        refine sqQ.normal ?_
        refine KA.sub (Sub.cons (t := 0) Look.eq (Sub.cons (t := 1) Look.eq (Sub.cons (t := 5) Look.eq (Sub.cons (t := 6) Look.eq (Sub.cons (t := 8) Look.eq (Sub.cons (t := 31) Look.eq (Sub.cons (t := 32) Look.eq (Sub.cons (t := 33) Look.eq (Sub.nil _))))))))) ?_
        refine KA.seq ?_
        refine KA.region rfl ?_
        refine KOps.move ?_
        refine KOps.convU (by omega) (by omega) ?_
        refine KOps.move ?_
        refine KOps.min ?_
        rw [show min ((9 - p.sum : Nat) : Int) 4 = (((min (9 - p.sum) 4) : Nat) : Int) by omega]
        refine KOps.modN y (min (9 - p.sum) 4) rfl rfl (by omega) (by omega) ?_
        have hml := Nat.mod_lt y (show 0 < (min (9 - p.sum) 4) by omega)
        refine KOps.addN (1) (y % (min (9 - p.sum) 4)) rfl rfl (by show 1 + y % (min (9 - p.sum) 4) < 9223372036854775808; omega) ?_
        obtain ⟨n, hnn⟩ : ∃ n, n = 1 + y % (min (9 - p.sum) 4) := ⟨_, rfl⟩
        rw [← hnn]
        have hn1 : 1 ≤ n := by omega
        obtain ⟨q, hq1, hq2, hq3, hq4, hq5⟩ := bub_hps hp hn1
        have hpl := len_sum p hp.2
        have hll : (nI (p ++ [n])).length = p.length + 1 := by simp [nI]
        refine KOps.assign ?_
        refine KOps.done ?_
        refine sqQ.normal ?_
        refine KA.sub (Sub.cons (t := 0) Look.eq (Sub.cons (t := 1) Look.eq (Sub.cons (t := 5) Look.eq (Sub.cons (t := 6) Look.eq (Sub.cons (t := 9) Look.eq (Sub.cons (t := 31) Look.eq (Sub.cons (t := 32) Look.eq (Sub.cons (t := 33) Look.eq (Sub.nil _))))))))) ?_
        refine KA.seq ?_
        refine KA.region rfl ?_
        refine KOps.move ?_
        refine KOps.move ?_
        refine KOps.buildSlice hS rfl (by decide) rfl ?_
        intro v47 h' hS
        refine KOps.appendI hS (fun _ => rfl) (i := 0) rfl (by first | omega | (simp; done) | (simp; omega)) ?_
        intro r48 h' hr48 hS
        rw [natI_snoc] at hS
        simp only [List.set_cons_zero] at hS
        refine KOps.assign ?_
        refine KOps.done ?_
        refine sqQ.normal ?_
        refine KA.sub (Sub.cons (t := 0) Look.eq (Sub.cons (t := 1) Look.eq (Sub.cons (t := 5) Look.eq (Sub.cons (t := 6) Look.eq (Sub.cons (t := 9) Look.eq (Sub.cons (t := 31) Look.eq (Sub.cons (t := 32) Look.eq (Sub.cons (t := 33) Look.eq (Sub.nil _))))))))) ?_
        refine KA.seq ?_
        refine KA.region rfl ?_
        refine KOps.move ?_
        refine KOps.move ?_
        refine KOps.subN (9 - p.sum) (n) rfl rfl (by show n ≤ 9 - p.sum; omega) (by show 9 - p.sum < 9223372036854775808; omega) ?_
        refine KOps.assign ?_
        refine KOps.done ?_
        refine sqQ.normal ?_
        refine KA.sub (Sub.cons (t := 0) Look.eq (Sub.cons (t := 1) Look.eq (Sub.cons (t := 5) Look.eq (Sub.cons (t := 6) Look.eq (Sub.cons (t := 31) Look.eq (Sub.cons (t := 32) Look.eq (Sub.cons (t := 33) Look.eq (Sub.nil _)))))))) ?_
        refine KA.seq ?_
        refine KA.region rfl ?_
        refine KOps.move ?_
        refine KOps.lenI (hS.rd 0 rfl) ?_
        refine KOps.sub (by first | omega | (simp; omega)) (by first | omega | (simp; omega)) ?_
        refine KOps.assign ?_
        refine KOps.done ?_
        refine sqQ.normal ?_
        refine KA.sub (Sub.cons (t := 0) Look.eq (Sub.cons (t := 1) Look.eq (Sub.cons (t := 5) Look.eq (Sub.cons (t := 6) Look.eq (Sub.cons (t := 10) Look.eq (Sub.cons (t := 31) Look.eq (Sub.cons (t := 32) Look.eq (Sub.cons (t := 33) Look.eq (Sub.nil _))))))))) ?_
        refine KA.block ?_
        refine KA.loop (X := Nat × List Int) (fun x => [(0, v), (1, .int .u8 (c : Int)), (31, v), (32, .int .i64 (bs.length : Int)), (5, r48), (6, .int .i64 ((9 - p.sum - n : Nat) : Int)), (33, .int .i64 (i : Int)), (10, .int .i64 (x.1 : Int))]) (fun x h' => x.1 < x.2.length ∧ x.2.length ≤ 20 ∧ bub x.2 x.1 = nI q ∧ St h h' [⟨r48, 1, ints x.2, true⟩]) (fun x => x.1) (p.length, nI (p ++ [n])) (by repeat (first | exact Sub.nil _ | refine Sub.cons Look.eq ?_ | refine Sub.cons (Eq.trans Look.eq (congrArg (AV.int _) (by first | omega | (dsimp only; omega)))) ?_)) ?_ ?_
        · exact ⟨by dsimp only; omega, by dsimp only; omega, hq1, hS⟩
        rintro ⟨j, l⟩ h7 ⟨hj, hl20, hb, hS⟩
        dsimp only at hj hl20 hb hS ⊢
        refine KA.seq ?_
        refine KA.seq ?_
        refine KA.draw [] mixed rfl (by kernel_rfl) ?_
        refine KOps.move ?_
        refine KOps.gtr ?_
        refine KOps.move ?_
        refine KOps.guardB (dj := 57) rfl rfl true false rfl ?_ ?_
        · intro g57
          have g57 := of_decide_eq_true g57
          refine KOps.move ?_
          refine KOps.guardYes (dj := 57) rfl rfl ?_
          refine KOps.move ?_
          refine KOps.guardYes (dj := 57) rfl rfl ?_
          refine KOps.indexIJ (hS.rd 0 rfl) (j := j) rfl (by first | omega | (simp; done) | (simp; omega)) ?_
          intro p60 hp60
          refine KOps.guardYes (dj := 57) rfl rfl ?_
          refine KOps.loadI hp60 (hS.rd 0 rfl) (by first | omega | (simp; done) | (simp; omega)) ?_
          refine KOps.guardYes (dj := 57) rfl rfl ?_
          refine KOps.move ?_
          refine KOps.guardYes (dj := 57) rfl rfl ?_
          refine KOps.move ?_
          refine KOps.guardYes (dj := 57) rfl rfl ?_
          refine KOps.sub (by first | omega | (simp; omega)) (by first | omega | (simp; omega)) ?_
          refine KOps.guardYes (dj := 57) rfl rfl ?_
          refine KOps.indexIJ (hS.rd 0 rfl) (j := j - 1) (by first | omega | (simp; omega)) (by first | omega | (simp; done) | (simp; omega)) ?_
          intro p65 hp65
          refine KOps.guardYes (dj := 57) rfl rfl ?_
          refine KOps.loadI hp65 (hS.rd 0 rfl) (by first | omega | (simp; done) | (simp; omega)) ?_
          refine KOps.guardYes (dj := 57) rfl rfl ?_
          refine KOps.gtr ?_
          refine KOps.pickT ?_
          refine KOps.done ?_
          refine sqQ.normal ?_
          refine KA.sub (Sub.cons (t := 0) Look.eq (Sub.cons (t := 1) Look.eq (Sub.cons (t := 5) Look.eq (Sub.cons (t := 6) Look.eq (Sub.cons (t := 10) Look.eq (Sub.cons (t := 31) Look.eq (Sub.cons (t := 32) Look.eq (Sub.cons (t := 33) Look.eq (Sub.cons (t := 58) Look.eq (Sub.cons (t := 59) Look.eq (Sub.cons (t := 60) Look.eq (Sub.cons (t := 61) Look.eq (Sub.cons (t := 62) Look.eq (Sub.cons (t := 63) Look.eq (Sub.cons (t := 64) Look.eq (Sub.cons (t := 65) Look.eq (Sub.cons (t := 66) Look.eq (Sub.cons (t := 67) Look.eq (Sub.cons (t := 68) Look.eq (Sub.nil _)))))))))))))))))))) ?_
          refine KA.condD ?_ ?_
          · intro c68
            refine KA.skip ?_
            refine sqQ.normal ?_
            refine KA.sub (Sub.cons (t := 0) Look.eq (Sub.cons (t := 1) Look.eq (Sub.cons (t := 5) Look.eq (Sub.cons (t := 6) Look.eq (Sub.cons (t := 10) Look.eq (Sub.cons (t := 31) Look.eq (Sub.cons (t := 32) Look.eq (Sub.cons (t := 33) Look.eq (Sub.cons (t := 58) Look.eq (Sub.cons (t := 59) Look.eq (Sub.cons (t := 60) Look.eq (Sub.cons (t := 61) Look.eq (Sub.cons (t := 62) Look.eq (Sub.cons (t := 63) Look.eq (Sub.cons (t := 64) Look.eq (Sub.cons (t := 65) Look.eq (Sub.cons (t := 66) Look.eq (Sub.cons (t := 67) Look.eq (Sub.nil _))))))))))))))))))) ?_
            refine KA.seq ?_
            refine KA.block ?_
            refine KA.draw [] mixed rfl (by kernel_rfl) ?_
            refine KOps.move ?_
            refine KOps.move ?_
            refine KOps.move ?_
            refine KOps.move ?_
            refine KOps.sub (by first | omega | (simp; omega)) (by first | omega | (simp; omega)) ?_
            refine KOps.move ?_
            refine KOps.move ?_
            refine KOps.sub (by first | omega | (simp; omega)) (by first | omega | (simp; omega)) ?_
            refine KOps.indexIJ (hS.rd 0 rfl) (j := j - 1) (by first | omega | (simp; omega)) (by first | omega | (simp; done) | (simp; omega)) ?_
            intro p79 hp79
            refine KOps.loadI hp79 (hS.rd 0 rfl) (by first | omega | (simp; done) | (simp; omega)) ?_
            refine KOps.move ?_
            refine KOps.move ?_
            refine KOps.indexIJ (hS.rd 0 rfl) (j := j) rfl (by first | omega | (simp; done) | (simp; omega)) ?_
            intro p83 hp83
            refine KOps.loadI hp83 (hS.rd 0 rfl) (by first | omega | (simp; done) | (simp; omega)) ?_
            refine KOps.indexIJ (hS.rd 0 rfl) (j := j) rfl (by first | omega | (simp; done) | (simp; omega)) ?_
            intro p85 hp85
            refine KOps.storeI hS rfl (i := 0) rfl hp85 (by first | omega | (simp; done) | (simp; omega)) ?_
            intro h' hS
            refine KOps.indexIJ (hS.rd 0 rfl) (j := j - 1) (by first | omega | (simp; omega)) (by first | omega | (simp; done) | (simp; omega)) ?_
            intro p86 hp86
            refine KOps.storeI hS rfl (i := 0) rfl hp86 (by first | omega | (simp; done) | (simp; omega)) ?_
            intro h' hS
            refine KOps.done ?_
            refine blQ.normal ?_
            refine sqQ.normal ?_
            refine KA.sub (Sub.cons (t := 0) Look.eq (Sub.cons (t := 1) Look.eq (Sub.cons (t := 5) Look.eq (Sub.cons (t := 6) Look.eq (Sub.cons (t := 10) Look.eq (Sub.cons (t := 31) Look.eq (Sub.cons (t := 32) Look.eq (Sub.cons (t := 33) Look.eq (Sub.cons (t := 58) Look.eq (Sub.cons (t := 59) Look.eq (Sub.cons (t := 60) Look.eq (Sub.cons (t := 61) Look.eq (Sub.cons (t := 62) Look.eq (Sub.cons (t := 63) Look.eq (Sub.cons (t := 64) Look.eq (Sub.cons (t := 65) Look.eq (Sub.cons (t := 66) Look.eq (Sub.cons (t := 67) Look.eq (Sub.nil _))))))))))))))))))) ?_
            refine KA.region rfl ?_
            refine KOps.move ?_
            refine KOps.sub (by first | omega | (simp; omega)) (by first | omega | (simp; omega)) ?_
            refine KOps.assign ?_
            refine KOps.done ?_
            refine lpQ.normal (j - 1, swpI l j) (by repeat (first | exact Sub.nil _ | refine Sub.cons Look.eq ?_ | refine Sub.cons (Eq.trans Look.eq (congrArg (AV.int _) (by first | omega | (dsimp only; omega)))) ?_)) ⟨?_, ?_, ?_, hS⟩ (by dsimp only; omega)
            · dsimp only [swpI]; rw [List.length_set, List.length_set]; omega
            · dsimp only [swpI]; rw [List.length_set, List.length_set]; omega
            · dsimp only; rw [← bub_yes (by omega) c68]; exact hb
          · intro c68
            have hlr : l = nI q := by rw [← hb, bub_no (fun h => c68 h.2)]
            subst hlr
            refine KA.exit ?_
            refine sqQ.exit ?_
            refine lpQ.exit ?_
            refine blQ.here ?_
            refine blQ.normal ?_
            refine sqQ.normal ?_
            refine KA.sub (Sub.cons (t := 0) Look.eq (Sub.cons (t := 1) Look.eq (Sub.cons (t := 5) Look.eq (Sub.cons (t := 6) Look.eq (Sub.cons (t := 31) Look.eq (Sub.cons (t := 32) Look.eq (Sub.cons (t := 33) Look.eq (Sub.cons (t := 58) Look.eq (Sub.cons (t := 59) Look.eq (Sub.cons (t := 60) Look.eq (Sub.cons (t := 61) Look.eq (Sub.cons (t := 62) Look.eq (Sub.cons (t := 63) Look.eq (Sub.cons (t := 64) Look.eq (Sub.cons (t := 65) Look.eq (Sub.cons (t := 66) Look.eq (Sub.cons (t := 67) Look.eq (Sub.nil _)))))))))))))))))) ?_
            refine KA.region rfl ?_
            refine KOps.add (by first | omega | (simp; omega)) (by first | omega | (simp; omega)) ?_
            refine KOps.move ?_
            refine KOps.done ?_
            exact lpQ.normal (i + 1, r48, q) (by repeat (first | exact Sub.nil _ | refine Sub.cons Look.eq ?_ | refine Sub.cons (Eq.trans Look.eq (congrArg (AV.int _) (by first | omega | (dsimp only; omega)))) ?_)) ⟨by dsimp only; omega, hq2, by dsimp only; omega, hS⟩ (by dsimp only; omega)
        · intro g57
          have g57 := of_decide_eq_false g57
          have hlr : l = nI q := by rw [← hb, bub_no (fun h => g57 (by omega))]
          subst hlr
          refine KOps.guardNo (dj := 57) rfl rfl rfl ?_
          refine KOps.guardNo (dj := 57) rfl rfl rfl ?_
          refine KOps.guardNo (dj := 57) rfl rfl rfl ?_
          refine KOps.guardNo (dj := 57) rfl rfl rfl ?_
          refine KOps.guardNo (dj := 57) rfl rfl rfl ?_
          refine KOps.guardNo (dj := 57) rfl rfl rfl ?_
          refine KOps.guardNo (dj := 57) rfl rfl rfl ?_
          refine KOps.guardNo (dj := 57) rfl rfl rfl ?_
          refine KOps.guardNo (dj := 57) rfl rfl rfl ?_
          refine KOps.pickF ?_
          refine KOps.done ?_
          refine sqQ.normal ?_
          refine KA.sub (Sub.cons (t := 0) Look.eq (Sub.cons (t := 1) Look.eq (Sub.cons (t := 5) Look.eq (Sub.cons (t := 6) Look.eq (Sub.cons (t := 10) Look.eq (Sub.cons (t := 31) Look.eq (Sub.cons (t := 32) Look.eq (Sub.cons (t := 33) Look.eq (Sub.cons (t := 58) Look.eq (Sub.cons (t := 59) Look.eq (Sub.cons (t := 60) Look.eq (Sub.cons (t := 61) Look.eq (Sub.cons (t := 62) Look.eq (Sub.cons (t := 63) Look.eq (Sub.cons (t := 64) Look.eq (Sub.cons (t := 65) Look.eq (Sub.cons (t := 66) Look.eq (Sub.cons (t := 67) Look.eq (Sub.cons (t := 68) Look.eq (Sub.nil _)))))))))))))))))))) ?_
          refine KA.condF ?_
          refine KA.exit ?_
          refine sqQ.exit ?_
          refine lpQ.exit ?_
          refine blQ.here ?_
          refine blQ.normal ?_
          refine sqQ.normal ?_
          refine KA.sub (Sub.cons (t := 0) Look.eq (Sub.cons (t := 1) Look.eq (Sub.cons (t := 5) Look.eq (Sub.cons (t := 6) Look.eq (Sub.cons (t := 31) Look.eq (Sub.cons (t := 32) Look.eq (Sub.cons (t := 33) Look.eq (Sub.cons (t := 58) Look.eq (Sub.cons (t := 59) Look.eq (Sub.cons (t := 60) Look.eq (Sub.cons (t := 61) Look.eq (Sub.cons (t := 62) Look.eq (Sub.cons (t := 63) Look.eq (Sub.cons (t := 64) Look.eq (Sub.cons (t := 65) Look.eq (Sub.cons (t := 66) Look.eq (Sub.cons (t := 67) Look.eq (Sub.nil _)))))))))))))))))) ?_
          refine KA.region rfl ?_
          refine KOps.add (by first | omega | (simp; omega)) (by first | omega | (simp; omega)) ?_
          refine KOps.move ?_
          refine KOps.done ?_
          exact lpQ.normal (i + 1, r48, q) (by repeat (first | exact Sub.nil _ | refine Sub.cons Look.eq ?_ | refine Sub.cons (Eq.trans Look.eq (congrArg (AV.int _) (by first | omega | (dsimp only; omega)))) ?_)) ⟨by dsimp only; omega, hq2, by dsimp only; omega, hS⟩ (by dsimp only; omega)
    · intro c34
      refine KA.exit ?_
      refine sqQ.exit ?_
      refine lpQ.exit ?_
      refine blQ.here ?_
      exact mtQ.normal (vH, p) (by repeat (first | exact Sub.nil _ | refine Sub.cons Look.eq ?_ | refine Sub.cons (Eq.trans Look.eq (congrArg (AV.int _) (by first | omega | (dsimp only; omega)))) ?_)) ⟨hp, hps, hS⟩
  ·
    rintro ⟨vH, p⟩ h5 ⟨hp, hps, hS⟩
    dsimp only at hp hps hS ⊢
    have hpl := len_sum p hp.2
    refine KA.meet (X := AV × List Nat) (fun x => [(0, v), (1, .int .u8 (c : Int)), (5, x.1)]) (fun x h' => Hps x.2 ∧ x.2.sum ≤ 9 ∧ x.2 ≠ [] ∧ St h h' [⟨x.1, 1, natI x.2, true⟩]) ?_ ?_
    ·
      refine KA.seq ?_
      refine KA.region rfl ?_
      refine KOps.move ?_
      refine KOps.lenI (hS.rd 0 rfl) ?_
      refine KOps.eql ?_
      refine KOps.done ?_
      refine sqQ.normal ?_
      refine KA.sub (Sub.cons (t := 0) Look.eq (Sub.cons (t := 1) Look.eq (Sub.cons (t := 5) Look.eq (Sub.cons (t := 90) Look.eq (Sub.nil _))))) ?_
      refine KA.condD ?_ ?_
      · intro c90
        refine KA.region rfl ?_
        refine KOps.buildSlice hS rfl (by decide) rfl ?_
        intro v91 h' hS
        refine KOps.call rfl list_c ?_
        rintro w91 _ ⟨rfl, rfl⟩
        refine KOps.assign ?_
        refine KOps.done ?_
        exact mtQ.normal (_, [1]) (by repeat (first | exact Sub.nil _ | refine Sub.cons Look.eq ?_ | refine Sub.cons (Eq.trans Look.eq (congrArg (AV.int _) (by first | omega | (dsimp only; omega)))) ?_)) ⟨⟨List.pairwise_singleton _ _, fun x hx => by rw [List.mem_singleton.1 hx]; exact Nat.le_refl _⟩, (by show ([1] : List Nat).sum ≤ 9; decide), (by show ([1] : List Nat) ≠ []; decide), St.pick [0] (by decide) rfl hS⟩
      · intro c90
        refine KA.skip ?_
        exact mtQ.normal (vH, p) (by repeat (first | exact Sub.nil _ | refine Sub.cons Look.eq ?_ | refine Sub.cons (Eq.trans Look.eq (congrArg (AV.int _) (by first | omega | (dsimp only; omega)))) ?_)) ⟨hp, hps, by rintro rfl; exact c90 rfl, hS⟩
    ·
      rintro ⟨vG, p⟩ h8 ⟨hp, hps, hne, hS⟩
      dsimp only at hp hps hne hS ⊢
      have hp9 := parts9_mem hp hne hps
      obtain ⟨hc1, hc2, hc3, hc4, hl1, hl2⟩ := count9 hp9 hp hps
      refine KA.seq ?_
      refine KA.region rfl ?_
      refine KOps.move ?_
      refine KOps.call rfl (turned9_c hp9 hne (hS.rd 0 rfl)) ?_
      rintro _ h17 ⟨vT, rfl, hS17⟩
      have hS0 : St _ _ (_ :: _) := St.trans hS hS17
      clear hS
      have hS := hS0
      clear hS0
      refine KOps.move ?_
      refine KOps.extract ?_
      refine KOps.extract ?_
      refine KOps.assign ?_
      refine KOps.assign ?_
      refine KOps.done ?_
      refine sqQ.normal ?_
      refine KA.sub (Sub.cons (t := 0) Look.eq (Sub.cons (t := 1) Look.eq (Sub.cons (t := 5) Look.eq (Sub.cons (t := 11) Look.eq (Sub.cons (t := 12) Look.eq (Sub.nil _)))))) ?_
      refine KA.seq ?_
      refine KA.seq ?_
      refine KA.region rfl ?_
      refine KOps.move ?_
      refine KOps.neq ?_
      refine KOps.done ?_
      refine sqQ.normal ?_
      refine KA.sub (Sub.cons (t := 0) Look.eq (Sub.cons (t := 1) Look.eq (Sub.cons (t := 5) Look.eq (Sub.cons (t := 11) Look.eq (Sub.cons (t := 99) Look.eq (Sub.nil _)))))) ?_
      refine KA.condN ?_ ?_
      · intro c99
        refine KA.seq ?_
        refine KA.region rfl ?_
        refine KOps.assign ?_
        refine KOps.done ?_
        refine sqQ.normal ?_
        refine KA.sub (Sub.cons (t := 4) Look.eq (Sub.nil _)) ?_
        refine KA.ret ?_
        refine sqQ.ret ?_
        refine fnQ.ret1 ?_
        first | rfl | (exfalso; omega) | exact absurd rfl g199
      · intro c99
        refine KA.skip ?_
        refine sqQ.normal ?_
        refine KA.sub (Sub.cons (t := 0) Look.eq (Sub.cons (t := 1) Look.eq (Sub.cons (t := 5) Look.eq (Sub.cons (t := 11) Look.eq (Sub.nil _))))) ?_
        refine KA.seq ?_
        refine KA.region rfl ?_
        refine KOps.move ?_
        refine KOps.call rfl (count_c (l := nI p) (hS.rd 1 rfl) (by rw [nI, List.length_map]; omega)) ?_
        rintro _ h20 ⟨rfl, hS20⟩
        have hS0 : St _ _ _ := St.trans hS hS20
        clear hS
        have hS := hS0
        clear hS0
        simp only [List.nil_append] at hS
        rw [hc1, if_pos rfl]
        refine KOps.move ?_
        refine KOps.extract ?_
        refine KOps.extract ?_
        refine KOps.assign ?_
        refine KOps.assign ?_
        refine KOps.done ?_
        refine sqQ.normal ?_
        refine KA.sub (Sub.cons (t := 0) Look.eq (Sub.cons (t := 1) Look.eq (Sub.cons (t := 11) Look.eq (Sub.cons (t := 13) Look.eq (Sub.cons (t := 14) Look.eq (Sub.nil _)))))) ?_
        refine KA.seq ?_
        refine KA.region rfl ?_
        refine KOps.move ?_
        refine KOps.call rfl (count_c (l := nI (turnH p)) (hS.rd 0 rfl) (by rw [nI, List.length_map]; omega)) ?_
        rintro _ h21 ⟨rfl, hS21⟩
        have hS0 : St _ _ _ := St.trans hS hS21
        clear hS
        have hS := hS0
        clear hS0
        simp only [List.nil_append] at hS
        rw [hc2, if_pos rfl, ← hc3]
        refine KOps.move ?_
        refine KOps.extract ?_
        refine KOps.extract ?_
        refine KOps.assign ?_
        refine KOps.assign ?_
        refine KOps.done ?_
        refine sqQ.normal ?_
        refine KA.sub (Sub.cons (t := 0) Look.eq (Sub.cons (t := 1) Look.eq (Sub.cons (t := 13) Look.eq (Sub.cons (t := 14) Look.eq (Sub.cons (t := 15) Look.eq (Sub.cons (t := 16) Look.eq (Sub.nil _))))))) ?_
        refine KA.seq ?_
        refine KA.seq ?_
        refine KA.region rfl ?_
        refine KOps.move ?_
        refine KOps.neq ?_
        refine KOps.move ?_
        refine KOps.guardB (dj := 112) rfl rfl false true rfl ?_ ?_
        · intro g112
          have g112 := of_not_decide g112
          refine KOps.move ?_
          refine KOps.guardYes (dj := 112) rfl rfl ?_
          refine KOps.neq ?_
          refine KOps.pickF ?_
          refine KOps.move ?_
          refine KOps.guardB (dj := 116) rfl rfl false true rfl ?_ ?_
          · intro g116
            have g116 := of_not_decide g116
            refine KOps.move ?_
            refine KOps.guardYes (dj := 116) rfl rfl ?_
            refine KOps.move ?_
            refine KOps.guardYes (dj := 116) rfl rfl ?_
            refine KOps.neq ?_
            refine KOps.pickF ?_
            refine KOps.move ?_
            refine KOps.guardB (dj := 121) rfl rfl false true rfl ?_ ?_
            · intro g121
              have g121 := of_not_decide g121
              refine KOps.move ?_
              refine KOps.guardYes (dj := 121) rfl rfl ?_
              refine KOps.lss ?_
              refine KOps.pickF ?_
              refine KOps.done ?_
              refine sqQ.normal ?_
              refine KA.sub (Sub.cons (t := 0) Look.eq (Sub.cons (t := 1) Look.eq (Sub.cons (t := 124) Look.eq (Sub.nil _)))) ?_
              refine KA.condD ?_ ?_
              · intro c124
                refine KA.seq ?_
                refine KA.region rfl ?_
                refine KOps.assign ?_
                refine KOps.done ?_
                refine sqQ.normal ?_
                refine KA.sub (Sub.cons (t := 4) Look.eq (Sub.nil _)) ?_
                refine KA.ret ?_
                refine sqQ.ret ?_
                refine fnQ.ret1 ?_
                first | rfl | (exfalso; omega) | exact absurd rfl g199
              · intro c124
                refine KA.skip ?_
                refine sqQ.normal ?_
                refine KA.sub (Sub.cons (t := 0) Look.eq (Sub.cons (t := 1) Look.eq (Sub.nil _))) ?_
                refine KA.seq ?_
                refine KA.region rfl ?_
                refine KOps.move ?_
                refine KOps.convU (by omega) (by omega) ?_
                refine KOps.modN c 9 rfl rfl (by decide) (by omega) ?_
                refine KOps.addN (1) (c % 9) rfl rfl (by show 1 + c % 9 < 9223372036854775808; omega) ?_
                refine KOps.move ?_
                refine KOps.call rfl (mixed9_c (n := 1 + c % 9) (by omega) (Rd.ext hS.keeps hv) hbs hlen) ?_
                rintro v130 h24 ⟨pk, hpk, hS24⟩
                have hS0 : St _ _ (_ :: _) := St.trans hS hS24
                clear hS
                have hS := hS0
                clear hS0
                obtain ⟨hpI, hpkl⟩ := nI_pack hpk
                have hlk : (nI pk).length = pk.length := by rw [nI, List.length_map]
                obtain ⟨hsp, hsn, hsr, hpr, hch, hcr, hna, hnb⟩ := shape_rev hpI (by omega) (by omega)
                have hnt : (turnH (shpN (insAll (nI pk)))).length ≤ 9 := by rw [← hsr, shpN, List.length_map]; exact hnb
                have hpa := insAll_pack hpI
                have hpb := insAll_pack hpr
                refine KOps.assign ?_
                refine KOps.done ?_
                refine sqQ.normal ?_
                refine KA.sub (Sub.cons (t := 17) Look.eq (Sub.nil _)) ?_
                refine KA.seq ?_
                refine KA.region rfl ?_
                refine KOps.assign ?_
                refine KOps.done ?_
                refine sqQ.normal ?_
                refine KA.seq ?_
                refine KA.seq ?_
                refine KA.region rfl ?_
                refine KOps.move ?_
                refine KOps.lenI (hS.rd 0 rfl) ?_
                refine KOps.sub (by first | omega | (simp; omega)) (by first | omega | (simp; omega)) ?_
                refine KOps.assign ?_
                refine KOps.done ?_
                refine sqQ.normal ?_
                refine KA.sub (Sub.cons (t := 17) Look.eq (Sub.cons (t := 18) Look.eq (Sub.cons (t := 19) Look.eq (Sub.nil _)))) ?_
                refine KA.block ?_
                refine KA.loop (X := Nat × AV) (fun x => [(17, v130), (18, x.2), (19, .int .i64 ((x.1 : Int) - 1))]) (fun x h' => x.1 ≤ pk.length ∧ St h h' [⟨x.2, 1, ints (((nI pk).drop x.1).reverse), true⟩, ⟨v130, 1, natI pk, true⟩]) (fun x => x.1) (pk.length, .nils) (by repeat (first | exact Sub.nil _ | refine Sub.cons Look.eq ?_ | refine Sub.cons (Eq.trans Look.eq (congrArg (AV.int _) (by first | omega | (dsimp only; omega)))) ?_)) ?_ ?_
                · exact ⟨Nat.le_refl _, by dsimp only; rw [List.drop_eq_nil_of_le (by omega)]; exact St.nil (St.pick [0] (by decide) rfl hS) 1⟩
                rintro ⟨k, vD⟩ h7 ⟨hk, hS⟩
                dsimp only at hk hS ⊢
                refine KA.seq ?_
                refine KA.seq ?_
                refine KA.region rfl ?_
                refine KOps.move ?_
                refine KOps.geq ?_
                refine KOps.done ?_
                refine sqQ.normal ?_
                refine KA.sub (Sub.cons (t := 17) Look.eq (Sub.cons (t := 18) Look.eq (Sub.cons (t := 19) Look.eq (Sub.cons (t := 135) Look.eq (Sub.nil _))))) ?_
                refine KA.condD ?_ ?_
                · intro c135
                  refine KA.skip ?_
                  refine sqQ.normal ?_
                  refine KA.sub (Sub.cons (t := 17) Look.eq (Sub.cons (t := 18) Look.eq (Sub.cons (t := 19) Look.eq (Sub.nil _)))) ?_
                  refine KA.seq ?_
                  refine KA.block ?_
                  refine KA.region rfl ?_
                  refine KOps.move ?_
                  refine KOps.move ?_
                  refine KOps.move ?_
                  refine KOps.indexIJ (hS.rd 1 rfl) (j := k - 1) (by first | omega | (simp; omega)) (by first | omega | (simp; done) | (simp; omega)) ?_
                  intro p141 hp141
                  refine KOps.loadI hp141 (hS.rd 1 rfl) (by first | omega | (simp; done) | (simp; omega)) ?_
                  refine KOps.buildSlice hS rfl (by decide) rfl ?_
                  intro v143 h' hS
                  refine KOps.appendI hS (fun _ => rfl) (i := 0) rfl (by first | omega | (simp; done) | (simp; omega)) ?_
                  intro r144 h' hr144 hS
                  simp only [List.set_cons_zero] at hS
                  rw [drop_rev (by omega) (by omega)] at hS
                  refine KOps.assign ?_
                  refine KOps.done ?_
                  refine blQ.normal ?_
                  refine sqQ.normal ?_
                  refine KA.sub (Sub.cons (t := 17) Look.eq (Sub.cons (t := 18) Look.eq (Sub.cons (t := 19) Look.eq (Sub.nil _)))) ?_
                  refine KA.region rfl ?_
                  refine KOps.move ?_
                  refine KOps.sub (by first | omega | (simp; omega)) (by first | omega | (simp; omega)) ?_
                  refine KOps.assign ?_
                  refine KOps.done ?_
                  exact lpQ.normal (k - 1, r144) (by repeat (first | exact Sub.nil _ | refine Sub.cons Look.eq ?_ | refine Sub.cons (Eq.trans Look.eq (congrArg (AV.int _) (by first | omega | (dsimp only; omega)))) ?_)) ⟨by dsimp only; omega, hS⟩ (by dsimp only; omega)
                · intro c135
                  obtain rfl : k = 0 := by omega
                  rw [List.drop_zero] at hS
                  refine KA.exit ?_
                  refine sqQ.exit ?_
                  refine lpQ.exit ?_
                  refine blQ.here ?_
                  refine sqQ.normal ?_
                  refine KA.sub (Sub.cons (t := 17) Look.eq (Sub.cons (t := 18) Look.eq (Sub.nil _))) ?_
                  refine KA.seq ?_
                  refine KA.region rfl ?_
                  refine KOps.move ?_
                  refine KOps.call rfl (tables_c (l := (nI pk)) (hS.rd 1 rfl)) ?_
                  rintro _ h30 ⟨vo1, vs1, vo2, vs2, rfl, hl3, hl4, hS30⟩
                  rw [okE_yes hch] at hl3 hl4 hS30
                  rw [okE_yes hch] at hS30
                  rw [hch]
                  have hA : Mat h30 vo1 (insAll (nI pk)) := St.mat (pre := []) hl3 hS30
                  have hS0 : St _ _ (_ :: _) := St.trans hS (St.ofK hS30.keeps)
                  clear hS
                  have hS := hS0
                  clear hS0
                  refine KOps.move ?_
                  refine KOps.extract ?_
                  refine KOps.extract ?_
                  refine KOps.extract ?_
                  refine KOps.assign ?_
                  refine KOps.assign ?_
                  refine KOps.assign ?_
                  refine KOps.done ?_
                  refine sqQ.normal ?_
                  refine KA.sub (Sub.cons (t := 12) Look.eq (Sub.cons (t := 18) Look.eq (Sub.cons (t := 20) Look.eq (Sub.nil _)))) ?_
                  refine KA.seq ?_
                  refine KA.region rfl ?_
                  refine KOps.move ?_
                  refine KOps.call rfl (tables_c (l := (nI pk).reverse) (hS.rd 0 rfl)) ?_
                  rintro _ h31 ⟨wo1, ws1, wo2, ws2, rfl, hl5, hl6, hS31⟩
                  rw [okE_yes hcr] at hl5 hl6 hS31
                  rw [okE_yes hcr] at hS31
                  rw [hcr]
                  have hC : Mat h31 wo1 (insAll (nI pk).reverse) := St.mat (pre := []) hl5 hS31
                  have hA := hA.ext hS31.keeps
                  have hS0 : St _ _ (_ :: _) := St.trans hS (St.ofK hS31.keeps)
                  have hT31 : Tabs h31 := hT.ext hS0.keeps
                  clear hS hS0
                  have hS := St.refl h31
                  obtain ⟨us, hA0, hA1, hA2⟩ := hA
                  obtain ⟨ws, hC0, hC1, hC2⟩ := hC
                  refine KOps.move ?_
                  refine KOps.extract ?_
                  refine KOps.extract ?_
                  refine KOps.extract ?_
                  refine KOps.assign ?_
                  refine KOps.assign ?_
                  refine KOps.assign ?_
                  refine KOps.done ?_
                  refine sqQ.normal ?_
                  refine KA.sub (Sub.cons (t := 12) Look.eq (Sub.cons (t := 14) Look.eq (Sub.cons (t := 20) Look.eq (Sub.cons (t := 22) Look.eq (Sub.nil _))))) ?_
                  refine KA.seq ?_
                  refine KA.seq ?_
                  refine KA.region rfl ?_
                  refine KOps.move ?_
                  refine KOps.neq ?_
                  refine KOps.move ?_
                  refine KOps.guardB (dj := 159) rfl rfl false true rfl ?_ ?_
                  · intro g159
                    have g159 := of_not_decide g159
                    refine KOps.move ?_
                    refine KOps.guardYes (dj := 159) rfl rfl ?_
                    refine KOps.neq ?_
                    refine KOps.pickF ?_
                    refine KOps.done ?_
                    refine sqQ.normal ?_
                    refine KA.sub (Sub.cons (t := 20) Look.eq (Sub.cons (t := 22) Look.eq (Sub.cons (t := 162) Look.eq (Sub.nil _)))) ?_
                    refine KA.condN ?_ ?_
                    · intro c162
                      refine KA.seq ?_
                      refine KA.region rfl ?_
                      refine KOps.assign ?_
                      refine KOps.done ?_
                      refine sqQ.normal ?_
                      refine KA.sub (Sub.cons (t := 4) Look.eq (Sub.nil _)) ?_
                      refine KA.ret ?_
                      refine sqQ.ret ?_
                      refine fnQ.ret1 ?_
                      first | rfl | (exfalso; omega) | exact absurd rfl g199
                    · intro c162
                      refine KA.skip ?_
                      refine sqQ.normal ?_
                      refine KA.sub (Sub.cons (t := 20) Look.eq (Sub.cons (t := 22) Look.eq (Sub.nil _))) ?_
                      refine KA.seq ?_
                      refine KA.region rfl ?_
                      refine KOps.assign ?_
                      refine KOps.assign ?_
                      refine KOps.done ?_
                      refine sqQ.normal ?_
                      refine KA.seq ?_
                      refine KA.seq ?_
                      refine KA.region rfl ?_
                      refine KOps.move ?_
                      refine KOps.lenV (Rd.ext hS.keeps hA0) ?_
                      refine KOps.move ?_
                      refine KOps.done ?_
                      refine sqQ.normal ?_
                      refine KA.sub (Sub.cons (t := 22) Look.eq (Sub.cons (t := 24) Look.eq (Sub.cons (t := 25) Look.eq (Sub.cons (t := 163) Look.eq (Sub.cons (t := 164) Look.eq (Sub.cons (t := 165) Look.eq (Sub.nil _))))))) ?_
                      refine KA.block ?_
                      refine KA.loop (X := Nat × AV) (fun x => [(22, wo1), (25, .nils), (24, x.2), (163, vo1), (164, .int .i64 ((insAll (nI pk)).length : Int)), (165, .int .i64 (x.1 : Int))]) (fun x h' => x.1 ≤ (insAll (nI pk)).length ∧ St h31 h' [⟨x.2, 1, ints (rowLens ((insAll (nI pk)).take x.1)), true⟩]) (fun x => (insAll (nI pk)).length - x.1) (0, .nils) (by repeat (first | exact Sub.nil _ | refine Sub.cons Look.eq ?_ | refine Sub.cons (Eq.trans Look.eq (congrArg (AV.int _) (by first | omega | (dsimp only; omega)))) ?_)) ?_ ?_
                      · exact ⟨Nat.zero_le _, hS.nil 1⟩
                      rintro ⟨i, vs⟩ h9 ⟨hi, hS⟩
                      dsimp only at hi hS ⊢
                      have hrl := rowLens_len ((insAll (nI pk)).take i)
                      rw [List.length_take] at hrl
                      refine KA.seq ?_
                      refine KA.region rfl ?_
                      refine KOps.lss ?_
                      refine KOps.done ?_
                      refine sqQ.normal ?_
                      refine KA.seq ?_
                      refine KA.condD ?_ ?_
                      · intro c166
                        have hri := Row.ext hS.keeps (hA2 i (by omega))
                        refine KA.skip ?_
                        refine sqQ.normal ?_
                        refine KA.sub (Sub.cons (t := 22) Look.eq (Sub.cons (t := 24) Look.eq (Sub.cons (t := 25) Look.eq (Sub.cons (t := 163) Look.eq (Sub.cons (t := 164) Look.eq (Sub.cons (t := 165) Look.eq (Sub.nil _))))))) ?_
                        refine KA.seq ?_
                        refine KA.block ?_
                        refine KA.seq ?_
                        refine KA.region rfl ?_
                        refine KOps.indexVJ (Rd.ext hS.keeps hA0) (j := i) rfl (by first | omega | (simp; done) | (simp; omega)) ?_
                        intro p167 hp167
                        refine KOps.loadV hp167 (Rd.ext hS.keeps hA0) (by first | omega | (simp; done) | (simp; omega)) ?_
                        refine KOps.assign ?_
                        refine KOps.done ?_
                        refine sqQ.normal ?_
                        refine KA.sub (Sub.cons (t := 22) Look.eq (Sub.cons (t := 24) Look.eq (Sub.cons (t := 25) Look.eq (Sub.cons (t := 27) Look.eq (Sub.cons (t := 163) Look.eq (Sub.cons (t := 164) Look.eq (Sub.cons (t := 165) Look.eq (Sub.nil _)))))))) ?_
                        refine KA.region rfl ?_
                        refine KOps.move ?_
                        refine KOps.move ?_
                        refine KOps.lenI (by first | assumption | exact Rd.ext hS.keeps (by assumption)) ?_
                        refine KOps.buildSlice hS rfl (by decide) rfl ?_
                        intro v172 h' hS
                        refine KOps.appendI hS (fun _ => rfl) (i := 0) rfl (by first | omega | (simp; done) | (simp; omega)) ?_
                        intro r173 h' hr173 hS
                        refine KOps.assign ?_
                        refine KOps.done ?_
                        refine blQ.normal ?_
                        refine sqQ.normal ?_
                        refine KA.sub (Sub.cons (t := 22) Look.eq (Sub.cons (t := 24) Look.eq (Sub.cons (t := 25) Look.eq (Sub.cons (t := 163) Look.eq (Sub.cons (t := 164) Look.eq (Sub.cons (t := 165) Look.eq (Sub.nil _))))))) ?_
                        refine KA.region rfl ?_
                        refine KOps.add (by first | omega | (simp; omega)) (by first | omega | (simp; omega)) ?_
                        refine KOps.move ?_
                        refine KOps.done ?_
                        rw [← rowLens_take (by omega)] at hS
                        exact lpQ.normal (i + 1, r173) (by repeat (first | exact Sub.nil _ | refine Sub.cons Look.eq ?_ | refine Sub.cons (Eq.trans Look.eq (congrArg (AV.int _) (by first | omega | (dsimp only; omega)))) ?_)) ⟨by dsimp only; omega, hS⟩ (by dsimp only; omega)
                      · intro c166
                        obtain rfl : i = (insAll (nI pk)).length := by omega
                        rw [List.take_length, ← shpN_lens] at hS
                        refine KA.exit ?_
                        refine sqQ.exit ?_
                        refine lpQ.exit ?_
                        refine blQ.here ?_
                        refine sqQ.normal ?_
                        refine KA.sub (Sub.cons (t := 22) Look.eq (Sub.cons (t := 24) Look.eq (Sub.cons (t := 25) Look.eq (Sub.nil _)))) ?_
                        refine KA.seq ?_
                        refine KA.seq ?_
                        refine KA.region rfl ?_
                        refine KOps.move ?_
                        refine KOps.lenV (Rd.ext hS.keeps hC0) ?_
                        refine KOps.move ?_
                        refine KOps.done ?_
                        refine sqQ.normal ?_
                        refine KA.sub (Sub.cons (t := 24) Look.eq (Sub.cons (t := 25) Look.eq (Sub.cons (t := 175) Look.eq (Sub.cons (t := 176) Look.eq (Sub.cons (t := 177) Look.eq (Sub.nil _)))))) ?_
                        refine KA.block ?_
                        refine KA.loop (X := Nat × AV) (fun x => [(24, vs), (25, x.2), (175, wo1), (176, .int .i64 ((insAll (nI pk).reverse).length : Int)), (177, .int .i64 (x.1 : Int))]) (fun x h' => x.1 ≤ (insAll (nI pk).reverse).length ∧ St h31 h' [⟨x.2, 1, ints (rowLens ((insAll (nI pk).reverse).take x.1)), true⟩, ⟨vs, 1, natI (shpN (insAll (nI pk))), true⟩]) (fun x => (insAll (nI pk).reverse).length - x.1) (0, .nils) (by repeat (first | exact Sub.nil _ | refine Sub.cons Look.eq ?_ | refine Sub.cons (Eq.trans Look.eq (congrArg (AV.int _) (by first | omega | (dsimp only; omega)))) ?_)) ?_ ?_
                        · exact ⟨Nat.zero_le _, hS.nil 1⟩
                        rintro ⟨i, vt⟩ h9 ⟨hi, hS⟩
                        dsimp only at hi hS ⊢
                        have hrl := rowLens_len ((insAll (nI pk).reverse).take i)
                        rw [List.length_take] at hrl
                        refine KA.seq ?_
                        refine KA.region rfl ?_
                        refine KOps.lss ?_
                        refine KOps.done ?_
                        refine sqQ.normal ?_
                        refine KA.seq ?_
                        refine KA.condD ?_ ?_
                        · intro c178
                          have hri := Row.ext hS.keeps (hC2 i (by omega))
                          refine KA.skip ?_
                          refine sqQ.normal ?_
                          refine KA.sub (Sub.cons (t := 24) Look.eq (Sub.cons (t := 25) Look.eq (Sub.cons (t := 175) Look.eq (Sub.cons (t := 176) Look.eq (Sub.cons (t := 177) Look.eq (Sub.nil _)))))) ?_
                          refine KA.seq ?_
                          refine KA.block ?_
                          refine KA.seq ?_
                          refine KA.region rfl ?_
                          refine KOps.indexVJ (Rd.ext hS.keeps hC0) (j := i) rfl (by first | omega | (simp; done) | (simp; omega)) ?_
                          intro p179 hp179
                          refine KOps.loadV hp179 (Rd.ext hS.keeps hC0) (by first | omega | (simp; done) | (simp; omega)) ?_
                          refine KOps.assign ?_
                          refine KOps.done ?_
                          refine sqQ.normal ?_
                          refine KA.sub (Sub.cons (t := 24) Look.eq (Sub.cons (t := 25) Look.eq (Sub.cons (t := 29) Look.eq (Sub.cons (t := 175) Look.eq (Sub.cons (t := 176) Look.eq (Sub.cons (t := 177) Look.eq (Sub.nil _))))))) ?_
                          refine KA.region rfl ?_
                          refine KOps.move ?_
                          refine KOps.move ?_
                          refine KOps.lenI (by first | assumption | exact Rd.ext hS.keeps (by assumption)) ?_
                          refine KOps.buildSlice hS rfl (by decide) rfl ?_
                          intro v184 h' hS
                          refine KOps.appendI hS (fun _ => rfl) (i := 0) rfl (by first | omega | (simp; done) | (simp; omega)) ?_
                          intro r185 h' hr185 hS
                          refine KOps.assign ?_
                          refine KOps.done ?_
                          refine blQ.normal ?_
                          refine sqQ.normal ?_
                          refine KA.sub (Sub.cons (t := 24) Look.eq (Sub.cons (t := 25) Look.eq (Sub.cons (t := 175) Look.eq (Sub.cons (t := 176) Look.eq (Sub.cons (t := 177) Look.eq (Sub.nil _)))))) ?_
                          refine KA.region rfl ?_
                          refine KOps.add (by first | omega | (simp; omega)) (by first | omega | (simp; omega)) ?_
                          refine KOps.move ?_
                          refine KOps.done ?_
                          rw [← rowLens_take (by omega)] at hS
                          exact lpQ.normal (i + 1, r185) (by repeat (first | exact Sub.nil _ | refine Sub.cons Look.eq ?_ | refine Sub.cons (Eq.trans Look.eq (congrArg (AV.int _) (by first | omega | (dsimp only; omega)))) ?_)) ⟨by dsimp only; omega, hS⟩ (by dsimp only; omega)
                        · intro c178
                          obtain rfl : i = (insAll (nI pk).reverse).length := by omega
                          rw [List.take_length, ← shpN_lens, hsr] at hS
                          refine KA.exit ?_
                          refine sqQ.exit ?_
                          refine lpQ.exit ?_
                          refine blQ.here ?_
                          refine sqQ.normal ?_
                          refine KA.sub (Sub.cons (t := 24) Look.eq (Sub.cons (t := 25) Look.eq (Sub.nil _))) ?_
                          refine KA.seq ?_
                          refine KA.region rfl ?_
                          refine KOps.move ?_
                          refine KOps.call rfl (turned9_c hsp hsn (hS.rd 1 rfl)) ?_
                          rintro _ h45 ⟨vU, rfl, hS45⟩
                          have hS0 : St _ _ (_ :: _) := St.trans hS hS45
                          clear hS
                          have hS := hS0
                          clear hS0
                          refine KOps.move ?_
                          refine KOps.extract ?_
                          refine KOps.extract ?_
                          refine KOps.assign ?_
                          refine KOps.assign ?_
                          refine KOps.done ?_
                          refine sqQ.normal ?_
                          refine KA.sub (Sub.cons (t := 16) Look.eq (Sub.cons (t := 25) Look.eq (Sub.cons (t := 30) Look.eq (Sub.nil _)))) ?_
                          refine KA.seq ?_
                          refine KA.region rfl ?_
                          refine KOps.move ?_
                          refine KOps.eql ?_
                          refine KOps.move ?_
                          refine KOps.guardB (dj := 194) rfl rfl true false rfl ?_ ?_
                          · intro g194
                            have g194 := of_decide_eq_true g194
                            refine KOps.move ?_
                            refine KOps.guardYes (dj := 194) rfl rfl ?_
                            refine KOps.move ?_
                            refine KOps.guardYes (dj := 194) rfl rfl ?_
                            refine KOps.call rfl (same_c (hS.rd 0 rfl) (hS.rd 1 rfl) (by rw [nI, List.length_map]; omega)) ?_
                            rintro _ _ ⟨rfl, rfl⟩
                            refine KOps.pickT ?_
                            refine KOps.move ?_
                            refine KOps.guardB (dj := 199) rfl rfl true false rfl ?_ ?_
                            · intro g199
                              have g199 := of_decide_eq_true g199
                              refine KOps.call rfl (pileWorks_c (hT31.ext hS.keeps)) ?_
                              rintro _ hx ⟨rfl, hK⟩
                              have hS0 : St _ _ _ := St.trans hS (St.ofK hK)
                              clear hS
                              have hS := hS0
                              clear hS0
                              simp only [List.nil_append] at hS
                              refine KOps.pickT ?_
                              refine KOps.assign ?_
                              refine KOps.done ?_
                              refine sqQ.normal ?_
                              refine KA.sub (Sub.cons (t := 4) Look.eq (Sub.nil _)) ?_
                              refine KA.ret ?_
                              refine fnQ.ret1 ?_
                              first | rfl | (exfalso; omega) | exact absurd rfl g199
                            · intro g199
                              have g199 := of_decide_eq_false g199
                              refine KOps.pickF ?_
                              refine KOps.assign ?_
                              refine KOps.done ?_
                              refine sqQ.normal ?_
                              refine KA.sub (Sub.cons (t := 4) Look.eq (Sub.nil _)) ?_
                              refine KA.ret ?_
                              refine fnQ.ret1 ?_
                              first | rfl | (exfalso; omega) | exact absurd rfl g199
                          · intro g194
                            have g194 := of_decide_eq_false g194
                            refine KOps.guardNo (dj := 194) rfl rfl rfl ?_
                            refine KOps.guardNo (dj := 194) rfl rfl rfl ?_
                            refine KOps.pickF ?_
                            refine KOps.move ?_
                            refine KOps.guardNo (dj := 199) rfl rfl rfl ?_
                            refine KOps.pickF ?_
                            refine KOps.assign ?_
                            refine KOps.done ?_
                            refine sqQ.normal ?_
                            refine KA.sub (Sub.cons (t := 4) Look.eq (Sub.nil _)) ?_
                            refine KA.ret ?_
                            refine fnQ.ret1 ?_
                            first | rfl | (exfalso; omega) | exact absurd rfl g199
                  · intro g159
                    have g159 := not_of_not_decide g159
                    refine KOps.guardNo (dj := 159) rfl rfl rfl ?_
                    refine KOps.pickT ?_
                    refine KOps.done ?_
                    refine sqQ.normal ?_
                    refine KA.sub (Sub.cons (t := 20) Look.eq (Sub.cons (t := 22) Look.eq (Sub.cons (t := 162) Look.eq (Sub.nil _)))) ?_
                    refine KA.condT ?_
                    refine KA.seq ?_
                    refine KA.region rfl ?_
                    refine KOps.assign ?_
                    refine KOps.done ?_
                    refine sqQ.normal ?_
                    refine KA.sub (Sub.cons (t := 4) Look.eq (Sub.nil _)) ?_
                    refine KA.ret ?_
                    refine sqQ.ret ?_
                    refine fnQ.ret1 ?_
                    first | rfl | (exfalso; omega) | exact absurd rfl g199
            · intro g121
              have g121 := not_of_not_decide g121
              refine KOps.guardNo (dj := 121) rfl rfl rfl ?_
              refine KOps.pickT ?_
              refine KOps.done ?_
              refine sqQ.normal ?_
              refine KA.sub (Sub.cons (t := 0) Look.eq (Sub.cons (t := 1) Look.eq (Sub.cons (t := 124) Look.eq (Sub.nil _)))) ?_
              refine KA.condT ?_
              refine KA.seq ?_
              refine KA.region rfl ?_
              refine KOps.assign ?_
              refine KOps.done ?_
              refine sqQ.normal ?_
              refine KA.sub (Sub.cons (t := 4) Look.eq (Sub.nil _)) ?_
              refine KA.ret ?_
              refine sqQ.ret ?_
              refine fnQ.ret1 ?_
              first | rfl | (exfalso; omega) | exact absurd rfl g199
          · intro g116
            have g116 := not_of_not_decide g116
            refine KOps.guardNo (dj := 116) rfl rfl rfl ?_
            refine KOps.guardNo (dj := 116) rfl rfl rfl ?_
            refine KOps.pickT ?_
            refine KOps.move ?_
            refine KOps.guardNo (dj := 121) rfl rfl rfl ?_
            refine KOps.guardNo (dj := 121) rfl rfl rfl ?_
            refine KOps.pickT ?_
            refine KOps.done ?_
            refine sqQ.normal ?_
            refine KA.sub (Sub.cons (t := 0) Look.eq (Sub.cons (t := 1) Look.eq (Sub.cons (t := 124) Look.eq (Sub.nil _)))) ?_
            refine KA.condT ?_
            refine KA.seq ?_
            refine KA.region rfl ?_
            refine KOps.assign ?_
            refine KOps.done ?_
            refine sqQ.normal ?_
            refine KA.sub (Sub.cons (t := 4) Look.eq (Sub.nil _)) ?_
            refine KA.ret ?_
            refine sqQ.ret ?_
            refine fnQ.ret1 ?_
            first | rfl | (exfalso; omega) | exact absurd rfl g199
        · intro g112
          have g112 := not_of_not_decide g112
          refine KOps.guardNo (dj := 112) rfl rfl rfl ?_
          refine KOps.pickT ?_
          refine KOps.move ?_
          refine KOps.guardNo (dj := 116) rfl rfl rfl ?_
          refine KOps.guardNo (dj := 116) rfl rfl rfl ?_
          refine KOps.guardNo (dj := 116) rfl rfl rfl ?_
          refine KOps.pickT ?_
          refine KOps.move ?_
          refine KOps.guardNo (dj := 121) rfl rfl rfl ?_
          refine KOps.guardNo (dj := 121) rfl rfl rfl ?_
          refine KOps.pickT ?_
          refine KOps.done ?_
          refine sqQ.normal ?_
          refine KA.sub (Sub.cons (t := 0) Look.eq (Sub.cons (t := 1) Look.eq (Sub.cons (t := 124) Look.eq (Sub.nil _)))) ?_
          refine KA.condT ?_
          refine KA.seq ?_
          refine KA.region rfl ?_
          refine KOps.assign ?_
          refine KOps.done ?_
          refine sqQ.normal ?_
          refine KA.sub (Sub.cons (t := 4) Look.eq (Sub.nil _)) ?_
          refine KA.ret ?_
          refine sqQ.ret ?_
          refine fnQ.ret1 ?_
          first | rfl | (exfalso; omega) | exact absurd rfl g199

theorem law_hooked_i {h : AHeap} {v : AV} {c : Int} {bs : List Int} (hv : Rd h v 1 (bs.map (AV.int .u8))) (hbs : ∀ x ∈ bs, 0 ≤ x ∧ x ≤ 255) (hlen : (bs.map (AV.int .u8)).length ≤ 9223372036854775807) (h0 : 0 ≤ c) (h1 : c ≤ 255) (hT : Tabs h) : ACalls Go.Proofs.Tryz.prog 4 [v, .int .u8 c] h (fun q _ => q = .bool true) := by
  obtain ⟨c, rfl⟩ := Int.eq_ofNat_of_zero_le h0
  rw [List.length_map] at hlen
  exact law_hooked (by omega) hv hbs hlen hT
theorem vrel_len {φ : Emb} {h : AHeap} {v : AV} {u : Value} {xs : List AV} (hv : VRel φ v u) (hr : Rd h v 1 xs) : xs.length ≤ 9223372036854775807 := by
  rcases hr with ⟨rfl, rfl⟩ | ⟨b, o, F, p, cs, hw, _, _, _⟩ | ⟨b, F, x, _, h0, _⟩
  · exact Nat.zero_le _
  · rcases hw with ⟨n, full, rfl, hl, _⟩ | ⟨h0, _⟩
    · cases hv with
      | slc _ _ _ _ _ a c hn hc hf hh =>
        have hm : maxLen ≤ 9223372036854775807 := by decide
        omega
    · cases h0
  · cases h0

end Go.Am
