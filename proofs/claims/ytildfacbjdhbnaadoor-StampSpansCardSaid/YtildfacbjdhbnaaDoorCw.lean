/-
  Layer 01: the reference: another flow: contract.
  Conditions: none.
-/
import Derived.Test.YtildfacbjdhbnaaDoorCs
namespace Go.Am
theorem fix_B {rm : Int} {ws : List W} {l : List Int} {i : Nat} {v : Int} (hB : BOk rm ws) (hf : Flow ws l) (hi : i < ws.length) (h1 : l.getD i 0 < v) (h2 : v ≤ (ws.getD i default).m) : BOk rm (withW (fixTo ws l i) i v) := by
  have hw := hf.toWithin
  have hlo := hw.lo i hi
  exact (fixTo_ok hB hw (i := i) (by omega)).withW (v := v) (by rw [fixTo_len]; exact hi) (by rw [fixTo_get (by omega) i (Nat.le_refl _)]; omega) (by rw [fixTo_get (by omega) i (Nat.le_refl _)]; exact h2)
theorem fix_first {rm : Int} {ws : List W} {l : List Int} {i : Nat} {v : Int} (hB : BOk rm ws) (hf : Flow ws l) (hi : i < ws.length) (h1 : l.getD i 0 < v) (h2 : v ≤ (ws.getD i default).m) (h : canB rm.toNat (withW (fixTo ws l i) i v) = true) : LexMin (withW (fixTo ws l i) i v) (firstOf (withW (fixTo ws l i) i v)) := by
  have hlo := hf.lo i hi
  obtain ⟨m, ha, hb, hc⟩ := (can_up hB hf hi h1 h2).1 h
  exact firstOf_is ⟨m, (fix_up hf.toWithin hi (by omega) h2).2 ⟨⟨ha, hb⟩, hc⟩⟩
theorem up_of_can {rm : Int} {ws : List W} {l : List Int} {i : Nat} {v : Int} (hB : BOk rm ws) (hf : Flow ws l) (hi : i < ws.length) (h1 : l.getD i 0 < v) (h2 : v ≤ (ws.getD i default).m) (h : canB rm.toNat (withW (fixTo ws l i) i v) = true) : Up ws l i := by
  obtain ⟨m, ha, hb, hc⟩ := (can_up hB hf hi h1 h2).1 h
  exact ⟨m, ha, hb, by omega⟩
theorem no_up_can {rm : Int} {ws : List W} {l : List Int} {i : Nat} (hB : BOk rm ws) (hf : Flow ws l) (hi : i < ws.length) (h2 : l.getD i 0 + 1 ≤ (ws.getD i default).m) (h : canB rm.toNat (withW (fixTo ws l i) i (l.getD i 0 + 1)) = false) : ¬ Up ws l i := by
  intro hu
  have hr : InR ((rm.toNat : Nat) : Int) ws := by
    have := hB.r2
    rw [show ((rm.toNat : Nat) : Int) = rm by omega]
    exact hB.inR
  obtain ⟨m, ha, hb, hc⟩ := up_one hr hf hi hu
  rw [(can_up hB hf hi (by omega) h2).2 ⟨m, ha, hb, hc⟩] at h
  cases h
theorem verE_ok {rm : Int} {ws : List W} {l : List Int} (h : verE rm ws l = 0) : BOk rm ws ∧ Flow ws l ∧ agreeE rm ws = 0 ∧ LexMin ws (firstOf ws) := by
  obtain ⟨hB, hlf⟩ := verE_flow h
  refine ⟨hB, hlf, agree_flow ?_ hlf, firstOf_is ⟨l, hlf⟩⟩
  unfold verE at h
  by_cases h1 : chkB rm ws = 0
  · exact h1
  · rw [if_pos h1] at h; exact h

theorem refOther_c {h : AHeap} {rm : Int} {vW vn : AV} {ws : List W} {l : List Int} (hv : Rd h vW 4 (flr wc ws)) (hn : Row h vn l) : ACalls Go.Proofs.Tryd.prog 28 [.agg [.int .i64 rm, vW], vn] h (fun q h' => ∃ vo, q = .tup [vo, .int .i64 (otherE rm ws l)] ∧ St h h' [⟨vo, 1, ints (otherL rm ws l), true⟩]) := by
  refine KA.fn 69 [.tmp 4, .tmp 5] Go.Proofs.Tryd.func28 rfl (by decide) rfl rfl (Nat.le_of_ble_eq_true rfl) ?_
  have hS := St.refl h
  have hvo : vW.one = true := hv.one
  have hno : vn.one = true := hn.one
  show KA _ 69 _ _ [(0, .agg [.int .i64 rm, vW]), (1, vn)] _
  refine KA.seq ?_
  refine KA.region rfl ?_
  refine KOps.boxAll hS (by first | rfl | (simp [AV.one]; done) | (simp [AV.one]; assumption) | (simp [AV.one, *]; done)) ?_
  intro p2 h' hp2 hS
  refine KOps.assign ?_
  refine KOps.assign ?_
  refine KOps.done ?_
  refine sqQ.normal ?_
  refine KA.sub (Sub.cons (t := 1) Look.eq (Sub.cons (t := 2) Look.eq (Sub.nil _))) ?_
  refine KA.seq ?_
  refine KA.region rfl ?_
  refine KOps.loadAll hS (i := 0) rfl hp2 (by rfl) (by decide) ?_
  refine KOps.move ?_
  refine KOps.call rfl (refVerify_c (Rd.ext hS.keeps hv) (Row.ext hS.keeps hn)) ?_
  rintro _ h5 ⟨rfl, hK⟩
  have hS0 : St _ _ (_ :: _) := St.trans hS (St.ofK hK)
  clear hS
  have hS := hS0
  clear hS0
  refine KOps.assign ?_
  refine KOps.done ?_
  refine sqQ.normal ?_
  refine KA.sub (Sub.cons (t := 1) Look.eq (Sub.cons (t := 2) Look.eq (Sub.cons (t := 6) Look.eq (Sub.nil _)))) ?_
  refine KA.seq ?_
  refine KA.seq ?_
  refine KA.region rfl ?_
  refine KOps.move ?_
  refine KOps.neq ?_
  refine KOps.done ?_
  refine sqQ.normal ?_
  refine KA.sub (Sub.cons (t := 1) Look.eq (Sub.cons (t := 2) Look.eq (Sub.cons (t := 6) Look.eq (Sub.cons (t := 15) Look.eq (Sub.nil _))))) ?_
  refine KA.condN ?_ ?_
  · intro c15
    refine KA.seq ?_
    refine KA.region rfl ?_
    refine KOps.move ?_
    refine KOps.assign ?_
    refine KOps.assign ?_
    refine KOps.done ?_
    refine sqQ.normal ?_
    refine KA.sub (Sub.cons (t := 4) Look.eq (Sub.cons (t := 5) Look.eq (Sub.nil _))) ?_
    refine KA.ret ?_
    refine sqQ.ret ?_
    refine fnQ.retN ?_
    rw [otherE, otherL, if_neg c15, if_neg c15]
    exact ⟨_, rfl, St.pick [1] (by decide) rfl (St.addNil 1 true hS)⟩
  · intro c15
    obtain ⟨hB, hlf, e0, hfo⟩ := verE_ok c15
    have hl := hlf.len
    have hwl := hB.len
    have hfl := hfo.fl.len
    refine KA.skip ?_
    refine sqQ.normal ?_
    refine KA.sub (Sub.cons (t := 1) Look.eq (Sub.cons (t := 2) Look.eq (Sub.nil _))) ?_
    refine KA.seq ?_
    refine KA.seq ?_
    refine KA.region rfl ?_
    refine KOps.loadAll hS (i := 0) rfl hp2 (by rfl) (by decide) ?_
    refine KOps.call rfl (refFirst_c' (Rd.ext hS.keeps hv) hB hfo) ?_
    rintro vf h6 hSF
    have hS0 : St _ _ (_ :: _) := St.trans hS hSF
    clear hS
    have hS := hS0
    clear hS0
    refine KOps.move ?_
    refine KOps.call rfl (refSame_c (hS.rd 0 rfl) (Row.ext hS.keeps hn) (by omega) (by omega)) ?_
    rintro _ _ ⟨rfl, rfl⟩
    refine KOps.not ?_
    refine KOps.done ?_
    refine sqQ.normal ?_
    refine KA.sub (Sub.cons (t := 1) Look.eq (Sub.cons (t := 2) Look.eq (Sub.cons (t := 21) Look.eq (Sub.nil _)))) ?_
    refine KA.condN ?_ ?_
    · intro c21
      refine KA.seq ?_
      refine KA.region rfl ?_
      refine KOps.loadAll hS (i := 1) rfl hp2 (by rfl) (by decide) ?_
      refine KOps.call rfl (refFirst_c' (Rd.ext hS.keeps hv) hB hfo) ?_
      rintro vg h7 hSF
      have hS0 : St _ _ (_ :: _) := St.trans hS hSF
      clear hS
      have hS := hS0
      clear hS0
      refine KOps.assign ?_
      refine KOps.assign ?_
      refine KOps.done ?_
      refine sqQ.normal ?_
      refine KA.sub (Sub.cons (t := 4) Look.eq (Sub.cons (t := 5) Look.eq (Sub.nil _))) ?_
      refine KA.ret ?_
      refine sqQ.ret ?_
      refine fnQ.retN ?_
      rw [otherE, otherL, if_pos c15, if_pos c15, if_neg c21, if_neg c21]
      exact ⟨_, rfl, St.pick [0] (by decide) rfl hS⟩
    · intro c21
      have e27 : firstOf ws = l := c21
      refine KA.skip ?_
      refine sqQ.normal ?_
      refine KA.sub (Sub.cons (t := 1) Look.eq (Sub.cons (t := 2) Look.eq (Sub.nil _))) ?_
      refine KA.seq ?_
      refine KA.seq ?_
      refine KA.region rfl ?_
      refine KOps.move ?_
      refine KOps.lenI (Row.ext hS.keeps hn) ?_
      refine KOps.sub (by first | omega | (simp; omega)) (by first | omega | (simp; omega)) ?_
      refine KOps.assign ?_
      refine KOps.done ?_
      refine sqQ.normal ?_
      refine KA.sub (Sub.cons (t := 1) Look.eq (Sub.cons (t := 2) Look.eq (Sub.cons (t := 7) Look.eq (Sub.nil _)))) ?_
      refine KA.block ?_
      refine KA.loop (X := Nat) (fun k => [(1, vn), (2, p2), (7, .int .i64 ((k : Int) - 1))]) (fun k h' => k ≤ ws.length ∧ (∀ j, k ≤ j → j < ws.length → ¬ Up ws l j) ∧ St h h' [⟨p2, 0, [.int .i64 rm, vW], true⟩]) (fun k => k) ws.length (by repeat (first | exact Sub.nil _ | refine Sub.cons Look.eq ?_ | refine Sub.cons (Eq.trans Look.eq (congrArg (AV.int _) (by first | omega | (dsimp only; omega)))) ?_)) ?_ ?_
      · exact ⟨Nat.le_refl _, fun j h1 h2 => by omega, St.pick [1] (by decide) rfl hS⟩
      rintro k h9 ⟨hki, hno2, hS⟩
      refine KA.seq ?_
      refine KA.seq ?_
      refine KA.region rfl ?_
      refine KOps.move ?_
      refine KOps.geq ?_
      refine KOps.done ?_
      refine sqQ.normal ?_
      refine KA.sub (Sub.cons (t := 1) Look.eq (Sub.cons (t := 2) Look.eq (Sub.cons (t := 7) Look.eq (Sub.cons (t := 28) Look.eq (Sub.nil _))))) ?_
      refine KA.condD ?_ ?_
      · intro c28
        obtain ⟨i, rfl⟩ : ∃ i, k = i + 1 := ⟨k - 1, by omega⟩
        have hib := within_bound hB hlf.toWithin i (by omega)
        have hwi := hB.way i (by omega)
        have hwm := hwi.m1
        refine KA.skip ?_
        refine sqQ.normal ?_
        refine KA.sub (Sub.cons (t := 1) Look.eq (Sub.cons (t := 2) Look.eq (Sub.cons (t := 7) Look.eq (Sub.nil _)))) ?_
        refine KA.seq ?_
        refine KA.block ?_
        refine KA.seq ?_
        refine KA.region rfl ?_
        refine KOps.loadAll hS (i := 0) rfl hp2 (by rfl) (by decide) ?_
        refine KOps.alloc hS ?_
        intro p8 h' hp8 hS
        refine KOps.storeAll hS rfl (i := 0) rfl hp8 (by first | rfl | (simp [AV.one]; done) | (simp [AV.one]; assumption) | (simp [AV.one, *]; done)) (by rfl) (by rfl) (by decide) ?_
        intro h' hS
        simp only [List.set_cons_zero, List.set_cons_succ, Nat.zero_add] at hS
        refine KOps.done ?_
        refine sqQ.normal ?_
        refine KA.sub (Sub.cons (t := 1) Look.eq (Sub.cons (t := 2) Look.eq (Sub.cons (t := 7) Look.eq (Sub.cons (t := 8) Look.eq (Sub.nil _))))) ?_
        refine KA.seq ?_
        refine KA.seq ?_
        refine KA.region rfl ?_
        refine KOps.assign ?_
        refine KOps.done ?_
        refine sqQ.normal ?_
        refine KA.block ?_
        refine KA.loop (X := Nat × AV × List Obj) (fun x => [(1, vn), (2, p2), (7, .int .i64 (((i + 1 : Nat) : Int) - 1)), (8, p8), (9, .int .i64 (x.1 : Int))]) (fun x h' => x.1 ≤ i ∧ ((Rd h x.2.1 4 (flr wc (fixTo ws l x.1)) ∧ x.2.2 = []) ∨ x.2.2 = [⟨x.2.1, 4, flr wc (fixTo ws l x.1), true⟩]) ∧ St h h' (⟨p8, 0, [.int .i64 rm, x.2.1], true⟩ :: ⟨p2, 0, [.int .i64 rm, vW], true⟩ :: x.2.2)) (fun x => i - x.1) (0, vW, []) (by repeat (first | exact Sub.nil _ | refine Sub.cons Look.eq ?_ | refine Sub.cons (Eq.trans Look.eq (congrArg (AV.int _) (by first | omega | (dsimp only; omega)))) ?_)) ?_ ?_
        · exact ⟨Nat.zero_le _, .inl ⟨hv, rfl⟩, hS⟩
        rintro ⟨kk, vb, G⟩ h10 ⟨hkk, hG, hS⟩
        dsimp only at hkk hG hS ⊢
        have hvb1 := (Rd.ofG (A := [_, _]) hG hS).one
        refine KA.seq ?_
        refine KA.seq ?_
        refine KA.region rfl ?_
        refine KOps.move ?_
        refine KOps.move ?_
        refine KOps.lss ?_
        refine KOps.done ?_
        refine sqQ.normal ?_
        refine KA.sub (Sub.cons (t := 1) Look.eq (Sub.cons (t := 2) Look.eq (Sub.cons (t := 7) Look.eq (Sub.cons (t := 8) Look.eq (Sub.cons (t := 9) Look.eq (Sub.cons (t := 34) Look.eq (Sub.nil _))))))) ?_
        refine KA.condD ?_ ?_
        · intro c34
          refine KA.skip ?_
          refine sqQ.normal ?_
          refine KA.sub (Sub.cons (t := 1) Look.eq (Sub.cons (t := 2) Look.eq (Sub.cons (t := 7) Look.eq (Sub.cons (t := 8) Look.eq (Sub.cons (t := 9) Look.eq (Sub.nil _)))))) ?_
          refine KA.seq ?_
          refine KA.block ?_
          refine KA.draw [] mixed rfl (by kernel_rfl) ?_
          refine KOps.loadAll hS (i := 0) rfl hp8 (by rfl) (by decide) ?_
          refine KOps.move ?_
          refine KOps.move ?_
          refine KOps.move ?_
          refine KOps.indexIJ (Row.ext hS.keeps hn) (j := kk) rfl (by first | omega | (simp; omega)) ?_
          intro p41 hp41
          refine KOps.loadI hp41 (Row.ext hS.keeps hn) (by first | omega | (simp; omega)) ?_
          refine KOps.call rfl (with_c (rm := rm) (i := kk) (vW := vb) (Rd.ofG (A := [_, _]) hG hS) (by rw [fixTo_len]; omega) (by rw [fixTo_len]; omega)) ?_
          rintro _ h8 ⟨vN, rfl, hSN⟩
          have hS0 : St _ _ (_ :: _) := St.trans hS hSN
          clear hS
          have hvN1 : vN.one = true := St.one hS0 (k := 0) rfl
          have hS : St h h8 [⟨p8, 0, [.int .i64 rm, vb], true⟩, ⟨p2, 0, [.int .i64 rm, vW], true⟩, ⟨vN, 4, flr wc (withW (fixTo ws l kk) kk (l.getD kk 0)), true⟩] := St.pick [1, 2, 0] (by decide) rfl hS0
          clear hS0
          refine KOps.storeAll hS rfl (i := 0) rfl hp8 (by first | rfl | (simp [AV.one]; done) | (simp [AV.one]; assumption) | (simp [AV.one, *]; done)) (by rfl) (by rfl) (by decide) ?_
          intro h' hS
          simp only [List.set_cons_zero, List.set_cons_succ, Nat.zero_add] at hS
          refine KOps.done ?_
          refine blQ.normal ?_
          refine sqQ.normal ?_
          refine KA.sub (Sub.cons (t := 1) Look.eq (Sub.cons (t := 2) Look.eq (Sub.cons (t := 7) Look.eq (Sub.cons (t := 8) Look.eq (Sub.cons (t := 9) Look.eq (Sub.nil _)))))) ?_
          refine KA.region rfl ?_
          refine KOps.move ?_
          refine KOps.add (by first | omega | (simp; omega)) (by first | omega | (simp; omega)) ?_
          refine KOps.assign ?_
          refine KOps.done ?_
          exact lpQ.normal (kk + 1, vN, [_]) (by repeat (first | exact Sub.nil _ | refine Sub.cons Look.eq ?_ | refine Sub.cons (Eq.trans Look.eq (congrArg (AV.int _) (by first | omega | (dsimp only; omega)))) ?_)) ⟨by dsimp only; omega, .inr rfl, hS⟩ (by dsimp only; omega)
        · intro c34
          refine KA.exit ?_
          refine sqQ.exit ?_
          refine lpQ.exit ?_
          refine blQ.here ?_
          refine sqQ.normal ?_
          refine KA.sub (Sub.cons (t := 1) Look.eq (Sub.cons (t := 2) Look.eq (Sub.cons (t := 7) Look.eq (Sub.cons (t := 8) Look.eq (Sub.nil _))))) ?_
          refine KA.seq ?_
          refine KA.region rfl ?_
          have hki2 : i = kk := by omega
          subst hki2
          refine KOps.move ?_
          refine KOps.move ?_
          refine KOps.indexIJ (Row.ext hS.keeps hn) (j := i) (by first | omega | (simp; omega)) (by first | omega | (simp; omega)) ?_
          intro p46 hp46
          refine KOps.loadI hp46 (Row.ext hS.keeps hn) (by first | omega | (simp; omega)) ?_
          refine KOps.add (by first | omega | (simp; omega)) (by first | omega | (simp; omega)) ?_
          refine KOps.assign ?_
          refine KOps.done ?_
          refine sqQ.normal ?_
          refine KA.sub (Sub.cons (t := 1) Look.eq (Sub.cons (t := 2) Look.eq (Sub.cons (t := 7) Look.eq (Sub.cons (t := 8) Look.eq (Sub.cons (t := 10) Look.eq (Sub.nil _)))))) ?_
          refine KA.block ?_
          refine KA.loop (X := Int) (fun n => [(1, vn), (2, p2), (7, .int .i64 (((i + 1 : Nat) : Int) - 1)), (8, p8), (10, .int .i64 n)]) (fun n h' => l.getD i 0 < n ∧ (n = l.getD i 0 + 1 ∨ ¬ Up ws l i) ∧ St h h' (⟨p8, 0, [.int .i64 rm, vb], true⟩ :: ⟨p2, 0, [.int .i64 rm, vW], true⟩ :: G)) (fun n => ((ws.getD i default).m + 1 - n).toNat) (l.getD i 0 + 1) (by repeat (first | exact Sub.nil _ | refine Sub.cons Look.eq ?_ | refine Sub.cons (Eq.trans Look.eq (congrArg (AV.int _) (by first | omega | (dsimp only; omega)))) ?_)) ?_ ?_
          · exact ⟨by omega, .inl rfl, hS⟩
          rintro n h11 ⟨hn1, hn2, hS⟩
          refine KA.seq ?_
          refine KA.seq ?_
          refine KA.region rfl ?_
          refine KOps.move ?_
          refine KOps.fieldAddr hp2 ?_
          intro p50 hp50
          refine KOps.load hp50 (hS.rd 1 rfl) rfl ?_
          refine KOps.move ?_
          refine KOps.indexF wc_len (Rd.ext hS.keeps hv) (j := i) (by first | omega | (simp; omega)) (by first | omega | (simp; omega)) ?_
          intro p53 hp53
          refine KOps.fieldAddr hp53 ?_
          intro p54 hp54
          refine KOps.loadFc wc_len (by decide) hp54 (Rd.ext hS.keeps hv) (by first | omega | (simp; omega)) rfl ?_
          refine KOps.leq ?_
          refine KOps.done ?_
          refine sqQ.normal ?_
          refine KA.sub (Sub.cons (t := 1) Look.eq (Sub.cons (t := 2) Look.eq (Sub.cons (t := 7) Look.eq (Sub.cons (t := 8) Look.eq (Sub.cons (t := 10) Look.eq (Sub.cons (t := 56) Look.eq (Sub.nil _))))))) ?_
          refine KA.condD ?_ ?_
          · intro c56
            refine KA.skip ?_
            refine sqQ.normal ?_
            refine KA.sub (Sub.cons (t := 1) Look.eq (Sub.cons (t := 2) Look.eq (Sub.cons (t := 7) Look.eq (Sub.cons (t := 8) Look.eq (Sub.cons (t := 10) Look.eq (Sub.nil _)))))) ?_
            refine KA.seq ?_
            refine KA.block ?_
            refine KA.seq ?_
            refine KA.region rfl ?_
            refine KOps.loadAll hS (i := 0) rfl hp8 (by rfl) (by decide) ?_
            refine KOps.move ?_
            rw [show ((i + 1 : Nat) : Int) - 1 = (i : Int) by omega]
            refine KOps.move ?_
            refine KOps.call rfl (with_c (rm := rm) (i := i) (vW := vb) (Rd.ofG (A := [_, _]) hG hS) (by rw [fixTo_len]; omega) (by rw [fixTo_len]; omega)) ?_
            rintro _ h9 ⟨vN, rfl, hSN⟩
            have hS0 : St _ _ (_ :: _) := St.trans hS hSN
            clear hS
            have hS := hS0
            clear hS0
            refine KOps.call rfl (can_c' (hS.rd 0 rfl) (fix_B hB hlf (by omega) (by omega) (by omega))) ?_
            rintro _ h10 ⟨rfl, hK⟩
            have hS0 := St.tail (St.trans hS (St.ofK hK))
            clear hS
            have hS := hS0
            clear hS0
            refine KOps.done ?_
            refine sqQ.normal ?_
            refine KA.sub (Sub.cons (t := 1) Look.eq (Sub.cons (t := 2) Look.eq (Sub.cons (t := 7) Look.eq (Sub.cons (t := 8) Look.eq (Sub.cons (t := 10) Look.eq (Sub.cons (t := 63) Look.eq (Sub.nil _))))))) ?_
            refine KA.condB ?_ ?_
            · intro c63
              refine KA.seq ?_
              refine KA.region rfl ?_
              refine KOps.loadAll hS (i := 0) rfl hp8 (by rfl) (by decide) ?_
              refine KOps.move ?_
              refine KOps.move ?_
              refine KOps.call rfl (with_c (rm := rm) (i := i) (vW := vb) (Rd.ofG (A := [_, _]) hG hS) (by rw [fixTo_len]; omega) (by rw [fixTo_len]; omega)) ?_
              rintro _ h11 ⟨vN, rfl, hSN⟩
              have hS0 : St _ _ (_ :: _) := St.trans hS hSN
              clear hS
              have hS := hS0
              clear hS0
              refine KOps.call rfl (refFirst_c' (hS.rd 0 rfl) (fix_B hB hlf (by omega) (by omega) (by omega)) (fix_first hB hlf (by omega) (by omega) (by omega) c63)) ?_
              rintro vy h12 hSF
              have hS0 : St _ _ (_ :: _) := St.trans hS hSF
              clear hS
              have hS := hS0
              clear hS0
              refine KOps.assign ?_
              refine KOps.assign ?_
              refine KOps.done ?_
              refine sqQ.normal ?_
              refine KA.sub (Sub.cons (t := 4) Look.eq (Sub.cons (t := 5) Look.eq (Sub.nil _))) ?_
              refine KA.ret ?_
              refine blQ.ret ?_
              refine sqQ.ret ?_
              refine lpQ.ret ?_
              refine blQ.ret ?_
              refine blQ.ret ?_
              refine sqQ.ret ?_
              refine lpQ.ret ?_
              refine blQ.ret ?_
              refine sqQ.ret ?_
              refine fnQ.retN ?_
              have hn3 : n = l.getD i 0 + 1 := hn2.resolve_right (fun h1 => h1 (up_of_can hB hlf (by omega) (by omega) (by omega) c63))
              subst hn3
              have hnx := next_lex hlf.toWithin (by omega) (by omega) (fix_first hB hlf (by omega) (by omega) (by omega) c63) (fun j h1 h2 => hno2 j h1 h2)
              have e1 : otherE rm ws l = 0 := by rw [otherE, if_pos c15, if_pos e27, nextOf_some hnx]; rfl
              have e2 : otherL rm ws l = firstOf (withW (fixTo ws l i) i (l.getD i 0 + 1)) := by rw [otherL, if_pos c15, if_pos e27, nextOf_some hnx]; rfl
              rw [e1, e2]
              exact ⟨_, rfl, St.keep (A := [_]) hS⟩
            · intro c63
              refine KA.skip ?_
              refine blQ.normal ?_
              refine sqQ.normal ?_
              refine KA.sub (Sub.cons (t := 1) Look.eq (Sub.cons (t := 2) Look.eq (Sub.cons (t := 7) Look.eq (Sub.cons (t := 8) Look.eq (Sub.cons (t := 10) Look.eq (Sub.nil _)))))) ?_
              refine KA.region rfl ?_
              refine KOps.move ?_
              refine KOps.add (by first | omega | (simp; omega)) (by first | omega | (simp; omega)) ?_
              refine KOps.assign ?_
              refine KOps.done ?_
              refine lpQ.normal (n + 1) (by repeat (first | exact Sub.nil _ | refine Sub.cons Look.eq ?_ | refine Sub.cons (Eq.trans Look.eq (congrArg (AV.int _) (by first | omega | (dsimp only; omega)))) ?_)) ⟨by omega, .inr ?_, hS⟩ (by omega)
              rcases hn2 with rfl | h1
              · exact no_up_can hB hlf (by omega) (by omega) c63
              · exact h1
          · intro c56
            refine KA.exit ?_
            refine sqQ.exit ?_
            refine lpQ.exit ?_
            refine blQ.here ?_
            refine blQ.normal ?_
            refine sqQ.normal ?_
            refine KA.sub (Sub.cons (t := 1) Look.eq (Sub.cons (t := 2) Look.eq (Sub.cons (t := 7) Look.eq (Sub.nil _)))) ?_
            refine KA.region rfl ?_
            refine KOps.move ?_
            refine KOps.sub (by first | omega | (simp; omega)) (by first | omega | (simp; omega)) ?_
            refine KOps.assign ?_
            refine KOps.done ?_
            have hnu : ¬ Up ws l i := by
              rcases hn2 with h1 | h1
              · have := hlf.hi i (by omega)
                exact no_most (by omega) (by omega)
              · exact h1
            refine lpQ.normal i (by repeat (first | exact Sub.nil _ | refine Sub.cons Look.eq ?_ | refine Sub.cons (Eq.trans Look.eq (congrArg (AV.int _) (by first | omega | (dsimp only; omega)))) ?_ | refine Sub.cons (Eq.trans Look.eq (by rw [show ((i + 1 : Nat) : Int) - 1 - 1 = (i : Int) - 1 by omega])) ?_)) ⟨by omega, fun j h1 h2 => ?_, St.pick [1] (by decide) rfl (St.keep (A := [_, _]) hS)⟩ (by omega)
            rcases Nat.eq_or_lt_of_le h1 with h3 | h3
            · subst h3; exact hnu
            · exact hno2 j h3 h2
      · intro c28
        refine KA.exit ?_
        refine sqQ.exit ?_
        refine lpQ.exit ?_
        refine blQ.here ?_
        refine sqQ.normal ?_
        refine KA.sub (Sub.nil _) ?_
        refine KA.seq ?_
        refine KA.region rfl ?_
        refine KOps.assign ?_
        refine KOps.assign ?_
        refine KOps.done ?_
        refine sqQ.normal ?_
        refine KA.ret ?_
        refine fnQ.retN ?_
        have hnn := nextOf_none (ws := ws) (l := l) (fun j h2 => hno2 j (by omega) h2)
        have e1 : otherE rm ws l = 12 := by rw [otherE, if_pos c15, if_pos e27, hnn]; rfl
        have e2 : otherL rm ws l = [] := by rw [otherL, if_pos c15, if_pos e27, hnn]; rfl
        rw [e1, e2]
        exact ⟨_, rfl, St.pick [1] (by decide) rfl (St.addNil 1 true hS)⟩

end Go.Am

namespace Go.Am
/-- What leaves rooms at least, what enters them at most; a way is left out. -/
def lstTo (ws : List W) (s : Nat) (w : Int) : Nat → Int
  | 0 => 0
  | i + 1 => lstTo ws s w i + if (i : Int) ≠ w ∧ lvs (ws.getD i default) s = true then (ws.getD i default).l else 0
def mstTo (ws : List W) (s : Nat) (w : Int) : Nat → Int
  | 0 => 0
  | i + 1 => mstTo ws s w i + if (i : Int) ≠ w ∧ ens (ws.getD i default) s = true then (ws.getD i default).m else 0
theorem sums_bound {rm : Int} {ws : List W} (h : BOk rm ws) (s : Nat) (w : Int) : ∀ k, k ≤ ws.length → (0 ≤ lstTo ws s w k ∧ lstTo ws s w k ≤ 99 * (k : Int)) ∧ 0 ≤ mstTo ws s w k ∧ mstTo ws s w k ≤ 99 * (k : Int) := by
  intro k
  induction k with
  | zero => intro _; simp [lstTo, mstTo]
  | succ k ih =>
    intro hk
    have h1 := ih (by omega)
    have hw := h.way k (by omega)
    have := hw.l0; have := hw.m1; have := hw.lm
    rw [lstTo, mstTo]
    constructor <;> split <;> omega
theorem net_sums (ws : List W) (s : Nat) : ∀ k, netTo ws s k = lstTo ws s (-1) k - mstTo ws s (-1) k := by
  intro k
  induction k with
  | zero => rfl
  | succ k ih =>
    rw [netTo, lstTo, mstTo, ih]
    cases lvs (ws.getD k default) s <;> cases ens (ws.getD k default) s <;> simp <;> omega
theorem proof_sums (ws : List W) (s : Nat) : proofB ws s = decide (mstTo ws s (-1) ws.length < lstTo ws s (-1) ws.length) := by
  rw [proofB, net_sums]
  exact decide_eq_decide.2 (by omega)
def saysV (ws : List W) (s i : Nat) : Int := if lvs (ws.getD i default) s then mstTo ws s i ws.length - lstTo ws s i ws.length else lstTo ws s i ws.length - mstTo ws s i ws.length
theorem lvs_ens (w : W) (s : Nat) : (inS s w.f == inS s w.t) = (!lvs w s && !ens w s) := by
  unfold lvs ens
  cases inS s w.f <;> cases inS s w.t <;> rfl
/-- Rooms of a list: the error of one, the error of the first ones, the set. -/
def roomE (rm : Int) (l : List Int) (i : Nat) : Int := if ¬ (0 ≤ l.getD i 0 ∧ l.getD i 0 ≤ rm - 1) then 2 else if 0 < i ∧ l.getD i 0 ≤ l.getD (i - 1) 0 then 7 else 0
def roomsE (rm : Int) (l : List Int) : Nat → Int
  | 0 => 0
  | i + 1 => if roomsE rm l i = 0 then roomE rm l i else roomsE rm l i
def setTo (l : List Int) : Nat → Nat
  | 0 => 0
  | i + 1 => setTo l i ||| 2 ^ (l.getD i 0).toNat
theorem roomsE_stop {rm : Int} {l : List Int} {i : Nat} (h0 : roomsE rm l i = 0) (he : roomE rm l i ≠ 0) : ∀ {n : Nat}, i < n → roomsE rm l n = roomE rm l i := by
  intro n
  induction n with
  | zero => intro h; omega
  | succ n ih =>
    intro h
    rw [roomsE]
    rcases Nat.lt_succ_iff_lt_or_eq.1 h with h1 | rfl
    · rw [ih h1, if_neg he]
    · rw [if_pos h0]
theorem roomsE_next {rm : Int} {l : List Int} {i : Nat} (h0 : roomsE rm l i = 0) (he : roomE rm l i = 0) : roomsE rm l (i + 1) = 0 := by rw [roomsE, if_pos h0, he]
theorem or64 : ∀ s : Nat, s < 64 → ∀ x : Nat, x < 6 → s ||| 2 ^ x < 64 := by decide +kernel
/-- Fewer rooms, or as many and smaller. -/
def befB (a b : List Int) : Bool := decide (a.length < b.length) || (decide (a.length = b.length) && (List.range a.length).any fun i => ((List.range i).all fun j => decide (a.getD j 0 = b.getD j 0)) && decide (a.getD i 0 < b.getD i 0))
theorem befB_len {a b : List Int} (h : a.length ≠ b.length) : befB a b = decide (a.length < b.length) := by
  rw [befB, decide_eq_false h, Bool.false_and, Bool.or_false]
theorem befB_at {a b : List Int} {i : Nat} (h : a.length = b.length) (hi : i < a.length) (hp : ∀ j, j < i → a.getD j 0 = b.getD j 0) (hne : a.getD i 0 ≠ b.getD i 0) : befB a b = decide (a.getD i 0 < b.getD i 0) := by
  rw [befB, decide_eq_false (by omega), Bool.false_or, decide_eq_true h, Bool.true_and, Bool.eq_iff_iff, decide_eq_true_iff, List.any_eq_true]
  constructor
  · rintro ⟨k, hk, hb⟩
    rw [Bool.and_eq_true, decide_eq_true_iff, List.all_eq_true] at hb
    obtain ⟨h1, h2⟩ := hb
    rcases Nat.lt_trichotomy k i with h3 | rfl | h3
    · have := hp k h3; omega
    · exact h2
    · exact absurd (of_decide_eq_true (h1 i (List.mem_range.2 h3))) hne
  · intro hlt
    refine ⟨i, List.mem_range.2 hi, ?_⟩
    rw [Bool.and_eq_true, decide_eq_true_iff, List.all_eq_true]
    exact ⟨fun j hj => decide_eq_true (hp j (List.mem_range.1 hj)), hlt⟩
theorem befB_same {a b : List Int} (h : a.length = b.length) (hp : ∀ j, j < a.length → a.getD j 0 = b.getD j 0) : befB a b = false := by
  rw [befB, decide_eq_false (by omega), Bool.false_or, decide_eq_true h, Bool.true_and, List.any_eq_false]
  intro i hi
  rw [Bool.and_eq_true, decide_eq_true_iff]
  rintro ⟨_, h2⟩
  have := hp i (List.mem_range.1 hi)
  omega
/-- The first set with the fewest rooms. -/
def betterO (o : Option Nat) (k : Nat) : Bool := match o with | none => true | some b => befB (roomsTo k 6) (roomsTo b 6)
def bestTo (p : Nat → Bool) : Nat → Option Nat
  | 0 => none
  | k + 1 => if (p k && betterO (bestTo p k) k) = true then some k else bestTo p k
theorem bestTo_some {p : Nat → Bool} {s : Nat} (hp : p s = true) : ∀ {k : Nat}, s < k → ∃ b, bestTo p k = some b := by
  intro k
  induction k with
  | zero => intro h; omega
  | succ k ih =>
    intro h
    rw [bestTo]
    rcases Nat.lt_succ_iff_lt_or_eq.1 h with h1 | rfl
    · obtain ⟨b, hb⟩ := ih h1
      rw [hb]
      split
      · exact ⟨_, rfl⟩
      · exact ⟨b, rfl⟩
    · cases hb : bestTo p s with
      | none => exact ⟨s, by simp [hp, betterO]⟩
      | some b =>
        split
        · exact ⟨_, rfl⟩
        · exact ⟨b, rfl⟩
def fewL (p : Nat → Bool) (k : Nat) : List Int := match bestTo p k with | none => [] | some b => roomsTo b 6
def fewF (p : Nat → Bool) (f k : Nat) : List Int := match bestTo p k with | none => roomsTo f 6 | some b => roomsTo b 6
theorem full_last : ∀ r : Nat, r ≤ 6 → ∀ s : Nat, s < 2 ^ r - 1 → befB (roomsTo s 6) (roomsTo (2 ^ r - 1) 6) = true := by decide +kernel
theorem fewF_succ {p : Nat → Bool} {r : Nat} (hr : r ≤ 6) (hf : p (2 ^ r - 1) = false) {k : Nat} (hk : k < 2 ^ r) : fewF p (2 ^ r - 1) (k + 1) = if (p k && befB (roomsTo k 6) (fewF p (2 ^ r - 1) k)) = true then roomsTo k 6 else fewF p (2 ^ r - 1) k := by
  unfold fewF
  rw [bestTo]
  cases hb : bestTo p k with
  | some b =>
    rw [show betterO (some b) k = befB (roomsTo k 6) (roomsTo b 6) from rfl]
    by_cases hc : (p k && befB (roomsTo k 6) (roomsTo b 6)) = true
    · rw [if_pos hc, if_pos hc]
    · rw [if_neg hc, if_neg hc]
  | none =>
    rw [show betterO none k = true from rfl]
    dsimp only
    cases hp : p k with
    | false => simp
    | true =>
      have hne : k ≠ 2 ^ r - 1 := by rintro rfl; rw [hf] at hp; cases hp
      rw [full_last r hr k (by omega)]
      simp
theorem fewF_few {p : Nat → Bool} {f k s : Nat} (hp : p s = true) (hs : s < k) : fewF p f k = fewL p k := by
  obtain ⟨b, hb⟩ := bestTo_some hp hs
  rw [fewF, fewL, hb]
end Go.Am

namespace Go.Am
theorem and8 : ∀ s : Nat, s < 64 → ∀ i : Nat, i < 6 → bits .and .u8 ((s : Int).fdiv (2 ^ Min.min (i : Int).toNat (IntKind.bits .u8))) 1 = if s.testBit i then 1 else 0 := by decide +kernel
theorem or8 : ∀ s : Nat, s < 64 → ∀ i : Nat, i < 6 → bits .or .u8 (s : Int) (IntKind.wrap .u8 (1 * 2 ^ Min.min (i : Int).toNat (IntKind.bits .u8))) = ((s ||| 2 ^ i : Nat) : Int) := by decide +kernel
theorem or64' : ∀ s : Nat, s < 64 → ∀ i : Nat, i < 6 → bits .or .i64 (s : Int) (IntKind.wrap .i64 (1 * 2 ^ Min.min (i : Int).toNat (IntKind.bits .i64))) = ((s ||| 2 ^ i : Nat) : Int) := by decide +kernel
theorem and_in8 {s : Nat} {x : Int} (hs : s < 64) (h0 : 0 ≤ x) (h1 : x < 6) : decide (bits .and .u8 ((s : Int).fdiv (2 ^ Min.min x.toNat (IntKind.bits .u8))) 1 = 1) = inS s x := by
  have := and8 s hs x.toNat (by omega)
  rw [show ((x.toNat : Nat) : Int).toNat = x.toNat by omega] at this
  rw [this]
  unfold inS
  cases s.testBit x.toNat <;> rfl

theorem has8_c {h : AHeap} {s : Nat} {x : Int} (hs : s < 64) (h0 : 0 ≤ x) (h1 : x < 6) : ACalls Go.Proofs.Tryd.prog 87 [.int .u8 (s : Int), .int .i64 x] h (fun q h' => q = .bool (inS s x) ∧ h = h') := by
  refine KA.fn 10 [.tmp 4] Go.Proofs.Tryd.func87 rfl (by decide) rfl rfl (Nat.le_of_ble_eq_true rfl) ?_
  show KA _ 10 _ _ [(0, .int .u8 (s : Int)), (1, .int .i64 x)] _
  refine KA.seq ?_
  refine KA.region rfl ?_
  refine KOps.assign ?_
  refine KOps.done ?_
  refine sqQ.normal ?_
  refine KA.sub (Sub.cons (t := 0) Look.eq (Sub.cons (t := 1) Look.eq (Sub.nil _))) ?_
  refine KA.seq ?_
  refine KA.region rfl ?_
  refine KOps.move ?_
  refine KOps.move ?_
  refine KOps.shr (by first | omega | (simp; omega)) ?_
  refine KOps.bits (by simp) ?_
  refine KOps.eql ?_
  rw [and_in8 hs h0 h1]
  refine KOps.assign ?_
  refine KOps.done ?_
  refine sqQ.normal ?_
  refine KA.sub (Sub.cons (t := 4) Look.eq (Sub.nil _)) ?_
  refine KA.ret ?_
  refine fnQ.ret1 ?_
  exact ⟨rfl, rfl⟩

theorem sums_c {h : AHeap} {rm w : Int} {vW : AV} {ws : List W} {s : Nat} (hv : Rd h vW 4 (flr wc ws)) (hB : BOk rm ws) (hs : s < 64) : ACalls Go.Proofs.Tryd.prog 97 [.agg [.int .i64 rm, vW], .int .u8 (s : Int), .int .i64 w] h (fun q h' => q = .tup [.int .i64 (lstTo ws s w ws.length), .int .i64 (mstTo ws s w ws.length)] ∧ Keeps h h') := by
  refine KA.fn 49 [.tmp 6, .tmp 7] Go.Proofs.Tryd.func97 rfl (by decide) rfl rfl (Nat.le_of_ble_eq_true rfl) ?_
  have hS := St.refl h
  have hvo : vW.one = true := hv.one
  have hwl := hB.len
  have hr6 := hB.r6
  show KA _ 49 _ _ [(0, .agg [.int .i64 rm, vW]), (1, .int .u8 (s : Int)), (2, .int .i64 w)] _
  refine KA.seq ?_
  refine KA.region rfl ?_
  refine KOps.boxAll hS (by first | rfl | (simp [AV.one]; done) | (simp [AV.one]; assumption) | (simp [AV.one, *]; done)) ?_
  intro p3 h' hp3 hS
  refine KOps.assign ?_
  refine KOps.assign ?_
  refine KOps.done ?_
  refine sqQ.normal ?_
  refine KA.sub (Sub.cons (t := 1) Look.eq (Sub.cons (t := 2) Look.eq (Sub.cons (t := 3) Look.eq (Sub.cons (t := 6) Look.eq (Sub.cons (t := 7) Look.eq (Sub.nil _)))))) ?_
  refine KA.seq ?_
  refine KA.seq ?_
  refine KA.region rfl ?_
  refine KOps.fieldAddr hp3 ?_
  intro p10 hp10
  refine KOps.load hp10 (hS.rd 0 rfl) rfl ?_
  refine KOps.lenF wc_len (Rd.ext hS.keeps hv) ?_
  refine KOps.move ?_
  refine KOps.done ?_
  refine sqQ.normal ?_
  refine KA.sub (Sub.cons (t := 1) Look.eq (Sub.cons (t := 2) Look.eq (Sub.cons (t := 6) Look.eq (Sub.cons (t := 7) Look.eq (Sub.cons (t := 11) Look.eq (Sub.cons (t := 12) Look.eq (Sub.cons (t := 13) Look.eq (Sub.nil _)))))))) ?_
  refine KA.block ?_
  refine KA.loop (X := Nat) (fun i => [(1, .int .u8 (s : Int)), (2, .int .i64 w), (6, .int .i64 (lstTo ws s w i)), (7, .int .i64 (mstTo ws s w i)), (11, vW), (12, .int .i64 (ws.length : Int)), (13, .int .i64 (i : Int))]) (fun i h' => i ≤ ws.length ∧ St h h' [⟨p3, 0, [.int .i64 rm, vW], true⟩]) (fun i => ws.length - i) 0 (by repeat (first | exact Sub.nil _ | refine Sub.cons Look.eq ?_ | refine Sub.cons (Eq.trans Look.eq (congrArg (AV.int _) (by first | omega | (dsimp only; omega)))) ?_)) ?_ ?_
  · exact ⟨Nat.zero_le _, hS⟩
  rintro i h2 ⟨hi, hS⟩
  refine KA.seq ?_
  refine KA.region rfl ?_
  refine KOps.lss ?_
  refine KOps.done ?_
  refine sqQ.normal ?_
  refine KA.seq ?_
  refine KA.condD ?_ ?_
  · intro c14
    refine KA.skip ?_
    refine sqQ.normal ?_
    refine KA.sub (Sub.cons (t := 1) Look.eq (Sub.cons (t := 2) Look.eq (Sub.cons (t := 6) Look.eq (Sub.cons (t := 7) Look.eq (Sub.cons (t := 11) Look.eq (Sub.cons (t := 12) Look.eq (Sub.cons (t := 13) Look.eq (Sub.nil _)))))))) ?_
    refine KA.seq ?_
    refine KA.block ?_
    refine KA.seq ?_
    refine KA.region rfl ?_
    refine KOps.move ?_
    refine KOps.indexF wc_len (Rd.ext hS.keeps hv) (j := i) rfl (by first | omega | (simp; omega)) ?_
    intro p16 hp16
    refine KOps.loadFl wc_len (by decide) hp16 (Rd.ext hS.keeps hv) (by first | omega | (simp; omega)) ?_
    refine KOps.alloc hS ?_
    intro p9 h' hp9 hS
    refine KOps.assign ?_
    refine KOps.storeAll hS rfl (i := 0) rfl hp9 (by first | rfl | (simp [AV.one]; done) | (simp [AV.one]; assumption) | (simp [AV.one, *]; done)) (by rfl) (by rfl) (by decide) ?_
    intro h' hS
    simp only [List.set_cons_zero, List.set_cons_succ, Nat.zero_add] at hS
    refine KOps.done ?_
    refine sqQ.normal ?_
    refine KA.sub (Sub.cons (t := 1) Look.eq (Sub.cons (t := 2) Look.eq (Sub.cons (t := 6) Look.eq (Sub.cons (t := 7) Look.eq (Sub.cons (t := 8) Look.eq (Sub.cons (t := 9) Look.eq (Sub.cons (t := 11) Look.eq (Sub.cons (t := 12) Look.eq (Sub.cons (t := 13) Look.eq (Sub.nil _)))))))))) ?_
    refine KA.block ?_
    refine KA.seq ?_
    refine KA.draw [7, 11] mixed rfl (by kernel_rfl) ?_
    have hwi := hB.way i (by omega)
    have hwf0 := hwi.f0
    have hwf1 := hwi.f1
    have hwt0 := hwi.t0
    have hwt1 := hwi.t1
    have hwl0 := hwi.l0
    have hwm1 := hwi.m1
    have hwlm := hwi.lm
    have hsb := sums_bound hB s w i (by omega)
    refine KOps.move ?_
    refine KOps.move ?_
    refine KOps.eql ?_
    refine KOps.move ?_
    refine KOps.guardB (dj := 26) rfl rfl false true rfl ?_ ?_
    · intro g26
      have g26 := of_decide_eq_false g26
      refine KOps.move ?_
      refine KOps.guardYes (dj := 26) rfl rfl ?_
      refine KOps.fieldAddr hp9 ?_
      intro p28 hp28
      refine KOps.guardYes (dj := 26) rfl rfl ?_
      refine KOps.load hp28 (hS.rd 0 rfl) rfl ?_
      refine KOps.guardYes (dj := 26) rfl rfl ?_
      refine KOps.callK (by intro _ _ hr; exact hr.2 ▸ Keeps.refl _) (has8_c (by first | omega | (simp; omega)) (by first | omega | (simp; omega)) (by first | omega | (simp; omega))) ?_
      rintro _ _ ⟨rfl, rfl⟩
      refine KOps.guardYes (dj := 26) rfl rfl ?_
      refine KOps.move ?_
      refine KOps.guardYes (dj := 26) rfl rfl ?_
      refine KOps.fieldAddr hp9 ?_
      intro p32 hp32
      refine KOps.guardYes (dj := 26) rfl rfl ?_
      refine KOps.load hp32 (hS.rd 0 rfl) rfl ?_
      refine KOps.guardYes (dj := 26) rfl rfl ?_
      refine KOps.callK (by intro _ _ hr; exact hr.2 ▸ Keeps.refl _) (has8_c (by first | omega | (simp; omega)) (by first | omega | (simp; omega)) (by first | omega | (simp; omega))) ?_
      rintro _ _ ⟨rfl, rfl⟩
      refine KOps.guardYes (dj := 26) rfl rfl ?_
      refine KOps.eqlB (by kernel_rfl) ?_
      refine KOps.pickF ?_
      refine KOps.assign ?_
      refine KOps.done ?_
      refine sqQ.normal ?_
      refine KA.sub (Sub.cons (t := 1) Look.eq (Sub.cons (t := 2) Look.eq (Sub.cons (t := 6) Look.eq (Sub.cons (t := 7) Look.eq (Sub.cons (t := 9) Look.eq (Sub.cons (t := 11) Look.eq (Sub.cons (t := 12) Look.eq (Sub.cons (t := 13) Look.eq (Sub.cons (t := 22) Look.eq (Sub.cons (t := 27) Look.eq (Sub.cons (t := 28) Look.eq (Sub.cons (t := 29) Look.eq (Sub.cons (t := 30) Look.eq (Sub.cons (t := 31) Look.eq (Sub.cons (t := 32) Look.eq (Sub.cons (t := 33) Look.eq (Sub.cons (t := 34) Look.eq (Sub.cons (t := 35) Look.eq (Sub.nil _))))))))))))))))))) ?_
      refine KA.condB ?_ ?_
      · intro c22
        have hc : lvs (ws.getD i default) s = false ∧ ens (ws.getD i default) s = false := by
          rw [lvs_ens] at c22; simpa using c22
        refine KA.skip ?_
        refine blQ.normal ?_
        refine blQ.normal ?_
        refine sqQ.normal ?_
        refine KA.sub (Sub.cons (t := 1) Look.eq (Sub.cons (t := 2) Look.eq (Sub.cons (t := 6) Look.eq (Sub.cons (t := 7) Look.eq (Sub.cons (t := 11) Look.eq (Sub.cons (t := 12) Look.eq (Sub.cons (t := 13) Look.eq (Sub.cons (t := 27) Look.eq (Sub.cons (t := 28) Look.eq (Sub.cons (t := 29) Look.eq (Sub.cons (t := 30) Look.eq (Sub.cons (t := 31) Look.eq (Sub.cons (t := 32) Look.eq (Sub.cons (t := 33) Look.eq (Sub.cons (t := 34) Look.eq (Sub.cons (t := 35) Look.eq (Sub.nil _))))))))))))))))) ?_
        refine KA.region rfl ?_
        refine KOps.add (by first | omega | (simp; omega)) (by first | omega | (simp; omega)) ?_
        refine KOps.move ?_
        refine KOps.done ?_
        exact lpQ.normal (i + 1) (by repeat (first | exact Sub.nil _ | refine Sub.cons Look.eq ?_ | refine Sub.cons (Eq.trans Look.eq (congrArg (AV.int _) (by first | omega | (dsimp only; omega)))) ?_ | refine Sub.cons (Eq.trans Look.eq (congrArg (AV.int _) (by rw [lstTo, if_neg (fun h0 => by rw [hc.1] at h0; exact absurd h0.2 (by decide))] <;> omega))) ?_ | refine Sub.cons (Eq.trans Look.eq (congrArg (AV.int _) (by rw [mstTo, if_neg (fun h0 => by rw [hc.2] at h0; exact absurd h0.2 (by decide))] <;> omega))) ?_)) ⟨by omega, St.tail hS⟩ (by omega)
      · intro c22
        refine KA.seq ?_
        refine KA.region rfl ?_
        refine KOps.move ?_
        refine KOps.fieldAddr hp9 ?_
        intro p39 hp39
        refine KOps.load hp39 (hS.rd 0 rfl) rfl ?_
        refine KOps.call rfl (has8_c (by first | omega | (simp; omega)) (by first | omega | (simp; omega)) (by first | omega | (simp; omega))) ?_
        rintro _ _ ⟨rfl, rfl⟩
        refine KOps.assign ?_
        refine KOps.done ?_
        refine sqQ.normal ?_
        refine KA.sub (Sub.cons (t := 1) Look.eq (Sub.cons (t := 2) Look.eq (Sub.cons (t := 6) Look.eq (Sub.cons (t := 7) Look.eq (Sub.cons (t := 9) Look.eq (Sub.cons (t := 11) Look.eq (Sub.cons (t := 12) Look.eq (Sub.cons (t := 13) Look.eq (Sub.cons (t := 27) Look.eq (Sub.cons (t := 28) Look.eq (Sub.cons (t := 29) Look.eq (Sub.cons (t := 30) Look.eq (Sub.cons (t := 31) Look.eq (Sub.cons (t := 32) Look.eq (Sub.cons (t := 33) Look.eq (Sub.cons (t := 34) Look.eq (Sub.cons (t := 35) Look.eq (Sub.cons (t := 37) Look.eq (Sub.nil _))))))))))))))))))) ?_
        refine KA.condB ?_ ?_
        · intro c37
          have hc : lvs (ws.getD i default) s = true ∧ ens (ws.getD i default) s = false := by
            unfold lvs ens; rw [c37] at c22 ⊢; cases h9 : inS s (ws.getD i default).t <;> simp_all
          refine KA.region rfl ?_
          refine KOps.move ?_
          refine KOps.fieldAddr hp9 ?_
          intro p43 hp43
          refine KOps.load hp43 (hS.rd 0 rfl) rfl ?_
          refine KOps.add (by first | omega | (simp; omega)) (by first | omega | (simp; omega)) ?_
          refine KOps.assign ?_
          refine KOps.done ?_
          refine blQ.normal ?_
          refine blQ.normal ?_
          refine sqQ.normal ?_
          refine KA.sub (Sub.cons (t := 1) Look.eq (Sub.cons (t := 2) Look.eq (Sub.cons (t := 6) Look.eq (Sub.cons (t := 7) Look.eq (Sub.cons (t := 11) Look.eq (Sub.cons (t := 12) Look.eq (Sub.cons (t := 13) Look.eq (Sub.cons (t := 27) Look.eq (Sub.cons (t := 28) Look.eq (Sub.cons (t := 29) Look.eq (Sub.cons (t := 30) Look.eq (Sub.cons (t := 31) Look.eq (Sub.cons (t := 32) Look.eq (Sub.cons (t := 33) Look.eq (Sub.cons (t := 34) Look.eq (Sub.cons (t := 35) Look.eq (Sub.nil _))))))))))))))))) ?_
          refine KA.region rfl ?_
          refine KOps.add (by first | omega | (simp; omega)) (by first | omega | (simp; omega)) ?_
          refine KOps.move ?_
          refine KOps.done ?_
          exact lpQ.normal (i + 1) (by repeat (first | exact Sub.nil _ | refine Sub.cons Look.eq ?_ | refine Sub.cons (Eq.trans Look.eq (congrArg (AV.int _) (by first | omega | (dsimp only; omega)))) ?_ | refine Sub.cons (Eq.trans Look.eq (congrArg (AV.int _) (by rw [lstTo, if_pos ⟨g26, hc.1⟩] <;> omega))) ?_ | refine Sub.cons (Eq.trans Look.eq (congrArg (AV.int _) (by rw [mstTo, if_neg (fun h0 => by rw [hc.2] at h0; exact absurd h0.2 (by decide))] <;> omega))) ?_)) ⟨by omega, St.tail hS⟩ (by omega)
        · intro c37
          have hc : lvs (ws.getD i default) s = false ∧ ens (ws.getD i default) s = true := by
            unfold lvs ens; rw [c37] at c22 ⊢; cases h9 : inS s (ws.getD i default).t <;> simp_all
          refine KA.region rfl ?_
          refine KOps.move ?_
          refine KOps.fieldAddr hp9 ?_
          intro p19 hp19
          refine KOps.load hp19 (hS.rd 0 rfl) rfl ?_
          refine KOps.add (by first | omega | (simp; omega)) (by first | omega | (simp; omega)) ?_
          refine KOps.assign ?_
          refine KOps.done ?_
          refine blQ.normal ?_
          refine blQ.normal ?_
          refine sqQ.normal ?_
          refine KA.sub (Sub.cons (t := 1) Look.eq (Sub.cons (t := 2) Look.eq (Sub.cons (t := 6) Look.eq (Sub.cons (t := 7) Look.eq (Sub.cons (t := 11) Look.eq (Sub.cons (t := 12) Look.eq (Sub.cons (t := 13) Look.eq (Sub.cons (t := 27) Look.eq (Sub.cons (t := 28) Look.eq (Sub.cons (t := 29) Look.eq (Sub.cons (t := 30) Look.eq (Sub.cons (t := 31) Look.eq (Sub.cons (t := 32) Look.eq (Sub.cons (t := 33) Look.eq (Sub.cons (t := 34) Look.eq (Sub.cons (t := 35) Look.eq (Sub.nil _))))))))))))))))) ?_
          refine KA.region rfl ?_
          refine KOps.add (by first | omega | (simp; omega)) (by first | omega | (simp; omega)) ?_
          refine KOps.move ?_
          refine KOps.done ?_
          exact lpQ.normal (i + 1) (by repeat (first | exact Sub.nil _ | refine Sub.cons Look.eq ?_ | refine Sub.cons (Eq.trans Look.eq (congrArg (AV.int _) (by first | omega | (dsimp only; omega)))) ?_ | refine Sub.cons (Eq.trans Look.eq (congrArg (AV.int _) (by rw [lstTo, if_neg (fun h0 => by rw [hc.1] at h0; exact absurd h0.2 (by decide))] <;> omega))) ?_ | refine Sub.cons (Eq.trans Look.eq (congrArg (AV.int _) (by rw [mstTo, if_pos ⟨g26, hc.2⟩] <;> omega))) ?_)) ⟨by omega, St.tail hS⟩ (by omega)
    · intro g26
      have g26 := of_decide_eq_true g26
      refine KOps.guardNo (dj := 26) rfl rfl rfl ?_
      refine KOps.guardNo (dj := 26) rfl rfl rfl ?_
      refine KOps.guardNo (dj := 26) rfl rfl rfl ?_
      refine KOps.guardNo (dj := 26) rfl rfl rfl ?_
      refine KOps.guardNo (dj := 26) rfl rfl rfl ?_
      refine KOps.guardNo (dj := 26) rfl rfl rfl ?_
      refine KOps.guardNo (dj := 26) rfl rfl rfl ?_
      refine KOps.guardNo (dj := 26) rfl rfl rfl ?_
      refine KOps.pickT ?_
      refine KOps.assign ?_
      refine KOps.done ?_
      refine sqQ.normal ?_
      refine KA.sub (Sub.cons (t := 1) Look.eq (Sub.cons (t := 2) Look.eq (Sub.cons (t := 6) Look.eq (Sub.cons (t := 7) Look.eq (Sub.cons (t := 9) Look.eq (Sub.cons (t := 11) Look.eq (Sub.cons (t := 12) Look.eq (Sub.cons (t := 13) Look.eq (Sub.cons (t := 22) Look.eq (Sub.cons (t := 27) Look.eq (Sub.cons (t := 28) Look.eq (Sub.cons (t := 29) Look.eq (Sub.cons (t := 30) Look.eq (Sub.cons (t := 31) Look.eq (Sub.cons (t := 32) Look.eq (Sub.cons (t := 33) Look.eq (Sub.cons (t := 34) Look.eq (Sub.cons (t := 35) Look.eq (Sub.nil _))))))))))))))))))) ?_
      refine KA.condT ?_
      refine KA.skip ?_
      refine blQ.normal ?_
      refine blQ.normal ?_
      refine sqQ.normal ?_
      refine KA.sub (Sub.cons (t := 1) Look.eq (Sub.cons (t := 2) Look.eq (Sub.cons (t := 6) Look.eq (Sub.cons (t := 7) Look.eq (Sub.cons (t := 11) Look.eq (Sub.cons (t := 12) Look.eq (Sub.cons (t := 13) Look.eq (Sub.cons (t := 27) Look.eq (Sub.cons (t := 28) Look.eq (Sub.cons (t := 29) Look.eq (Sub.cons (t := 30) Look.eq (Sub.cons (t := 31) Look.eq (Sub.cons (t := 32) Look.eq (Sub.cons (t := 33) Look.eq (Sub.cons (t := 34) Look.eq (Sub.cons (t := 35) Look.eq (Sub.nil _))))))))))))))))) ?_
      refine KA.region rfl ?_
      refine KOps.add (by first | omega | (simp; omega)) (by first | omega | (simp; omega)) ?_
      refine KOps.move ?_
      refine KOps.done ?_
      exact lpQ.normal (i + 1) (by repeat (first | exact Sub.nil _ | refine Sub.cons Look.eq ?_ | refine Sub.cons (Eq.trans Look.eq (congrArg (AV.int _) (by first | omega | (dsimp only; omega)))) ?_ | refine Sub.cons (Eq.trans Look.eq (congrArg (AV.int _) (by rw [lstTo, if_neg (fun h0 => h0.1 g26)] <;> omega))) ?_ | refine Sub.cons (Eq.trans Look.eq (congrArg (AV.int _) (by rw [mstTo, if_neg (fun h0 => h0.1 g26)] <;> omega))) ?_)) ⟨by omega, St.tail hS⟩ (by omega)
  · intro c14
    refine KA.exit ?_
    refine sqQ.exit ?_
    refine lpQ.exit ?_
    refine blQ.here ?_
    refine sqQ.normal ?_
    refine KA.sub (Sub.cons (t := 6) Look.eq (Sub.cons (t := 7) Look.eq (Sub.nil _))) ?_
    refine KA.seq ?_
    refine KA.region rfl ?_
    refine KOps.move ?_
    refine KOps.move ?_
    refine KOps.assign ?_
    refine KOps.assign ?_
    refine KOps.done ?_
    refine sqQ.normal ?_
    refine KA.sub (Sub.cons (t := 6) Look.eq (Sub.cons (t := 7) Look.eq (Sub.nil _))) ?_
    refine KA.ret ?_
    refine fnQ.retN ?_
    rw [show ws.length = i by omega]
    exact ⟨rfl, hS.keeps⟩

end Go.Am

namespace Go.Am

theorem proof_c {h : AHeap} {rm : Int} {vW : AV} {ws : List W} {s : Nat} (hv : Rd h vW 4 (flr wc ws)) (hB : BOk rm ws) (hs : s < 64) : ACalls Go.Proofs.Tryd.prog 72 [.agg [.int .i64 rm, vW], .int .u8 (s : Int)] h (fun q h' => q = .bool (proofB ws s) ∧ Keeps h h') := by
  refine KA.fn 16 [.tmp 4] Go.Proofs.Tryd.func72 rfl (by decide) rfl rfl (Nat.le_of_ble_eq_true rfl) ?_
  have hS := St.refl h
  have hvo : vW.one = true := hv.one
  show KA _ 16 _ _ [(0, .agg [.int .i64 rm, vW]), (1, .int .u8 (s : Int))] _
  refine KA.seq ?_
  refine KA.region rfl ?_
  refine KOps.boxAll hS (by first | rfl | (simp [AV.one]; done) | (simp [AV.one]; assumption) | (simp [AV.one, *]; done)) ?_
  intro p2 h' hp2 hS
  refine KOps.assign ?_
  refine KOps.done ?_
  refine sqQ.normal ?_
  refine KA.sub (Sub.cons (t := 1) Look.eq (Sub.cons (t := 2) Look.eq (Sub.nil _))) ?_
  refine KA.seq ?_
  refine KA.region rfl ?_
  refine KOps.loadAll hS (i := 0) rfl hp2 (by rfl) (by decide) ?_
  refine KOps.move ?_
  refine KOps.call rfl (sums_c (Rd.ext hS.keeps hv) hB hs) ?_
  rintro _ h5 ⟨rfl, hK⟩
  refine KOps.move ?_
  refine KOps.extract ?_
  refine KOps.extract ?_
  refine KOps.assign ?_
  refine KOps.assign ?_
  refine KOps.done ?_
  refine sqQ.normal ?_
  refine KA.sub (Sub.cons (t := 5) Look.eq (Sub.cons (t := 6) Look.eq (Sub.nil _))) ?_
  refine KA.seq ?_
  refine KA.region rfl ?_
  refine KOps.move ?_
  refine KOps.move ?_
  refine KOps.gtr ?_
  refine KOps.assign ?_
  refine KOps.done ?_
  refine sqQ.normal ?_
  refine KA.sub (Sub.cons (t := 4) Look.eq (Sub.nil _)) ?_
  refine KA.ret ?_
  refine fnQ.ret1 ?_
  exact ⟨by rw [proof_sums], hS.keeps.trans hK⟩

theorem list_c {h : AHeap} {s : Nat} (hs : s < 64) : ACalls Go.Proofs.Tryd.prog 95 [.int .u8 (s : Int)] h (fun q h' => St h h' [⟨q, 1, ints (roomsTo s 6), true⟩]) := by
  refine KA.fn 17 [.tmp 2] Go.Proofs.Tryd.func95 rfl (by decide) rfl rfl (Nat.le_of_ble_eq_true rfl) ?_
  have hS := St.refl h
  show KA _ 17 _ _ [(0, .int .u8 (s : Int))] _
  refine KA.seq ?_
  refine KA.region rfl ?_
  refine KOps.assign ?_
  refine KOps.done ?_
  refine sqQ.normal ?_
  refine KA.sub (Sub.cons (t := 0) Look.eq (Sub.nil _)) ?_
  refine KA.seq ?_
  refine KA.region rfl ?_
  refine KOps.assign ?_
  refine KOps.done ?_
  refine sqQ.normal ?_
  refine KA.seq ?_
  refine KA.seq ?_
  refine KA.region rfl ?_
  refine KOps.move ?_
  refine KOps.done ?_
  refine sqQ.normal ?_
  refine KA.block ?_
  refine KA.loop (X := Nat × AV) (fun x => [(0, .int .u8 (s : Int)), (3, x.2), (5, .int .i64 (x.1 : Int))]) (fun x h' => x.1 ≤ 6 ∧ St h h' [⟨x.2, 1, ints (roomsTo s x.1), true⟩]) (fun x => 6 - x.1) (0, .nils) (by repeat (first | exact Sub.nil _ | refine Sub.cons Look.eq ?_ | refine Sub.cons (Eq.trans Look.eq (congrArg (AV.int _) (by first | omega | (dsimp only; omega)))) ?_)) ?_ ?_
  · exact ⟨Nat.zero_le _, St.nil hS 1⟩
  rintro ⟨i, vo⟩ h2 ⟨hi, hS⟩
  dsimp only at hi hS ⊢
  have hrl := roomsTo_len s i
  refine KA.seq ?_
  refine KA.region rfl ?_
  refine KOps.lss ?_
  refine KOps.done ?_
  refine sqQ.normal ?_
  refine KA.seq ?_
  refine KA.condD ?_ ?_
  · intro c6
    refine KA.skip ?_
    refine sqQ.normal ?_
    refine KA.sub (Sub.cons (t := 0) Look.eq (Sub.cons (t := 3) Look.eq (Sub.cons (t := 5) Look.eq (Sub.nil _)))) ?_
    refine KA.seq ?_
    refine KA.block ?_
    refine KA.seq ?_
    refine KA.region rfl ?_
    refine KOps.move ?_
    refine KOps.assign ?_
    refine KOps.done ?_
    refine sqQ.normal ?_
    refine KA.sub (Sub.cons (t := 0) Look.eq (Sub.cons (t := 3) Look.eq (Sub.cons (t := 4) Look.eq (Sub.cons (t := 5) Look.eq (Sub.nil _))))) ?_
    refine KA.seq ?_
    refine KA.region rfl ?_
    refine KOps.move ?_
    refine KOps.move ?_
    refine KOps.call rfl (has8_c (by first | omega | (simp; omega)) (by first | omega | (simp; omega)) (by first | omega | (simp; omega))) ?_
    rintro _ _ ⟨rfl, rfl⟩
    refine KOps.done ?_
    refine sqQ.normal ?_
    refine KA.sub (Sub.cons (t := 0) Look.eq (Sub.cons (t := 3) Look.eq (Sub.cons (t := 4) Look.eq (Sub.cons (t := 5) Look.eq (Sub.cons (t := 10) Look.eq (Sub.nil _)))))) ?_
    refine KA.condB ?_ ?_
    · intro c10
      have hb : s.testBit i = true := by unfold inS at c10; simpa using c10
      refine KA.region rfl ?_
      refine KOps.move ?_
      refine KOps.move ?_
      refine KOps.buildSlice hS rfl (by decide) rfl ?_
      intro v13 h' hS
      refine KOps.appendI hS (fun _ => rfl) (i := 0) rfl (by first | omega | (simp; omega)) ?_
      intro r14 h' hr14 hS
      refine KOps.assign ?_
      refine KOps.done ?_
      refine blQ.normal ?_
      refine sqQ.normal ?_
      refine KA.sub (Sub.cons (t := 0) Look.eq (Sub.cons (t := 3) Look.eq (Sub.cons (t := 5) Look.eq (Sub.nil _)))) ?_
      refine KA.region rfl ?_
      refine KOps.add (by first | omega | (simp; omega)) (by first | omega | (simp; omega)) ?_
      refine KOps.move ?_
      refine KOps.done ?_
      rw [show roomsTo s i ++ [(i : Int)] = roomsTo s (i + 1) by rw [roomsTo_succ, if_pos hb]] at hS
      exact lpQ.normal (i + 1, r14) (by repeat (first | exact Sub.nil _ | refine Sub.cons Look.eq ?_ | refine Sub.cons (Eq.trans Look.eq (congrArg (AV.int _) (by first | omega | (dsimp only; omega)))) ?_)) ⟨by dsimp only; omega, hS⟩ (by dsimp only; omega)
    · intro c10
      have hb : ¬ s.testBit i = true := by unfold inS at c10; simpa using c10
      refine KA.skip ?_
      refine blQ.normal ?_
      refine sqQ.normal ?_
      refine KA.sub (Sub.cons (t := 0) Look.eq (Sub.cons (t := 3) Look.eq (Sub.cons (t := 5) Look.eq (Sub.nil _)))) ?_
      refine KA.region rfl ?_
      refine KOps.add (by first | omega | (simp; omega)) (by first | omega | (simp; omega)) ?_
      refine KOps.move ?_
      refine KOps.done ?_
      rw [show roomsTo s i = roomsTo s (i + 1) by rw [roomsTo_succ, if_neg hb]] at hS
      exact lpQ.normal (i + 1, vo) (by repeat (first | exact Sub.nil _ | refine Sub.cons Look.eq ?_ | refine Sub.cons (Eq.trans Look.eq (congrArg (AV.int _) (by first | omega | (dsimp only; omega)))) ?_)) ⟨by dsimp only; omega, hS⟩ (by dsimp only; omega)
  · intro c6
    refine KA.exit ?_
    refine sqQ.exit ?_
    refine lpQ.exit ?_
    refine blQ.here ?_
    refine sqQ.normal ?_
    refine KA.sub (Sub.cons (t := 3) Look.eq (Sub.nil _)) ?_
    refine KA.seq ?_
    refine KA.region rfl ?_
    refine KOps.move ?_
    refine KOps.assign ?_
    refine KOps.done ?_
    refine sqQ.normal ?_
    refine KA.sub (Sub.cons (t := 2) Look.eq (Sub.nil _)) ?_
    refine KA.ret ?_
    refine fnQ.ret1 ?_
    rw [show i = 6 by omega] at hS
    exact hS

theorem isNaN_c {h : AHeap} {a : Int} : ACalls Go.Proofs.Tryd.prog 104 [.int .i64 a] h (fun q h' => q = .bool false ∧ h = h') := by
  refine KA.fn 6 [.tmp 2] Go.Proofs.Tryd.func104 rfl (by decide) rfl rfl (Nat.le_of_ble_eq_true rfl) ?_
  show KA _ 6 _ _ [(0, .int .i64 a)] _
  refine KA.seq ?_
  refine KA.region rfl ?_
  refine KOps.assign ?_
  refine KOps.done ?_
  refine sqQ.normal ?_
  refine KA.sub (Sub.cons (t := 0) Look.eq (Sub.nil _)) ?_
  refine KA.seq ?_
  refine KA.region rfl ?_
  refine KOps.move ?_
  refine KOps.move ?_
  refine KOps.neq ?_
  refine KOps.assign ?_
  refine KOps.done ?_
  refine sqQ.normal ?_
  refine KA.sub (Sub.cons (t := 2) Look.eq (Sub.nil _)) ?_
  refine KA.ret ?_
  refine fnQ.ret1 ?_
  exact ⟨by simp, rfl⟩

theorem compare_c {h : AHeap} {a b : Int} : ACalls Go.Proofs.Tryd.prog 102 [.int .i64 a, .int .i64 b] h (fun q h' => q = .int .i64 (if a < b then -1 else if b < a then 1 else 0) ∧ h = h') := by
  refine KA.fn 20 [.tmp 4] Go.Proofs.Tryd.func102 rfl (by decide) rfl rfl (Nat.le_of_ble_eq_true rfl) ?_
  show KA _ 20 _ _ [(0, .int .i64 a), (1, .int .i64 b)] _
  refine KA.seq ?_
  refine KA.region rfl ?_
  refine KOps.assign ?_
  refine KOps.done ?_
  refine sqQ.normal ?_
  refine KA.sub (Sub.cons (t := 0) Look.eq (Sub.cons (t := 1) Look.eq (Sub.nil _))) ?_
  refine KA.seq ?_
  refine KA.region rfl ?_
  refine KOps.move ?_
  refine KOps.call rfl (isNaN_c) ?_
  rintro _ _ ⟨rfl, rfl⟩
  refine KOps.assign ?_
  refine KOps.done ?_
  refine sqQ.normal ?_
  refine KA.sub (Sub.cons (t := 0) Look.eq (Sub.cons (t := 1) Look.eq (Sub.cons (t := 5) Look.eq (Sub.nil _)))) ?_
  refine KA.seq ?_
  refine KA.region rfl ?_
  refine KOps.move ?_
  refine KOps.call rfl (isNaN_c) ?_
  rintro _ _ ⟨rfl, rfl⟩
  refine KOps.assign ?_
  refine KOps.done ?_
  refine sqQ.normal ?_
  refine KA.sub (Sub.cons (t := 0) Look.eq (Sub.cons (t := 1) Look.eq (Sub.cons (t := 5) Look.eq (Sub.cons (t := 6) Look.eq (Sub.nil _))))) ?_
  refine KA.seq ?_
  refine KA.seq ?_
  refine KA.region rfl ?_
  refine KOps.move ?_
  refine KOps.done ?_
  refine sqQ.normal ?_
  refine KA.sub (Sub.cons (t := 0) Look.eq (Sub.cons (t := 1) Look.eq (Sub.cons (t := 6) Look.eq (Sub.cons (t := 11) Look.eq (Sub.nil _))))) ?_
  refine KA.condF ?_
  refine KA.skip ?_
  refine sqQ.normal ?_
  refine KA.sub (Sub.cons (t := 0) Look.eq (Sub.cons (t := 1) Look.eq (Sub.cons (t := 6) Look.eq (Sub.nil _)))) ?_
  refine KA.seq ?_
  refine KA.seq ?_
  refine KA.region rfl ?_
  refine KOps.move ?_
  refine KOps.done ?_
  refine sqQ.normal ?_
  refine KA.sub (Sub.cons (t := 0) Look.eq (Sub.cons (t := 1) Look.eq (Sub.cons (t := 13) Look.eq (Sub.nil _)))) ?_
  refine KA.condF ?_
  refine KA.skip ?_
  refine sqQ.normal ?_
  refine KA.sub (Sub.cons (t := 0) Look.eq (Sub.cons (t := 1) Look.eq (Sub.nil _))) ?_
  refine KA.seq ?_
  refine KA.seq ?_
  refine KA.region rfl ?_
  refine KOps.move ?_
  refine KOps.move ?_
  refine KOps.lss ?_
  refine KOps.done ?_
  refine sqQ.normal ?_
  refine KA.sub (Sub.cons (t := 0) Look.eq (Sub.cons (t := 1) Look.eq (Sub.cons (t := 16) Look.eq (Sub.nil _)))) ?_
  refine KA.condD ?_ ?_
  · intro c16
    refine KA.seq ?_
    refine KA.region rfl ?_
    refine KOps.assign ?_
    refine KOps.done ?_
    refine sqQ.normal ?_
    refine KA.sub (Sub.cons (t := 4) Look.eq (Sub.nil _)) ?_
    refine KA.ret ?_
    refine sqQ.ret ?_
    refine fnQ.ret1 ?_
    exact ⟨by rw [if_pos (by omega)], rfl⟩
  · intro c16
    refine KA.skip ?_
    refine sqQ.normal ?_
    refine KA.sub (Sub.cons (t := 0) Look.eq (Sub.cons (t := 1) Look.eq (Sub.nil _))) ?_
    refine KA.seq ?_
    refine KA.seq ?_
    refine KA.region rfl ?_
    refine KOps.move ?_
    refine KOps.move ?_
    refine KOps.gtr ?_
    refine KOps.done ?_
    refine sqQ.normal ?_
    refine KA.sub (Sub.cons (t := 19) Look.eq (Sub.nil _)) ?_
    refine KA.condD ?_ ?_
    · intro c19
      refine KA.seq ?_
      refine KA.region rfl ?_
      refine KOps.assign ?_
      refine KOps.done ?_
      refine sqQ.normal ?_
      refine KA.sub (Sub.cons (t := 4) Look.eq (Sub.nil _)) ?_
      refine KA.ret ?_
      refine sqQ.ret ?_
      refine fnQ.ret1 ?_
      exact ⟨by rw [if_neg (by omega), if_pos (by omega)], rfl⟩
    · intro c19
      refine KA.skip ?_
      refine sqQ.normal ?_
      refine KA.sub (Sub.nil _) ?_
      refine KA.seq ?_
      refine KA.region rfl ?_
      refine KOps.assign ?_
      refine KOps.done ?_
      refine sqQ.normal ?_
      refine KA.ret ?_
      refine fnQ.ret1 ?_
      exact ⟨by rw [if_neg (by omega), if_neg (by omega)], rfl⟩

theorem compares_c {h : AHeap} {v u : AV} {a b : List Int} (hv : Row h v a) (hu : Row h u b) (hla : a.length ≤ 1000000) (hlab : a.length = b.length) : ACalls Go.Proofs.Tryd.prog 96 [v, u] h (fun q h' => (∃ c : Int, q = .int .i64 c ∧ (c < 0 ↔ befB a b = true)) ∧ h = h') := by
  refine KA.fn 36 [.tmp 4] Go.Proofs.Tryd.func96 rfl (by decide) rfl rfl (Nat.le_of_ble_eq_true rfl) ?_
  show KA _ 36 _ _ [(0, v), (1, u)] _
  refine KA.seq ?_
  refine KA.region rfl ?_
  refine KOps.assign ?_
  refine KOps.done ?_
  refine sqQ.normal ?_
  refine KA.sub (Sub.cons (t := 0) Look.eq (Sub.cons (t := 1) Look.eq (Sub.nil _))) ?_
  refine KA.seq ?_
  refine KA.seq ?_
  refine KA.region rfl ?_
  refine KOps.move ?_
  refine KOps.lenI hv ?_
  refine KOps.move ?_
  refine KOps.done ?_
  refine sqQ.normal ?_
  refine KA.block ?_
  refine KA.loop (X := Nat) (fun i => [(1, u), (0, v), (9, v), (10, .int .i64 (a.length : Int)), (11, .int .i64 (i : Int))]) (fun i h' => h = h' ∧ i ≤ a.length ∧ ∀ j, j < i → a.getD j 0 = b.getD j 0) (fun i => a.length - i) 0 (by repeat (first | exact Sub.nil _ | refine Sub.cons Look.eq ?_ | refine Sub.cons (Eq.trans Look.eq (congrArg (AV.int _) (by first | omega | (dsimp only; omega)))) ?_)) ?_ ?_
  · exact ⟨rfl, Nat.zero_le _, fun j hj => by omega⟩
  rintro i _ ⟨rfl, hi, hj⟩
  refine KA.seq ?_
  refine KA.region rfl ?_
  refine KOps.lss ?_
  refine KOps.done ?_
  refine sqQ.normal ?_
  refine KA.seq ?_
  refine KA.condD ?_ ?_
  · intro c12
    refine KA.skip ?_
    refine sqQ.normal ?_
    refine KA.sub (Sub.cons (t := 0) Look.eq (Sub.cons (t := 1) Look.eq (Sub.cons (t := 9) Look.eq (Sub.cons (t := 10) Look.eq (Sub.cons (t := 11) Look.eq (Sub.nil _)))))) ?_
    refine KA.seq ?_
    refine KA.block ?_
    refine KA.seq ?_
    refine KA.region rfl ?_
    refine KOps.move ?_
    refine KOps.indexIJ hv (j := i) rfl (by first | omega | (simp; omega)) ?_
    intro p14 hp14
    refine KOps.loadI hp14 hv (by first | omega | (simp; omega)) ?_
    refine KOps.assign ?_
    refine KOps.assign ?_
    refine KOps.done ?_
    refine sqQ.normal ?_
    refine KA.sub (Sub.cons (t := 0) Look.eq (Sub.cons (t := 1) Look.eq (Sub.cons (t := 5) Look.eq (Sub.cons (t := 6) Look.eq (Sub.cons (t := 9) Look.eq (Sub.cons (t := 10) Look.eq (Sub.cons (t := 11) Look.eq (Sub.nil _)))))))) ?_
    refine KA.seq ?_
    refine KA.seq ?_
    refine KA.region rfl ?_
    refine KOps.move ?_
    refine KOps.move ?_
    refine KOps.lenI hu ?_
    refine KOps.geq ?_
    refine KOps.done ?_
    refine sqQ.normal ?_
    refine KA.sub (Sub.cons (t := 0) Look.eq (Sub.cons (t := 1) Look.eq (Sub.cons (t := 5) Look.eq (Sub.cons (t := 6) Look.eq (Sub.cons (t := 9) Look.eq (Sub.cons (t := 10) Look.eq (Sub.cons (t := 11) Look.eq (Sub.cons (t := 19) Look.eq (Sub.nil _))))))))) ?_
    refine KA.condD ?_ ?_
    · intro c19
      refine KA.seq ?_
      refine KA.region rfl ?_
      refine KOps.assign ?_
      refine KOps.done ?_
      refine sqQ.normal ?_
      refine KA.sub (Sub.cons (t := 4) Look.eq (Sub.nil _)) ?_
      refine KA.ret ?_
      refine sqQ.ret ?_
      refine blQ.ret ?_
      refine sqQ.ret ?_
      refine lpQ.ret ?_
      refine blQ.ret ?_
      refine sqQ.ret ?_
      refine fnQ.ret1 ?_
      exact absurd c19 (by omega)
    · intro c19
      refine KA.skip ?_
      refine sqQ.normal ?_
      refine KA.sub (Sub.cons (t := 0) Look.eq (Sub.cons (t := 1) Look.eq (Sub.cons (t := 5) Look.eq (Sub.cons (t := 6) Look.eq (Sub.cons (t := 9) Look.eq (Sub.cons (t := 10) Look.eq (Sub.cons (t := 11) Look.eq (Sub.nil _)))))))) ?_
      refine KA.seq ?_
      refine KA.region rfl ?_
      refine KOps.move ?_
      refine KOps.move ?_
      refine KOps.indexIJ hu (j := i) rfl (by first | omega | (simp; omega)) ?_
      intro p22 hp22
      refine KOps.loadI hp22 hu (by first | omega | (simp; omega)) ?_
      refine KOps.assign ?_
      refine KOps.done ?_
      refine sqQ.normal ?_
      refine KA.sub (Sub.cons (t := 0) Look.eq (Sub.cons (t := 1) Look.eq (Sub.cons (t := 6) Look.eq (Sub.cons (t := 7) Look.eq (Sub.cons (t := 9) Look.eq (Sub.cons (t := 10) Look.eq (Sub.cons (t := 11) Look.eq (Sub.nil _)))))))) ?_
      refine KA.seq ?_
      refine KA.region rfl ?_
      refine KOps.move ?_
      refine KOps.move ?_
      refine KOps.call rfl (compare_c) ?_
      rintro _ _ ⟨rfl, rfl⟩
      refine KOps.assign ?_
      refine KOps.done ?_
      refine sqQ.normal ?_
      refine KA.sub (Sub.cons (t := 0) Look.eq (Sub.cons (t := 1) Look.eq (Sub.cons (t := 8) Look.eq (Sub.cons (t := 9) Look.eq (Sub.cons (t := 10) Look.eq (Sub.cons (t := 11) Look.eq (Sub.nil _))))))) ?_
      refine KA.seq ?_
      refine KA.region rfl ?_
      refine KOps.move ?_
      refine KOps.neq ?_
      refine KOps.done ?_
      refine sqQ.normal ?_
      refine KA.sub (Sub.cons (t := 0) Look.eq (Sub.cons (t := 1) Look.eq (Sub.cons (t := 8) Look.eq (Sub.cons (t := 9) Look.eq (Sub.cons (t := 10) Look.eq (Sub.cons (t := 11) Look.eq (Sub.cons (t := 28) Look.eq (Sub.nil _)))))))) ?_
      refine KA.condN ?_ ?_
      · intro c28
        refine KA.seq ?_
        refine KA.region rfl ?_
        refine KOps.move ?_
        refine KOps.assign ?_
        refine KOps.done ?_
        refine sqQ.normal ?_
        refine KA.sub (Sub.cons (t := 4) Look.eq (Sub.nil _)) ?_
        refine KA.ret ?_
        refine blQ.ret ?_
        refine sqQ.ret ?_
        refine lpQ.ret ?_
        refine blQ.ret ?_
        refine sqQ.ret ?_
        refine fnQ.ret1 ?_
        refine ⟨⟨_, rfl, ?_⟩, rfl⟩
        rw [befB_at hlab (i := i) (by omega) hj (by intro h0; rw [h0] at c28; simp at c28), decide_eq_true_iff]
        split
        · omega
        · split <;> omega
      · intro c28
        refine KA.skip ?_
        refine blQ.normal ?_
        refine sqQ.normal ?_
        refine KA.sub (Sub.cons (t := 0) Look.eq (Sub.cons (t := 1) Look.eq (Sub.cons (t := 9) Look.eq (Sub.cons (t := 10) Look.eq (Sub.cons (t := 11) Look.eq (Sub.nil _)))))) ?_
        refine KA.region rfl ?_
        refine KOps.add (by first | omega | (simp; omega)) (by first | omega | (simp; omega)) ?_
        refine KOps.move ?_
        refine KOps.done ?_
        refine lpQ.normal (i + 1) (by repeat (first | exact Sub.nil _ | refine Sub.cons Look.eq ?_ | refine Sub.cons (Eq.trans Look.eq (congrArg (AV.int _) (by first | omega | (dsimp only; omega)))) ?_)) ⟨rfl, by omega, ?_⟩ (by omega)
        intro j hj2
        rcases Nat.lt_succ_iff_lt_or_eq.1 hj2 with h3 | rfl
        · exact hj j h3
        · split at c28 <;> (try split at c28) <;> omega
  · intro c12
    refine KA.exit ?_
    refine sqQ.exit ?_
    refine lpQ.exit ?_
    refine blQ.here ?_
    refine sqQ.normal ?_
    refine KA.sub (Sub.cons (t := 0) Look.eq (Sub.cons (t := 1) Look.eq (Sub.nil _))) ?_
    refine KA.seq ?_
    refine KA.seq ?_
    refine KA.region rfl ?_
    refine KOps.move ?_
    refine KOps.lenI hv ?_
    refine KOps.move ?_
    refine KOps.lenI hu ?_
    refine KOps.lss ?_
    refine KOps.done ?_
    refine sqQ.normal ?_
    refine KA.sub (Sub.cons (t := 35) Look.eq (Sub.nil _)) ?_
    refine KA.condD ?_ ?_
    · intro c35
      refine KA.seq ?_
      refine KA.region rfl ?_
      refine KOps.assign ?_
      refine KOps.done ?_
      refine sqQ.normal ?_
      refine KA.sub (Sub.cons (t := 4) Look.eq (Sub.nil _)) ?_
      refine KA.ret ?_
      refine sqQ.ret ?_
      refine fnQ.ret1 ?_
      exact absurd c35 (by omega)
    · intro c35
      refine KA.skip ?_
      refine sqQ.normal ?_
      refine KA.sub (Sub.nil _) ?_
      refine KA.seq ?_
      refine KA.region rfl ?_
      refine KOps.assign ?_
      refine KOps.done ?_
      refine sqQ.normal ?_
      refine KA.ret ?_
      refine fnQ.ret1 ?_
      refine ⟨⟨_, rfl, ?_⟩, rfl⟩
      rw [befB_same hlab (fun j h3 => hj j (by omega))]
      simp

theorem before_c {h : AHeap} {v u : AV} {a b : List Int} (hv : Row h v a) (hu : Row h u b) (hla : a.length ≤ 1000000) : ACalls Go.Proofs.Tryd.prog 75 [v, u] h (fun q h' => q = .bool (befB a b) ∧ h = h') := by
  refine KA.fn 40 [.tmp 4] Go.Proofs.Tryd.func75 rfl (by decide) rfl rfl (Nat.le_of_ble_eq_true rfl) ?_
  show KA _ 40 _ _ [(0, v), (1, u)] _
  refine KA.seq ?_
  refine KA.region rfl ?_
  refine KOps.assign ?_
  refine KOps.done ?_
  refine sqQ.normal ?_
  refine KA.sub (Sub.cons (t := 0) Look.eq (Sub.cons (t := 1) Look.eq (Sub.nil _))) ?_
  refine KA.seq ?_
  refine KA.seq ?_
  refine KA.region rfl ?_
  refine KOps.move ?_
  refine KOps.lenI hv ?_
  refine KOps.move ?_
  refine KOps.lenI hu ?_
  refine KOps.neq ?_
  refine KOps.done ?_
  refine sqQ.normal ?_
  refine KA.sub (Sub.cons (t := 0) Look.eq (Sub.cons (t := 1) Look.eq (Sub.cons (t := 10) Look.eq (Sub.nil _)))) ?_
  refine KA.condN ?_ ?_
  · intro c10
    refine KA.seq ?_
    refine KA.region rfl ?_
    refine KOps.move ?_
    refine KOps.lenI hv ?_
    refine KOps.move ?_
    refine KOps.lenI hu ?_
    refine KOps.lss ?_
    refine KOps.assign ?_
    refine KOps.done ?_
    refine sqQ.normal ?_
    refine KA.sub (Sub.cons (t := 4) Look.eq (Sub.nil _)) ?_
    refine KA.ret ?_
    refine sqQ.ret ?_
    refine fnQ.ret1 ?_
    refine ⟨congrArg AV.bool ?_, rfl⟩
    rw [befB_len (by omega)]
    exact decide_eq_decide.2 (by omega)
  · intro c10
    have hlab : a.length = b.length := by omega
    refine KA.skip ?_
    refine sqQ.normal ?_
    refine KA.sub (Sub.cons (t := 0) Look.eq (Sub.cons (t := 1) Look.eq (Sub.nil _))) ?_
    refine KA.seq ?_
    refine KA.seq ?_
    refine KA.region rfl ?_
    refine KOps.assign ?_
    refine KOps.done ?_
    refine sqQ.normal ?_
    refine KA.block ?_
    refine KA.loop (X := Nat) (fun i => [(0, v), (1, u), (5, .int .i64 (i : Int))]) (fun i h' => h = h' ∧ i ≤ a.length ∧ ∀ j, j < i → a.getD j 0 = b.getD j 0) (fun i => a.length - i) 0 (by repeat (first | exact Sub.nil _ | refine Sub.cons Look.eq ?_ | refine Sub.cons (Eq.trans Look.eq (congrArg (AV.int _) (by first | omega | (dsimp only; omega)))) ?_)) ?_ ?_
    · exact ⟨rfl, Nat.zero_le _, fun j hj => by omega⟩
    rintro i _ ⟨rfl, hi, hj⟩
    refine KA.seq ?_
    refine KA.seq ?_
    refine KA.region rfl ?_
    refine KOps.move ?_
    refine KOps.move ?_
    refine KOps.lenI hv ?_
    refine KOps.lss ?_
    refine KOps.done ?_
    refine sqQ.normal ?_
    refine KA.sub (Sub.cons (t := 0) Look.eq (Sub.cons (t := 1) Look.eq (Sub.cons (t := 5) Look.eq (Sub.cons (t := 19) Look.eq (Sub.nil _))))) ?_
    refine KA.condD ?_ ?_
    · intro c19
      refine KA.skip ?_
      refine sqQ.normal ?_
      refine KA.sub (Sub.cons (t := 0) Look.eq (Sub.cons (t := 1) Look.eq (Sub.cons (t := 5) Look.eq (Sub.nil _)))) ?_
      refine KA.seq ?_
      refine KA.block ?_
      refine KA.seq ?_
      refine KA.draw [] mixed rfl (by kernel_rfl) ?_
      refine KOps.move ?_
      refine KOps.move ?_
      refine KOps.indexIJ hv (j := i) rfl (by first | omega | (simp; omega)) ?_
      intro p24 hp24
      refine KOps.loadI hp24 hv (by first | omega | (simp; omega)) ?_
      refine KOps.move ?_
      refine KOps.move ?_
      refine KOps.indexIJ hu (j := i) rfl (by first | omega | (simp; omega)) ?_
      intro p28 hp28
      refine KOps.loadI hp28 hu (by first | omega | (simp; omega)) ?_
      refine KOps.neq ?_
      refine KOps.done ?_
      refine sqQ.normal ?_
      refine KA.sub (Sub.cons (t := 0) Look.eq (Sub.cons (t := 1) Look.eq (Sub.cons (t := 5) Look.eq (Sub.cons (t := 30) Look.eq (Sub.nil _))))) ?_
      refine KA.condN ?_ ?_
      · intro c30
        refine KA.seq ?_
        refine KA.draw [] mixed rfl (by kernel_rfl) ?_
        refine KOps.move ?_
        refine KOps.move ?_
        refine KOps.indexIJ hv (j := i) rfl (by first | omega | (simp; omega)) ?_
        intro p33 hp33
        refine KOps.loadI hp33 hv (by first | omega | (simp; omega)) ?_
        refine KOps.move ?_
        refine KOps.move ?_
        refine KOps.indexIJ hu (j := i) rfl (by first | omega | (simp; omega)) ?_
        intro p37 hp37
        refine KOps.loadI hp37 hu (by first | omega | (simp; omega)) ?_
        refine KOps.lss ?_
        refine KOps.assign ?_
        refine KOps.done ?_
        refine sqQ.normal ?_
        refine KA.sub (Sub.cons (t := 4) Look.eq (Sub.nil _)) ?_
        refine KA.ret ?_
        refine blQ.ret ?_
        refine sqQ.ret ?_
        refine lpQ.ret ?_
        refine blQ.ret ?_
        refine sqQ.ret ?_
        refine fnQ.ret1 ?_
        exact ⟨congrArg AV.bool (befB_at hlab (i := i) (by omega) hj (by omega)).symm, rfl⟩
      · intro c30
        refine KA.skip ?_
        refine blQ.normal ?_
        refine sqQ.normal ?_
        refine KA.sub (Sub.cons (t := 0) Look.eq (Sub.cons (t := 1) Look.eq (Sub.cons (t := 5) Look.eq (Sub.nil _)))) ?_
        refine KA.region rfl ?_
        refine KOps.move ?_
        refine KOps.add (by first | omega | (simp; omega)) (by first | omega | (simp; omega)) ?_
        refine KOps.assign ?_
        refine KOps.done ?_
        refine lpQ.normal (i + 1) (by repeat (first | exact Sub.nil _ | refine Sub.cons Look.eq ?_ | refine Sub.cons (Eq.trans Look.eq (congrArg (AV.int _) (by first | omega | (dsimp only; omega)))) ?_)) ⟨rfl, by omega, ?_⟩ (by omega)
        intro j hj2
        rcases Nat.lt_succ_iff_lt_or_eq.1 hj2 with h3 | rfl
        · exact hj j h3
        · exact c30
    · intro c19
      refine KA.exit ?_
      refine sqQ.exit ?_
      refine lpQ.exit ?_
      refine blQ.here ?_
      refine sqQ.normal ?_
      refine KA.sub (Sub.nil _) ?_
      refine KA.seq ?_
      refine KA.region rfl ?_
      refine KOps.assign ?_
      refine KOps.done ?_
      refine sqQ.normal ?_
      refine KA.ret ?_
      refine fnQ.ret1 ?_
      exact ⟨congrArg AV.bool (befB_same hlab (fun j h3 => hj j (by omega))).symm, rfl⟩

def lastI (l : List Int) (i : Nat) : Int := if i = 0 then -1 else l.getD (i - 1) 0
theorem lastI_succ (l : List Int) (i : Nat) : lastI l (i + 1) = l.getD i 0 := by rw [lastI, if_neg (by omega)]; rfl
theorem roomE_in {rm : Int} {l : List Int} {i : Nat} (h : ¬ (0 ≤ l.getD i 0 ∧ l.getD i 0 ≤ rm - 1)) : roomE rm l i = 2 := by rw [roomE, if_pos h]
theorem roomE_ord {rm : Int} {l : List Int} {i : Nat} (h : 0 ≤ l.getD i 0 ∧ l.getD i 0 ≤ rm - 1) (h2 : 0 < i ∧ l.getD i 0 ≤ l.getD (i - 1) 0) : roomE rm l i = 7 := by rw [roomE, if_neg (fun h3 => h3 h), if_pos h2]
theorem roomE_ok {rm : Int} {l : List Int} {i : Nat} (h : 0 ≤ l.getD i 0 ∧ l.getD i 0 ≤ rm - 1) (h2 : ¬ (0 < i ∧ l.getD i 0 ≤ l.getD (i - 1) 0)) : roomE rm l i = 0 := by rw [roomE, if_neg (fun h3 => h3 h), if_neg h2]
abbrev setE (rm : Int) (l : List Int) : Nat := if roomsE rm l l.length = 0 then setTo l l.length else 0
theorem set_next {l : List Int} {i : Nat} {rm : Int} (hs : setTo l i < 64) (h : 0 ≤ l.getD i 0 ∧ l.getD i 0 ≤ rm - 1) (hr : rm ≤ 6) : setTo l (i + 1) < 64 := or64 _ hs _ (by omega)
theorem set_or8 {l : List Int} {i : Nat} {rm : Int} (hs : setTo l i < 64) (h : 0 ≤ l.getD i 0 ∧ l.getD i 0 ≤ rm - 1) (hr : rm ≤ 6) : bits .or .u8 (setTo l i : Int) (IntKind.wrap .u8 (1 * 2 ^ Min.min (l.getD i 0).toNat (IntKind.bits .u8))) = (setTo l (i + 1) : Int) := by
  have := or8 _ hs (l.getD i 0).toNat (by omega)
  rwa [show (((l.getD i 0).toNat : Nat) : Int).toNat = (l.getD i 0).toNat by omega] at this
theorem set_or64 {l : List Int} {i : Nat} {rm : Int} (hs : setTo l i < 64) (h : 0 ≤ l.getD i 0 ∧ l.getD i 0 ≤ rm - 1) (hr : rm ≤ 6) : bits .or .i64 (setTo l i : Int) (IntKind.wrap .i64 (1 * 2 ^ Min.min (l.getD i 0).toNat (IntKind.bits .i64))) = (setTo l (i + 1) : Int) := by
  have := or64' _ hs (l.getD i 0).toNat (by omega)
  rwa [show (((l.getD i 0).toNat : Nat) : Int).toNat = (l.getD i 0).toNat by omega] at this

theorem rooms_c {h : AHeap} {rm : Int} {vW vn : AV} {ws : List W} {l : List Int} (hv : Rd h vW 4 (flr wc ws)) (hn : Row h vn l) (hB : BOk rm ws) (hll : l.length ≤ 1000000) : ACalls Go.Proofs.Tryd.prog 76 [.agg [.int .i64 rm, vW], vn] h (fun q h' => q = .tup [.int .u8 (setE rm l : Int), .int .i64 (roomsE rm l l.length)] ∧ Keeps h h') := by
  refine KA.fn 33 [.tmp 4, .tmp 5] Go.Proofs.Tryd.func76 rfl (by decide) rfl rfl (Nat.le_of_ble_eq_true rfl) ?_
  have hS := St.refl h
  have hvo : vW.one = true := hv.one
  have hr6 := hB.r6
  have hr2 := hB.r2
  show KA _ 33 _ _ [(0, .agg [.int .i64 rm, vW]), (1, vn)] _
  refine KA.seq ?_
  refine KA.region rfl ?_
  refine KOps.boxAll hS (by first | rfl | (simp [AV.one]; done) | (simp [AV.one]; assumption) | (simp [AV.one, *]; done)) ?_
  intro p2 h' hp2 hS
  refine KOps.assign ?_
  refine KOps.assign ?_
  refine KOps.done ?_
  refine sqQ.normal ?_
  refine KA.sub (Sub.cons (t := 1) Look.eq (Sub.cons (t := 2) Look.eq (Sub.cons (t := 4) Look.eq (Sub.nil _)))) ?_
  refine KA.seq ?_
  refine KA.region rfl ?_
  refine KOps.assign ?_
  refine KOps.done ?_
  refine sqQ.normal ?_
  refine KA.seq ?_
  refine KA.seq ?_
  refine KA.region rfl ?_
  refine KOps.move ?_
  refine KOps.lenI (Row.ext hS.keeps hn) ?_
  refine KOps.move ?_
  refine KOps.done ?_
  refine sqQ.normal ?_
  refine KA.sub (Sub.cons (t := 2) Look.eq (Sub.cons (t := 4) Look.eq (Sub.cons (t := 6) Look.eq (Sub.cons (t := 9) Look.eq (Sub.cons (t := 10) Look.eq (Sub.cons (t := 11) Look.eq (Sub.nil _))))))) ?_
  refine KA.block ?_
  refine KA.loop (X := Nat) (fun i => [(2, p2), (4, .int .u8 (setTo l i : Int)), (6, .int .i64 (lastI l i)), (9, vn), (10, .int .i64 (l.length : Int)), (11, .int .i64 (i : Int))]) (fun i h' => i ≤ l.length ∧ roomsE rm l i = 0 ∧ setTo l i < 64 ∧ St h h' [⟨p2, 0, [.int .i64 rm, vW], true⟩]) (fun i => l.length - i) 0 (by repeat (first | exact Sub.nil _ | refine Sub.cons Look.eq ?_ | refine Sub.cons (Eq.trans Look.eq (congrArg (AV.int _) (by first | omega | (dsimp only; omega)))) ?_)) ?_ ?_
  · exact ⟨Nat.zero_le _, rfl, (show 0 < 64 by decide), hS⟩
  rintro i h9 ⟨hi, h0, hset, hS⟩
  refine KA.seq ?_
  refine KA.region rfl ?_
  refine KOps.lss ?_
  refine KOps.done ?_
  refine sqQ.normal ?_
  refine KA.seq ?_
  refine KA.condD ?_ ?_
  · intro c12
    refine KA.skip ?_
    refine sqQ.normal ?_
    refine KA.sub (Sub.cons (t := 2) Look.eq (Sub.cons (t := 4) Look.eq (Sub.cons (t := 6) Look.eq (Sub.cons (t := 9) Look.eq (Sub.cons (t := 10) Look.eq (Sub.cons (t := 11) Look.eq (Sub.nil _))))))) ?_
    refine KA.seq ?_
    refine KA.block ?_
    refine KA.seq ?_
    refine KA.region rfl ?_
    refine KOps.indexIJ (Row.ext hS.keeps hn) (j := i) rfl (by first | omega | (simp; omega)) ?_
    intro p13 hp13
    refine KOps.loadI hp13 (Row.ext hS.keeps hn) (by first | omega | (simp; omega)) ?_
    refine KOps.assign ?_
    refine KOps.done ?_
    refine sqQ.normal ?_
    refine KA.sub (Sub.cons (t := 2) Look.eq (Sub.cons (t := 4) Look.eq (Sub.cons (t := 6) Look.eq (Sub.cons (t := 8) Look.eq (Sub.cons (t := 9) Look.eq (Sub.cons (t := 10) Look.eq (Sub.cons (t := 11) Look.eq (Sub.nil _)))))))) ?_
    refine KA.seq ?_
    refine KA.block ?_
    refine KA.seq ?_
    refine KA.region rfl ?_
    refine KOps.move ?_
    refine KOps.fieldAddr hp2 ?_
    intro p17 hp17
    refine KOps.load hp17 (hS.rd 0 rfl) rfl ?_
    refine KOps.sub (by first | omega | (simp; omega)) (by first | omega | (simp; omega)) ?_
    refine KOps.call rfl (between_c) ?_
    rintro _ _ ⟨rfl, rfl⟩
    refine KOps.not ?_
    refine KOps.assign ?_
    refine KOps.done ?_
    refine sqQ.normal ?_
    refine KA.sub (Sub.cons (t := 2) Look.eq (Sub.cons (t := 4) Look.eq (Sub.cons (t := 6) Look.eq (Sub.cons (t := 8) Look.eq (Sub.cons (t := 9) Look.eq (Sub.cons (t := 10) Look.eq (Sub.cons (t := 11) Look.eq (Sub.cons (t := 15) Look.eq (Sub.nil _))))))))) ?_
    refine KA.condN ?_ ?_
    · intro c15
      refine KA.seq ?_
      refine KA.region rfl ?_
      refine KOps.assign ?_
      refine KOps.assign ?_
      refine KOps.done ?_
      refine sqQ.normal ?_
      refine KA.sub (Sub.cons (t := 4) Look.eq (Sub.cons (t := 5) Look.eq (Sub.nil _))) ?_
      refine KA.ret ?_
      refine blQ.ret ?_
      refine sqQ.ret ?_
      refine blQ.ret ?_
      refine sqQ.ret ?_
      refine lpQ.ret ?_
      refine blQ.ret ?_
      refine sqQ.ret ?_
      refine fnQ.retN ?_
      have e0 : roomsE rm l l.length = 2 := by rw [roomsE_stop (i := i) h0 (by rw [roomE_in c15]; decide) (by omega), roomE_in c15]
      rw [setE, if_neg (by rw [e0]; decide), e0]
      exact ⟨rfl, hS.keeps⟩
    · intro c15
      have hin : 0 ≤ l.getD i 0 ∧ l.getD i 0 ≤ rm - 1 := c15
      refine KA.seq ?_
      refine KA.region rfl ?_
      refine KOps.move ?_
      refine KOps.move ?_
      refine KOps.leq ?_
      refine KOps.assign ?_
      refine KOps.done ?_
      refine sqQ.normal ?_
      refine KA.sub (Sub.cons (t := 2) Look.eq (Sub.cons (t := 4) Look.eq (Sub.cons (t := 8) Look.eq (Sub.cons (t := 9) Look.eq (Sub.cons (t := 10) Look.eq (Sub.cons (t := 11) Look.eq (Sub.cons (t := 22) Look.eq (Sub.nil _)))))))) ?_
      refine KA.condD ?_ ?_
      · intro c22
        refine KA.seq ?_
        refine KA.region rfl ?_
        refine KOps.assign ?_
        refine KOps.assign ?_
        refine KOps.done ?_
        refine sqQ.normal ?_
        refine KA.sub (Sub.cons (t := 4) Look.eq (Sub.cons (t := 5) Look.eq (Sub.nil _))) ?_
        refine KA.ret ?_
        refine blQ.ret ?_
        refine sqQ.ret ?_
        refine blQ.ret ?_
        refine sqQ.ret ?_
        refine lpQ.ret ?_
        refine blQ.ret ?_
        refine sqQ.ret ?_
        refine fnQ.retN ?_
        have hle : 0 < i ∧ l.getD i 0 ≤ l.getD (i - 1) 0 := by
          by_cases h1 : i = 0
          · rw [lastI, if_pos h1] at c22; omega
          · rw [lastI, if_neg h1] at c22; exact ⟨by omega, c22⟩
        have e0 : roomsE rm l l.length = 7 := by rw [roomsE_stop (i := i) h0 (by rw [roomE_ord hin hle]; decide) (by omega), roomE_ord hin hle]
        rw [setE, if_neg (by rw [e0]; decide), e0]
        exact ⟨rfl, hS.keeps⟩
      · intro c22
        have hnl : ¬ (0 < i ∧ l.getD i 0 ≤ l.getD (i - 1) 0) := by
          rintro ⟨h1, h2⟩
          rw [lastI, if_neg (by omega)] at c22
          exact c22 h2
        refine KA.skip ?_
        refine blQ.normal ?_
        refine sqQ.normal ?_
        refine KA.sub (Sub.cons (t := 2) Look.eq (Sub.cons (t := 4) Look.eq (Sub.cons (t := 8) Look.eq (Sub.cons (t := 9) Look.eq (Sub.cons (t := 10) Look.eq (Sub.cons (t := 11) Look.eq (Sub.nil _))))))) ?_
        refine KA.seq ?_
        refine KA.region rfl ?_
        refine KOps.move ?_
        refine KOps.assign ?_
        refine KOps.done ?_
        refine sqQ.normal ?_
        refine KA.sub (Sub.cons (t := 2) Look.eq (Sub.cons (t := 4) Look.eq (Sub.cons (t := 6) Look.eq (Sub.cons (t := 8) Look.eq (Sub.cons (t := 9) Look.eq (Sub.cons (t := 10) Look.eq (Sub.cons (t := 11) Look.eq (Sub.nil _)))))))) ?_
        refine KA.region rfl ?_
        refine KOps.move ?_
        refine KOps.move ?_
        refine KOps.shl (by omega) ?_
        refine KOps.bits (by simp) ?_
        rw [set_or8 (rm := rm) hset hin hr6]
        refine KOps.assign ?_
        refine KOps.done ?_
        refine blQ.normal ?_
        refine sqQ.normal ?_
        refine KA.sub (Sub.cons (t := 2) Look.eq (Sub.cons (t := 4) Look.eq (Sub.cons (t := 6) Look.eq (Sub.cons (t := 9) Look.eq (Sub.cons (t := 10) Look.eq (Sub.cons (t := 11) Look.eq (Sub.nil _))))))) ?_
        refine KA.region rfl ?_
        refine KOps.add (by first | omega | (simp; omega)) (by first | omega | (simp; omega)) ?_
        refine KOps.move ?_
        refine KOps.done ?_
        exact lpQ.normal (i + 1) (by repeat (first | exact Sub.nil _ | refine Sub.cons Look.eq ?_ | refine Sub.cons (Eq.trans Look.eq (congrArg (AV.int _) (by first | omega | (dsimp only; omega)))) ?_ | refine Sub.cons (Eq.trans Look.eq (by rw [lastI_succ])) ?_)) ⟨by omega, roomsE_next h0 (roomE_ok hin hnl), set_next (rm := rm) hset hin hr6, hS⟩ (by omega)
  · intro c12
    refine KA.exit ?_
    refine sqQ.exit ?_
    refine lpQ.exit ?_
    refine blQ.here ?_
    refine sqQ.normal ?_
    refine KA.sub (Sub.cons (t := 4) Look.eq (Sub.nil _)) ?_
    refine KA.seq ?_
    refine KA.region rfl ?_
    refine KOps.move ?_
    refine KOps.assign ?_
    refine KOps.assign ?_
    refine KOps.done ?_
    refine sqQ.normal ?_
    refine KA.sub (Sub.cons (t := 4) Look.eq (Sub.cons (t := 5) Look.eq (Sub.nil _))) ?_
    refine KA.ret ?_
    refine fnQ.retN ?_
    have hie : i = l.length := by omega
    subst hie
    rw [setE, if_pos h0, h0]
    exact ⟨rfl, hS.keeps⟩

theorem refRooms_c {h : AHeap} {rm : Int} {vW vn : AV} {ws : List W} {l : List Int} (hv : Rd h vW 4 (flr wc ws)) (hn : Row h vn l) (hB : BOk rm ws) (hll : l.length ≤ 1000000) : ACalls Go.Proofs.Tryd.prog 77 [.agg [.int .i64 rm, vW], vn] h (fun q h' => q = .tup [.int .i64 (setE rm l : Int), .int .i64 (roomsE rm l l.length)] ∧ Keeps h h') := by
  refine KA.fn 45 [.tmp 4, .tmp 5] Go.Proofs.Tryd.func77 rfl (by decide) rfl rfl (Nat.le_of_ble_eq_true rfl) ?_
  have hS := St.refl h
  have hvo : vW.one = true := hv.one
  have hr6 := hB.r6
  have hr2 := hB.r2
  show KA _ 45 _ _ [(0, .agg [.int .i64 rm, vW]), (1, vn)] _
  refine KA.seq ?_
  refine KA.region rfl ?_
  refine KOps.boxAll hS (by first | rfl | (simp [AV.one]; done) | (simp [AV.one]; assumption) | (simp [AV.one, *]; done)) ?_
  intro p2 h' hp2 hS
  refine KOps.assign ?_
  refine KOps.assign ?_
  refine KOps.done ?_
  refine sqQ.normal ?_
  refine KA.sub (Sub.cons (t := 1) Look.eq (Sub.cons (t := 2) Look.eq (Sub.nil _))) ?_
  refine KA.seq ?_
  refine KA.region rfl ?_
  refine KOps.assign ?_
  refine KOps.done ?_
  refine sqQ.normal ?_
  refine KA.seq ?_
  refine KA.seq ?_
  refine KA.region rfl ?_
  refine KOps.assign ?_
  refine KOps.done ?_
  refine sqQ.normal ?_
  refine KA.block ?_
  refine KA.loop (X := Nat) (fun i => [(1, vn), (2, p2), (6, .int .i64 (setTo l i : Int)), (7, .int .i64 (i : Int))]) (fun i h' => i ≤ l.length ∧ roomsE rm l i = 0 ∧ setTo l i < 64 ∧ St h h' [⟨p2, 0, [.int .i64 rm, vW], true⟩]) (fun i => l.length - i) 0 (by repeat (first | exact Sub.nil _ | refine Sub.cons Look.eq ?_ | refine Sub.cons (Eq.trans Look.eq (congrArg (AV.int _) (by first | omega | (dsimp only; omega)))) ?_)) ?_ ?_
  · exact ⟨Nat.zero_le _, rfl, (show 0 < 64 by decide), hS⟩
  rintro i h9 ⟨hi, h0, hset, hS⟩
  refine KA.seq ?_
  refine KA.seq ?_
  refine KA.region rfl ?_
  refine KOps.move ?_
  refine KOps.move ?_
  refine KOps.lenI (Row.ext hS.keeps hn) ?_
  refine KOps.lss ?_
  refine KOps.done ?_
  refine sqQ.normal ?_
  refine KA.sub (Sub.cons (t := 1) Look.eq (Sub.cons (t := 2) Look.eq (Sub.cons (t := 6) Look.eq (Sub.cons (t := 7) Look.eq (Sub.cons (t := 11) Look.eq (Sub.nil _)))))) ?_
  refine KA.condD ?_ ?_
  · intro c11
    refine KA.skip ?_
    refine sqQ.normal ?_
    refine KA.sub (Sub.cons (t := 1) Look.eq (Sub.cons (t := 2) Look.eq (Sub.cons (t := 6) Look.eq (Sub.cons (t := 7) Look.eq (Sub.nil _))))) ?_
    refine KA.seq ?_
    refine KA.block ?_
    refine KA.seq ?_
    refine KA.seq ?_
    refine KA.draw [] mixed rfl (by kernel_rfl) ?_
    refine KOps.move ?_
    refine KOps.move ?_
    refine KOps.indexIJ (Row.ext hS.keeps hn) (j := i) rfl (by first | omega | (simp; omega)) ?_
    intro p16 hp16
    refine KOps.loadI hp16 (Row.ext hS.keeps hn) (by first | omega | (simp; omega)) ?_
    refine KOps.fieldAddr hp2 ?_
    intro p18 hp18
    refine KOps.load hp18 (hS.rd 0 rfl) rfl ?_
    refine KOps.sub (by first | omega | (simp; omega)) (by first | omega | (simp; omega)) ?_
    refine KOps.call rfl (in_c) ?_
    rintro _ _ ⟨rfl, rfl⟩
    refine KOps.not ?_
    refine KOps.done ?_
    refine sqQ.normal ?_
    refine KA.sub (Sub.cons (t := 1) Look.eq (Sub.cons (t := 2) Look.eq (Sub.cons (t := 6) Look.eq (Sub.cons (t := 7) Look.eq (Sub.cons (t := 22) Look.eq (Sub.nil _)))))) ?_
    refine KA.condN ?_ ?_
    · intro c22
      refine KA.seq ?_
      refine KA.region rfl ?_
      refine KOps.assign ?_
      refine KOps.assign ?_
      refine KOps.done ?_
      refine sqQ.normal ?_
      refine KA.sub (Sub.cons (t := 4) Look.eq (Sub.cons (t := 5) Look.eq (Sub.nil _))) ?_
      refine KA.ret ?_
      refine sqQ.ret ?_
      refine blQ.ret ?_
      refine sqQ.ret ?_
      refine lpQ.ret ?_
      refine blQ.ret ?_
      refine sqQ.ret ?_
      refine fnQ.retN ?_
      have e0 : roomsE rm l l.length = 2 := by rw [roomsE_stop (i := i) h0 (by rw [roomE_in c22]; decide) (by omega), roomE_in c22]
      rw [setE, if_neg (by rw [e0]; decide), e0]
      exact ⟨rfl, hS.keeps⟩
    · intro c22
      have hin : 0 ≤ l.getD i 0 ∧ l.getD i 0 ≤ rm - 1 := c22
      refine KA.skip ?_
      refine sqQ.normal ?_
      refine KA.sub (Sub.cons (t := 1) Look.eq (Sub.cons (t := 2) Look.eq (Sub.cons (t := 6) Look.eq (Sub.cons (t := 7) Look.eq (Sub.nil _))))) ?_
      refine KA.seq ?_
      refine KA.seq ?_
      refine KA.draw [] mixed rfl (by kernel_rfl) ?_
      refine KOps.move ?_
      refine KOps.gtr ?_
      refine KOps.move ?_
      refine KOps.guardB (dj := 25) rfl rfl true false rfl ?_ ?_
      · intro g25
        have g25 := of_decide_eq_true g25
        refine KOps.move ?_
        refine KOps.guardYes (dj := 25) rfl rfl ?_
        refine KOps.move ?_
        refine KOps.guardYes (dj := 25) rfl rfl ?_
        refine KOps.indexIJ (Row.ext hS.keeps hn) (j := i) rfl (by first | omega | (simp; omega)) ?_
        intro p28 hp28
        refine KOps.guardYes (dj := 25) rfl rfl ?_
        refine KOps.loadI hp28 (Row.ext hS.keeps hn) (by first | omega | (simp; omega)) ?_
        refine KOps.guardYes (dj := 25) rfl rfl ?_
        refine KOps.move ?_
        refine KOps.guardYes (dj := 25) rfl rfl ?_
        refine KOps.move ?_
        refine KOps.guardYes (dj := 25) rfl rfl ?_
        refine KOps.sub (by first | omega | (simp; omega)) (by first | omega | (simp; omega)) ?_
        refine KOps.guardYes (dj := 25) rfl rfl ?_
        refine KOps.indexIJ (Row.ext hS.keeps hn) (j := (i - 1)) (by first | omega | (simp; omega)) (by first | omega | (simp; omega)) ?_
        intro p33 hp33
        refine KOps.guardYes (dj := 25) rfl rfl ?_
        refine KOps.loadI hp33 (Row.ext hS.keeps hn) (by first | omega | (simp; omega)) ?_
        refine KOps.guardYes (dj := 25) rfl rfl ?_
        refine KOps.leq ?_
        refine KOps.pickT ?_
        refine KOps.done ?_
        refine sqQ.normal ?_
        refine KA.sub (Sub.cons (t := 1) Look.eq (Sub.cons (t := 2) Look.eq (Sub.cons (t := 6) Look.eq (Sub.cons (t := 7) Look.eq (Sub.cons (t := 26) Look.eq (Sub.cons (t := 27) Look.eq (Sub.cons (t := 28) Look.eq (Sub.cons (t := 29) Look.eq (Sub.cons (t := 30) Look.eq (Sub.cons (t := 31) Look.eq (Sub.cons (t := 32) Look.eq (Sub.cons (t := 33) Look.eq (Sub.cons (t := 34) Look.eq (Sub.cons (t := 35) Look.eq (Sub.cons (t := 36) Look.eq (Sub.nil _)))))))))))))))) ?_
        refine KA.condD ?_ ?_
        · intro c36
          refine KA.seq ?_
          refine KA.region rfl ?_
          refine KOps.assign ?_
          refine KOps.assign ?_
          refine KOps.done ?_
          refine sqQ.normal ?_
          refine KA.sub (Sub.cons (t := 4) Look.eq (Sub.cons (t := 5) Look.eq (Sub.nil _))) ?_
          refine KA.ret ?_
          refine sqQ.ret ?_
          refine blQ.ret ?_
          refine sqQ.ret ?_
          refine lpQ.ret ?_
          refine blQ.ret ?_
          refine sqQ.ret ?_
          refine fnQ.retN ?_
          have e0 : roomsE rm l l.length = 7 := by rw [roomsE_stop (i := i) h0 (by rw [roomE_ord hin ⟨by omega, c36⟩]; decide) (by omega), roomE_ord hin ⟨by omega, c36⟩]
          rw [setE, if_neg (by rw [e0]; decide), e0]
          exact ⟨rfl, hS.keeps⟩
        · intro c36
          refine KA.skip ?_
          refine sqQ.normal ?_
          refine KA.sub (Sub.cons (t := 1) Look.eq (Sub.cons (t := 2) Look.eq (Sub.cons (t := 6) Look.eq (Sub.cons (t := 7) Look.eq (Sub.cons (t := 26) Look.eq (Sub.cons (t := 27) Look.eq (Sub.cons (t := 28) Look.eq (Sub.cons (t := 29) Look.eq (Sub.cons (t := 30) Look.eq (Sub.cons (t := 31) Look.eq (Sub.cons (t := 32) Look.eq (Sub.cons (t := 33) Look.eq (Sub.cons (t := 34) Look.eq (Sub.cons (t := 35) Look.eq (Sub.nil _))))))))))))))) ?_
          refine KA.region rfl ?_
          refine KOps.move ?_
          refine KOps.move ?_
          refine KOps.move ?_
          refine KOps.indexIJ (Row.ext hS.keeps hn) (j := i) rfl (by first | omega | (simp; omega)) ?_
          intro p40 hp40
          refine KOps.loadI hp40 (Row.ext hS.keeps hn) (by first | omega | (simp; omega)) ?_
          refine KOps.shl (by omega) ?_
          refine KOps.bits (by simp) ?_
          rw [set_or64 (rm := rm) hset hin hr6]
          refine KOps.assign ?_
          refine KOps.done ?_
          refine blQ.normal ?_
          refine sqQ.normal ?_
          refine KA.sub (Sub.cons (t := 1) Look.eq (Sub.cons (t := 2) Look.eq (Sub.cons (t := 6) Look.eq (Sub.cons (t := 7) Look.eq (Sub.cons (t := 26) Look.eq (Sub.cons (t := 27) Look.eq (Sub.cons (t := 28) Look.eq (Sub.cons (t := 29) Look.eq (Sub.cons (t := 30) Look.eq (Sub.cons (t := 31) Look.eq (Sub.cons (t := 32) Look.eq (Sub.cons (t := 33) Look.eq (Sub.cons (t := 34) Look.eq (Sub.cons (t := 35) Look.eq (Sub.nil _))))))))))))))) ?_
          refine KA.region rfl ?_
          refine KOps.move ?_
          refine KOps.add (by first | omega | (simp; omega)) (by first | omega | (simp; omega)) ?_
          refine KOps.assign ?_
          refine KOps.done ?_
          exact lpQ.normal (i + 1) (by repeat (first | exact Sub.nil _ | refine Sub.cons Look.eq ?_ | refine Sub.cons (Eq.trans Look.eq (congrArg (AV.int _) (by first | omega | (dsimp only; omega)))) ?_)) ⟨by omega, roomsE_next h0 (roomE_ok hin (fun h1 => c36 h1.2)), set_next (rm := rm) hset hin hr6, hS⟩ (by omega)
      · intro g25
        have g25 := of_decide_eq_false g25
        refine KOps.guardNo (dj := 25) rfl rfl rfl ?_
        refine KOps.guardNo (dj := 25) rfl rfl rfl ?_
        refine KOps.guardNo (dj := 25) rfl rfl rfl ?_
        refine KOps.guardNo (dj := 25) rfl rfl rfl ?_
        refine KOps.guardNo (dj := 25) rfl rfl rfl ?_
        refine KOps.guardNo (dj := 25) rfl rfl rfl ?_
        refine KOps.guardNo (dj := 25) rfl rfl rfl ?_
        refine KOps.guardNo (dj := 25) rfl rfl rfl ?_
        refine KOps.guardNo (dj := 25) rfl rfl rfl ?_
        refine KOps.pickF ?_
        refine KOps.done ?_
        refine sqQ.normal ?_
        refine KA.sub (Sub.cons (t := 1) Look.eq (Sub.cons (t := 2) Look.eq (Sub.cons (t := 6) Look.eq (Sub.cons (t := 7) Look.eq (Sub.cons (t := 26) Look.eq (Sub.cons (t := 27) Look.eq (Sub.cons (t := 28) Look.eq (Sub.cons (t := 29) Look.eq (Sub.cons (t := 30) Look.eq (Sub.cons (t := 31) Look.eq (Sub.cons (t := 32) Look.eq (Sub.cons (t := 33) Look.eq (Sub.cons (t := 34) Look.eq (Sub.cons (t := 35) Look.eq (Sub.cons (t := 36) Look.eq (Sub.nil _)))))))))))))))) ?_
        refine KA.condF ?_
        refine KA.skip ?_
        refine sqQ.normal ?_
        refine KA.sub (Sub.cons (t := 1) Look.eq (Sub.cons (t := 2) Look.eq (Sub.cons (t := 6) Look.eq (Sub.cons (t := 7) Look.eq (Sub.cons (t := 26) Look.eq (Sub.cons (t := 27) Look.eq (Sub.cons (t := 28) Look.eq (Sub.cons (t := 29) Look.eq (Sub.cons (t := 30) Look.eq (Sub.cons (t := 31) Look.eq (Sub.cons (t := 32) Look.eq (Sub.cons (t := 33) Look.eq (Sub.cons (t := 34) Look.eq (Sub.cons (t := 35) Look.eq (Sub.nil _))))))))))))))) ?_
        refine KA.region rfl ?_
        refine KOps.move ?_
        refine KOps.move ?_
        refine KOps.move ?_
        refine KOps.indexIJ (Row.ext hS.keeps hn) (j := i) rfl (by first | omega | (simp; omega)) ?_
        intro p40 hp40
        refine KOps.loadI hp40 (Row.ext hS.keeps hn) (by first | omega | (simp; omega)) ?_
        refine KOps.shl (by omega) ?_
        refine KOps.bits (by simp) ?_
        rw [set_or64 (rm := rm) hset hin hr6]
        refine KOps.assign ?_
        refine KOps.done ?_
        refine blQ.normal ?_
        refine sqQ.normal ?_
        refine KA.sub (Sub.cons (t := 1) Look.eq (Sub.cons (t := 2) Look.eq (Sub.cons (t := 6) Look.eq (Sub.cons (t := 7) Look.eq (Sub.cons (t := 26) Look.eq (Sub.cons (t := 27) Look.eq (Sub.cons (t := 28) Look.eq (Sub.cons (t := 29) Look.eq (Sub.cons (t := 30) Look.eq (Sub.cons (t := 31) Look.eq (Sub.cons (t := 32) Look.eq (Sub.cons (t := 33) Look.eq (Sub.cons (t := 34) Look.eq (Sub.cons (t := 35) Look.eq (Sub.nil _))))))))))))))) ?_
        refine KA.region rfl ?_
        refine KOps.move ?_
        refine KOps.add (by first | omega | (simp; omega)) (by first | omega | (simp; omega)) ?_
        refine KOps.assign ?_
        refine KOps.done ?_
        exact lpQ.normal (i + 1) (by repeat (first | exact Sub.nil _ | refine Sub.cons Look.eq ?_ | refine Sub.cons (Eq.trans Look.eq (congrArg (AV.int _) (by first | omega | (dsimp only; omega)))) ?_)) ⟨by omega, roomsE_next h0 (roomE_ok hin (fun h1 => by omega)), set_next (rm := rm) hset hin hr6, hS⟩ (by omega)
  · intro c11
    refine KA.exit ?_
    refine sqQ.exit ?_
    refine lpQ.exit ?_
    refine blQ.here ?_
    refine sqQ.normal ?_
    refine KA.sub (Sub.cons (t := 6) Look.eq (Sub.nil _)) ?_
    refine KA.seq ?_
    refine KA.region rfl ?_
    refine KOps.move ?_
    refine KOps.assign ?_
    refine KOps.assign ?_
    refine KOps.done ?_
    refine sqQ.normal ?_
    refine KA.sub (Sub.cons (t := 4) Look.eq (Sub.cons (t := 5) Look.eq (Sub.nil _))) ?_
    refine KA.ret ?_
    refine fnQ.retN ?_
    have hie : i = l.length := by omega
    subst hie
    rw [setE, if_pos h0, h0]
    exact ⟨rfl, hS.keeps⟩

end Go.Am

namespace Go.Am
section
variable {P : Program} {n : Nat} {ops : Array Oper} {ex : List Nat} {Q : KF → AHeap → Prop} {k : Nat} {os : List Oper} {K : KF} {h : AHeap} {d : Nat} {ty : TypeId} {pos : String} {after : Array Edge}
theorem KOps.addK {t t' : TypeId} {x y : Operand} {kd : IntKind} {a b : Int} [hx : EvK h.globs n K x (.int kd a)] [hy : EvK h.globs n K y (.int kd b)] (hw : kd.wrap (a + b) = a + b) (hk : KOps P n ops ex Q (k + 1) os ((d, .int kd (a + b)) :: K) h) : KOps P n ops ex Q k (⟨some d, .binOp .add t x y t', ty, pos, after, none⟩ :: os) K h :=
  KOps.int (.inr (.inr rfl)) (by rw [← hw]; rfl) hk
end
theorem add8 : ∀ k : Nat, k < 64 → IntKind.wrap .u8 ((k : Int) + 1) = (k : Int) + 1 := by decide +kernel
theorem shl8 : ∀ i : Nat, i ≤ 6 → IntKind.wrap .u8 (1 * 2 ^ Min.min (i : Int).toNat (IntKind.bits .u8)) = ((2 ^ i : Nat) : Int) := by decide +kernel
/-- How many rooms sets have, for each set of rooms. -/
def sizesC : List AV := (List.range 64).map fun s => .int .i8 ((roomsTo s 6).length : Int)
def Sizes (h : AHeap) : Prop := h.globs.contains 0 = true ∧ Rd h (.ptr 0 0) 0 sizesC
theorem Sizes.ext {h h' : AHeap} (z : Sizes h) (k : Keeps h h') : Sizes h' := ⟨by rw [k.globs]; exact z.1, Rd.ext k z.2⟩
theorem Sizes.ev {h : AHeap} (z : Sizes h) (n : Nat) (K : KF) : EvK h.globs n K (.global 0) (.ptr 0 0) := ⟨by simp only [evalK]; rw [if_pos z.1]⟩
theorem sizes_get {k : Nat} (hk : k < 64) : sizesC[0 + k]? = some (.int .i8 ((roomsTo k 6).length : Int)) := by
  rw [Nat.zero_add, sizesC, List.getElem?_map, List.getElem?_range hk]; rfl
theorem addr0 : AddrOf (.ptr 0 0) (.ptr 0 0) 0 0 := ⟨0, 0, .inr ⟨rfl, rfl⟩, rfl⟩
def szO (o : Option Nat) : Nat := match o with | none => 7 | some b => (roomsTo b 6).length
def rowO (o : Option Nat) : List Int := match o with | none => [] | some b => roomsTo b 6
theorem fewL_is (p : Nat → Bool) (k : Nat) : fewL p k = rowO (bestTo p k) := by unfold fewL rowO; cases bestTo p k <;> rfl
theorem better_lt {o : Option Nat} {k : Nat} (h : (roomsTo k 6).length < szO o) : betterO o k = true := by
  cases o with
  | none => rfl
  | some b =>
    have h : (roomsTo k 6).length < (roomsTo b 6).length := h
    show befB _ _ = true
    rw [befB_len (by omega), decide_eq_true h]
theorem better_gt {o : Option Nat} {k : Nat} (h : szO o < (roomsTo k 6).length) : betterO o k = false := by
  cases o with
  | none =>
    have h : 7 < (roomsTo k 6).length := h
    have := roomsTo_len k 6
    omega
  | some b =>
    have h : (roomsTo b 6).length < (roomsTo k 6).length := h
    show befB _ _ = false
    rw [befB_len (by omega), decide_eq_false (by omega)]
theorem better_eq {o : Option Nat} {k : Nat} (h : (roomsTo k 6).length = szO o) : betterO o k = befB (roomsTo k 6) (rowO o) ∧ (roomsTo k 6).length = (rowO o).length := by
  cases o with
  | none =>
    have h : (roomsTo k 6).length = 7 := h
    have := roomsTo_len k 6
    omega
  | some b => exact ⟨rfl, h⟩
theorem best_no {p : Nat → Bool} {k : Nat} (h : (p k && betterO (bestTo p k) k) = false) : bestTo p (k + 1) = bestTo p k := by rw [bestTo, if_neg (by rw [h]; decide)]
theorem best_yes {p : Nat → Bool} {k : Nat} (h : p k = true) (h2 : betterO (bestTo p k) k = true) : bestTo p (k + 1) = some k := by rw [bestTo, if_pos (by rw [h, h2]; rfl)]

theorem fewest_c {h : AHeap} {r : Nat} {vW vi : AV} {ws : List W} {p : Nat → Bool} (hv : Rd h vW 4 (flr wc ws)) (hr : r ≤ 6) (hSz : Sizes h) (hone : vi.one = true)
    (hP : ∀ (h' : AHeap) (s : Nat), Keeps h h' → s < 2 ^ r → CallsV Go.Proofs.Tryd.prog vi [.int .u8 (s : Int)] h' (fun q h2 => q = .bool (p s) ∧ Keeps h' h2)) : ACalls Go.Proofs.Tryd.prog 71 [.agg [.int .i64 (r : Int), vW], vi] h (fun q h' => St h h' [⟨q, 1, ints (fewL p (2 ^ r)), true⟩]) := by
  refine KA.fn 45 [.tmp 4] Go.Proofs.Tryd.func71 rfl (by decide) rfl rfl (Nat.le_of_ble_eq_true rfl) ?_
  have hS := St.refl h
  have hvo : vW.one = true := hv.one
  have hpw : 2 ^ r ≤ 2 ^ 6 := Nat.pow_le_pow_right (by decide) hr
  have hsh := shl8 r hr
  show KA _ 45 _ _ [(0, .agg [.int .i64 (r : Int), vW]), (1, vi)] _
  refine KA.seq ?_
  refine KA.region rfl ?_
  refine KOps.boxAll hS (by first | rfl | (simp [AV.one]; done) | (simp [AV.one]; assumption) | (simp [AV.one, *]; done)) ?_
  intro p2 h' hp2 hS
  refine KOps.assign ?_
  refine KOps.done ?_
  refine sqQ.normal ?_
  refine KA.sub (Sub.cons (t := 1) Look.eq (Sub.cons (t := 2) Look.eq (Sub.nil _))) ?_
  refine KA.seq ?_
  refine KA.region rfl ?_
  refine KOps.assign ?_
  refine KOps.done ?_
  refine sqQ.normal ?_
  refine KA.seq ?_
  refine KA.region rfl ?_
  refine KOps.assign ?_
  refine KOps.done ?_
  refine sqQ.normal ?_
  refine KA.seq ?_
  refine KA.seq ?_
  refine KA.region rfl ?_
  refine KOps.fieldAddr hp2 ?_
  intro p9 hp9
  refine KOps.load hp9 (hS.rd 0 rfl) rfl ?_
  refine KOps.shl (by omega) ?_
  rw [hsh]
  refine KOps.move ?_
  refine KOps.done ?_
  refine sqQ.normal ?_
  refine KA.sub (Sub.cons (t := 1) Look.eq (Sub.cons (t := 5) Look.eq (Sub.cons (t := 6) Look.eq (Sub.cons (t := 11) Look.eq (Sub.cons (t := 12) Look.eq (Sub.nil _)))))) ?_
  refine KA.block ?_
  refine KA.loop (X := Nat × AV) (fun x => [(1, vi), (5, x.2), (6, .int .i8 (szO (bestTo p x.1) : Int)), (11, .int .u8 ((2 ^ r : Nat) : Int)), (12, .int .u8 (x.1 : Int))]) (fun x h' => x.1 ≤ 2 ^ r ∧ St h h' [⟨p2, 0, [.int .i64 (r : Int), vW], true⟩, ⟨x.2, 1, ints (rowO (bestTo p x.1)), true⟩]) (fun x => 2 ^ r - x.1) (0, .nils) (by repeat (first | exact Sub.nil _ | refine Sub.cons Look.eq ?_ | refine Sub.cons (Eq.trans Look.eq (congrArg (AV.int _) (by first | omega | (dsimp only; omega)))) ?_)) ?_ ?_
  · exact ⟨Nat.zero_le _, St.addNil 1 true hS⟩
  rintro ⟨k, vo⟩ h4 ⟨hk, hS⟩
  dsimp only at hk hS ⊢
  have hkl := roomsTo_len k 6
  refine KA.seq ?_
  refine KA.region rfl ?_
  refine KOps.lss ?_
  refine KOps.done ?_
  refine sqQ.normal ?_
  refine KA.seq ?_
  refine KA.condD ?_ ?_
  · intro c13
    refine KA.skip ?_
    refine sqQ.normal ?_
    refine KA.sub (Sub.cons (t := 1) Look.eq (Sub.cons (t := 5) Look.eq (Sub.cons (t := 6) Look.eq (Sub.cons (t := 11) Look.eq (Sub.cons (t := 12) Look.eq (Sub.nil _)))))) ?_
    refine KA.seq ?_
    refine KA.block ?_
    refine KA.seq ?_
    refine KA.region rfl ?_
    refine KOps.move ?_
    refine KOps.assign ?_
    refine KOps.done ?_
    refine sqQ.normal ?_
    refine KA.sub (Sub.cons (t := 1) Look.eq (Sub.cons (t := 5) Look.eq (Sub.cons (t := 6) Look.eq (Sub.cons (t := 7) Look.eq (Sub.cons (t := 11) Look.eq (Sub.cons (t := 12) Look.eq (Sub.nil _))))))) ?_
    refine KA.seq ?_
    refine KA.seq ?_
    refine KA.region rfl ?_
    refine KOps.move ?_
    have hz := hSz.ext hS.keeps
    haveI hzi := hz.ev
    refine KOps.indexAt (v := .ptr 0 0) addr0 (j := k) rfl (by omega) ?_
    intro p16 hp16
    refine KOps.load hp16 hz.2 (sizes_get (by omega)) ?_
    refine KOps.move ?_
    refine KOps.gtr ?_
    refine KOps.move ?_
    refine KOps.guardB (dj := 20) rfl rfl false true rfl ?_ ?_
    · intro g20
      have g20 := of_decide_eq_false g20
      refine KOps.move ?_
      refine KOps.guardYes (dj := 20) rfl rfl ?_
      refine KOps.move ?_
      refine KOps.guardYes (dj := 20) rfl rfl ?_
      refine KOps.callV rfl (hP _ k hS.keeps (by omega)) ?_
      rintro _ h5 ⟨rfl, hK⟩
      have hS0 : St _ _ (_ :: _) := St.trans hS (St.ofK hK)
      clear hS
      have hS := hS0
      clear hS0
      refine KOps.guardYes (dj := 20) rfl rfl ?_
      refine KOps.not ?_
      refine KOps.pickF ?_
      refine KOps.done ?_
      refine sqQ.normal ?_
      refine KA.sub (Sub.cons (t := 1) Look.eq (Sub.cons (t := 5) Look.eq (Sub.cons (t := 6) Look.eq (Sub.cons (t := 7) Look.eq (Sub.cons (t := 11) Look.eq (Sub.cons (t := 12) Look.eq (Sub.cons (t := 21) Look.eq (Sub.cons (t := 22) Look.eq (Sub.cons (t := 23) Look.eq (Sub.cons (t := 24) Look.eq (Sub.cons (t := 25) Look.eq (Sub.nil _)))))))))))) ?_
      refine KA.condB ?_ ?_
      · intro c25
        refine KA.exit ?_
        refine sqQ.exit ?_
        refine blQ.here ?_
        refine sqQ.normal ?_
        refine KA.sub (Sub.cons (t := 1) Look.eq (Sub.cons (t := 5) Look.eq (Sub.cons (t := 6) Look.eq (Sub.cons (t := 11) Look.eq (Sub.cons (t := 12) Look.eq (Sub.cons (t := 21) Look.eq (Sub.cons (t := 22) Look.eq (Sub.cons (t := 23) Look.eq (Sub.cons (t := 24) Look.eq (Sub.nil _)))))))))) ?_
        refine KA.region rfl ?_
        refine KOps.addK (add8 k (by omega)) ?_
        refine KOps.move ?_
        refine KOps.done ?_
        have hb := best_no (p := p) (k := k) (by rw [show p k = false by simpa using c25, Bool.false_and])
        refine lpQ.normal (k + 1, vo) (by repeat (first | exact Sub.nil _ | refine Sub.cons Look.eq ?_ | refine Sub.cons (Eq.trans Look.eq (congrArg (AV.int _) (by first | omega | (dsimp only; omega)))) ?_ | refine Sub.cons (Eq.trans Look.eq (by rw [hb])) ?_)) ⟨by dsimp only; omega, ?_⟩ (by dsimp only; omega)
        dsimp only
        rw [hb]
        exact hS
      · intro c25
        refine KA.skip ?_
        refine sqQ.normal ?_
        refine KA.sub (Sub.cons (t := 1) Look.eq (Sub.cons (t := 5) Look.eq (Sub.cons (t := 6) Look.eq (Sub.cons (t := 7) Look.eq (Sub.cons (t := 11) Look.eq (Sub.cons (t := 12) Look.eq (Sub.cons (t := 21) Look.eq (Sub.cons (t := 22) Look.eq (Sub.cons (t := 23) Look.eq (Sub.cons (t := 24) Look.eq (Sub.nil _))))))))))) ?_
        refine KA.seq ?_
        refine KA.region rfl ?_
        refine KOps.move ?_
        refine KOps.call rfl (list_c (by omega)) ?_
        rintro vl h6 hL
        have hS0 : St _ _ (_ :: _) := St.trans hS hL
        clear hS
        have hS := hS0
        clear hS0
        refine KOps.assign ?_
        refine KOps.done ?_
        refine sqQ.normal ?_
        refine KA.sub (Sub.cons (t := 1) Look.eq (Sub.cons (t := 5) Look.eq (Sub.cons (t := 6) Look.eq (Sub.cons (t := 7) Look.eq (Sub.cons (t := 8) Look.eq (Sub.cons (t := 11) Look.eq (Sub.cons (t := 12) Look.eq (Sub.cons (t := 21) Look.eq (Sub.cons (t := 22) Look.eq (Sub.cons (t := 23) Look.eq (Sub.cons (t := 24) Look.eq (Sub.nil _)))))))))))) ?_
        refine KA.seq ?_
        refine KA.region rfl ?_
        refine KOps.move ?_
        have hz := hSz.ext hS.keeps
        haveI hzi := hz.ev
        refine KOps.indexAt (v := .ptr 0 0) addr0 (j := k) rfl (by omega) ?_
        intro p29 hp29
        refine KOps.load hp29 hz.2 (sizes_get (by omega)) ?_
        refine KOps.move ?_
        refine KOps.lss ?_
        refine KOps.move ?_
        refine KOps.guardB (dj := 33) rfl rfl false true rfl ?_ ?_
        · intro g33
          have g33 := of_decide_eq_false g33
          refine KOps.move ?_
          refine KOps.guardYes (dj := 33) rfl rfl ?_
          refine KOps.move ?_
          refine KOps.guardYes (dj := 33) rfl rfl ?_
          refine KOps.call rfl (compares_c (hS.rd 0 rfl) (hS.rd 2 rfl) (by omega) (better_eq (by omega)).2) ?_
          rintro _ _ ⟨⟨c, rfl, hc⟩, rfl⟩
          refine KOps.guardYes (dj := 33) rfl rfl ?_
          refine KOps.lss ?_
          refine KOps.pickF ?_
          refine KOps.done ?_
          refine sqQ.normal ?_
          refine KA.sub (Sub.cons (t := 1) Look.eq (Sub.cons (t := 5) Look.eq (Sub.cons (t := 6) Look.eq (Sub.cons (t := 7) Look.eq (Sub.cons (t := 8) Look.eq (Sub.cons (t := 11) Look.eq (Sub.cons (t := 12) Look.eq (Sub.cons (t := 21) Look.eq (Sub.cons (t := 22) Look.eq (Sub.cons (t := 23) Look.eq (Sub.cons (t := 24) Look.eq (Sub.cons (t := 34) Look.eq (Sub.cons (t := 35) Look.eq (Sub.cons (t := 36) Look.eq (Sub.cons (t := 37) Look.eq (Sub.cons (t := 38) Look.eq (Sub.nil _))))))))))))))))) ?_
          refine KA.condD ?_ ?_
          · intro c38
            refine KA.draw [] mixed rfl (by kernel_rfl) ?_
            refine KOps.move ?_
            refine KOps.move ?_
            have hz := hSz.ext hS.keeps
            haveI hzi := hz.ev
            refine KOps.indexAt (v := .ptr 0 0) addr0 (j := k) rfl (by omega) ?_
            intro p41 hp41
            refine KOps.load hp41 hz.2 (sizes_get (by omega)) ?_
            refine KOps.assign ?_
            refine KOps.assign ?_
            refine KOps.done ?_
            refine blQ.normal ?_
            refine sqQ.normal ?_
            refine KA.sub (Sub.cons (t := 1) Look.eq (Sub.cons (t := 5) Look.eq (Sub.cons (t := 6) Look.eq (Sub.cons (t := 11) Look.eq (Sub.cons (t := 12) Look.eq (Sub.cons (t := 21) Look.eq (Sub.cons (t := 22) Look.eq (Sub.cons (t := 23) Look.eq (Sub.cons (t := 24) Look.eq (Sub.cons (t := 34) Look.eq (Sub.cons (t := 35) Look.eq (Sub.cons (t := 36) Look.eq (Sub.cons (t := 37) Look.eq (Sub.nil _)))))))))))))) ?_
            refine KA.region rfl ?_
            refine KOps.addK (add8 k (by omega)) ?_
            refine KOps.move ?_
            refine KOps.done ?_
            have hb := best_yes (p := p) (k := k) (by simpa using c25) (by rw [(better_eq (by omega)).1]; exact hc.1 (by omega))
            refine lpQ.normal (k + 1, vl) (by repeat (first | exact Sub.nil _ | refine Sub.cons Look.eq ?_ | refine Sub.cons (Eq.trans Look.eq (congrArg (AV.int _) (by first | omega | (dsimp only; omega)))) ?_ | refine Sub.cons (Eq.trans Look.eq (by rw [hb]; rfl)) ?_)) ⟨by dsimp only; omega, ?_⟩ (by dsimp only; omega)
            dsimp only
            rw [hb]
            exact St.pick [1, 0] (by decide) rfl hS
          · intro c38
            refine KA.skip ?_
            refine blQ.normal ?_
            refine sqQ.normal ?_
            refine KA.sub (Sub.cons (t := 1) Look.eq (Sub.cons (t := 5) Look.eq (Sub.cons (t := 6) Look.eq (Sub.cons (t := 11) Look.eq (Sub.cons (t := 12) Look.eq (Sub.cons (t := 21) Look.eq (Sub.cons (t := 22) Look.eq (Sub.cons (t := 23) Look.eq (Sub.cons (t := 24) Look.eq (Sub.cons (t := 34) Look.eq (Sub.cons (t := 35) Look.eq (Sub.cons (t := 36) Look.eq (Sub.cons (t := 37) Look.eq (Sub.nil _)))))))))))))) ?_
            refine KA.region rfl ?_
            refine KOps.addK (add8 k (by omega)) ?_
            refine KOps.move ?_
            refine KOps.done ?_
            have hb := best_no (p := p) (k := k) (by rw [(better_eq (by omega)).1, show befB (roomsTo k 6) (rowO (bestTo p k)) = false from Bool.eq_false_iff.2 (fun h0 => by have := hc.2 h0; omega), Bool.and_false])
            refine lpQ.normal (k + 1, vo) (by repeat (first | exact Sub.nil _ | refine Sub.cons Look.eq ?_ | refine Sub.cons (Eq.trans Look.eq (congrArg (AV.int _) (by first | omega | (dsimp only; omega)))) ?_ | refine Sub.cons (Eq.trans Look.eq (by rw [hb])) ?_)) ⟨by dsimp only; omega, ?_⟩ (by dsimp only; omega)
            dsimp only
            rw [hb]
            exact St.tail hS
        · intro g33
          have g33 := of_decide_eq_true g33
          refine KOps.guardNo (dj := 33) rfl rfl rfl ?_
          refine KOps.guardNo (dj := 33) rfl rfl rfl ?_
          refine KOps.guardNo (dj := 33) rfl rfl rfl ?_
          refine KOps.pickT ?_
          refine KOps.done ?_
          refine sqQ.normal ?_
          refine KA.sub (Sub.cons (t := 1) Look.eq (Sub.cons (t := 5) Look.eq (Sub.cons (t := 6) Look.eq (Sub.cons (t := 7) Look.eq (Sub.cons (t := 8) Look.eq (Sub.cons (t := 11) Look.eq (Sub.cons (t := 12) Look.eq (Sub.cons (t := 21) Look.eq (Sub.cons (t := 22) Look.eq (Sub.cons (t := 23) Look.eq (Sub.cons (t := 24) Look.eq (Sub.cons (t := 34) Look.eq (Sub.cons (t := 35) Look.eq (Sub.cons (t := 36) Look.eq (Sub.cons (t := 37) Look.eq (Sub.cons (t := 38) Look.eq (Sub.nil _))))))))))))))))) ?_
          refine KA.condT ?_
          refine KA.draw [] mixed rfl (by kernel_rfl) ?_
          refine KOps.move ?_
          refine KOps.move ?_
          have hz := hSz.ext hS.keeps
          haveI hzi := hz.ev
          refine KOps.indexAt (v := .ptr 0 0) addr0 (j := k) rfl (by omega) ?_
          intro p41 hp41
          refine KOps.load hp41 hz.2 (sizes_get (by omega)) ?_
          refine KOps.assign ?_
          refine KOps.assign ?_
          refine KOps.done ?_
          refine blQ.normal ?_
          refine sqQ.normal ?_
          refine KA.sub (Sub.cons (t := 1) Look.eq (Sub.cons (t := 5) Look.eq (Sub.cons (t := 6) Look.eq (Sub.cons (t := 11) Look.eq (Sub.cons (t := 12) Look.eq (Sub.cons (t := 21) Look.eq (Sub.cons (t := 22) Look.eq (Sub.cons (t := 23) Look.eq (Sub.cons (t := 24) Look.eq (Sub.cons (t := 34) Look.eq (Sub.cons (t := 35) Look.eq (Sub.cons (t := 36) Look.eq (Sub.cons (t := 37) Look.eq (Sub.nil _)))))))))))))) ?_
          refine KA.region rfl ?_
          refine KOps.addK (add8 k (by omega)) ?_
          refine KOps.move ?_
          refine KOps.done ?_
          have hb := best_yes (p := p) (k := k) (by simpa using c25) (better_lt (by omega))
          refine lpQ.normal (k + 1, vl) (by repeat (first | exact Sub.nil _ | refine Sub.cons Look.eq ?_ | refine Sub.cons (Eq.trans Look.eq (congrArg (AV.int _) (by first | omega | (dsimp only; omega)))) ?_ | refine Sub.cons (Eq.trans Look.eq (by rw [hb]; rfl)) ?_)) ⟨by dsimp only; omega, ?_⟩ (by dsimp only; omega)
          dsimp only
          rw [hb]
          exact St.pick [1, 0] (by decide) rfl hS
    · intro g20
      have g20 := of_decide_eq_true g20
      refine KOps.guardNo (dj := 20) rfl rfl rfl ?_
      refine KOps.guardNo (dj := 20) rfl rfl rfl ?_
      refine KOps.guardNo (dj := 20) rfl rfl rfl ?_
      refine KOps.pickT ?_
      refine KOps.done ?_
      refine sqQ.normal ?_
      refine KA.sub (Sub.cons (t := 1) Look.eq (Sub.cons (t := 5) Look.eq (Sub.cons (t := 6) Look.eq (Sub.cons (t := 7) Look.eq (Sub.cons (t := 11) Look.eq (Sub.cons (t := 12) Look.eq (Sub.cons (t := 21) Look.eq (Sub.cons (t := 22) Look.eq (Sub.cons (t := 23) Look.eq (Sub.cons (t := 24) Look.eq (Sub.cons (t := 25) Look.eq (Sub.nil _)))))))))))) ?_
      refine KA.condT ?_
      refine KA.exit ?_
      refine sqQ.exit ?_
      refine blQ.here ?_
      refine sqQ.normal ?_
      refine KA.sub (Sub.cons (t := 1) Look.eq (Sub.cons (t := 5) Look.eq (Sub.cons (t := 6) Look.eq (Sub.cons (t := 11) Look.eq (Sub.cons (t := 12) Look.eq (Sub.cons (t := 21) Look.eq (Sub.cons (t := 22) Look.eq (Sub.cons (t := 23) Look.eq (Sub.cons (t := 24) Look.eq (Sub.nil _)))))))))) ?_
      refine KA.region rfl ?_
      refine KOps.addK (add8 k (by omega)) ?_
      refine KOps.move ?_
      refine KOps.done ?_
      have hb := best_no (p := p) (k := k) (by rw [better_gt (by omega), Bool.and_false])
      refine lpQ.normal (k + 1, vo) (by repeat (first | exact Sub.nil _ | refine Sub.cons Look.eq ?_ | refine Sub.cons (Eq.trans Look.eq (congrArg (AV.int _) (by first | omega | (dsimp only; omega)))) ?_ | refine Sub.cons (Eq.trans Look.eq (by rw [hb])) ?_)) ⟨by dsimp only; omega, ?_⟩ (by dsimp only; omega)
      dsimp only
      rw [hb]
      exact hS
  · intro c13
    refine KA.exit ?_
    refine sqQ.exit ?_
    refine lpQ.exit ?_
    refine blQ.here ?_
    refine sqQ.normal ?_
    refine KA.sub (Sub.cons (t := 5) Look.eq (Sub.nil _)) ?_
    refine KA.seq ?_
    refine KA.region rfl ?_
    refine KOps.move ?_
    refine KOps.assign ?_
    refine KOps.done ?_
    refine sqQ.normal ?_
    refine KA.sub (Sub.cons (t := 4) Look.eq (Sub.nil _)) ?_
    refine KA.ret ?_
    refine fnQ.ret1 ?_
    rw [fewL_is, show 2 ^ r = k by omega]
    exact St.pick [1] (by decide) rfl hS

end Go.Am
