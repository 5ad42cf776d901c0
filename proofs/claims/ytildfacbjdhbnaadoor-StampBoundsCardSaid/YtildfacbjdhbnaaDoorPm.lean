/-
  Layer 01: rooms that prove the ends of spans: contracts, of both.
  Conditions: none.
-/
import Derived.Test.YtildfacbjdhbnaaDoorPk
namespace Go.Am

theorem bound1_c {h : AHeap} {rm : Int} {vW p3 p4 p12 p13 : AV} {ws : List W} {s i : Nat} {g : Bool} (hv : Rd h vW 4 (flr wc ws)) (hB : BOk rm ws) (hs : s < 64) (hi : i < ws.length) (hp3 : AddrOf p3 p3 0 0) (hp4 : AddrOf p4 p4 0 0) (hp12 : AddrOf p12 p12 0 0) (hp13 : AddrOf p13 p13 0 0) (h3 : Rd h p3 0 [.int .i64 rm, vW]) (h4 : Rd h p4 0 [.int .i64 (i : Int)]) (h12 : Rd h p12 0 [.int .i64 (insI ws i g)]) (h13 : Rd h p13 0 [.int .i64 (endI ws i g)]) : ACalls Go.Proofs.Tryd.prog 86 [.int .u8 (s : Int), p3, p4, p12, p13] h (fun q h' => q = .bool (pB ws i g s) ∧ Keeps h h') := by
  refine KA.fn 27 [.tmp 6] Go.Proofs.Tryd.func86 rfl (by decide) rfl rfl (Nat.le_of_ble_eq_true rfl) ?_
  have hS := St.refl h
  have hr6 := hB.r6
  have hwi := hB.way i hi
  have hwf0 := hwi.f0
  have hwf1 := hwi.f1
  have hwt0 := hwi.t0
  have hwt1 := hwi.t1
  have hin : 0 ≤ insI ws i g ∧ insI ws i g < 6 := by
    unfold insI; cases g <;> simp only [if_true, if_false, Bool.false_eq_true] <;> omega
  show KA _ 27 _ _ [(0, .int .u8 (s : Int)), (1, p3), (2, p4), (3, p12), (4, p13)] _
  refine KA.seq ?_
  refine KA.region rfl ?_
  refine KOps.assign ?_
  refine KOps.done ?_
  refine sqQ.normal ?_
  refine KA.sub (Sub.cons (t := 0) Look.eq (Sub.cons (t := 1) Look.eq (Sub.cons (t := 2) Look.eq (Sub.cons (t := 3) Look.eq (Sub.cons (t := 4) Look.eq (Sub.nil _)))))) ?_
  refine KA.seq ?_
  refine KA.region rfl ?_
  refine KOps.loadAgg (z := 2) hp3 (Rd.ext hS.keeps h3) (by decide) (by simp) ?_
  refine KOps.move ?_
  refine KOps.load hp4 (Rd.ext hS.keeps h4) rfl ?_
  refine KOps.call rfl (says_c (i := i) (Rd.ext hS.keeps hv) hB hs hi) ?_
  rintro _ h5 ⟨rfl, hK⟩
  have hS0 := St.trans hS (St.ofK hK)
  clear hS
  have hS := hS0
  clear hS0
  refine KOps.move ?_
  refine KOps.extract ?_
  refine KOps.extract ?_
  refine KOps.assign ?_
  refine KOps.assign ?_
  refine KOps.done ?_
  refine sqQ.normal ?_
  refine KA.sub (Sub.cons (t := 0) Look.eq (Sub.cons (t := 3) Look.eq (Sub.cons (t := 4) Look.eq (Sub.cons (t := 7) Look.eq (Sub.cons (t := 8) Look.eq (Sub.nil _)))))) ?_
  refine KA.seq ?_
  refine KA.region rfl ?_
  refine KOps.move ?_
  refine KOps.move ?_
  refine KOps.guardB (dj := 17) rfl rfl true false rfl ?_ ?_
  · intro g17
    refine KOps.move ?_
    refine KOps.guardYes (dj := 17) rfl rfl ?_
    refine KOps.load hp12 (Rd.ext hS.keeps h12) rfl ?_
    refine KOps.guardYes (dj := 17) rfl rfl ?_
    refine KOps.call rfl (has8_c (by first | omega | (simp; omega)) (by first | omega | (simp; omega)) (by first | omega | (simp; omega))) ?_
    rintro _ _ ⟨rfl, rfl⟩
    refine KOps.pickT ?_
    refine KOps.move ?_
    refine KOps.guardB (dj := 22) rfl rfl true false rfl ?_ ?_
    · intro g22
      refine KOps.move ?_
      refine KOps.guardYes (dj := 22) rfl rfl ?_
      refine KOps.load hp13 (Rd.ext hS.keeps h13) rfl ?_
      refine KOps.guardYes (dj := 22) rfl rfl ?_
      refine KOps.eql ?_
      refine KOps.pickT ?_
      refine KOps.assign ?_
      refine KOps.done ?_
      refine sqQ.normal ?_
      refine KA.sub (Sub.cons (t := 6) Look.eq (Sub.nil _)) ?_
      refine KA.ret ?_
      refine fnQ.ret1 ?_
      refine ⟨congrArg AV.bool ?_, hS.keeps⟩
      rw [pB_is, g17, g22, if_pos rfl]; rfl
    · intro g22
      refine KOps.guardNo (dj := 22) rfl rfl rfl ?_
      refine KOps.guardNo (dj := 22) rfl rfl rfl ?_
      refine KOps.pickF ?_
      refine KOps.assign ?_
      refine KOps.done ?_
      refine sqQ.normal ?_
      refine KA.sub (Sub.cons (t := 6) Look.eq (Sub.nil _)) ?_
      refine KA.ret ?_
      refine fnQ.ret1 ?_
      refine ⟨congrArg AV.bool ?_, hS.keeps⟩
      rw [pB_is, g17, g22]; rfl
  · intro g17
    refine KOps.guardNo (dj := 17) rfl rfl rfl ?_
    refine KOps.guardNo (dj := 17) rfl rfl rfl ?_
    refine KOps.pickF ?_
    refine KOps.move ?_
    refine KOps.guardNo (dj := 22) rfl rfl rfl ?_
    refine KOps.guardNo (dj := 22) rfl rfl rfl ?_
    refine KOps.guardNo (dj := 22) rfl rfl rfl ?_
    refine KOps.pickF ?_
    refine KOps.assign ?_
    refine KOps.done ?_
    refine sqQ.normal ?_
    refine KA.sub (Sub.cons (t := 6) Look.eq (Sub.nil _)) ?_
    refine KA.ret ?_
    refine fnQ.ret1 ?_
    refine ⟨congrArg AV.bool ?_, hS.keeps⟩
    rw [pB_is, g17]; rfl

theorem bound_true_c {h : AHeap} {rm i : Int} {vW : AV} {ws : List W} (hv : Rd h vW 4 (flr wc ws)) (hSz : Sizes h) : ACalls Go.Proofs.Tryd.prog 42 [.agg [.int .i64 rm, vW], .int .i64 i, .bool true] h (fun q h' => ∃ vo, q = .tup [vo, .int .i64 (askE rm ws i)] ∧ St h h' [⟨vo, 1, ints (boundL rm ws i true), true⟩]) := by
  refine KA.fn 47 [.tmp 6, .tmp 7] Go.Proofs.Tryd.func42 rfl (by decide) rfl rfl (Nat.le_of_ble_eq_true rfl) ?_
  have hS := St.refl h
  have hvo : vW.one = true := hv.one
  show KA _ 47 _ _ [(0, .agg [.int .i64 rm, vW]), (1, .int .i64 i), (2, .bool true)] _
  refine KA.seq ?_
  refine KA.region rfl ?_
  refine KOps.boxAll hS (by first | rfl | (simp [AV.one]; done) | (simp [AV.one]; assumption) | (simp [AV.one, *]; done)) ?_
  intro p3 h' hp3 hS
  refine KOps.box hS (l := [_]) rfl ?_
  intro p4 h' hp4 hS
  refine KOps.assign ?_
  refine KOps.assign ?_
  refine KOps.done ?_
  refine sqQ.normal ?_
  refine KA.sub (Sub.cons (t := 2) Look.eq (Sub.cons (t := 3) Look.eq (Sub.cons (t := 4) Look.eq (Sub.nil _)))) ?_
  refine KA.seq ?_
  refine KA.region rfl ?_
  refine KOps.loadAll hS (i := 1) rfl hp3 (by rfl) (by decide) ?_
  refine KOps.loadBox hS (i := 0) rfl hp4 ?_
  refine KOps.call rfl (stSpan_c (Rd.ext hS.keeps hv)) ?_
  rintro _ h5 ⟨rfl, hK⟩
  have hS0 : St _ _ (_ :: _ :: _) := St.trans hS (St.ofK hK)
  clear hS
  have hS := hS0
  clear hS0
  refine KOps.move ?_
  refine KOps.extract ?_
  refine KOps.extract ?_
  refine KOps.extract ?_
  refine KOps.assign ?_
  refine KOps.assign ?_
  refine KOps.assign ?_
  refine KOps.done ?_
  refine sqQ.normal ?_
  refine KA.sub (Sub.cons (t := 2) Look.eq (Sub.cons (t := 3) Look.eq (Sub.cons (t := 4) Look.eq (Sub.cons (t := 8) Look.eq (Sub.cons (t := 9) Look.eq (Sub.cons (t := 10) Look.eq (Sub.nil _))))))) ?_
  refine KA.seq ?_
  refine KA.seq ?_
  refine KA.region rfl ?_
  refine KOps.move ?_
  refine KOps.neq ?_
  refine KOps.done ?_
  refine sqQ.normal ?_
  refine KA.sub (Sub.cons (t := 2) Look.eq (Sub.cons (t := 3) Look.eq (Sub.cons (t := 4) Look.eq (Sub.cons (t := 8) Look.eq (Sub.cons (t := 9) Look.eq (Sub.cons (t := 10) Look.eq (Sub.cons (t := 23) Look.eq (Sub.nil _)))))))) ?_
  refine KA.condN ?_ ?_
  · intro c23
    refine KA.seq ?_
    refine KA.region rfl ?_
    refine KOps.move ?_
    refine KOps.assign ?_
    refine KOps.assign ?_
    refine KOps.done ?_
    refine sqQ.normal ?_
    refine KA.sub (Sub.cons (t := 6) Look.eq (Sub.cons (t := 7) Look.eq (Sub.nil _))) ?_
    refine KA.ret ?_
    refine sqQ.ret ?_
    refine fnQ.retN ?_
    rw [boundL, if_neg c23]
    exact ⟨_, rfl, St.pick [2] (by decide) rfl (St.addNil 1 true hS)⟩
  · intro c23
    obtain ⟨he, hi0, hi1⟩ := ask_ok c23
    have hB := (agree_ok he).1
    have hx := (agree_ok he).2
    obtain ⟨r, rfl⟩ : ∃ r : Nat, rm = (r : Int) := ⟨rm.toNat, by have := hB.r2; omega⟩
    obtain ⟨j, rfl⟩ : ∃ j : Nat, i = (j : Int) := ⟨i.toNat, by omega⟩
    rw [if_pos c23, if_pos c23, Int.toNat_natCast]
    have hr6 := hB.r6
    have hwl := hB.len
    have hpw : 2 ^ r ≤ 2 ^ 6 := Nat.pow_le_pow_right (by decide) (by omega)
    have h1p : 1 ≤ 2 ^ r := Nat.one_le_two_pow
    have hsh := shl64 r (by omega)
    have hj : j < ws.length := by omega
    refine KA.skip ?_
    refine sqQ.normal ?_
    refine KA.sub (Sub.cons (t := 2) Look.eq (Sub.cons (t := 3) Look.eq (Sub.cons (t := 4) Look.eq (Sub.cons (t := 8) Look.eq (Sub.cons (t := 9) Look.eq (Sub.nil _)))))) ?_
    refine KA.seq ?_
    refine KA.region rfl ?_
    refine KOps.fieldAddr hp3 ?_
    intro p25 hp25
    refine KOps.load hp25 (hS.rd 1 rfl) rfl ?_
    refine KOps.loadBox hS (i := 0) rfl hp4 ?_
    refine KOps.indexF wc_len (Rd.ext hS.keeps hv) (j := j) (by first | omega | (simp; omega)) (by first | omega | (simp; omega)) ?_
    intro p28 hp28
    refine KOps.loadFl wc_len (by decide) hp28 (Rd.ext hS.keeps hv) (by first | omega | (simp; omega)) ?_
    refine KOps.alloc hS ?_
    intro p11 h' hp11 hS
    refine KOps.storeAll hS rfl (i := 0) rfl hp11 (by first | rfl | (simp [AV.one]; done) | (simp [AV.one]; assumption) | (simp [AV.one, *]; done)) (by rfl) (by rfl) (by decide) ?_
    intro h' hS
    simp only [List.set_cons_zero, List.set_cons_succ, Nat.zero_add] at hS
    refine KOps.done ?_
    refine sqQ.normal ?_
    refine KA.sub (Sub.cons (t := 2) Look.eq (Sub.cons (t := 3) Look.eq (Sub.cons (t := 4) Look.eq (Sub.cons (t := 8) Look.eq (Sub.cons (t := 9) Look.eq (Sub.cons (t := 11) Look.eq (Sub.nil _))))))) ?_
    refine KA.seq ?_
    refine KA.drawS2 (c := 7) (r := 4) (t := 3) (a := 33) (d := 34) [] mixed rfl rfl rfl (by kernel_rfl) rfl rfl rfl (by decide) (by decide) (by kernel_rfl) ?_
    refine KOps.fieldAddr hp11 ?_
    intro p30 hp30
    refine KOps.load hp30 (hS.rd 0 rfl) rfl ?_
    refine KOps.move ?_
    refine KOps.fieldAddr hp11 ?_
    intro p33 hp33
    refine KOps.load hp33 (hS.rd 0 rfl) rfl ?_
    refine KOps.alloc hS ?_
    intro p12 h' hp12 hS
    refine KOps.alloc hS ?_
    intro p13 h' hp13 hS
    refine KOps.storeBox hS rfl (i := 1) rfl hp12 (by first | rfl | assumption) ?_
    intro h' hS
    simp only [List.set_cons_zero, List.set_cons_succ, Nat.zero_add] at hS
    refine KOps.doneS2 rfl rfl hp33 (hS.rd 2 rfl) rfl ?_
    refine KOps.storeBox hS rfl (i := 0) rfl hp13 (by first | rfl | assumption) ?_
    intro h' hS
    simp only [List.set_cons_zero, List.set_cons_succ, Nat.zero_add] at hS
    refine KOps.doneS2 rfl rfl hp33 (hS.rd 2 rfl) rfl ?_
    refine KOps.assign ?_
    refine KOps.done ?_
    refine sqQ.normal ?_
    refine KA.sub (Sub.cons (t := 2) Look.eq (Sub.cons (t := 3) Look.eq (Sub.cons (t := 4) Look.eq (Sub.cons (t := 9) Look.eq (Sub.cons (t := 11) Look.eq (Sub.cons (t := 12) Look.eq (Sub.cons (t := 13) Look.eq (Sub.cons (t := 14) Look.eq (Sub.nil _))))))))) ?_
    refine KA.seq ?_
    refine KA.seq ?_
    refine KA.region rfl ?_
    refine KOps.move ?_
    refine KOps.done ?_
    refine sqQ.normal ?_
    refine KA.sub (Sub.cons (t := 3) Look.eq (Sub.cons (t := 4) Look.eq (Sub.cons (t := 9) Look.eq (Sub.cons (t := 11) Look.eq (Sub.cons (t := 12) Look.eq (Sub.cons (t := 13) Look.eq (Sub.cons (t := 14) Look.eq (Sub.cons (t := 35) Look.eq (Sub.nil _))))))))) ?_
    refine KA.condT ?_
    refine KA.drawS2 (c := 5) (r := 4) (t := 3) (a := 39) (d := 40) [] mixed rfl rfl rfl (by kernel_rfl) rfl rfl rfl (by decide) (by decide) (by kernel_rfl) ?_
    refine KOps.fieldAddr hp11 ?_
    intro p36 hp36
    refine KOps.load hp36 (hS.rd 2 rfl) rfl ?_
    refine KOps.move ?_
    refine KOps.fieldAddr hp11 ?_
    intro p39 hp39
    refine KOps.load hp39 (hS.rd 2 rfl) rfl ?_
    refine KOps.storeBox hS rfl (i := 1) rfl hp12 (by first | rfl | assumption) ?_
    intro h' hS
    simp only [List.set_cons_zero, List.set_cons_succ, Nat.zero_add] at hS
    refine KOps.doneS2 rfl rfl hp39 (hS.rd 2 rfl) rfl ?_
    refine KOps.storeBox hS rfl (i := 0) rfl hp13 (by first | rfl | assumption) ?_
    intro h' hS
    simp only [List.set_cons_zero, List.set_cons_succ, Nat.zero_add] at hS
    refine KOps.doneS2 rfl rfl hp39 (hS.rd 2 rfl) rfl ?_
    refine KOps.assign ?_
    refine KOps.done ?_
    refine sqQ.normal ?_
    refine KA.sub (Sub.cons (t := 3) Look.eq (Sub.cons (t := 4) Look.eq (Sub.cons (t := 12) Look.eq (Sub.cons (t := 13) Look.eq (Sub.cons (t := 14) Look.eq (Sub.nil _)))))) ?_
    refine KA.seq ?_
    refine KA.seq ?_
    refine KA.region rfl ?_
    refine KOps.loadBox hS (i := 0) rfl hp13 ?_
    refine KOps.move ?_
    refine KOps.eql ?_
    refine KOps.done ?_
    refine sqQ.normal ?_
    refine KA.sub (Sub.cons (t := 3) Look.eq (Sub.cons (t := 4) Look.eq (Sub.cons (t := 12) Look.eq (Sub.cons (t := 13) Look.eq (Sub.cons (t := 43) Look.eq (Sub.nil _)))))) ?_
    refine KA.condD ?_ ?_
    · intro c43
      have hend : endI ws j true = ownI ws j true := c43
      refine KA.seq ?_
      refine KA.region rfl ?_
      refine KOps.assign ?_
      refine KOps.assign ?_
      refine KOps.done ?_
      refine sqQ.normal ?_
      refine KA.sub (Sub.cons (t := 6) Look.eq (Sub.cons (t := 7) Look.eq (Sub.nil _))) ?_
      refine KA.ret ?_
      refine sqQ.ret ?_
      refine fnQ.retN ?_
      rw [boundL, if_pos c23, Int.toNat_natCast, if_pos hend, c23]
      exact ⟨_, rfl, St.pick [5] (by decide) rfl (St.addNil 1 true hS)⟩
    · intro c43
      have hend : ¬ endI ws j true = ownI ws j true := c43
      refine KA.skip ?_
      refine sqQ.normal ?_
      refine KA.sub (Sub.cons (t := 3) Look.eq (Sub.cons (t := 4) Look.eq (Sub.cons (t := 12) Look.eq (Sub.cons (t := 13) Look.eq (Sub.nil _))))) ?_
      refine KA.seq ?_
      refine KA.region rfl ?_
      refine KOps.loadAll hS (i := 4) rfl hp3 (by rfl) (by decide) ?_
      refine KOps.makeFunc ?_
      refine KOps.call rfl (fewest_c (r := r) (p := pB ws j true) (vi := .fn 86 [p3, p4, p12, p13]) (Rd.ext hS.keeps hv) (by omega) (hSz.ext hS.keeps) rfl (fun h' s hK hs => ACalls.mono (bound1_c (s := s) (i := j) (g := true) (Rd.ext (hS.keeps.trans hK) hv) hB (by omega) hj hp3 hp4 hp12 hp13 (Rd.ext hK (hS.rd 4 rfl)) (Rd.ext hK (hS.rd 3 rfl)) (Rd.ext hK (hS.rd 1 rfl)) (Rd.ext hK (hS.rd 0 rfl))) (fun _ _ hx => hx))) ?_
      rintro vo h6 hF
      refine KOps.assign ?_
      refine KOps.assign ?_
      refine KOps.done ?_
      refine sqQ.normal ?_
      refine KA.sub (Sub.cons (t := 6) Look.eq (Sub.cons (t := 7) Look.eq (Sub.nil _))) ?_
      refine KA.ret ?_
      refine fnQ.retN ?_
      rw [boundL, if_pos c23, Int.toNat_natCast, if_neg hend, c23, Int.toNat_natCast]
      exact ⟨_, rfl, St.pick [0] (by decide) rfl (St.trans hS hF)⟩

theorem refBound_true_c {h : AHeap} {rm i : Int} {vW : AV} {ws : List W} (hv : Rd h vW 4 (flr wc ws)) : ACalls Go.Proofs.Tryd.prog 43 [.agg [.int .i64 rm, vW], .int .i64 i, .bool true] h (fun q h' => ∃ vo, q = .tup [vo, .int .i64 (askE rm ws i)] ∧ St h h' [⟨vo, 1, ints (boundL rm ws i true), true⟩]) := by
  refine KA.fn 100 [.tmp 6, .tmp 7] Go.Proofs.Tryd.func43 rfl (by decide) rfl rfl (Nat.le_of_ble_eq_true rfl) ?_
  have hS := St.refl h
  have hvo : vW.one = true := hv.one
  show KA _ 100 _ _ [(0, .agg [.int .i64 rm, vW]), (1, .int .i64 i), (2, .bool true)] _
  refine KA.seq ?_
  refine KA.region rfl ?_
  refine KOps.boxAll hS (by first | rfl | (simp [AV.one]; done) | (simp [AV.one]; assumption) | (simp [AV.one, *]; done)) ?_
  intro p3 h' hp3 hS
  refine KOps.assign ?_
  refine KOps.assign ?_
  refine KOps.done ?_
  refine sqQ.normal ?_
  refine KA.sub (Sub.cons (t := 1) Look.eq (Sub.cons (t := 2) Look.eq (Sub.cons (t := 3) Look.eq (Sub.nil _)))) ?_
  refine KA.seq ?_
  refine KA.region rfl ?_
  refine KOps.loadAll hS (i := 0) rfl hp3 (by rfl) (by decide) ?_
  refine KOps.move ?_
  refine KOps.call rfl (refSpanE_c (Rd.ext hS.keeps hv)) ?_
  rintro _ h5 ⟨rfl, hK⟩
  have hS0 : St _ _ (_ :: _) := St.trans hS (St.ofK hK)
  clear hS
  have hS := hS0
  clear hS0
  refine KOps.move ?_
  refine KOps.extract ?_
  refine KOps.extract ?_
  refine KOps.extract ?_
  refine KOps.assign ?_
  refine KOps.assign ?_
  refine KOps.assign ?_
  refine KOps.done ?_
  refine sqQ.normal ?_
  refine KA.sub (Sub.cons (t := 1) Look.eq (Sub.cons (t := 2) Look.eq (Sub.cons (t := 3) Look.eq (Sub.cons (t := 8) Look.eq (Sub.cons (t := 9) Look.eq (Sub.cons (t := 10) Look.eq (Sub.nil _))))))) ?_
  refine KA.seq ?_
  refine KA.seq ?_
  refine KA.region rfl ?_
  refine KOps.move ?_
  refine KOps.neq ?_
  refine KOps.done ?_
  refine sqQ.normal ?_
  refine KA.sub (Sub.cons (t := 1) Look.eq (Sub.cons (t := 2) Look.eq (Sub.cons (t := 3) Look.eq (Sub.cons (t := 8) Look.eq (Sub.cons (t := 9) Look.eq (Sub.cons (t := 10) Look.eq (Sub.cons (t := 23) Look.eq (Sub.nil _)))))))) ?_
  refine KA.condN ?_ ?_
  · intro c23
    refine KA.seq ?_
    refine KA.region rfl ?_
    refine KOps.move ?_
    refine KOps.assign ?_
    refine KOps.assign ?_
    refine KOps.done ?_
    refine sqQ.normal ?_
    refine KA.sub (Sub.cons (t := 6) Look.eq (Sub.cons (t := 7) Look.eq (Sub.nil _))) ?_
    refine KA.ret ?_
    refine sqQ.ret ?_
    refine fnQ.retN ?_
    rw [boundL, if_neg c23]
    exact ⟨_, rfl, St.pick [1] (by decide) rfl (St.addNil 1 true hS)⟩
  · intro c23
    obtain ⟨he, hi0, hi1⟩ := ask_ok c23
    have hB := (agree_ok he).1
    have hx := (agree_ok he).2
    obtain ⟨r, rfl⟩ : ∃ r : Nat, rm = (r : Int) := ⟨rm.toNat, by have := hB.r2; omega⟩
    obtain ⟨j, rfl⟩ : ∃ j : Nat, i = (j : Int) := ⟨i.toNat, by omega⟩
    rw [if_pos c23, if_pos c23, Int.toNat_natCast]
    have hr6 := hB.r6
    have hwl := hB.len
    have hpw : 2 ^ r ≤ 2 ^ 6 := Nat.pow_le_pow_right (by decide) (by omega)
    have h1p : 1 ≤ 2 ^ r := Nat.one_le_two_pow
    have hsh := shl64 r (by omega)
    have hj : j < ws.length := by omega
    refine KA.skip ?_
    refine sqQ.normal ?_
    refine KA.sub (Sub.cons (t := 1) Look.eq (Sub.cons (t := 2) Look.eq (Sub.cons (t := 3) Look.eq (Sub.cons (t := 8) Look.eq (Sub.cons (t := 9) Look.eq (Sub.nil _)))))) ?_
    refine KA.seq ?_
    refine KA.region rfl ?_
    refine KOps.fieldAddr hp3 ?_
    intro p25 hp25
    refine KOps.load hp25 (hS.rd 0 rfl) rfl ?_
    refine KOps.move ?_
    refine KOps.indexF wc_len (Rd.ext hS.keeps hv) (j := j) (by first | omega | (simp; omega)) (by first | omega | (simp; omega)) ?_
    intro p28 hp28
    refine KOps.loadFl wc_len (by decide) hp28 (Rd.ext hS.keeps hv) (by first | omega | (simp; omega)) ?_
    refine KOps.alloc hS ?_
    intro p11 h' hp11 hS
    refine KOps.storeAll hS rfl (i := 0) rfl hp11 (by first | rfl | (simp [AV.one]; done) | (simp [AV.one]; assumption) | (simp [AV.one, *]; done)) (by rfl) (by rfl) (by decide) ?_
    intro h' hS
    simp only [List.set_cons_zero, List.set_cons_succ, Nat.zero_add] at hS
    refine KOps.done ?_
    refine sqQ.normal ?_
    refine KA.sub (Sub.cons (t := 1) Look.eq (Sub.cons (t := 2) Look.eq (Sub.cons (t := 3) Look.eq (Sub.cons (t := 8) Look.eq (Sub.cons (t := 9) Look.eq (Sub.cons (t := 11) Look.eq (Sub.nil _))))))) ?_
    refine KA.seq ?_
    refine KA.seq ?_
    refine KA.region rfl ?_
    refine KOps.move ?_
    refine KOps.move ?_
    refine KOps.guardYes (dj := 31) rfl rfl ?_
    refine KOps.move ?_
    refine KOps.guardYes (dj := 31) rfl rfl ?_
    refine KOps.fieldAddr hp11 ?_
    intro p33 hp33
    refine KOps.guardYes (dj := 31) rfl rfl ?_
    refine KOps.load hp33 (hS.rd 0 rfl) rfl ?_
    refine KOps.guardYes (dj := 31) rfl rfl ?_
    refine KOps.eql ?_
    refine KOps.pickT ?_
    refine KOps.move ?_
    refine KOps.guardB (dj := 37) rfl rfl false true rfl ?_ ?_
    · intro g37
      have g37 := of_decide_eq_false g37
      refine KOps.move ?_
      refine KOps.guardYes (dj := 37) rfl rfl ?_
      refine KOps.not ?_
      refine KOps.guardYes (dj := 37) rfl rfl ?_
      refine KOps.move ?_
      refine KOps.guardNo (dj := 40) rfl rfl rfl ?_
      refine KOps.guardNo (dj := 40) rfl rfl rfl ?_
      refine KOps.guardNo (dj := 40) rfl rfl rfl ?_
      refine KOps.guardNo (dj := 40) rfl rfl rfl ?_
      refine KOps.guardYes (dj := 37) rfl rfl ?_
      refine KOps.pickF ?_
      refine KOps.pickF ?_
      refine KOps.done ?_
      refine sqQ.normal ?_
      refine KA.sub (Sub.cons (t := 1) Look.eq (Sub.cons (t := 2) Look.eq (Sub.cons (t := 3) Look.eq (Sub.cons (t := 8) Look.eq (Sub.cons (t := 9) Look.eq (Sub.cons (t := 11) Look.eq (Sub.cons (t := 46) Look.eq (Sub.nil _)))))))) ?_
      refine KA.condF ?_
      refine KA.skip ?_
      refine sqQ.normal ?_
      refine KA.sub (Sub.cons (t := 1) Look.eq (Sub.cons (t := 2) Look.eq (Sub.cons (t := 3) Look.eq (Sub.cons (t := 8) Look.eq (Sub.cons (t := 9) Look.eq (Sub.cons (t := 11) Look.eq (Sub.nil _))))))) ?_
      refine KA.seq ?_
      refine KA.region rfl ?_
      refine KOps.fieldAddr hp3 ?_
      intro p47 hp47
      refine KOps.load hp47 (hS.rd 1 rfl) rfl ?_
      refine KOps.shl (by omega) ?_
      rw [hsh]
      refine KOps.sub (by omega) (by omega) ?_
      rw [show ((2 ^ r : Nat) : Int) - 1 = ((2 ^ r - 1 : Nat) : Int) by omega]
      refine KOps.call rfl (listed_c (s := 2 ^ r - 1) (by omega)) ?_
      rintro vf h6 hL
      have hS0 : St _ _ (_ :: _) := St.trans hS hL
      clear hS
      have hS := hS0
      clear hS0
      refine KOps.assign ?_
      refine KOps.done ?_
      refine sqQ.normal ?_
      refine KA.sub (Sub.cons (t := 1) Look.eq (Sub.cons (t := 2) Look.eq (Sub.cons (t := 3) Look.eq (Sub.cons (t := 8) Look.eq (Sub.cons (t := 9) Look.eq (Sub.cons (t := 11) Look.eq (Sub.cons (t := 12) Look.eq (Sub.nil _)))))))) ?_
      refine KA.seq ?_
      refine KA.seq ?_
      refine KA.region rfl ?_
      refine KOps.assign ?_
      refine KOps.done ?_
      refine sqQ.normal ?_
      refine KA.block ?_
      refine KA.loop (X := Nat × AV) (fun x => [(1, .int .i64 (j : Int)), (2, .bool true), (3, p3), (8, .int .i64 (loOf ws j)), (9, .int .i64 (hiOf ws j)), (11, p11), (12, x.2), (13, .int .i64 (x.1 : Int))]) (fun x h' => x.1 ≤ 2 ^ r ∧ St h h' [⟨x.2, 1, ints (fewF (pB ws j true) (2 ^ r - 1) x.1), true⟩, ⟨p11, 0, wc (ws.getD j default), true⟩, ⟨p3, 0, [.int .i64 (r : Int), vW], true⟩]) (fun x => 2 ^ r - x.1) (0, vf) (by repeat (first | exact Sub.nil _ | refine Sub.cons Look.eq ?_ | refine Sub.cons (Eq.trans Look.eq (congrArg (AV.int _) (by first | omega | (dsimp only; omega)))) ?_)) ?_ ?_
      · exact ⟨Nat.zero_le _, hS⟩
      rintro ⟨k, vb⟩ h11 ⟨hk, hS⟩
      dsimp only at hk hS ⊢
      refine KA.seq ?_
      refine KA.seq ?_
      refine KA.region rfl ?_
      refine KOps.move ?_
      refine KOps.fieldAddr hp3 ?_
      intro p53 hp53
      refine KOps.load hp53 (hS.rd 2 rfl) rfl ?_
      refine KOps.shl (by omega) ?_
      rw [hsh]
      refine KOps.lss ?_
      refine KOps.done ?_
      refine sqQ.normal ?_
      refine KA.sub (Sub.cons (t := 1) Look.eq (Sub.cons (t := 2) Look.eq (Sub.cons (t := 3) Look.eq (Sub.cons (t := 8) Look.eq (Sub.cons (t := 9) Look.eq (Sub.cons (t := 11) Look.eq (Sub.cons (t := 12) Look.eq (Sub.cons (t := 13) Look.eq (Sub.cons (t := 56) Look.eq (Sub.nil _)))))))))) ?_
      refine KA.condD ?_ ?_
      · intro c56
        refine KA.skip ?_
        refine sqQ.normal ?_
        refine KA.sub (Sub.cons (t := 1) Look.eq (Sub.cons (t := 2) Look.eq (Sub.cons (t := 3) Look.eq (Sub.cons (t := 8) Look.eq (Sub.cons (t := 9) Look.eq (Sub.cons (t := 11) Look.eq (Sub.cons (t := 12) Look.eq (Sub.cons (t := 13) Look.eq (Sub.nil _))))))))) ?_
        refine KA.seq ?_
        refine KA.block ?_
        refine KA.seq ?_
        refine KA.region rfl ?_
        have hwi := hB.way j hj
        have hwf0 := hwi.f0
        have hwf1 := hwi.f1
        have hwt0 := hwi.t0
        have hwt1 := hwi.t1
        refine KOps.move ?_
        refine KOps.move ?_
        refine KOps.guardYes (dj := 60) rfl rfl ?_
        refine KOps.loadAll hS (i := 1) rfl hp11 (by rfl) (by decide) ?_
        refine KOps.guardYes (dj := 60) rfl rfl ?_
        refine KOps.move ?_
        refine KOps.guardYes (dj := 60) rfl rfl ?_
        refine KOps.call rfl (leaves_c (by first | omega | (simp; omega)) (by first | omega | (simp; omega)) (by first | omega | (simp; omega)) (by first | omega | (simp; omega)) (by first | omega | (simp; omega))) ?_
        rintro _ h7 ⟨rfl, hK⟩
        have hS0 : St _ _ (_ :: _) := St.trans hS (St.ofK hK)
        clear hS
        have hS := hS0
        clear hS0
        refine KOps.pickT ?_
        refine KOps.move ?_
        refine KOps.guardB (dj := 65) rfl rfl true false rfl ?_ ?_
        · intro g65
          refine KOps.loadAll hS (i := 2) rfl hp3 (by rfl) (by decide) ?_
          refine KOps.guardYes (dj := 65) rfl rfl ?_
          refine KOps.move ?_
          refine KOps.guardYes (dj := 65) rfl rfl ?_
          refine KOps.move ?_
          refine KOps.guardYes (dj := 65) rfl rfl ?_
          refine KOps.call rfl (refSays_c (s := k) (i := j) (Rd.ext hS.keeps hv) hB (by omega) hj) ?_
          rintro _ h10 ⟨rfl, hK⟩
          have hS0 : St _ _ (_ :: _) := St.trans hS (St.ofK hK)
          clear hS
          have hS := hS0
          clear hS0
          refine KOps.guardYes (dj := 65) rfl rfl ?_
          refine KOps.move ?_
          refine KOps.guardYes (dj := 65) rfl rfl ?_
          refine KOps.eql ?_
          refine KOps.pickT ?_
          refine KOps.move ?_
          refine KOps.guardB (dj := 73) rfl rfl false true rfl ?_ ?_
          · intro g73
            have g73 := of_decide_eq_false g73
            refine KOps.move ?_
            refine KOps.guardYes (dj := 73) rfl rfl ?_
            refine KOps.not ?_
            refine KOps.guardYes (dj := 73) rfl rfl ?_
            refine KOps.move ?_
            refine KOps.guardNo (dj := 76) rfl rfl rfl ?_
            refine KOps.guardNo (dj := 76) rfl rfl rfl ?_
            refine KOps.guardNo (dj := 76) rfl rfl rfl ?_
            refine KOps.guardYes (dj := 73) rfl rfl ?_
            refine KOps.pickF ?_
            refine KOps.guardYes (dj := 73) rfl rfl ?_
            refine KOps.move ?_
            refine KOps.guardNo (dj := 81) rfl rfl rfl ?_
            refine KOps.guardNo (dj := 81) rfl rfl rfl ?_
            refine KOps.guardNo (dj := 81) rfl rfl rfl ?_
            refine KOps.guardNo (dj := 81) rfl rfl rfl ?_
            refine KOps.guardNo (dj := 81) rfl rfl rfl ?_
            refine KOps.guardNo (dj := 81) rfl rfl rfl ?_
            refine KOps.guardYes (dj := 73) rfl rfl ?_
            refine KOps.pickF ?_
            refine KOps.pickF ?_
            refine KOps.assign ?_
            refine KOps.done ?_
            refine sqQ.normal ?_
            refine KA.sub (Sub.cons (t := 1) Look.eq (Sub.cons (t := 2) Look.eq (Sub.cons (t := 3) Look.eq (Sub.cons (t := 8) Look.eq (Sub.cons (t := 9) Look.eq (Sub.cons (t := 11) Look.eq (Sub.cons (t := 12) Look.eq (Sub.cons (t := 13) Look.eq (Sub.cons (t := 14) Look.eq (Sub.cons (t := 61) Look.eq (Sub.cons (t := 62) Look.eq (Sub.cons (t := 63) Look.eq (Sub.cons (t := 66) Look.eq (Sub.cons (t := 67) Look.eq (Sub.cons (t := 68) Look.eq (Sub.cons (t := 69) Look.eq (Sub.cons (t := 70) Look.eq (Sub.cons (t := 71) Look.eq (Sub.cons (t := 74) Look.eq (Sub.cons (t := 75) Look.eq (Sub.cons (t := 76) Look.eq (Sub.cons (t := 77) Look.eq (Sub.cons (t := 78) Look.eq (Sub.cons (t := 79) Look.eq (Sub.cons (t := 80) Look.eq (Sub.cons (t := 81) Look.eq (Sub.cons (t := 82) Look.eq (Sub.cons (t := 83) Look.eq (Sub.cons (t := 84) Look.eq (Sub.cons (t := 85) Look.eq (Sub.cons (t := 86) Look.eq (Sub.cons (t := 87) Look.eq (Sub.cons (t := 88) Look.eq (Sub.nil _)))))))))))))))))))))))))))))))))) ?_
            refine KA.seq ?_
            refine KA.region rfl ?_
            refine KOps.move ?_
            refine KOps.move ?_
            refine KOps.guardNo (dj := 91) rfl rfl rfl ?_
            refine KOps.guardNo (dj := 91) rfl rfl rfl ?_
            refine KOps.guardNo (dj := 91) rfl rfl rfl ?_
            refine KOps.guardNo (dj := 91) rfl rfl rfl ?_
            refine KOps.pickF ?_
            refine KOps.done ?_
            refine sqQ.normal ?_
            refine KA.sub (Sub.cons (t := 1) Look.eq (Sub.cons (t := 2) Look.eq (Sub.cons (t := 3) Look.eq (Sub.cons (t := 8) Look.eq (Sub.cons (t := 9) Look.eq (Sub.cons (t := 11) Look.eq (Sub.cons (t := 12) Look.eq (Sub.cons (t := 13) Look.eq (Sub.cons (t := 61) Look.eq (Sub.cons (t := 62) Look.eq (Sub.cons (t := 63) Look.eq (Sub.cons (t := 66) Look.eq (Sub.cons (t := 67) Look.eq (Sub.cons (t := 68) Look.eq (Sub.cons (t := 69) Look.eq (Sub.cons (t := 70) Look.eq (Sub.cons (t := 71) Look.eq (Sub.cons (t := 74) Look.eq (Sub.cons (t := 75) Look.eq (Sub.cons (t := 76) Look.eq (Sub.cons (t := 77) Look.eq (Sub.cons (t := 78) Look.eq (Sub.cons (t := 79) Look.eq (Sub.cons (t := 80) Look.eq (Sub.cons (t := 81) Look.eq (Sub.cons (t := 82) Look.eq (Sub.cons (t := 83) Look.eq (Sub.cons (t := 84) Look.eq (Sub.cons (t := 85) Look.eq (Sub.cons (t := 86) Look.eq (Sub.cons (t := 87) Look.eq (Sub.cons (t := 88) Look.eq (Sub.cons (t := 92) Look.eq (Sub.cons (t := 93) Look.eq (Sub.cons (t := 94) Look.eq (Sub.cons (t := 95) Look.eq (Sub.cons (t := 96) Look.eq (Sub.nil _)))))))))))))))))))))))))))))))))))))) ?_
            refine KA.condF ?_
            refine KA.skip ?_
            refine blQ.normal ?_
            refine sqQ.normal ?_
            refine KA.sub (Sub.cons (t := 1) Look.eq (Sub.cons (t := 2) Look.eq (Sub.cons (t := 3) Look.eq (Sub.cons (t := 8) Look.eq (Sub.cons (t := 9) Look.eq (Sub.cons (t := 11) Look.eq (Sub.cons (t := 12) Look.eq (Sub.cons (t := 13) Look.eq (Sub.cons (t := 61) Look.eq (Sub.cons (t := 62) Look.eq (Sub.cons (t := 63) Look.eq (Sub.cons (t := 66) Look.eq (Sub.cons (t := 67) Look.eq (Sub.cons (t := 68) Look.eq (Sub.cons (t := 69) Look.eq (Sub.cons (t := 70) Look.eq (Sub.cons (t := 71) Look.eq (Sub.cons (t := 74) Look.eq (Sub.cons (t := 75) Look.eq (Sub.cons (t := 76) Look.eq (Sub.cons (t := 77) Look.eq (Sub.cons (t := 78) Look.eq (Sub.cons (t := 79) Look.eq (Sub.cons (t := 80) Look.eq (Sub.cons (t := 81) Look.eq (Sub.cons (t := 82) Look.eq (Sub.cons (t := 83) Look.eq (Sub.cons (t := 84) Look.eq (Sub.cons (t := 85) Look.eq (Sub.cons (t := 86) Look.eq (Sub.cons (t := 87) Look.eq (Sub.cons (t := 88) Look.eq (Sub.cons (t := 92) Look.eq (Sub.cons (t := 93) Look.eq (Sub.cons (t := 94) Look.eq (Sub.cons (t := 95) Look.eq (Sub.nil _))))))))))))))))))))))))))))))))))))) ?_
            refine KA.region rfl ?_
            refine KOps.move ?_
            refine KOps.add (by first | omega | (simp; omega)) (by first | omega | (simp; omega)) ?_
            refine KOps.assign ?_
            refine KOps.done ?_
            have hpb : pB ws j true k = false := by
              rw [pB, if_pos rfl, g65, decide_eq_false g73]; rfl
            have hfs := fewF_succ (p := pB ws j true) (r := r) (by omega) (pB_full hB hj true) (k := k) (by omega)
            rw [hpb, Bool.false_and, if_neg (by decide)] at hfs
            exact lpQ.normal (k + 1, vb) (by repeat (first | exact Sub.nil _ | refine Sub.cons Look.eq ?_ | refine Sub.cons (Eq.trans Look.eq (congrArg (AV.int _) (by first | omega | (dsimp only; omega)))) ?_)) ⟨by dsimp only; omega, by dsimp only; rw [hfs]; exact hS⟩ (by dsimp only; omega)
          · intro g73
            have g73 := of_decide_eq_true g73
            refine KOps.guardNo (dj := 73) rfl rfl rfl ?_
            refine KOps.guardNo (dj := 73) rfl rfl rfl ?_
            refine KOps.guardTup (dj := 76) rfl rfl ?_
            refine KOps.guardTup (dj := 76) rfl rfl ?_
            refine KOps.guardTup (dj := 76) rfl rfl ?_
            refine KOps.guardNo (dj := 73) rfl rfl rfl ?_
            refine KOps.guardNo (dj := 73) rfl rfl rfl ?_
            refine KOps.guardTup (dj := 81) rfl rfl ?_
            refine KOps.guardTup (dj := 81) rfl rfl ?_
            refine KOps.guardTup (dj := 81) rfl rfl ?_
            refine KOps.guardTup (dj := 81) rfl rfl ?_
            refine KOps.guardTup (dj := 81) rfl rfl ?_
            refine KOps.guardTup (dj := 81) rfl rfl ?_
            refine KOps.guardNo (dj := 73) rfl rfl rfl ?_
            refine KOps.pickT ?_
            refine KOps.assign ?_
            refine KOps.done ?_
            refine sqQ.normal ?_
            refine KA.sub (Sub.cons (t := 1) Look.eq (Sub.cons (t := 2) Look.eq (Sub.cons (t := 3) Look.eq (Sub.cons (t := 8) Look.eq (Sub.cons (t := 9) Look.eq (Sub.cons (t := 11) Look.eq (Sub.cons (t := 12) Look.eq (Sub.cons (t := 13) Look.eq (Sub.cons (t := 14) Look.eq (Sub.cons (t := 61) Look.eq (Sub.cons (t := 62) Look.eq (Sub.cons (t := 63) Look.eq (Sub.cons (t := 66) Look.eq (Sub.cons (t := 67) Look.eq (Sub.cons (t := 68) Look.eq (Sub.cons (t := 69) Look.eq (Sub.cons (t := 70) Look.eq (Sub.cons (t := 71) Look.eq (Sub.cons (t := 74) Look.eq (Sub.cons (t := 75) Look.eq (Sub.cons (t := 76) Look.eq (Sub.cons (t := 77) Look.eq (Sub.cons (t := 78) Look.eq (Sub.cons (t := 79) Look.eq (Sub.cons (t := 80) Look.eq (Sub.cons (t := 81) Look.eq (Sub.cons (t := 82) Look.eq (Sub.cons (t := 83) Look.eq (Sub.cons (t := 84) Look.eq (Sub.cons (t := 85) Look.eq (Sub.cons (t := 86) Look.eq (Sub.cons (t := 87) Look.eq (Sub.cons (t := 88) Look.eq (Sub.nil _)))))))))))))))))))))))))))))))))) ?_
            refine KA.seq ?_
            refine KA.region rfl ?_
            refine KOps.move ?_
            refine KOps.move ?_
            refine KOps.guardYes (dj := 91) rfl rfl ?_
            refine KOps.move ?_
            refine KOps.guardYes (dj := 91) rfl rfl ?_
            refine KOps.call rfl (listed_c (s := k) (by omega)) ?_
            rintro vl h8 hL
            have hS0 : St _ _ (_ :: _) := St.trans hS hL
            clear hS
            have hS := hS0
            clear hS0
            refine KOps.guardYes (dj := 91) rfl rfl ?_
            refine KOps.move ?_
            refine KOps.guardYes (dj := 91) rfl rfl ?_
            refine KOps.call rfl (before_c (hS.rd 0 rfl) (hS.rd 1 rfl) (by have := roomsTo_len k 6; omega)) ?_
            rintro _ _ ⟨rfl, rfl⟩
            refine KOps.pickT ?_
            refine KOps.done ?_
            refine sqQ.normal ?_
            refine KA.sub (Sub.cons (t := 1) Look.eq (Sub.cons (t := 2) Look.eq (Sub.cons (t := 3) Look.eq (Sub.cons (t := 8) Look.eq (Sub.cons (t := 9) Look.eq (Sub.cons (t := 11) Look.eq (Sub.cons (t := 12) Look.eq (Sub.cons (t := 13) Look.eq (Sub.cons (t := 61) Look.eq (Sub.cons (t := 62) Look.eq (Sub.cons (t := 63) Look.eq (Sub.cons (t := 66) Look.eq (Sub.cons (t := 67) Look.eq (Sub.cons (t := 68) Look.eq (Sub.cons (t := 69) Look.eq (Sub.cons (t := 70) Look.eq (Sub.cons (t := 71) Look.eq (Sub.cons (t := 74) Look.eq (Sub.cons (t := 75) Look.eq (Sub.cons (t := 76) Look.eq (Sub.cons (t := 77) Look.eq (Sub.cons (t := 78) Look.eq (Sub.cons (t := 79) Look.eq (Sub.cons (t := 80) Look.eq (Sub.cons (t := 81) Look.eq (Sub.cons (t := 82) Look.eq (Sub.cons (t := 83) Look.eq (Sub.cons (t := 84) Look.eq (Sub.cons (t := 85) Look.eq (Sub.cons (t := 86) Look.eq (Sub.cons (t := 87) Look.eq (Sub.cons (t := 88) Look.eq (Sub.cons (t := 92) Look.eq (Sub.cons (t := 93) Look.eq (Sub.cons (t := 94) Look.eq (Sub.cons (t := 95) Look.eq (Sub.cons (t := 96) Look.eq (Sub.nil _)))))))))))))))))))))))))))))))))))))) ?_
            refine KA.condB ?_ ?_
            · intro c96
              refine KA.region rfl ?_
              refine KOps.move ?_
              refine KOps.call rfl (listed_c (s := k) (by omega)) ?_
              rintro vm h9 hL
              have hS0 : St _ _ (_ :: _) := St.trans hS hL
              clear hS
              have hS := hS0
              clear hS0
              refine KOps.assign ?_
              refine KOps.done ?_
              refine blQ.normal ?_
              refine sqQ.normal ?_
              refine KA.sub (Sub.cons (t := 1) Look.eq (Sub.cons (t := 2) Look.eq (Sub.cons (t := 3) Look.eq (Sub.cons (t := 8) Look.eq (Sub.cons (t := 9) Look.eq (Sub.cons (t := 11) Look.eq (Sub.cons (t := 12) Look.eq (Sub.cons (t := 13) Look.eq (Sub.cons (t := 61) Look.eq (Sub.cons (t := 62) Look.eq (Sub.cons (t := 63) Look.eq (Sub.cons (t := 66) Look.eq (Sub.cons (t := 67) Look.eq (Sub.cons (t := 68) Look.eq (Sub.cons (t := 69) Look.eq (Sub.cons (t := 70) Look.eq (Sub.cons (t := 71) Look.eq (Sub.cons (t := 74) Look.eq (Sub.cons (t := 75) Look.eq (Sub.cons (t := 76) Look.eq (Sub.cons (t := 77) Look.eq (Sub.cons (t := 78) Look.eq (Sub.cons (t := 79) Look.eq (Sub.cons (t := 80) Look.eq (Sub.cons (t := 81) Look.eq (Sub.cons (t := 82) Look.eq (Sub.cons (t := 83) Look.eq (Sub.cons (t := 84) Look.eq (Sub.cons (t := 85) Look.eq (Sub.cons (t := 86) Look.eq (Sub.cons (t := 87) Look.eq (Sub.cons (t := 88) Look.eq (Sub.cons (t := 92) Look.eq (Sub.cons (t := 93) Look.eq (Sub.cons (t := 94) Look.eq (Sub.cons (t := 95) Look.eq (Sub.nil _))))))))))))))))))))))))))))))))))))) ?_
              refine KA.region rfl ?_
              refine KOps.move ?_
              refine KOps.add (by first | omega | (simp; omega)) (by first | omega | (simp; omega)) ?_
              refine KOps.assign ?_
              refine KOps.done ?_
              have hpb : pB ws j true k = true := by
                rw [pB, if_pos rfl, g65, decide_eq_true g73]; rfl
              have hfs := fewF_succ (p := pB ws j true) (r := r) (by omega) (pB_full hB hj true) (k := k) (by omega)
              rw [hpb, c96, Bool.and_self, if_pos rfl] at hfs
              exact lpQ.normal (k + 1, vm) (by repeat (first | exact Sub.nil _ | refine Sub.cons Look.eq ?_ | refine Sub.cons (Eq.trans Look.eq (congrArg (AV.int _) (by first | omega | (dsimp only; omega)))) ?_)) ⟨by dsimp only; omega, by dsimp only; rw [hfs]; exact St.pick [0, 3, 4] (by decide) rfl hS⟩ (by dsimp only; omega)
            · intro c96
              refine KA.skip ?_
              refine blQ.normal ?_
              refine sqQ.normal ?_
              refine KA.sub (Sub.cons (t := 1) Look.eq (Sub.cons (t := 2) Look.eq (Sub.cons (t := 3) Look.eq (Sub.cons (t := 8) Look.eq (Sub.cons (t := 9) Look.eq (Sub.cons (t := 11) Look.eq (Sub.cons (t := 12) Look.eq (Sub.cons (t := 13) Look.eq (Sub.cons (t := 61) Look.eq (Sub.cons (t := 62) Look.eq (Sub.cons (t := 63) Look.eq (Sub.cons (t := 66) Look.eq (Sub.cons (t := 67) Look.eq (Sub.cons (t := 68) Look.eq (Sub.cons (t := 69) Look.eq (Sub.cons (t := 70) Look.eq (Sub.cons (t := 71) Look.eq (Sub.cons (t := 74) Look.eq (Sub.cons (t := 75) Look.eq (Sub.cons (t := 76) Look.eq (Sub.cons (t := 77) Look.eq (Sub.cons (t := 78) Look.eq (Sub.cons (t := 79) Look.eq (Sub.cons (t := 80) Look.eq (Sub.cons (t := 81) Look.eq (Sub.cons (t := 82) Look.eq (Sub.cons (t := 83) Look.eq (Sub.cons (t := 84) Look.eq (Sub.cons (t := 85) Look.eq (Sub.cons (t := 86) Look.eq (Sub.cons (t := 87) Look.eq (Sub.cons (t := 88) Look.eq (Sub.cons (t := 92) Look.eq (Sub.cons (t := 93) Look.eq (Sub.cons (t := 94) Look.eq (Sub.cons (t := 95) Look.eq (Sub.nil _))))))))))))))))))))))))))))))))))))) ?_
              refine KA.region rfl ?_
              refine KOps.move ?_
              refine KOps.add (by first | omega | (simp; omega)) (by first | omega | (simp; omega)) ?_
              refine KOps.assign ?_
              refine KOps.done ?_
              have hfs := fewF_succ (p := pB ws j true) (r := r) (by omega) (pB_full hB hj true) (k := k) (by omega)
              rw [c96, Bool.and_false, if_neg (by decide)] at hfs
              exact lpQ.normal (k + 1, vb) (by repeat (first | exact Sub.nil _ | refine Sub.cons Look.eq ?_ | refine Sub.cons (Eq.trans Look.eq (congrArg (AV.int _) (by first | omega | (dsimp only; omega)))) ?_)) ⟨by dsimp only; omega, by dsimp only; rw [hfs]; exact St.pick [1, 2, 3] (by decide) rfl hS⟩ (by dsimp only; omega)
        · intro g65
          refine KOps.guardNo (dj := 65) rfl rfl rfl ?_
          refine KOps.guardNo (dj := 65) rfl rfl rfl ?_
          refine KOps.guardNo (dj := 65) rfl rfl rfl ?_
          refine KOps.guardNo (dj := 65) rfl rfl rfl ?_
          refine KOps.guardNo (dj := 65) rfl rfl rfl ?_
          refine KOps.pickF ?_
          refine KOps.move ?_
          refine KOps.guardYes (dj := 73) rfl rfl ?_
          refine KOps.move ?_
          refine KOps.guardYes (dj := 73) rfl rfl ?_
          refine KOps.not ?_
          refine KOps.guardYes (dj := 73) rfl rfl ?_
          refine KOps.move ?_
          refine KOps.guardNo (dj := 76) rfl rfl rfl ?_
          refine KOps.guardNo (dj := 76) rfl rfl rfl ?_
          refine KOps.guardNo (dj := 76) rfl rfl rfl ?_
          refine KOps.guardYes (dj := 73) rfl rfl ?_
          refine KOps.pickF ?_
          refine KOps.guardYes (dj := 73) rfl rfl ?_
          refine KOps.move ?_
          refine KOps.guardNo (dj := 81) rfl rfl rfl ?_
          refine KOps.guardNo (dj := 81) rfl rfl rfl ?_
          refine KOps.guardNo (dj := 81) rfl rfl rfl ?_
          refine KOps.guardNo (dj := 81) rfl rfl rfl ?_
          refine KOps.guardNo (dj := 81) rfl rfl rfl ?_
          refine KOps.guardNo (dj := 81) rfl rfl rfl ?_
          refine KOps.guardYes (dj := 73) rfl rfl ?_
          refine KOps.pickF ?_
          refine KOps.pickF ?_
          refine KOps.assign ?_
          refine KOps.done ?_
          refine sqQ.normal ?_
          refine KA.sub (Sub.cons (t := 1) Look.eq (Sub.cons (t := 2) Look.eq (Sub.cons (t := 3) Look.eq (Sub.cons (t := 8) Look.eq (Sub.cons (t := 9) Look.eq (Sub.cons (t := 11) Look.eq (Sub.cons (t := 12) Look.eq (Sub.cons (t := 13) Look.eq (Sub.cons (t := 14) Look.eq (Sub.cons (t := 61) Look.eq (Sub.cons (t := 62) Look.eq (Sub.cons (t := 63) Look.eq (Sub.cons (t := 66) Look.eq (Sub.cons (t := 67) Look.eq (Sub.cons (t := 68) Look.eq (Sub.cons (t := 69) Look.eq (Sub.cons (t := 70) Look.eq (Sub.cons (t := 71) Look.eq (Sub.cons (t := 74) Look.eq (Sub.cons (t := 75) Look.eq (Sub.cons (t := 76) Look.eq (Sub.cons (t := 77) Look.eq (Sub.cons (t := 78) Look.eq (Sub.cons (t := 79) Look.eq (Sub.cons (t := 80) Look.eq (Sub.cons (t := 81) Look.eq (Sub.cons (t := 82) Look.eq (Sub.cons (t := 83) Look.eq (Sub.cons (t := 84) Look.eq (Sub.cons (t := 85) Look.eq (Sub.cons (t := 86) Look.eq (Sub.cons (t := 87) Look.eq (Sub.cons (t := 88) Look.eq (Sub.nil _)))))))))))))))))))))))))))))))))) ?_
          refine KA.seq ?_
          refine KA.region rfl ?_
          refine KOps.move ?_
          refine KOps.move ?_
          refine KOps.guardNo (dj := 91) rfl rfl rfl ?_
          refine KOps.guardNo (dj := 91) rfl rfl rfl ?_
          refine KOps.guardNo (dj := 91) rfl rfl rfl ?_
          refine KOps.guardNo (dj := 91) rfl rfl rfl ?_
          refine KOps.pickF ?_
          refine KOps.done ?_
          refine sqQ.normal ?_
          refine KA.sub (Sub.cons (t := 1) Look.eq (Sub.cons (t := 2) Look.eq (Sub.cons (t := 3) Look.eq (Sub.cons (t := 8) Look.eq (Sub.cons (t := 9) Look.eq (Sub.cons (t := 11) Look.eq (Sub.cons (t := 12) Look.eq (Sub.cons (t := 13) Look.eq (Sub.cons (t := 61) Look.eq (Sub.cons (t := 62) Look.eq (Sub.cons (t := 63) Look.eq (Sub.cons (t := 66) Look.eq (Sub.cons (t := 67) Look.eq (Sub.cons (t := 68) Look.eq (Sub.cons (t := 69) Look.eq (Sub.cons (t := 70) Look.eq (Sub.cons (t := 71) Look.eq (Sub.cons (t := 74) Look.eq (Sub.cons (t := 75) Look.eq (Sub.cons (t := 76) Look.eq (Sub.cons (t := 77) Look.eq (Sub.cons (t := 78) Look.eq (Sub.cons (t := 79) Look.eq (Sub.cons (t := 80) Look.eq (Sub.cons (t := 81) Look.eq (Sub.cons (t := 82) Look.eq (Sub.cons (t := 83) Look.eq (Sub.cons (t := 84) Look.eq (Sub.cons (t := 85) Look.eq (Sub.cons (t := 86) Look.eq (Sub.cons (t := 87) Look.eq (Sub.cons (t := 88) Look.eq (Sub.cons (t := 92) Look.eq (Sub.cons (t := 93) Look.eq (Sub.cons (t := 94) Look.eq (Sub.cons (t := 95) Look.eq (Sub.cons (t := 96) Look.eq (Sub.nil _)))))))))))))))))))))))))))))))))))))) ?_
          refine KA.condF ?_
          refine KA.skip ?_
          refine blQ.normal ?_
          refine sqQ.normal ?_
          refine KA.sub (Sub.cons (t := 1) Look.eq (Sub.cons (t := 2) Look.eq (Sub.cons (t := 3) Look.eq (Sub.cons (t := 8) Look.eq (Sub.cons (t := 9) Look.eq (Sub.cons (t := 11) Look.eq (Sub.cons (t := 12) Look.eq (Sub.cons (t := 13) Look.eq (Sub.cons (t := 61) Look.eq (Sub.cons (t := 62) Look.eq (Sub.cons (t := 63) Look.eq (Sub.cons (t := 66) Look.eq (Sub.cons (t := 67) Look.eq (Sub.cons (t := 68) Look.eq (Sub.cons (t := 69) Look.eq (Sub.cons (t := 70) Look.eq (Sub.cons (t := 71) Look.eq (Sub.cons (t := 74) Look.eq (Sub.cons (t := 75) Look.eq (Sub.cons (t := 76) Look.eq (Sub.cons (t := 77) Look.eq (Sub.cons (t := 78) Look.eq (Sub.cons (t := 79) Look.eq (Sub.cons (t := 80) Look.eq (Sub.cons (t := 81) Look.eq (Sub.cons (t := 82) Look.eq (Sub.cons (t := 83) Look.eq (Sub.cons (t := 84) Look.eq (Sub.cons (t := 85) Look.eq (Sub.cons (t := 86) Look.eq (Sub.cons (t := 87) Look.eq (Sub.cons (t := 88) Look.eq (Sub.cons (t := 92) Look.eq (Sub.cons (t := 93) Look.eq (Sub.cons (t := 94) Look.eq (Sub.cons (t := 95) Look.eq (Sub.nil _))))))))))))))))))))))))))))))))))))) ?_
          refine KA.region rfl ?_
          refine KOps.move ?_
          refine KOps.add (by first | omega | (simp; omega)) (by first | omega | (simp; omega)) ?_
          refine KOps.assign ?_
          refine KOps.done ?_
          have hpb : pB ws j true k = false := by
            rw [pB, if_pos rfl, g65]; rfl
          have hfs := fewF_succ (p := pB ws j true) (r := r) (by omega) (pB_full hB hj true) (k := k) (by omega)
          rw [hpb, Bool.false_and, if_neg (by decide)] at hfs
          exact lpQ.normal (k + 1, vb) (by repeat (first | exact Sub.nil _ | refine Sub.cons Look.eq ?_ | refine Sub.cons (Eq.trans Look.eq (congrArg (AV.int _) (by first | omega | (dsimp only; omega)))) ?_)) ⟨by dsimp only; omega, by dsimp only; rw [hfs]; exact hS⟩ (by dsimp only; omega)
      · intro c56
        refine KA.exit ?_
        refine sqQ.exit ?_
        refine lpQ.exit ?_
        refine blQ.here ?_
        refine sqQ.normal ?_
        refine KA.sub (Sub.cons (t := 12) Look.eq (Sub.nil _)) ?_
        refine KA.seq ?_
        refine KA.region rfl ?_
        refine KOps.move ?_
        refine KOps.assign ?_
        refine KOps.assign ?_
        refine KOps.done ?_
        refine sqQ.normal ?_
        refine KA.sub (Sub.cons (t := 6) Look.eq (Sub.cons (t := 7) Look.eq (Sub.nil _))) ?_
        refine KA.ret ?_
        refine fnQ.retN ?_
        have hend : ¬ endI ws j true = ownI ws j true := g37
        obtain ⟨s, hs, hp⟩ := bound_some hB hx hj hend
        rw [boundL, if_pos c23, Int.toNat_natCast, if_neg hend, c23, Int.toNat_natCast]
        rw [show k = 2 ^ r by omega, fewF_few hp hs] at hS
        exact ⟨_, rfl, St.pick [0] (by decide) rfl hS⟩
    · intro g37
      have g37 := of_decide_eq_true g37
      refine KOps.guardNo (dj := 37) rfl rfl rfl ?_
      refine KOps.guardNo (dj := 37) rfl rfl rfl ?_
      refine KOps.guardTup (dj := 40) rfl rfl ?_
      refine KOps.guardTup (dj := 40) rfl rfl ?_
      refine KOps.guardTup (dj := 40) rfl rfl ?_
      refine KOps.guardTup (dj := 40) rfl rfl ?_
      refine KOps.guardNo (dj := 37) rfl rfl rfl ?_
      refine KOps.pickT ?_
      refine KOps.done ?_
      refine sqQ.normal ?_
      refine KA.sub (Sub.cons (t := 1) Look.eq (Sub.cons (t := 2) Look.eq (Sub.cons (t := 3) Look.eq (Sub.cons (t := 8) Look.eq (Sub.cons (t := 9) Look.eq (Sub.cons (t := 11) Look.eq (Sub.cons (t := 46) Look.eq (Sub.nil _)))))))) ?_
      refine KA.condT ?_
      refine KA.seq ?_
      refine KA.region rfl ?_
      refine KOps.assign ?_
      refine KOps.assign ?_
      refine KOps.done ?_
      refine sqQ.normal ?_
      refine KA.sub (Sub.cons (t := 6) Look.eq (Sub.cons (t := 7) Look.eq (Sub.nil _))) ?_
      refine KA.ret ?_
      refine sqQ.ret ?_
      refine fnQ.retN ?_
      have hend : endI ws j true = ownI ws j true := g37
      rw [boundL, if_pos c23, Int.toNat_natCast, if_pos hend, c23]
      exact ⟨_, rfl, St.pick [2] (by decide) rfl (St.addNil 1 true hS)⟩

theorem bound_false_c {h : AHeap} {rm i : Int} {vW : AV} {ws : List W} (hv : Rd h vW 4 (flr wc ws)) (hSz : Sizes h) : ACalls Go.Proofs.Tryd.prog 42 [.agg [.int .i64 rm, vW], .int .i64 i, .bool false] h (fun q h' => ∃ vo, q = .tup [vo, .int .i64 (askE rm ws i)] ∧ St h h' [⟨vo, 1, ints (boundL rm ws i false), true⟩]) := by
  refine KA.fn 47 [.tmp 6, .tmp 7] Go.Proofs.Tryd.func42 rfl (by decide) rfl rfl (Nat.le_of_ble_eq_true rfl) ?_
  have hS := St.refl h
  have hvo : vW.one = true := hv.one
  show KA _ 47 _ _ [(0, .agg [.int .i64 rm, vW]), (1, .int .i64 i), (2, .bool false)] _
  refine KA.seq ?_
  refine KA.region rfl ?_
  refine KOps.boxAll hS (by first | rfl | (simp [AV.one]; done) | (simp [AV.one]; assumption) | (simp [AV.one, *]; done)) ?_
  intro p3 h' hp3 hS
  refine KOps.box hS (l := [_]) rfl ?_
  intro p4 h' hp4 hS
  refine KOps.assign ?_
  refine KOps.assign ?_
  refine KOps.done ?_
  refine sqQ.normal ?_
  refine KA.sub (Sub.cons (t := 2) Look.eq (Sub.cons (t := 3) Look.eq (Sub.cons (t := 4) Look.eq (Sub.nil _)))) ?_
  refine KA.seq ?_
  refine KA.region rfl ?_
  refine KOps.loadAll hS (i := 1) rfl hp3 (by rfl) (by decide) ?_
  refine KOps.loadBox hS (i := 0) rfl hp4 ?_
  refine KOps.call rfl (stSpan_c (Rd.ext hS.keeps hv)) ?_
  rintro _ h5 ⟨rfl, hK⟩
  have hS0 : St _ _ (_ :: _ :: _) := St.trans hS (St.ofK hK)
  clear hS
  have hS := hS0
  clear hS0
  refine KOps.move ?_
  refine KOps.extract ?_
  refine KOps.extract ?_
  refine KOps.extract ?_
  refine KOps.assign ?_
  refine KOps.assign ?_
  refine KOps.assign ?_
  refine KOps.done ?_
  refine sqQ.normal ?_
  refine KA.sub (Sub.cons (t := 2) Look.eq (Sub.cons (t := 3) Look.eq (Sub.cons (t := 4) Look.eq (Sub.cons (t := 8) Look.eq (Sub.cons (t := 9) Look.eq (Sub.cons (t := 10) Look.eq (Sub.nil _))))))) ?_
  refine KA.seq ?_
  refine KA.seq ?_
  refine KA.region rfl ?_
  refine KOps.move ?_
  refine KOps.neq ?_
  refine KOps.done ?_
  refine sqQ.normal ?_
  refine KA.sub (Sub.cons (t := 2) Look.eq (Sub.cons (t := 3) Look.eq (Sub.cons (t := 4) Look.eq (Sub.cons (t := 8) Look.eq (Sub.cons (t := 9) Look.eq (Sub.cons (t := 10) Look.eq (Sub.cons (t := 23) Look.eq (Sub.nil _)))))))) ?_
  refine KA.condN ?_ ?_
  · intro c23
    refine KA.seq ?_
    refine KA.region rfl ?_
    refine KOps.move ?_
    refine KOps.assign ?_
    refine KOps.assign ?_
    refine KOps.done ?_
    refine sqQ.normal ?_
    refine KA.sub (Sub.cons (t := 6) Look.eq (Sub.cons (t := 7) Look.eq (Sub.nil _))) ?_
    refine KA.ret ?_
    refine sqQ.ret ?_
    refine fnQ.retN ?_
    rw [boundL, if_neg c23]
    exact ⟨_, rfl, St.pick [2] (by decide) rfl (St.addNil 1 true hS)⟩
  · intro c23
    obtain ⟨he, hi0, hi1⟩ := ask_ok c23
    have hB := (agree_ok he).1
    have hx := (agree_ok he).2
    obtain ⟨r, rfl⟩ : ∃ r : Nat, rm = (r : Int) := ⟨rm.toNat, by have := hB.r2; omega⟩
    obtain ⟨j, rfl⟩ : ∃ j : Nat, i = (j : Int) := ⟨i.toNat, by omega⟩
    rw [if_pos c23, if_pos c23, Int.toNat_natCast]
    have hr6 := hB.r6
    have hwl := hB.len
    have hpw : 2 ^ r ≤ 2 ^ 6 := Nat.pow_le_pow_right (by decide) (by omega)
    have h1p : 1 ≤ 2 ^ r := Nat.one_le_two_pow
    have hsh := shl64 r (by omega)
    have hj : j < ws.length := by omega
    refine KA.skip ?_
    refine sqQ.normal ?_
    refine KA.sub (Sub.cons (t := 2) Look.eq (Sub.cons (t := 3) Look.eq (Sub.cons (t := 4) Look.eq (Sub.cons (t := 8) Look.eq (Sub.cons (t := 9) Look.eq (Sub.nil _)))))) ?_
    refine KA.seq ?_
    refine KA.region rfl ?_
    refine KOps.fieldAddr hp3 ?_
    intro p25 hp25
    refine KOps.load hp25 (hS.rd 1 rfl) rfl ?_
    refine KOps.loadBox hS (i := 0) rfl hp4 ?_
    refine KOps.indexF wc_len (Rd.ext hS.keeps hv) (j := j) (by first | omega | (simp; omega)) (by first | omega | (simp; omega)) ?_
    intro p28 hp28
    refine KOps.loadFl wc_len (by decide) hp28 (Rd.ext hS.keeps hv) (by first | omega | (simp; omega)) ?_
    refine KOps.alloc hS ?_
    intro p11 h' hp11 hS
    refine KOps.storeAll hS rfl (i := 0) rfl hp11 (by first | rfl | (simp [AV.one]; done) | (simp [AV.one]; assumption) | (simp [AV.one, *]; done)) (by rfl) (by rfl) (by decide) ?_
    intro h' hS
    simp only [List.set_cons_zero, List.set_cons_succ, Nat.zero_add] at hS
    refine KOps.done ?_
    refine sqQ.normal ?_
    refine KA.sub (Sub.cons (t := 2) Look.eq (Sub.cons (t := 3) Look.eq (Sub.cons (t := 4) Look.eq (Sub.cons (t := 8) Look.eq (Sub.cons (t := 9) Look.eq (Sub.cons (t := 11) Look.eq (Sub.nil _))))))) ?_
    refine KA.seq ?_
    refine KA.drawS2 (c := 7) (r := 4) (t := 3) (a := 33) (d := 34) [] mixed rfl rfl rfl (by kernel_rfl) rfl rfl rfl (by decide) (by decide) (by kernel_rfl) ?_
    refine KOps.fieldAddr hp11 ?_
    intro p30 hp30
    refine KOps.load hp30 (hS.rd 0 rfl) rfl ?_
    refine KOps.move ?_
    refine KOps.fieldAddr hp11 ?_
    intro p33 hp33
    refine KOps.load hp33 (hS.rd 0 rfl) rfl ?_
    refine KOps.alloc hS ?_
    intro p12 h' hp12 hS
    refine KOps.alloc hS ?_
    intro p13 h' hp13 hS
    refine KOps.storeBox hS rfl (i := 1) rfl hp12 (by first | rfl | assumption) ?_
    intro h' hS
    simp only [List.set_cons_zero, List.set_cons_succ, Nat.zero_add] at hS
    refine KOps.doneS2 rfl rfl hp33 (hS.rd 2 rfl) rfl ?_
    refine KOps.storeBox hS rfl (i := 0) rfl hp13 (by first | rfl | assumption) ?_
    intro h' hS
    simp only [List.set_cons_zero, List.set_cons_succ, Nat.zero_add] at hS
    refine KOps.doneS2 rfl rfl hp33 (hS.rd 2 rfl) rfl ?_
    refine KOps.assign ?_
    refine KOps.done ?_
    refine sqQ.normal ?_
    refine KA.sub (Sub.cons (t := 2) Look.eq (Sub.cons (t := 3) Look.eq (Sub.cons (t := 4) Look.eq (Sub.cons (t := 9) Look.eq (Sub.cons (t := 11) Look.eq (Sub.cons (t := 12) Look.eq (Sub.cons (t := 13) Look.eq (Sub.cons (t := 14) Look.eq (Sub.nil _))))))))) ?_
    refine KA.seq ?_
    refine KA.seq ?_
    refine KA.region rfl ?_
    refine KOps.move ?_
    refine KOps.done ?_
    refine sqQ.normal ?_
    refine KA.sub (Sub.cons (t := 3) Look.eq (Sub.cons (t := 4) Look.eq (Sub.cons (t := 9) Look.eq (Sub.cons (t := 11) Look.eq (Sub.cons (t := 12) Look.eq (Sub.cons (t := 13) Look.eq (Sub.cons (t := 14) Look.eq (Sub.cons (t := 35) Look.eq (Sub.nil _))))))))) ?_
    refine KA.condF ?_
    refine KA.skip ?_
    refine sqQ.normal ?_
    refine KA.sub (Sub.cons (t := 3) Look.eq (Sub.cons (t := 4) Look.eq (Sub.cons (t := 12) Look.eq (Sub.cons (t := 13) Look.eq (Sub.cons (t := 14) Look.eq (Sub.nil _)))))) ?_
    refine KA.seq ?_
    refine KA.seq ?_
    refine KA.region rfl ?_
    refine KOps.loadBox hS (i := 0) rfl hp13 ?_
    refine KOps.move ?_
    refine KOps.eql ?_
    refine KOps.done ?_
    refine sqQ.normal ?_
    refine KA.sub (Sub.cons (t := 3) Look.eq (Sub.cons (t := 4) Look.eq (Sub.cons (t := 12) Look.eq (Sub.cons (t := 13) Look.eq (Sub.cons (t := 43) Look.eq (Sub.nil _)))))) ?_
    refine KA.condD ?_ ?_
    · intro c43
      have hend : endI ws j false = ownI ws j false := c43
      refine KA.seq ?_
      refine KA.region rfl ?_
      refine KOps.assign ?_
      refine KOps.assign ?_
      refine KOps.done ?_
      refine sqQ.normal ?_
      refine KA.sub (Sub.cons (t := 6) Look.eq (Sub.cons (t := 7) Look.eq (Sub.nil _))) ?_
      refine KA.ret ?_
      refine sqQ.ret ?_
      refine fnQ.retN ?_
      rw [boundL, if_pos c23, Int.toNat_natCast, if_pos hend, c23]
      exact ⟨_, rfl, St.pick [5] (by decide) rfl (St.addNil 1 true hS)⟩
    · intro c43
      have hend : ¬ endI ws j false = ownI ws j false := c43
      refine KA.skip ?_
      refine sqQ.normal ?_
      refine KA.sub (Sub.cons (t := 3) Look.eq (Sub.cons (t := 4) Look.eq (Sub.cons (t := 12) Look.eq (Sub.cons (t := 13) Look.eq (Sub.nil _))))) ?_
      refine KA.seq ?_
      refine KA.region rfl ?_
      refine KOps.loadAll hS (i := 4) rfl hp3 (by rfl) (by decide) ?_
      refine KOps.makeFunc ?_
      refine KOps.call rfl (fewest_c (r := r) (p := pB ws j false) (vi := .fn 86 [p3, p4, p12, p13]) (Rd.ext hS.keeps hv) (by omega) (hSz.ext hS.keeps) rfl (fun h' s hK hs => ACalls.mono (bound1_c (s := s) (i := j) (g := false) (Rd.ext (hS.keeps.trans hK) hv) hB (by omega) hj hp3 hp4 hp12 hp13 (Rd.ext hK (hS.rd 4 rfl)) (Rd.ext hK (hS.rd 3 rfl)) (Rd.ext hK (hS.rd 1 rfl)) (Rd.ext hK (hS.rd 0 rfl))) (fun _ _ hx => hx))) ?_
      rintro vo h6 hF
      refine KOps.assign ?_
      refine KOps.assign ?_
      refine KOps.done ?_
      refine sqQ.normal ?_
      refine KA.sub (Sub.cons (t := 6) Look.eq (Sub.cons (t := 7) Look.eq (Sub.nil _))) ?_
      refine KA.ret ?_
      refine fnQ.retN ?_
      rw [boundL, if_pos c23, Int.toNat_natCast, if_neg hend, c23, Int.toNat_natCast]
      exact ⟨_, rfl, St.pick [0] (by decide) rfl (St.trans hS hF)⟩

theorem refBound_false_c {h : AHeap} {rm i : Int} {vW : AV} {ws : List W} (hv : Rd h vW 4 (flr wc ws)) : ACalls Go.Proofs.Tryd.prog 43 [.agg [.int .i64 rm, vW], .int .i64 i, .bool false] h (fun q h' => ∃ vo, q = .tup [vo, .int .i64 (askE rm ws i)] ∧ St h h' [⟨vo, 1, ints (boundL rm ws i false), true⟩]) := by
  refine KA.fn 100 [.tmp 6, .tmp 7] Go.Proofs.Tryd.func43 rfl (by decide) rfl rfl (Nat.le_of_ble_eq_true rfl) ?_
  have hS := St.refl h
  have hvo : vW.one = true := hv.one
  show KA _ 100 _ _ [(0, .agg [.int .i64 rm, vW]), (1, .int .i64 i), (2, .bool false)] _
  refine KA.seq ?_
  refine KA.region rfl ?_
  refine KOps.boxAll hS (by first | rfl | (simp [AV.one]; done) | (simp [AV.one]; assumption) | (simp [AV.one, *]; done)) ?_
  intro p3 h' hp3 hS
  refine KOps.assign ?_
  refine KOps.assign ?_
  refine KOps.done ?_
  refine sqQ.normal ?_
  refine KA.sub (Sub.cons (t := 1) Look.eq (Sub.cons (t := 2) Look.eq (Sub.cons (t := 3) Look.eq (Sub.nil _)))) ?_
  refine KA.seq ?_
  refine KA.region rfl ?_
  refine KOps.loadAll hS (i := 0) rfl hp3 (by rfl) (by decide) ?_
  refine KOps.move ?_
  refine KOps.call rfl (refSpanE_c (Rd.ext hS.keeps hv)) ?_
  rintro _ h5 ⟨rfl, hK⟩
  have hS0 : St _ _ (_ :: _) := St.trans hS (St.ofK hK)
  clear hS
  have hS := hS0
  clear hS0
  refine KOps.move ?_
  refine KOps.extract ?_
  refine KOps.extract ?_
  refine KOps.extract ?_
  refine KOps.assign ?_
  refine KOps.assign ?_
  refine KOps.assign ?_
  refine KOps.done ?_
  refine sqQ.normal ?_
  refine KA.sub (Sub.cons (t := 1) Look.eq (Sub.cons (t := 2) Look.eq (Sub.cons (t := 3) Look.eq (Sub.cons (t := 8) Look.eq (Sub.cons (t := 9) Look.eq (Sub.cons (t := 10) Look.eq (Sub.nil _))))))) ?_
  refine KA.seq ?_
  refine KA.seq ?_
  refine KA.region rfl ?_
  refine KOps.move ?_
  refine KOps.neq ?_
  refine KOps.done ?_
  refine sqQ.normal ?_
  refine KA.sub (Sub.cons (t := 1) Look.eq (Sub.cons (t := 2) Look.eq (Sub.cons (t := 3) Look.eq (Sub.cons (t := 8) Look.eq (Sub.cons (t := 9) Look.eq (Sub.cons (t := 10) Look.eq (Sub.cons (t := 23) Look.eq (Sub.nil _)))))))) ?_
  refine KA.condN ?_ ?_
  · intro c23
    refine KA.seq ?_
    refine KA.region rfl ?_
    refine KOps.move ?_
    refine KOps.assign ?_
    refine KOps.assign ?_
    refine KOps.done ?_
    refine sqQ.normal ?_
    refine KA.sub (Sub.cons (t := 6) Look.eq (Sub.cons (t := 7) Look.eq (Sub.nil _))) ?_
    refine KA.ret ?_
    refine sqQ.ret ?_
    refine fnQ.retN ?_
    rw [boundL, if_neg c23]
    exact ⟨_, rfl, St.pick [1] (by decide) rfl (St.addNil 1 true hS)⟩
  · intro c23
    obtain ⟨he, hi0, hi1⟩ := ask_ok c23
    have hB := (agree_ok he).1
    have hx := (agree_ok he).2
    obtain ⟨r, rfl⟩ : ∃ r : Nat, rm = (r : Int) := ⟨rm.toNat, by have := hB.r2; omega⟩
    obtain ⟨j, rfl⟩ : ∃ j : Nat, i = (j : Int) := ⟨i.toNat, by omega⟩
    rw [if_pos c23, if_pos c23, Int.toNat_natCast]
    have hr6 := hB.r6
    have hwl := hB.len
    have hpw : 2 ^ r ≤ 2 ^ 6 := Nat.pow_le_pow_right (by decide) (by omega)
    have h1p : 1 ≤ 2 ^ r := Nat.one_le_two_pow
    have hsh := shl64 r (by omega)
    have hj : j < ws.length := by omega
    refine KA.skip ?_
    refine sqQ.normal ?_
    refine KA.sub (Sub.cons (t := 1) Look.eq (Sub.cons (t := 2) Look.eq (Sub.cons (t := 3) Look.eq (Sub.cons (t := 8) Look.eq (Sub.cons (t := 9) Look.eq (Sub.nil _)))))) ?_
    refine KA.seq ?_
    refine KA.region rfl ?_
    refine KOps.fieldAddr hp3 ?_
    intro p25 hp25
    refine KOps.load hp25 (hS.rd 0 rfl) rfl ?_
    refine KOps.move ?_
    refine KOps.indexF wc_len (Rd.ext hS.keeps hv) (j := j) (by first | omega | (simp; omega)) (by first | omega | (simp; omega)) ?_
    intro p28 hp28
    refine KOps.loadFl wc_len (by decide) hp28 (Rd.ext hS.keeps hv) (by first | omega | (simp; omega)) ?_
    refine KOps.alloc hS ?_
    intro p11 h' hp11 hS
    refine KOps.storeAll hS rfl (i := 0) rfl hp11 (by first | rfl | (simp [AV.one]; done) | (simp [AV.one]; assumption) | (simp [AV.one, *]; done)) (by rfl) (by rfl) (by decide) ?_
    intro h' hS
    simp only [List.set_cons_zero, List.set_cons_succ, Nat.zero_add] at hS
    refine KOps.done ?_
    refine sqQ.normal ?_
    refine KA.sub (Sub.cons (t := 1) Look.eq (Sub.cons (t := 2) Look.eq (Sub.cons (t := 3) Look.eq (Sub.cons (t := 8) Look.eq (Sub.cons (t := 9) Look.eq (Sub.cons (t := 11) Look.eq (Sub.nil _))))))) ?_
    refine KA.seq ?_
    refine KA.seq ?_
    refine KA.region rfl ?_
    refine KOps.move ?_
    refine KOps.move ?_
    refine KOps.guardNo (dj := 31) rfl rfl rfl ?_
    refine KOps.guardNo (dj := 31) rfl rfl rfl ?_
    refine KOps.guardNo (dj := 31) rfl rfl rfl ?_
    refine KOps.guardNo (dj := 31) rfl rfl rfl ?_
    refine KOps.pickF ?_
    refine KOps.move ?_
    refine KOps.guardYes (dj := 37) rfl rfl ?_
    refine KOps.move ?_
    refine KOps.guardYes (dj := 37) rfl rfl ?_
    refine KOps.not ?_
    refine KOps.guardYes (dj := 37) rfl rfl ?_
    refine KOps.move ?_
    refine KOps.guardYes (dj := 40) rfl rfl ?_
    refine KOps.move ?_
    refine KOps.guardYes (dj := 40) rfl rfl ?_
    refine KOps.fieldAddr hp11 ?_
    intro p42 hp42
    refine KOps.guardYes (dj := 40) rfl rfl ?_
    refine KOps.load hp42 (hS.rd 0 rfl) rfl ?_
    refine KOps.guardYes (dj := 40) rfl rfl ?_
    refine KOps.eql ?_
    refine KOps.guardYes (dj := 37) rfl rfl ?_
    refine KOps.pickT ?_
    refine KOps.pickF ?_
    refine KOps.done ?_
    refine sqQ.normal ?_
    refine KA.sub (Sub.cons (t := 1) Look.eq (Sub.cons (t := 2) Look.eq (Sub.cons (t := 3) Look.eq (Sub.cons (t := 8) Look.eq (Sub.cons (t := 9) Look.eq (Sub.cons (t := 11) Look.eq (Sub.cons (t := 46) Look.eq (Sub.nil _)))))))) ?_
    refine KA.condD ?_ ?_
    · intro c46
      refine KA.seq ?_
      refine KA.region rfl ?_
      refine KOps.assign ?_
      refine KOps.assign ?_
      refine KOps.done ?_
      refine sqQ.normal ?_
      refine KA.sub (Sub.cons (t := 6) Look.eq (Sub.cons (t := 7) Look.eq (Sub.nil _))) ?_
      refine KA.ret ?_
      refine sqQ.ret ?_
      refine fnQ.retN ?_
      have hend : endI ws j false = ownI ws j false := c46
      rw [boundL, if_pos c23, Int.toNat_natCast, if_pos hend, c23]
      exact ⟨_, rfl, St.pick [2] (by decide) rfl (St.addNil 1 true hS)⟩
    · intro c46
      refine KA.skip ?_
      refine sqQ.normal ?_
      refine KA.sub (Sub.cons (t := 1) Look.eq (Sub.cons (t := 2) Look.eq (Sub.cons (t := 3) Look.eq (Sub.cons (t := 8) Look.eq (Sub.cons (t := 9) Look.eq (Sub.cons (t := 11) Look.eq (Sub.nil _))))))) ?_
      refine KA.seq ?_
      refine KA.region rfl ?_
      refine KOps.fieldAddr hp3 ?_
      intro p47 hp47
      refine KOps.load hp47 (hS.rd 1 rfl) rfl ?_
      refine KOps.shl (by omega) ?_
      rw [hsh]
      refine KOps.sub (by omega) (by omega) ?_
      rw [show ((2 ^ r : Nat) : Int) - 1 = ((2 ^ r - 1 : Nat) : Int) by omega]
      refine KOps.call rfl (listed_c (s := 2 ^ r - 1) (by omega)) ?_
      rintro vf h6 hL
      have hS0 : St _ _ (_ :: _) := St.trans hS hL
      clear hS
      have hS := hS0
      clear hS0
      refine KOps.assign ?_
      refine KOps.done ?_
      refine sqQ.normal ?_
      refine KA.sub (Sub.cons (t := 1) Look.eq (Sub.cons (t := 2) Look.eq (Sub.cons (t := 3) Look.eq (Sub.cons (t := 8) Look.eq (Sub.cons (t := 9) Look.eq (Sub.cons (t := 11) Look.eq (Sub.cons (t := 12) Look.eq (Sub.nil _)))))))) ?_
      refine KA.seq ?_
      refine KA.seq ?_
      refine KA.region rfl ?_
      refine KOps.assign ?_
      refine KOps.done ?_
      refine sqQ.normal ?_
      refine KA.block ?_
      refine KA.loop (X := Nat × AV) (fun x => [(1, .int .i64 (j : Int)), (2, .bool false), (3, p3), (8, .int .i64 (loOf ws j)), (9, .int .i64 (hiOf ws j)), (11, p11), (12, x.2), (13, .int .i64 (x.1 : Int))]) (fun x h' => x.1 ≤ 2 ^ r ∧ St h h' [⟨x.2, 1, ints (fewF (pB ws j false) (2 ^ r - 1) x.1), true⟩, ⟨p11, 0, wc (ws.getD j default), true⟩, ⟨p3, 0, [.int .i64 (r : Int), vW], true⟩]) (fun x => 2 ^ r - x.1) (0, vf) (by repeat (first | exact Sub.nil _ | refine Sub.cons Look.eq ?_ | refine Sub.cons (Eq.trans Look.eq (congrArg (AV.int _) (by first | omega | (dsimp only; omega)))) ?_)) ?_ ?_
      · exact ⟨Nat.zero_le _, hS⟩
      rintro ⟨k, vb⟩ h11 ⟨hk, hS⟩
      dsimp only at hk hS ⊢
      refine KA.seq ?_
      refine KA.seq ?_
      refine KA.region rfl ?_
      refine KOps.move ?_
      refine KOps.fieldAddr hp3 ?_
      intro p53 hp53
      refine KOps.load hp53 (hS.rd 2 rfl) rfl ?_
      refine KOps.shl (by omega) ?_
      rw [hsh]
      refine KOps.lss ?_
      refine KOps.done ?_
      refine sqQ.normal ?_
      refine KA.sub (Sub.cons (t := 1) Look.eq (Sub.cons (t := 2) Look.eq (Sub.cons (t := 3) Look.eq (Sub.cons (t := 8) Look.eq (Sub.cons (t := 9) Look.eq (Sub.cons (t := 11) Look.eq (Sub.cons (t := 12) Look.eq (Sub.cons (t := 13) Look.eq (Sub.cons (t := 56) Look.eq (Sub.nil _)))))))))) ?_
      refine KA.condD ?_ ?_
      · intro c56
        refine KA.skip ?_
        refine sqQ.normal ?_
        refine KA.sub (Sub.cons (t := 1) Look.eq (Sub.cons (t := 2) Look.eq (Sub.cons (t := 3) Look.eq (Sub.cons (t := 8) Look.eq (Sub.cons (t := 9) Look.eq (Sub.cons (t := 11) Look.eq (Sub.cons (t := 12) Look.eq (Sub.cons (t := 13) Look.eq (Sub.nil _))))))))) ?_
        refine KA.seq ?_
        refine KA.block ?_
        refine KA.seq ?_
        refine KA.region rfl ?_
        have hwi := hB.way j hj
        have hwf0 := hwi.f0
        have hwf1 := hwi.f1
        have hwt0 := hwi.t0
        have hwt1 := hwi.t1
        refine KOps.move ?_
        refine KOps.move ?_
        refine KOps.guardNo (dj := 60) rfl rfl rfl ?_
        refine KOps.guardNo (dj := 60) rfl rfl rfl ?_
        refine KOps.guardNo (dj := 60) rfl rfl rfl ?_
        refine KOps.pickF ?_
        refine KOps.move ?_
        refine KOps.guardNo (dj := 65) rfl rfl rfl ?_
        refine KOps.guardNo (dj := 65) rfl rfl rfl ?_
        refine KOps.guardNo (dj := 65) rfl rfl rfl ?_
        refine KOps.guardNo (dj := 65) rfl rfl rfl ?_
        refine KOps.guardNo (dj := 65) rfl rfl rfl ?_
        refine KOps.guardNo (dj := 65) rfl rfl rfl ?_
        refine KOps.pickF ?_
        refine KOps.move ?_
        refine KOps.guardYes (dj := 73) rfl rfl ?_
        refine KOps.move ?_
        refine KOps.guardYes (dj := 73) rfl rfl ?_
        refine KOps.not ?_
        refine KOps.guardYes (dj := 73) rfl rfl ?_
        refine KOps.move ?_
        refine KOps.guardYes (dj := 76) rfl rfl ?_
        refine KOps.loadAll hS (i := 1) rfl hp11 (by rfl) (by decide) ?_
        refine KOps.guardYes (dj := 76) rfl rfl ?_
        refine KOps.move ?_
        refine KOps.guardYes (dj := 76) rfl rfl ?_
        refine KOps.call rfl (enters_c (by first | omega | (simp; omega)) (by first | omega | (simp; omega)) (by first | omega | (simp; omega)) (by first | omega | (simp; omega)) (by first | omega | (simp; omega))) ?_
        rintro _ h7 ⟨rfl, hK⟩
        have hS0 : St _ _ (_ :: _) := St.trans hS (St.ofK hK)
        clear hS
        have hS := hS0
        clear hS0
        refine KOps.guardYes (dj := 73) rfl rfl ?_
        refine KOps.pickT ?_
        refine KOps.guardYes (dj := 73) rfl rfl ?_
        refine KOps.move ?_
        refine KOps.guardB (dj := 81) rfl rfl true false rfl ?_ ?_
        · intro g81
          refine KOps.loadAll hS (i := 2) rfl hp3 (by rfl) (by decide) ?_
          refine KOps.guardYes (dj := 81) rfl rfl ?_
          refine KOps.move ?_
          refine KOps.guardYes (dj := 81) rfl rfl ?_
          refine KOps.move ?_
          refine KOps.guardYes (dj := 81) rfl rfl ?_
          refine KOps.call rfl (refSays_c (s := k) (i := j) (Rd.ext hS.keeps hv) hB (by omega) hj) ?_
          rintro _ h10 ⟨rfl, hK⟩
          have hS0 : St _ _ (_ :: _) := St.trans hS (St.ofK hK)
          clear hS
          have hS := hS0
          clear hS0
          refine KOps.guardYes (dj := 81) rfl rfl ?_
          refine KOps.move ?_
          refine KOps.guardYes (dj := 81) rfl rfl ?_
          refine KOps.eql ?_
          refine KOps.guardYes (dj := 73) rfl rfl ?_
          refine KOps.pickT ?_
          refine KOps.pickF ?_
          refine KOps.assign ?_
          refine KOps.done ?_
          refine sqQ.normal ?_
          refine KA.sub (Sub.cons (t := 1) Look.eq (Sub.cons (t := 2) Look.eq (Sub.cons (t := 3) Look.eq (Sub.cons (t := 8) Look.eq (Sub.cons (t := 9) Look.eq (Sub.cons (t := 11) Look.eq (Sub.cons (t := 12) Look.eq (Sub.cons (t := 13) Look.eq (Sub.cons (t := 14) Look.eq (Sub.cons (t := 61) Look.eq (Sub.cons (t := 62) Look.eq (Sub.cons (t := 63) Look.eq (Sub.cons (t := 66) Look.eq (Sub.cons (t := 67) Look.eq (Sub.cons (t := 68) Look.eq (Sub.cons (t := 69) Look.eq (Sub.cons (t := 70) Look.eq (Sub.cons (t := 71) Look.eq (Sub.cons (t := 74) Look.eq (Sub.cons (t := 75) Look.eq (Sub.cons (t := 76) Look.eq (Sub.cons (t := 77) Look.eq (Sub.cons (t := 78) Look.eq (Sub.cons (t := 79) Look.eq (Sub.cons (t := 80) Look.eq (Sub.cons (t := 81) Look.eq (Sub.cons (t := 82) Look.eq (Sub.cons (t := 83) Look.eq (Sub.cons (t := 84) Look.eq (Sub.cons (t := 85) Look.eq (Sub.cons (t := 86) Look.eq (Sub.cons (t := 87) Look.eq (Sub.cons (t := 88) Look.eq (Sub.nil _)))))))))))))))))))))))))))))))))) ?_
          refine KA.seq ?_
          refine KA.region rfl ?_
          refine KOps.move ?_
          refine KOps.move ?_
          refine KOps.guardB (dj := 91) rfl rfl true false rfl ?_ ?_
          · intro g91
            have g91 := of_decide_eq_true g91
            refine KOps.move ?_
            refine KOps.guardYes (dj := 91) rfl rfl ?_
            refine KOps.call rfl (listed_c (s := k) (by omega)) ?_
            rintro vl h8 hL
            have hS0 : St _ _ (_ :: _) := St.trans hS hL
            clear hS
            have hS := hS0
            clear hS0
            refine KOps.guardYes (dj := 91) rfl rfl ?_
            refine KOps.move ?_
            refine KOps.guardYes (dj := 91) rfl rfl ?_
            refine KOps.call rfl (before_c (hS.rd 0 rfl) (hS.rd 1 rfl) (by have := roomsTo_len k 6; omega)) ?_
            rintro _ _ ⟨rfl, rfl⟩
            refine KOps.pickT ?_
            refine KOps.done ?_
            refine sqQ.normal ?_
            refine KA.sub (Sub.cons (t := 1) Look.eq (Sub.cons (t := 2) Look.eq (Sub.cons (t := 3) Look.eq (Sub.cons (t := 8) Look.eq (Sub.cons (t := 9) Look.eq (Sub.cons (t := 11) Look.eq (Sub.cons (t := 12) Look.eq (Sub.cons (t := 13) Look.eq (Sub.cons (t := 61) Look.eq (Sub.cons (t := 62) Look.eq (Sub.cons (t := 63) Look.eq (Sub.cons (t := 66) Look.eq (Sub.cons (t := 67) Look.eq (Sub.cons (t := 68) Look.eq (Sub.cons (t := 69) Look.eq (Sub.cons (t := 70) Look.eq (Sub.cons (t := 71) Look.eq (Sub.cons (t := 74) Look.eq (Sub.cons (t := 75) Look.eq (Sub.cons (t := 76) Look.eq (Sub.cons (t := 77) Look.eq (Sub.cons (t := 78) Look.eq (Sub.cons (t := 79) Look.eq (Sub.cons (t := 80) Look.eq (Sub.cons (t := 81) Look.eq (Sub.cons (t := 82) Look.eq (Sub.cons (t := 83) Look.eq (Sub.cons (t := 84) Look.eq (Sub.cons (t := 85) Look.eq (Sub.cons (t := 86) Look.eq (Sub.cons (t := 87) Look.eq (Sub.cons (t := 88) Look.eq (Sub.cons (t := 92) Look.eq (Sub.cons (t := 93) Look.eq (Sub.cons (t := 94) Look.eq (Sub.cons (t := 95) Look.eq (Sub.cons (t := 96) Look.eq (Sub.nil _)))))))))))))))))))))))))))))))))))))) ?_
            refine KA.condB ?_ ?_
            · intro c96
              refine KA.region rfl ?_
              refine KOps.move ?_
              refine KOps.call rfl (listed_c (s := k) (by omega)) ?_
              rintro vm h9 hL
              have hS0 : St _ _ (_ :: _) := St.trans hS hL
              clear hS
              have hS := hS0
              clear hS0
              refine KOps.assign ?_
              refine KOps.done ?_
              refine blQ.normal ?_
              refine sqQ.normal ?_
              refine KA.sub (Sub.cons (t := 1) Look.eq (Sub.cons (t := 2) Look.eq (Sub.cons (t := 3) Look.eq (Sub.cons (t := 8) Look.eq (Sub.cons (t := 9) Look.eq (Sub.cons (t := 11) Look.eq (Sub.cons (t := 12) Look.eq (Sub.cons (t := 13) Look.eq (Sub.cons (t := 61) Look.eq (Sub.cons (t := 62) Look.eq (Sub.cons (t := 63) Look.eq (Sub.cons (t := 66) Look.eq (Sub.cons (t := 67) Look.eq (Sub.cons (t := 68) Look.eq (Sub.cons (t := 69) Look.eq (Sub.cons (t := 70) Look.eq (Sub.cons (t := 71) Look.eq (Sub.cons (t := 74) Look.eq (Sub.cons (t := 75) Look.eq (Sub.cons (t := 76) Look.eq (Sub.cons (t := 77) Look.eq (Sub.cons (t := 78) Look.eq (Sub.cons (t := 79) Look.eq (Sub.cons (t := 80) Look.eq (Sub.cons (t := 81) Look.eq (Sub.cons (t := 82) Look.eq (Sub.cons (t := 83) Look.eq (Sub.cons (t := 84) Look.eq (Sub.cons (t := 85) Look.eq (Sub.cons (t := 86) Look.eq (Sub.cons (t := 87) Look.eq (Sub.cons (t := 88) Look.eq (Sub.cons (t := 92) Look.eq (Sub.cons (t := 93) Look.eq (Sub.cons (t := 94) Look.eq (Sub.cons (t := 95) Look.eq (Sub.nil _))))))))))))))))))))))))))))))))))))) ?_
              refine KA.region rfl ?_
              refine KOps.move ?_
              refine KOps.add (by first | omega | (simp; omega)) (by first | omega | (simp; omega)) ?_
              refine KOps.assign ?_
              refine KOps.done ?_
              have hpb : pB ws j false k = true := by
                rw [pB, if_neg (by decide), g81, decide_eq_true g91]; rfl
              have hfs := fewF_succ (p := pB ws j false) (r := r) (by omega) (pB_full hB hj false) (k := k) (by omega)
              rw [hpb, c96, Bool.and_self, if_pos rfl] at hfs
              exact lpQ.normal (k + 1, vm) (by repeat (first | exact Sub.nil _ | refine Sub.cons Look.eq ?_ | refine Sub.cons (Eq.trans Look.eq (congrArg (AV.int _) (by first | omega | (dsimp only; omega)))) ?_)) ⟨by dsimp only; omega, by dsimp only; rw [hfs]; exact St.pick [0, 3, 4] (by decide) rfl hS⟩ (by dsimp only; omega)
            · intro c96
              refine KA.skip ?_
              refine blQ.normal ?_
              refine sqQ.normal ?_
              refine KA.sub (Sub.cons (t := 1) Look.eq (Sub.cons (t := 2) Look.eq (Sub.cons (t := 3) Look.eq (Sub.cons (t := 8) Look.eq (Sub.cons (t := 9) Look.eq (Sub.cons (t := 11) Look.eq (Sub.cons (t := 12) Look.eq (Sub.cons (t := 13) Look.eq (Sub.cons (t := 61) Look.eq (Sub.cons (t := 62) Look.eq (Sub.cons (t := 63) Look.eq (Sub.cons (t := 66) Look.eq (Sub.cons (t := 67) Look.eq (Sub.cons (t := 68) Look.eq (Sub.cons (t := 69) Look.eq (Sub.cons (t := 70) Look.eq (Sub.cons (t := 71) Look.eq (Sub.cons (t := 74) Look.eq (Sub.cons (t := 75) Look.eq (Sub.cons (t := 76) Look.eq (Sub.cons (t := 77) Look.eq (Sub.cons (t := 78) Look.eq (Sub.cons (t := 79) Look.eq (Sub.cons (t := 80) Look.eq (Sub.cons (t := 81) Look.eq (Sub.cons (t := 82) Look.eq (Sub.cons (t := 83) Look.eq (Sub.cons (t := 84) Look.eq (Sub.cons (t := 85) Look.eq (Sub.cons (t := 86) Look.eq (Sub.cons (t := 87) Look.eq (Sub.cons (t := 88) Look.eq (Sub.cons (t := 92) Look.eq (Sub.cons (t := 93) Look.eq (Sub.cons (t := 94) Look.eq (Sub.cons (t := 95) Look.eq (Sub.nil _))))))))))))))))))))))))))))))))))))) ?_
              refine KA.region rfl ?_
              refine KOps.move ?_
              refine KOps.add (by first | omega | (simp; omega)) (by first | omega | (simp; omega)) ?_
              refine KOps.assign ?_
              refine KOps.done ?_
              have hfs := fewF_succ (p := pB ws j false) (r := r) (by omega) (pB_full hB hj false) (k := k) (by omega)
              rw [c96, Bool.and_false, if_neg (by decide)] at hfs
              exact lpQ.normal (k + 1, vb) (by repeat (first | exact Sub.nil _ | refine Sub.cons Look.eq ?_ | refine Sub.cons (Eq.trans Look.eq (congrArg (AV.int _) (by first | omega | (dsimp only; omega)))) ?_)) ⟨by dsimp only; omega, by dsimp only; rw [hfs]; exact St.pick [1, 2, 3] (by decide) rfl hS⟩ (by dsimp only; omega)
          · intro g91
            have g91 := of_decide_eq_false g91
            refine KOps.guardNo (dj := 91) rfl rfl rfl ?_
            refine KOps.guardNo (dj := 91) rfl rfl rfl ?_
            refine KOps.guardNo (dj := 91) rfl rfl rfl ?_
            refine KOps.pickF ?_
            refine KOps.done ?_
            refine sqQ.normal ?_
            refine KA.sub (Sub.cons (t := 1) Look.eq (Sub.cons (t := 2) Look.eq (Sub.cons (t := 3) Look.eq (Sub.cons (t := 8) Look.eq (Sub.cons (t := 9) Look.eq (Sub.cons (t := 11) Look.eq (Sub.cons (t := 12) Look.eq (Sub.cons (t := 13) Look.eq (Sub.cons (t := 61) Look.eq (Sub.cons (t := 62) Look.eq (Sub.cons (t := 63) Look.eq (Sub.cons (t := 66) Look.eq (Sub.cons (t := 67) Look.eq (Sub.cons (t := 68) Look.eq (Sub.cons (t := 69) Look.eq (Sub.cons (t := 70) Look.eq (Sub.cons (t := 71) Look.eq (Sub.cons (t := 74) Look.eq (Sub.cons (t := 75) Look.eq (Sub.cons (t := 76) Look.eq (Sub.cons (t := 77) Look.eq (Sub.cons (t := 78) Look.eq (Sub.cons (t := 79) Look.eq (Sub.cons (t := 80) Look.eq (Sub.cons (t := 81) Look.eq (Sub.cons (t := 82) Look.eq (Sub.cons (t := 83) Look.eq (Sub.cons (t := 84) Look.eq (Sub.cons (t := 85) Look.eq (Sub.cons (t := 86) Look.eq (Sub.cons (t := 87) Look.eq (Sub.cons (t := 88) Look.eq (Sub.cons (t := 92) Look.eq (Sub.cons (t := 93) Look.eq (Sub.cons (t := 94) Look.eq (Sub.cons (t := 95) Look.eq (Sub.cons (t := 96) Look.eq (Sub.nil _)))))))))))))))))))))))))))))))))))))) ?_
            refine KA.condF ?_
            refine KA.skip ?_
            refine blQ.normal ?_
            refine sqQ.normal ?_
            refine KA.sub (Sub.cons (t := 1) Look.eq (Sub.cons (t := 2) Look.eq (Sub.cons (t := 3) Look.eq (Sub.cons (t := 8) Look.eq (Sub.cons (t := 9) Look.eq (Sub.cons (t := 11) Look.eq (Sub.cons (t := 12) Look.eq (Sub.cons (t := 13) Look.eq (Sub.cons (t := 61) Look.eq (Sub.cons (t := 62) Look.eq (Sub.cons (t := 63) Look.eq (Sub.cons (t := 66) Look.eq (Sub.cons (t := 67) Look.eq (Sub.cons (t := 68) Look.eq (Sub.cons (t := 69) Look.eq (Sub.cons (t := 70) Look.eq (Sub.cons (t := 71) Look.eq (Sub.cons (t := 74) Look.eq (Sub.cons (t := 75) Look.eq (Sub.cons (t := 76) Look.eq (Sub.cons (t := 77) Look.eq (Sub.cons (t := 78) Look.eq (Sub.cons (t := 79) Look.eq (Sub.cons (t := 80) Look.eq (Sub.cons (t := 81) Look.eq (Sub.cons (t := 82) Look.eq (Sub.cons (t := 83) Look.eq (Sub.cons (t := 84) Look.eq (Sub.cons (t := 85) Look.eq (Sub.cons (t := 86) Look.eq (Sub.cons (t := 87) Look.eq (Sub.cons (t := 88) Look.eq (Sub.cons (t := 92) Look.eq (Sub.cons (t := 93) Look.eq (Sub.cons (t := 94) Look.eq (Sub.cons (t := 95) Look.eq (Sub.nil _))))))))))))))))))))))))))))))))))))) ?_
            refine KA.region rfl ?_
            refine KOps.move ?_
            refine KOps.add (by first | omega | (simp; omega)) (by first | omega | (simp; omega)) ?_
            refine KOps.assign ?_
            refine KOps.done ?_
            have hpb : pB ws j false k = false := by
              rw [pB, if_neg (by decide), g81, decide_eq_false g91]; rfl
            have hfs := fewF_succ (p := pB ws j false) (r := r) (by omega) (pB_full hB hj false) (k := k) (by omega)
            rw [hpb, Bool.false_and, if_neg (by decide)] at hfs
            exact lpQ.normal (k + 1, vb) (by repeat (first | exact Sub.nil _ | refine Sub.cons Look.eq ?_ | refine Sub.cons (Eq.trans Look.eq (congrArg (AV.int _) (by first | omega | (dsimp only; omega)))) ?_)) ⟨by dsimp only; omega, by dsimp only; rw [hfs]; exact hS⟩ (by dsimp only; omega)
        · intro g81
          refine KOps.guardNo (dj := 81) rfl rfl rfl ?_
          refine KOps.guardNo (dj := 81) rfl rfl rfl ?_
          refine KOps.guardNo (dj := 81) rfl rfl rfl ?_
          refine KOps.guardNo (dj := 81) rfl rfl rfl ?_
          refine KOps.guardNo (dj := 81) rfl rfl rfl ?_
          refine KOps.guardYes (dj := 73) rfl rfl ?_
          refine KOps.pickF ?_
          refine KOps.pickF ?_
          refine KOps.assign ?_
          refine KOps.done ?_
          refine sqQ.normal ?_
          refine KA.sub (Sub.cons (t := 1) Look.eq (Sub.cons (t := 2) Look.eq (Sub.cons (t := 3) Look.eq (Sub.cons (t := 8) Look.eq (Sub.cons (t := 9) Look.eq (Sub.cons (t := 11) Look.eq (Sub.cons (t := 12) Look.eq (Sub.cons (t := 13) Look.eq (Sub.cons (t := 14) Look.eq (Sub.cons (t := 61) Look.eq (Sub.cons (t := 62) Look.eq (Sub.cons (t := 63) Look.eq (Sub.cons (t := 66) Look.eq (Sub.cons (t := 67) Look.eq (Sub.cons (t := 68) Look.eq (Sub.cons (t := 69) Look.eq (Sub.cons (t := 70) Look.eq (Sub.cons (t := 71) Look.eq (Sub.cons (t := 74) Look.eq (Sub.cons (t := 75) Look.eq (Sub.cons (t := 76) Look.eq (Sub.cons (t := 77) Look.eq (Sub.cons (t := 78) Look.eq (Sub.cons (t := 79) Look.eq (Sub.cons (t := 80) Look.eq (Sub.cons (t := 81) Look.eq (Sub.cons (t := 82) Look.eq (Sub.cons (t := 83) Look.eq (Sub.cons (t := 84) Look.eq (Sub.cons (t := 85) Look.eq (Sub.cons (t := 86) Look.eq (Sub.cons (t := 87) Look.eq (Sub.cons (t := 88) Look.eq (Sub.nil _)))))))))))))))))))))))))))))))))) ?_
          refine KA.seq ?_
          refine KA.region rfl ?_
          refine KOps.move ?_
          refine KOps.move ?_
          refine KOps.guardNo (dj := 91) rfl rfl rfl ?_
          refine KOps.guardNo (dj := 91) rfl rfl rfl ?_
          refine KOps.guardNo (dj := 91) rfl rfl rfl ?_
          refine KOps.guardNo (dj := 91) rfl rfl rfl ?_
          refine KOps.pickF ?_
          refine KOps.done ?_
          refine sqQ.normal ?_
          refine KA.sub (Sub.cons (t := 1) Look.eq (Sub.cons (t := 2) Look.eq (Sub.cons (t := 3) Look.eq (Sub.cons (t := 8) Look.eq (Sub.cons (t := 9) Look.eq (Sub.cons (t := 11) Look.eq (Sub.cons (t := 12) Look.eq (Sub.cons (t := 13) Look.eq (Sub.cons (t := 61) Look.eq (Sub.cons (t := 62) Look.eq (Sub.cons (t := 63) Look.eq (Sub.cons (t := 66) Look.eq (Sub.cons (t := 67) Look.eq (Sub.cons (t := 68) Look.eq (Sub.cons (t := 69) Look.eq (Sub.cons (t := 70) Look.eq (Sub.cons (t := 71) Look.eq (Sub.cons (t := 74) Look.eq (Sub.cons (t := 75) Look.eq (Sub.cons (t := 76) Look.eq (Sub.cons (t := 77) Look.eq (Sub.cons (t := 78) Look.eq (Sub.cons (t := 79) Look.eq (Sub.cons (t := 80) Look.eq (Sub.cons (t := 81) Look.eq (Sub.cons (t := 82) Look.eq (Sub.cons (t := 83) Look.eq (Sub.cons (t := 84) Look.eq (Sub.cons (t := 85) Look.eq (Sub.cons (t := 86) Look.eq (Sub.cons (t := 87) Look.eq (Sub.cons (t := 88) Look.eq (Sub.cons (t := 92) Look.eq (Sub.cons (t := 93) Look.eq (Sub.cons (t := 94) Look.eq (Sub.cons (t := 95) Look.eq (Sub.cons (t := 96) Look.eq (Sub.nil _)))))))))))))))))))))))))))))))))))))) ?_
          refine KA.condF ?_
          refine KA.skip ?_
          refine blQ.normal ?_
          refine sqQ.normal ?_
          refine KA.sub (Sub.cons (t := 1) Look.eq (Sub.cons (t := 2) Look.eq (Sub.cons (t := 3) Look.eq (Sub.cons (t := 8) Look.eq (Sub.cons (t := 9) Look.eq (Sub.cons (t := 11) Look.eq (Sub.cons (t := 12) Look.eq (Sub.cons (t := 13) Look.eq (Sub.cons (t := 61) Look.eq (Sub.cons (t := 62) Look.eq (Sub.cons (t := 63) Look.eq (Sub.cons (t := 66) Look.eq (Sub.cons (t := 67) Look.eq (Sub.cons (t := 68) Look.eq (Sub.cons (t := 69) Look.eq (Sub.cons (t := 70) Look.eq (Sub.cons (t := 71) Look.eq (Sub.cons (t := 74) Look.eq (Sub.cons (t := 75) Look.eq (Sub.cons (t := 76) Look.eq (Sub.cons (t := 77) Look.eq (Sub.cons (t := 78) Look.eq (Sub.cons (t := 79) Look.eq (Sub.cons (t := 80) Look.eq (Sub.cons (t := 81) Look.eq (Sub.cons (t := 82) Look.eq (Sub.cons (t := 83) Look.eq (Sub.cons (t := 84) Look.eq (Sub.cons (t := 85) Look.eq (Sub.cons (t := 86) Look.eq (Sub.cons (t := 87) Look.eq (Sub.cons (t := 88) Look.eq (Sub.cons (t := 92) Look.eq (Sub.cons (t := 93) Look.eq (Sub.cons (t := 94) Look.eq (Sub.cons (t := 95) Look.eq (Sub.nil _))))))))))))))))))))))))))))))))))))) ?_
          refine KA.region rfl ?_
          refine KOps.move ?_
          refine KOps.add (by first | omega | (simp; omega)) (by first | omega | (simp; omega)) ?_
          refine KOps.assign ?_
          refine KOps.done ?_
          have hpb : pB ws j false k = false := by
            rw [pB, if_neg (by decide), g81]; rfl
          have hfs := fewF_succ (p := pB ws j false) (r := r) (by omega) (pB_full hB hj false) (k := k) (by omega)
          rw [hpb, Bool.false_and, if_neg (by decide)] at hfs
          exact lpQ.normal (k + 1, vb) (by repeat (first | exact Sub.nil _ | refine Sub.cons Look.eq ?_ | refine Sub.cons (Eq.trans Look.eq (congrArg (AV.int _) (by first | omega | (dsimp only; omega)))) ?_)) ⟨by dsimp only; omega, by dsimp only; rw [hfs]; exact hS⟩ (by dsimp only; omega)
      · intro c56
        refine KA.exit ?_
        refine sqQ.exit ?_
        refine lpQ.exit ?_
        refine blQ.here ?_
        refine sqQ.normal ?_
        refine KA.sub (Sub.cons (t := 12) Look.eq (Sub.nil _)) ?_
        refine KA.seq ?_
        refine KA.region rfl ?_
        refine KOps.move ?_
        refine KOps.assign ?_
        refine KOps.assign ?_
        refine KOps.done ?_
        refine sqQ.normal ?_
        refine KA.sub (Sub.cons (t := 6) Look.eq (Sub.cons (t := 7) Look.eq (Sub.nil _))) ?_
        refine KA.ret ?_
        refine fnQ.retN ?_
        have hend : ¬ endI ws j false = ownI ws j false := c46
        obtain ⟨s, hs, hp⟩ := bound_some hB hx hj hend
        rw [boundL, if_pos c23, Int.toNat_natCast, if_neg hend, c23, Int.toNat_natCast]
        rw [show k = 2 ^ r by omega, fewF_few hp hs] at hS
        exact ⟨_, rfl, St.pick [0] (by decide) rfl hS⟩

end Go.Am

namespace Go.Am
theorem build_s12 {P : Program} {t : TypeId} {z0 z1 x : AV} (hz : zeroA P t = some (.agg [z0, z1])) (hz1 : [z0, z1].all AV.one = true) (hok : abuildOk P t = true) (hp0 : aplaces P t 0 = some (0, 1)) (hx : x.one = true) : abuild P t [(0, x)] = some (.agg [x, z1]) := by
  have h0 : (AV.agg [z0, z1]).cells? = some [z0, z1] := by simp only [AV.cells?]; rw [if_pos hz1]
  simp only [abuild, hz, h0, hok, if_true, Option.bind_eq_bind, Option.bind_some, afill, hp0, AV.cells_one hx]
  simp [putL, afill]
section
variable {P : Program} {n : Nat} {ops : Array Oper} {ex : List Nat} {Q : KF → AHeap → Prop} {k : Nat} {os : List Oper} {K : KF} {h : AHeap} {d : Nat} {ty : TypeId} {pos : String} {after : Array Edge}
theorem KOps.buildS12 {t : TypeId} {x0 : Operand} {v0 : AV} [hx0 : EvK h.globs n K x0 v0] {z0 z1 : AV} (hz : zeroA P t = some (.agg [z0, z1])) (hz1 : [z0, z1].all AV.one = true) (hok : abuildOk P t = true) (hp0 : aplaces P t 0 = some (0, 1)) (hov0 : v0.one = true) (hk : KOps P n ops ex Q (k + 1) os ((d, .agg [v0, z1]) :: K) h) :
    KOps P n ops ex Q k (⟨some d, .build t (List.toArray [(0, x0)]), ty, pos, after, none⟩ :: os) K h :=
  KOps.build (vs := [v0]) (build_s12 hz hz1 hok hp0 hov0) hk
theorem pc_aarr (p q : Int × Int) : aarr Go.Proofs.Tryd.prog 72 (pc p) (pc q) = some (decide (p = q)) := by
  have h1 : arrA Go.Proofs.Tryd.prog 72 = some (2, 3) := by kernel_rfl
  have h2 : intA Go.Proofs.Tryd.prog 3 = some .i64 := by kernel_rfl
  have h3 : (Go.Proofs.Tryd.prog).eqGuardType (Go.Proofs.Tryd.prog).depth 72 = false := by kernel_rfl
  have h4 : szA Go.Proofs.Tryd.prog 3 = some 1 := by kernel_rfl
  obtain ⟨a, b⟩ := p
  obtain ⟨c, e⟩ := q
  simp only [aarr, h1, h2, h3, h4, pc, ints, List.map_cons, List.map_nil, alits, if_true, Option.map_some, List.length_cons, List.length_nil, true_and, Prod.mk.injEq, and_self, Option.some.injEq]
  rw [Bool.eq_iff_iff, beq_iff_eq, decide_eq_true_iff]
  simp
theorem KOps.neqPc {x y : Operand} {p q : Int × Int} {t' : TypeId} [hx : EvK h.globs n K x (.agg (pc p))] [hy : EvK h.globs n K y (.agg (pc q))] (hk : KOps Go.Proofs.Tryd.prog n ops ex Q (k + 1) os ((d, .bool (!decide (p = q))) :: K) h) :
    KOps Go.Proofs.Tryd.prog n ops ex Q k (⟨some d, .binOp .neq 72 x y t', ty, pos, after, none⟩ :: os) K h :=
  KOps.pure rfl (by simp only [apure, hx.eq, hy.eq, abin, pc_aarr, Option.map_some]) hk
end
theorem takeW_next {ws : List W} {i : Nat} (hi : i < ws.length) : flr wc (ws.take i) ++ wc (ws.getD i default) = flr wc (ws.take (i + 1)) := by
  rw [flr_snoc]
  congr 1
  rw [List.take_add_one, List.getD_eq_getElem?_getD, List.getElem?_eq_getElem hi]; rfl
def wayAt (l : List Int) (i : Nat) : W := ⟨l.getD (4 * i) 0, l.getD (4 * i + 1) 0, l.getD (4 * i + 2) 0, l.getD (4 * i + 3) 0⟩
def waysTo (l : List Int) (k : Nat) : List W := (List.range k).map (wayAt l)
theorem waysTo_len (l : List Int) (k : Nat) : (waysTo l k).length = k := by simp [waysTo]
theorem waysTo_next (l : List Int) (k : Nat) : flr wc (waysTo l k) ++ wc (wayAt l k) = flr wc (waysTo l (k + 1)) := by
  rw [flr_snoc]; simp [waysTo, List.range_succ]

theorem large_c {h : AHeap} {rm : Int} {vW : AV} {ws : List W} (hv : Rd h vW 4 (flr wc ws)) {vn : AV} {l : List Int} (hn : Row h vn l) : ACalls Go.Proofs.Tryd.prog 15 [.agg [.int .i64 rm, vW], vn] h (fun q h' => q = .bool (decide (40 < ws.length ∨ 40 < l.length)) ∧ Keeps h h') := by
  refine KA.fn 14 [.tmp 4] Go.Proofs.Tryd.func15 rfl (by decide) rfl rfl (Nat.le_of_ble_eq_true rfl) ?_
  have hS := St.refl h
  have hvo : vW.one = true := hv.one
  show KA _ 14 _ _ [(0, .agg [.int .i64 rm, vW]), (1, vn)] _
  refine KA.seq ?_
  refine KA.region rfl ?_
  refine KOps.boxAll hS (by first | rfl | (simp [AV.one]; done) | (simp [AV.one]; assumption) | (simp [AV.one, *]; done)) ?_
  intro p2 h' hp2 hS
  refine KOps.assign ?_
  refine KOps.done ?_
  refine sqQ.normal ?_
  refine KA.sub (Sub.cons (t := 1) Look.eq (Sub.cons (t := 2) Look.eq (Sub.nil _))) ?_
  refine KA.seq ?_
  refine KA.region rfl ?_
  refine KOps.fieldAddr hp2 ?_
  intro p5 hp5
  refine KOps.load hp5 (hS.rd 0 rfl) rfl ?_
  refine KOps.lenF wc_len (Rd.ext hS.keeps hv) ?_
  refine KOps.gtr ?_
  refine KOps.move ?_
  refine KOps.guardB (dj := 9) rfl rfl false true rfl ?_ ?_
  · intro g9
    have g9 := of_decide_eq_false g9
    refine KOps.move ?_
    refine KOps.guardYes (dj := 9) rfl rfl ?_
    refine KOps.lenI (Row.ext hS.keeps hn) ?_
    refine KOps.guardYes (dj := 9) rfl rfl ?_
    refine KOps.gtr ?_
    refine KOps.pickF ?_
    refine KOps.assign ?_
    refine KOps.done ?_
    refine sqQ.normal ?_
    refine KA.sub (Sub.cons (t := 4) Look.eq (Sub.nil _)) ?_
    refine KA.ret ?_
    refine fnQ.ret1 ?_
    exact ⟨congrArg AV.bool (decide_eq_decide.2 (by omega)), hS.keeps⟩
  · intro g9
    have g9 := of_decide_eq_true g9
    refine KOps.guardNo (dj := 9) rfl rfl rfl ?_
    refine KOps.guardNo (dj := 9) rfl rfl rfl ?_
    refine KOps.pickT ?_
    refine KOps.assign ?_
    refine KOps.done ?_
    refine sqQ.normal ?_
    refine KA.sub (Sub.cons (t := 4) Look.eq (Sub.nil _)) ?_
    refine KA.ret ?_
    refine fnQ.ret1 ?_
    exact ⟨congrArg AV.bool (decide_eq_true (by omega)).symm, hS.keeps⟩

theorem given_c {h : AHeap} {rm : Int} {vW : AV} {ws : List W} (hv : Rd h vW 4 (flr wc ws)) (hl : ws.length ≤ 1000000) : ACalls Go.Proofs.Tryd.prog 17 [.agg [.int .i64 rm, vW]] h (fun q h' => ∃ v, q = .agg [.int .i64 rm, v] ∧ St h h' [⟨v, 4, flr wc ws, true⟩]) := by
  refine KA.fnH 26 [.cell 2 30] Go.Proofs.Tryd.func17 rfl (by decide) rfl rfl (Nat.le_of_ble_eq_true rfl) ?_
  have hS := St.refl h
  have hvo : vW.one = true := hv.one
  show KA _ 26 _ _ [(0, .agg [.int .i64 rm, vW])] _
  refine KA.seq ?_
  refine KA.region rfl ?_
  refine KOps.boxAll hS (by first | rfl | (simp [AV.one]; done) | (simp [AV.one]; assumption) | (simp [AV.one, *]; done)) ?_
  intro p1 h' hp1 hS
  refine KOps.alloc hS ?_
  intro p2 h' hp2 hS
  refine KOps.done ?_
  refine sqQ.normal ?_
  refine KA.sub (Sub.cons (t := 1) Look.eq (Sub.cons (t := 2) Look.eq (Sub.nil _))) ?_
  refine KA.seq ?_
  refine KA.region rfl ?_
  refine KOps.fieldAddr hp1 ?_
  intro p5 hp5
  refine KOps.load hp5 (hS.rd 1 rfl) rfl ?_
  refine KOps.buildS12 (z0 := .int .i64 0) (z1 := .nils) (by kernel_rfl) (by rfl) (by kernel_rfl) (by kernel_rfl) (by first | rfl | assumption) ?_
  refine KOps.alloc hS ?_
  intro p3 h' hp3 hS
  refine KOps.storeAll hS rfl (i := 0) rfl hp3 (by first | rfl | (simp [AV.one]; done) | (simp [AV.one]; assumption) | (simp [AV.one, *]; done)) (by rfl) (by rfl) (by decide) ?_
  intro h' hS
  simp only [List.set_cons_zero, List.set_cons_succ, Nat.zero_add] at hS
  refine KOps.done ?_
  refine sqQ.normal ?_
  refine KA.sub (Sub.cons (t := 1) Look.eq (Sub.cons (t := 2) Look.eq (Sub.cons (t := 3) Look.eq (Sub.nil _)))) ?_
  refine KA.seq ?_
  refine KA.seq ?_
  refine KA.region rfl ?_
  refine KOps.assign ?_
  refine KOps.done ?_
  refine sqQ.normal ?_
  refine KA.block ?_
  refine KA.loop (X := Nat × AV) (fun x => [(1, p1), (2, p2), (3, p3), (4, .int .i64 (x.1 : Int))]) (fun x h' => x.1 ≤ ws.length ∧ St h h' [⟨p3, 0, [.int .i64 rm, x.2], true⟩, ⟨p2, 0, [.int .i64 0, .nils], true⟩, ⟨p1, 0, [.int .i64 rm, vW], true⟩, ⟨x.2, 4, flr wc (ws.take x.1), true⟩]) (fun x => ws.length - x.1) (0, .nils) (by repeat (first | exact Sub.nil _ | refine Sub.cons Look.eq ?_ | refine Sub.cons (Eq.trans Look.eq (congrArg (AV.int _) (by first | omega | (dsimp only; omega)))) ?_)) ?_ ?_
  · exact ⟨Nat.zero_le _, St.addNil 4 true hS⟩
  rintro ⟨i, vo⟩ h3 ⟨hi, hS⟩
  dsimp only at hi hS ⊢
  refine KA.seq ?_
  refine KA.seq ?_
  refine KA.region rfl ?_
  refine KOps.move ?_
  refine KOps.fieldAddr hp1 ?_
  intro p9 hp9
  refine KOps.load hp9 (hS.rd 2 rfl) rfl ?_
  refine KOps.lenF wc_len (Rd.ext hS.keeps hv) ?_
  refine KOps.lss ?_
  refine KOps.done ?_
  refine sqQ.normal ?_
  refine KA.sub (Sub.cons (t := 1) Look.eq (Sub.cons (t := 2) Look.eq (Sub.cons (t := 3) Look.eq (Sub.cons (t := 4) Look.eq (Sub.cons (t := 12) Look.eq (Sub.nil _)))))) ?_
  refine KA.condD ?_ ?_
  · intro c12
    refine KA.skip ?_
    refine sqQ.normal ?_
    refine KA.sub (Sub.cons (t := 1) Look.eq (Sub.cons (t := 2) Look.eq (Sub.cons (t := 3) Look.eq (Sub.cons (t := 4) Look.eq (Sub.nil _))))) ?_
    refine KA.seq ?_
    refine KA.block ?_
    refine KA.draw [8] mixed rfl (by kernel_rfl) ?_
    refine KOps.fieldAddr hp3 ?_
    intro p15 hp15
    refine KOps.load hp15 (hS.rd 0 rfl) rfl ?_
    refine KOps.fieldAddr hp1 ?_
    intro p17 hp17
    refine KOps.load hp17 (hS.rd 2 rfl) rfl ?_
    refine KOps.move ?_
    refine KOps.indexF wc_len (Rd.ext hS.keeps hv) (j := i) rfl (by first | omega | (simp; omega)) ?_
    intro p20 hp20
    refine KOps.loadFl wc_len (by decide) hp20 (Rd.ext hS.keeps hv) (by first | omega | (simp; omega)) ?_
    refine KOps.buildSliceS (cs := (wc (ws.getD i default))) hS rfl rfl rfl (by decide) ?_
    intro v22 h' hS
    refine KOps.append hS (fun _ => rfl) (i := 4) rfl (a := i) (by rw [flr_len wc_len, List.length_take]; omega) (hS.rd 0 rfl) (b := 1) rfl rfl (by omega) ?_
    intro r23 h' hS
    simp only [List.set_cons_zero, List.set_cons_succ, Nat.zero_add] at hS
    have hr23 : r23.one = true := St.one hS (k := 4) rfl
    have hS0 := St.tail hS
    clear hS
    have hS := hS0
    clear hS0
    refine KOps.fieldAddr hp3 ?_
    intro p24 hp24
    refine KOps.store hS rfl (i := 0) rfl hp24 (by first | rfl | assumption) (by first | decide | simp) ?_
    intro h' hS
    simp only [List.set_cons_zero, List.set_cons_succ, Nat.zero_add] at hS
    refine KOps.done ?_
    refine blQ.normal ?_
    refine sqQ.normal ?_
    refine KA.sub (Sub.cons (t := 1) Look.eq (Sub.cons (t := 2) Look.eq (Sub.cons (t := 3) Look.eq (Sub.cons (t := 4) Look.eq (Sub.nil _))))) ?_
    refine KA.region rfl ?_
    refine KOps.move ?_
    refine KOps.add (by first | omega | (simp; omega)) (by first | omega | (simp; omega)) ?_
    refine KOps.assign ?_
    refine KOps.done ?_
    rw [takeW_next (by omega)] at hS
    exact lpQ.normal (i + 1, r23) (by repeat (first | exact Sub.nil _ | refine Sub.cons Look.eq ?_ | refine Sub.cons (Eq.trans Look.eq (congrArg (AV.int _) (by first | omega | (dsimp only; omega)))) ?_)) ⟨by dsimp only; omega, hS⟩ (by dsimp only; omega)
  · intro c12
    refine KA.exit ?_
    refine sqQ.exit ?_
    refine lpQ.exit ?_
    refine blQ.here ?_
    refine sqQ.normal ?_
    refine KA.sub (Sub.cons (t := 2) Look.eq (Sub.cons (t := 3) Look.eq (Sub.nil _))) ?_
    refine KA.seq ?_
    refine KA.region rfl ?_
    refine KOps.loadAll hS (i := 0) rfl hp3 (by rfl) (by decide) ?_
    refine KOps.storeAll hS rfl (i := 1) rfl hp2 (by show (true && (vo.one && true)) = true; rw [St.one hS (k := 3) rfl]; rfl) (by rfl) (by rfl) (by decide) ?_
    intro h' hS
    simp only [List.set_cons_zero, List.set_cons_succ, Nat.zero_add] at hS
    refine KOps.done ?_
    refine sqQ.normal ?_
    refine KA.sub (Sub.cons (t := 2) Look.eq (Sub.nil _)) ?_
    refine KA.ret ?_
    refine fnC.retC hS (i := 1) rfl hp2 (by rfl) (by simp) ?_
    have hie : i = ws.length := by omega
    subst hie
    rw [List.take_length] at hS
    exact ⟨_, rfl, St.pick [3] (by decide) rfl hS⟩

theorem books_c {h : AHeap} {rm : Int} {vn : AV} {l : List Int} {m : Nat} (hn : Row h vn l) (hl : l.length = 4 * m) (hm : m ≤ 1000) : ACalls Go.Proofs.Tryd.prog 52 [.int .i64 rm, vn] h (fun q h' => ∃ v, q = .agg [.int .i64 rm, v] ∧ St h h' [⟨v, 4, flr wc (waysTo l m), true⟩]) := by
  refine KA.fnH 42 [.cell 4 24] Go.Proofs.Tryd.func52 rfl (by decide) rfl rfl (Nat.le_of_ble_eq_true rfl) ?_
  have hS := St.refl h
  show KA _ 42 _ _ [(0, .int .i64 rm), (1, vn)] _
  refine KA.seq ?_
  refine KA.region rfl ?_
  refine KOps.alloc hS ?_
  intro p4 h' hp4 hS
  refine KOps.done ?_
  refine sqQ.normal ?_
  refine KA.seq ?_
  refine KA.region rfl ?_
  refine KOps.move ?_
  refine KOps.buildS12 (z0 := .int .i64 0) (z1 := .nils) (by kernel_rfl) (by rfl) (by kernel_rfl) (by kernel_rfl) (by first | rfl | assumption) ?_
  refine KOps.alloc hS ?_
  intro p5 h' hp5 hS
  refine KOps.storeAll hS rfl (i := 0) rfl hp5 (by first | rfl | (simp [AV.one]; done) | (simp [AV.one]; assumption) | (simp [AV.one, *]; done)) (by rfl) (by rfl) (by decide) ?_
  intro h' hS
  simp only [List.set_cons_zero, List.set_cons_succ, Nat.zero_add] at hS
  refine KOps.done ?_
  refine sqQ.normal ?_
  refine KA.sub (Sub.cons (t := 1) Look.eq (Sub.cons (t := 4) Look.eq (Sub.cons (t := 5) Look.eq (Sub.nil _)))) ?_
  refine KA.seq ?_
  refine KA.seq ?_
  refine KA.region rfl ?_
  refine KOps.assign ?_
  refine KOps.done ?_
  refine sqQ.normal ?_
  refine KA.block ?_
  refine KA.loop (X := Nat × AV) (fun x => [(1, vn), (4, p4), (5, p5), (6, .int .i64 ((4 * x.1 : Nat) : Int))]) (fun x h' => x.1 ≤ m ∧ St h h' [⟨p5, 0, [.int .i64 rm, x.2], true⟩, ⟨p4, 0, [.int .i64 0, .nils], true⟩, ⟨x.2, 4, flr wc (waysTo l x.1), true⟩]) (fun x => m - x.1) (0, .nils) (by repeat (first | exact Sub.nil _ | refine Sub.cons Look.eq ?_ | refine Sub.cons (Eq.trans Look.eq (congrArg (AV.int _) (by first | omega | (dsimp only; omega)))) ?_)) ?_ ?_
  · exact ⟨Nat.zero_le _, St.addNil 4 true hS⟩
  rintro ⟨i, vo⟩ h3 ⟨hi, hS⟩
  dsimp only at hi hS ⊢
  refine KA.seq ?_
  refine KA.seq ?_
  refine KA.region rfl ?_
  refine KOps.move ?_
  refine KOps.add (by first | omega | (simp; omega)) (by first | omega | (simp; omega)) ?_
  refine KOps.move ?_
  refine KOps.lenI (Row.ext hS.keeps hn) ?_
  refine KOps.lss ?_
  refine KOps.done ?_
  refine sqQ.normal ?_
  refine KA.sub (Sub.cons (t := 1) Look.eq (Sub.cons (t := 4) Look.eq (Sub.cons (t := 5) Look.eq (Sub.cons (t := 6) Look.eq (Sub.cons (t := 13) Look.eq (Sub.nil _)))))) ?_
  refine KA.condD ?_ ?_
  · intro c13
    refine KA.skip ?_
    refine sqQ.normal ?_
    refine KA.sub (Sub.cons (t := 1) Look.eq (Sub.cons (t := 4) Look.eq (Sub.cons (t := 5) Look.eq (Sub.cons (t := 6) Look.eq (Sub.nil _))))) ?_
    refine KA.seq ?_
    refine KA.block ?_
    refine KA.draw [23] mixed rfl (by kernel_rfl) ?_
    refine KOps.fieldAddr hp5 ?_
    intro p16 hp16
    refine KOps.load hp16 (hS.rd 0 rfl) rfl ?_
    refine KOps.move ?_
    refine KOps.move ?_
    refine KOps.indexIJ (Row.ext hS.keeps hn) (j := (4 * i)) (by first | omega | (simp; omega)) (by first | omega | (simp; omega)) ?_
    intro p20 hp20
    refine KOps.loadI hp20 (Row.ext hS.keeps hn) (by first | omega | (simp; omega)) ?_
    refine KOps.move ?_
    refine KOps.move ?_
    refine KOps.add (by first | omega | (simp; omega)) (by first | omega | (simp; omega)) ?_
    refine KOps.indexIJ (Row.ext hS.keeps hn) (j := (4 * i + 1)) (by first | omega | (simp; omega)) (by first | omega | (simp; omega)) ?_
    intro p25 hp25
    refine KOps.loadI hp25 (Row.ext hS.keeps hn) (by first | omega | (simp; omega)) ?_
    refine KOps.move ?_
    refine KOps.move ?_
    refine KOps.add (by first | omega | (simp; omega)) (by first | omega | (simp; omega)) ?_
    refine KOps.indexIJ (Row.ext hS.keeps hn) (j := (4 * i + 2)) (by first | omega | (simp; omega)) (by first | omega | (simp; omega)) ?_
    intro p30 hp30
    refine KOps.loadI hp30 (Row.ext hS.keeps hn) (by first | omega | (simp; omega)) ?_
    refine KOps.move ?_
    refine KOps.move ?_
    refine KOps.add (by first | omega | (simp; omega)) (by first | omega | (simp; omega)) ?_
    refine KOps.indexIJ (Row.ext hS.keeps hn) (j := (4 * i + 3)) (by first | omega | (simp; omega)) (by first | omega | (simp; omega)) ?_
    intro p35 hp35
    refine KOps.loadI hp35 (Row.ext hS.keeps hn) (by first | omega | (simp; omega)) ?_
    refine KOps.buildS4 (z0 := .int .i64 0) (z1 := .int .i64 0) (z2 := .int .i64 0) (z3 := .int .i64 0) (by kernel_rfl) (by rfl) (by kernel_rfl) (by kernel_rfl) (by kernel_rfl) (by kernel_rfl) (by kernel_rfl) (by first | rfl | assumption) (by first | rfl | assumption) (by first | rfl | assumption) (by first | rfl | assumption) ?_
    refine KOps.buildSliceS (cs := (wc (wayAt l i))) hS rfl rfl rfl (by decide) ?_
    intro v38 h' hS
    refine KOps.append hS (fun _ => rfl) (i := 3) rfl (a := i) (by rw [flr_len wc_len, waysTo_len]) (hS.rd 0 rfl) (b := 1) rfl rfl (by omega) ?_
    intro r39 h' hS
    simp only [List.set_cons_zero, List.set_cons_succ, Nat.zero_add] at hS
    have hr39 : r39.one = true := St.one hS (k := 3) rfl
    have hS0 := St.tail hS
    clear hS
    have hS := hS0
    clear hS0
    refine KOps.fieldAddr hp5 ?_
    intro p40 hp40
    refine KOps.store hS rfl (i := 0) rfl hp40 (by first | rfl | assumption) (by first | decide | simp) ?_
    intro h' hS
    simp only [List.set_cons_zero, List.set_cons_succ, Nat.zero_add] at hS
    refine KOps.done ?_
    refine blQ.normal ?_
    refine sqQ.normal ?_
    refine KA.sub (Sub.cons (t := 1) Look.eq (Sub.cons (t := 4) Look.eq (Sub.cons (t := 5) Look.eq (Sub.cons (t := 6) Look.eq (Sub.nil _))))) ?_
    refine KA.region rfl ?_
    refine KOps.move ?_
    refine KOps.add (by first | omega | (simp; omega)) (by first | omega | (simp; omega)) ?_
    refine KOps.assign ?_
    refine KOps.done ?_
    rw [waysTo_next] at hS
    exact lpQ.normal (i + 1, r39) (by repeat (first | exact Sub.nil _ | refine Sub.cons Look.eq ?_ | refine Sub.cons (Eq.trans Look.eq (congrArg (AV.int _) (by first | omega | (dsimp only; omega)))) ?_)) ⟨by dsimp only; omega, hS⟩ (by dsimp only; omega)
  · intro c13
    refine KA.exit ?_
    refine sqQ.exit ?_
    refine lpQ.exit ?_
    refine blQ.here ?_
    refine sqQ.normal ?_
    refine KA.sub (Sub.cons (t := 4) Look.eq (Sub.cons (t := 5) Look.eq (Sub.nil _))) ?_
    refine KA.seq ?_
    refine KA.region rfl ?_
    refine KOps.loadAll hS (i := 0) rfl hp5 (by rfl) (by decide) ?_
    refine KOps.storeAll hS rfl (i := 1) rfl hp4 (by show (true && (vo.one && true)) = true; rw [St.one hS (k := 2) rfl]; rfl) (by rfl) (by rfl) (by decide) ?_
    intro h' hS
    simp only [List.set_cons_zero, List.set_cons_succ, Nat.zero_add] at hS
    refine KOps.done ?_
    refine sqQ.normal ?_
    refine KA.sub (Sub.cons (t := 4) Look.eq (Sub.nil _)) ?_
    refine KA.ret ?_
    refine fnC.retC hS (i := 1) rfl hp4 (by rfl) (by simp) ?_
    have hie : i = m := by omega
    subst hie
    exact ⟨_, rfl, St.pick [2] (by decide) rfl hS⟩

theorem lst_c {h : AHeap} {v : AV} : ACalls Go.Proofs.Tryd.prog 51 [v] h (fun q h' => q = v ∧ h = h') := by
  refine KA.fn 4 [.tmp 2] Go.Proofs.Tryd.func51 rfl (by decide) rfl rfl (Nat.le_of_ble_eq_true rfl) ?_
  show KA _ 4 _ _ [(0, v)] _
  refine KA.seq ?_
  refine KA.region rfl ?_
  refine KOps.assign ?_
  refine KOps.done ?_
  refine sqQ.normal ?_
  refine KA.sub (Sub.cons (t := 0) Look.eq (Sub.nil _)) ?_
  refine KA.seq ?_
  refine KA.region rfl ?_
  refine KOps.move ?_
  refine KOps.assign ?_
  refine KOps.done ?_
  refine sqQ.normal ?_
  refine KA.sub (Sub.cons (t := 2) Look.eq (Sub.nil _)) ?_
  refine KA.ret ?_
  refine fnQ.ret1 ?_
  exact ⟨rfl, rfl⟩

def wB : List W := [⟨0, 1, 5, 9⟩, ⟨1, 2, 0, 7⟩, ⟨2, 0, 4, 6⟩]
def wC : List W := [⟨0, 1, 5, 9⟩, ⟨1, 2, 0, 3⟩, ⟨2, 0, 0, 9⟩, ⟨1, 0, 0, 1⟩]

theorem B_c {h : AHeap} : ACalls Go.Proofs.Tryd.prog 50 [] h (fun q h' => ∃ v, q = .agg [.int .i64 3, v] ∧ St h h' [⟨v, 4, flr wc wB, true⟩]) := by
  refine KA.fnH 3 [.cell 0 24] Go.Proofs.Tryd.func50 rfl (by decide) rfl rfl (Nat.le_of_ble_eq_true rfl) ?_
  have hS := St.refl h
  show KA _ 3 _ _ [] _
  refine KA.seq ?_
  refine KA.region rfl ?_
  refine KOps.alloc hS ?_
  intro p0 h' hp0 hS
  refine KOps.done ?_
  refine sqQ.normal ?_
  refine KA.seq ?_
  refine KA.region rfl ?_
  refine KOps.buildSlice hS rfl (by decide) rfl ?_
  intro v1 h' hS
  refine KOps.call rfl (books_c (l := [0, 1, 5, 9, 1, 2, 0, 7, 2, 0, 4, 6]) (m := 3) (hS.rd 0 rfl) rfl (by decide)) ?_
  rintro _ h5 ⟨vb, rfl, hSB⟩
  have hS0 : St _ _ (_ :: _) := St.trans hS hSB
  clear hS
  have hS := hS0
  clear hS0
  have hvb : vb.one = true := St.one hS (k := 0) rfl
  refine KOps.storeAll hS rfl (i := 2) rfl hp0 (by show (true && (vb.one && true)) = true; rw [hvb]; rfl) (by rfl) (by rfl) (by decide) ?_
  intro h' hS
  simp only [List.set_cons_zero, List.set_cons_succ, Nat.zero_add] at hS
  refine KOps.done ?_
  refine sqQ.normal ?_
  refine KA.sub (Sub.cons (t := 0) Look.eq (Sub.nil _)) ?_
  refine KA.ret ?_
  refine fnC.retC hS (i := 2) rfl hp0 (by rfl) (by simp) ?_
  exact ⟨_, rfl, St.pick [0] (by decide) rfl hS⟩

theorem C_c {h : AHeap} : ACalls Go.Proofs.Tryd.prog 53 [] h (fun q h' => ∃ v, q = .agg [.int .i64 3, v] ∧ St h h' [⟨v, 4, flr wc wC, true⟩]) := by
  refine KA.fnH 3 [.cell 0 24] Go.Proofs.Tryd.func53 rfl (by decide) rfl rfl (Nat.le_of_ble_eq_true rfl) ?_
  have hS := St.refl h
  show KA _ 3 _ _ [] _
  refine KA.seq ?_
  refine KA.region rfl ?_
  refine KOps.alloc hS ?_
  intro p0 h' hp0 hS
  refine KOps.done ?_
  refine sqQ.normal ?_
  refine KA.seq ?_
  refine KA.region rfl ?_
  refine KOps.buildSlice hS rfl (by decide) rfl ?_
  intro v1 h' hS
  refine KOps.call rfl (books_c (l := [0, 1, 5, 9, 1, 2, 0, 3, 2, 0, 0, 9, 1, 0, 0, 1]) (m := 4) (hS.rd 0 rfl) rfl (by decide)) ?_
  rintro _ h5 ⟨vb, rfl, hSB⟩
  have hS0 : St _ _ (_ :: _) := St.trans hS hSB
  clear hS
  have hS := hS0
  clear hS0
  have hvb : vb.one = true := St.one hS (k := 0) rfl
  refine KOps.storeAll hS rfl (i := 2) rfl hp0 (by show (true && (vb.one && true)) = true; rw [hvb]; rfl) (by rfl) (by rfl) (by decide) ?_
  intro h' hS
  simp only [List.set_cons_zero, List.set_cons_succ, Nat.zero_add] at hS
  refine KOps.done ?_
  refine sqQ.normal ?_
  refine KA.sub (Sub.cons (t := 0) Look.eq (Sub.nil _)) ?_
  refine KA.ret ?_
  refine fnC.retC hS (i := 2) rfl hp0 (by rfl) (by simp) ?_
  exact ⟨_, rfl, St.pick [0] (by decide) rfl hS⟩

theorem spans_c {h : AHeap} {v u : AV} {a b : List (Int × Int)} (hv : Rd h v 2 (flr pc a)) (hu : Rd h u 2 (flr pc b)) (hla : a.length ≤ 1000000) : ACalls Go.Proofs.Tryd.prog 39 [v, u] h (fun q h' => q = .bool (decide (a = b)) ∧ h = h') := by
  refine KA.fn 26 [.tmp 4] Go.Proofs.Tryd.func39 rfl (by decide) rfl rfl (Nat.le_of_ble_eq_true rfl) ?_
  show KA _ 26 _ _ [(0, v), (1, u)] _
  refine KA.seq ?_
  refine KA.region rfl ?_
  refine KOps.assign ?_
  refine KOps.done ?_
  refine sqQ.normal ?_
  refine KA.sub (Sub.cons (t := 0) Look.eq (Sub.cons (t := 1) Look.eq (Sub.nil _))) ?_
  refine KA.seq ?_
  refine KA.seq ?_
  refine KA.region rfl ?_
  refine KOps.move ?_
  refine KOps.lenF pc_len hv ?_
  refine KOps.move ?_
  refine KOps.lenF pc_len hu ?_
  refine KOps.neq ?_
  refine KOps.done ?_
  refine sqQ.normal ?_
  refine KA.sub (Sub.cons (t := 0) Look.eq (Sub.cons (t := 1) Look.eq (Sub.cons (t := 10) Look.eq (Sub.nil _)))) ?_
  refine KA.condN ?_ ?_
  · intro c10
    refine KA.seq ?_
    refine KA.region rfl ?_
    refine KOps.assign ?_
    refine KOps.done ?_
    refine sqQ.normal ?_
    refine KA.sub (Sub.cons (t := 4) Look.eq (Sub.nil _)) ?_
    refine KA.ret ?_
    refine sqQ.ret ?_
    refine fnQ.ret1 ?_
    refine ⟨congrArg AV.bool (decide_eq_false fun e => ?_).symm, rfl⟩
    subst e
    omega
  · intro c10
    have hlab : a.length = b.length := by omega
    refine KA.skip ?_
    refine sqQ.normal ?_
    refine KA.sub (Sub.cons (t := 0) Look.eq (Sub.cons (t := 1) Look.eq (Sub.nil _))) ?_
    refine KA.seq ?_
    refine KA.seq ?_
    refine KA.region rfl ?_
    refine KOps.assign ?_
    refine KOps.done ?_
    refine sqQ.normal ?_
    refine KA.block ?_
    refine KA.loop (X := Nat) (fun i => [(0, v), (1, u), (5, .int .i64 (i : Int))]) (fun i h' => h = h' ∧ i ≤ a.length ∧ ∀ j, j < i → a.getD j default = b.getD j default) (fun i => a.length - i) 0 (by repeat (first | exact Sub.nil _ | refine Sub.cons Look.eq ?_ | refine Sub.cons (Eq.trans Look.eq (congrArg (AV.int _) (by first | omega | (dsimp only; omega)))) ?_)) ?_ ?_
    · exact ⟨rfl, Nat.zero_le _, fun j hj => by omega⟩
    rintro i _ ⟨rfl, hi, hj⟩
    refine KA.seq ?_
    refine KA.seq ?_
    refine KA.region rfl ?_
    refine KOps.move ?_
    refine KOps.move ?_
    refine KOps.lenF pc_len hv ?_
    refine KOps.lss ?_
    refine KOps.done ?_
    refine sqQ.normal ?_
    refine KA.sub (Sub.cons (t := 0) Look.eq (Sub.cons (t := 1) Look.eq (Sub.cons (t := 5) Look.eq (Sub.cons (t := 14) Look.eq (Sub.nil _))))) ?_
    refine KA.condD ?_ ?_
    · intro c14
      refine KA.skip ?_
      refine sqQ.normal ?_
      refine KA.sub (Sub.cons (t := 0) Look.eq (Sub.cons (t := 1) Look.eq (Sub.cons (t := 5) Look.eq (Sub.nil _)))) ?_
      refine KA.seq ?_
      refine KA.block ?_
      refine KA.seq ?_
      refine KA.draw [] mixed rfl (by kernel_rfl) ?_
      refine KOps.move ?_
      refine KOps.move ?_
      refine KOps.indexF pc_len hv (j := i) rfl (by first | omega | (simp; omega)) ?_
      intro p19 hp19
      refine KOps.loadFl pc_len (by decide) hp19 hv (by first | omega | (simp; omega)) ?_
      refine KOps.move ?_
      refine KOps.move ?_
      refine KOps.indexF pc_len hu (j := i) rfl (by first | omega | (simp; omega)) ?_
      intro p23 hp23
      refine KOps.loadFl pc_len (by decide) hp23 hu (by first | omega | (simp; omega)) ?_
      refine KOps.neqPc ?_
      refine KOps.done ?_
      refine sqQ.normal ?_
      refine KA.sub (Sub.cons (t := 0) Look.eq (Sub.cons (t := 1) Look.eq (Sub.cons (t := 5) Look.eq (Sub.cons (t := 25) Look.eq (Sub.nil _))))) ?_
      refine KA.condN ?_ ?_
      · intro c25
        refine KA.seq ?_
        refine KA.region rfl ?_
        refine KOps.assign ?_
        refine KOps.done ?_
        refine sqQ.normal ?_
        refine KA.sub (Sub.cons (t := 4) Look.eq (Sub.nil _)) ?_
        refine KA.ret ?_
        refine blQ.ret ?_
        refine sqQ.ret ?_
        refine lpQ.ret ?_
        refine blQ.ret ?_
        refine sqQ.ret ?_
        refine fnQ.ret1 ?_
        exact ⟨congrArg AV.bool (decide_eq_false fun e => c25 (by rw [e])).symm, rfl⟩
      · intro c25
        refine KA.skip ?_
        refine blQ.normal ?_
        refine sqQ.normal ?_
        refine KA.sub (Sub.cons (t := 0) Look.eq (Sub.cons (t := 1) Look.eq (Sub.cons (t := 5) Look.eq (Sub.nil _)))) ?_
        refine KA.region rfl ?_
        refine KOps.move ?_
        refine KOps.add (by first | omega | (simp; omega)) (by first | omega | (simp; omega)) ?_
        refine KOps.assign ?_
        refine KOps.done ?_
        refine lpQ.normal (i + 1) (by repeat (first | exact Sub.nil _ | refine Sub.cons Look.eq ?_ | refine Sub.cons (Eq.trans Look.eq (congrArg (AV.int _) (by first | omega | (dsimp only; omega)))) ?_)) ⟨rfl, by omega, ?_⟩ (by omega)
        intro j hj2
        rcases Nat.lt_succ_iff_lt_or_eq.1 hj2 with h3 | rfl
        · exact hj j h3
        · exact c25
    · intro c14
      refine KA.exit ?_
      refine sqQ.exit ?_
      refine lpQ.exit ?_
      refine blQ.here ?_
      refine sqQ.normal ?_
      refine KA.sub (Sub.nil _) ?_
      refine KA.seq ?_
      refine KA.region rfl ?_
      refine KOps.assign ?_
      refine KOps.done ?_
      refine sqQ.normal ?_
      refine KA.ret ?_
      refine fnQ.ret1 ?_
      refine ⟨congrArg AV.bool (decide_eq_true ?_).symm, rfl⟩
      refine List.ext_getElem (by omega) fun k h1 h2 => ?_
      have := hj k (by omega)
      rw [List.getD_eq_getElem?_getD, List.getD_eq_getElem?_getD, List.getElem?_eq_getElem h1, List.getElem?_eq_getElem h2] at this
      exact this

end Go.Am

namespace Go.Am
theorem chkWB : chkB 3 wB = 0 := by decide +kernel
theorem chkWC : chkB 3 wC = 0 := by decide +kernel
theorem canWB : canP 3 wB = true := by decide +kernel
theorem canWC : canP 3 wC = false := by decide +kernel
theorem agrWB : agreeE 3 wB = 0 := by decide +kernel
theorem agaWC : againE 3 wC = 0 := by decide +kernel
theorem agaWB : againE 3 wB = 13 := by decide +kernel
theorem fewWC : fewL (proofB wC) (2 ^ (3 : Int).toNat) = [0, 2] := by decide +kernel
theorem verWB : verE 3 wB [5, 5, 5] = 0 := by decide +kernel
theorem verWB2 : verE 3 wB [5, 6, 6] = 17 := by decide +kernel
theorem verWB3 : verE 3 wB [6, 6, 6] = 0 := by decide +kernel
theorem provWC : provE 3 wC [0, 2] = 0 := by decide +kernel
theorem provWC1 : provE 3 wC [1] = 14 := by decide +kernel
theorem sayWB : sayE 3 wB [0, 1] 1 = 0 ∧ sayV 3 wB [0, 1] 1 = 6 := by decide +kernel
theorem sayWB2 : sayE 3 wB [2] 0 = 12 := by decide +kernel
theorem askWB (i : Nat) (h : i < 3) : askE 3 wB (i : Int) = 0 := by
  have : ∀ i : Nat, i < 3 → askE 3 wB (i : Int) = 0 := by decide +kernel
  exact this i h
/-- All flows of B: each way has the same number, 5 or 6. -/
theorem flowWB {n : List Int} (h : Flow wB n) : ∃ v, n = [v, v, v] ∧ 5 ≤ v ∧ v ≤ 6 := by
  have hl : n.length = 3 := h.len
  match n, hl with
  | [a, b, c], _ =>
    have l0 : (5 : Int) ≤ a := h.lo 0 (by decide)
    have m0 : a ≤ 9 := h.hi 0 (by decide)
    have l2 : (4 : Int) ≤ c := h.lo 2 (by decide)
    have m2 : c ≤ 6 := h.hi 2 (by decide)
    have k0 := h.kp 0
    have k1 := h.kp 1
    have e0 : kept wB [a, b, c] 0 = 0 + a * (0 - 1) + b * (0 - 0) + c * (1 - 0) := rfl
    have e1 : kept wB [a, b, c] 1 = 0 + a * (1 - 0) + b * (0 - 1) + c * (0 - 0) := rfl
    rw [e0] at k0
    rw [e1] at k1
    have h1 : b = a := by omega
    have h2 : c = a := by omega
    subst h1 h2
    exact ⟨_, rfl, l0, m2⟩
theorem flowWB5 : Flow wB [5, 5, 5] := (verE_flow verWB).2
theorem flowWB6 : Flow wB [6, 6, 6] := (verE_flow verWB3).2
theorem exWB : ∃ n, Flow wB n := ⟨_, flowWB5⟩
theorem lexWB : firstOf wB = [5, 5, 5] := by
  refine (firstOf_is exWB).uniq ⟨flowWB5, fun m hm i hi _ => ?_⟩
  obtain ⟨v, rfl, h1, h2⟩ := flowWB hm
  have hi : i < 3 := hi
  match i, hi with
  | 0, _ => exact h1
  | 1, _ => exact h1
  | 2, _ => exact h1
theorem nextWB : nextOf wB [5, 5, 5] = some [6, 6, 6] := by
  refine nextOf_some (i := 0) ⟨by decide, flowWB6, fun k hk => by omega, rfl, ?_, ?_⟩
  · intro m hm k h1 h2 h3
    obtain ⟨v, rfl, h4, h5⟩ := flowWB hm
    have h6 : v = 6 := h3 0 h1
    subst h6
    exact Int.le_refl _
  · intro k h1 h2
    rintro ⟨m, hm, h3, h4⟩
    obtain ⟨v, rfl, h5, h6⟩ := flowWB hm
    have h7 : v = 5 := h3 0 h1
    subst h7
    exact Int.lt_irrefl _ h4
theorem otherWB : otherE 3 wB [5, 5, 5] = 0 ∧ otherL 3 wB [5, 5, 5] = [6, 6, 6] := by
  constructor
  · rw [otherE, if_pos verWB, if_pos lexWB, nextWB]; rfl
  · rw [otherL, if_pos verWB, if_pos lexWB, nextWB]; rfl
theorem getWB (v : Int) {i : Nat} (h : i < 3) : ([v, v, v] : List Int).getD i 0 = v := by
  match i, h with
  | 0, _ => rfl
  | 1, _ => rfl
  | 2, _ => rfl
theorem loWB {i : Nat} (h : i < 3) : loOf wB i = 5 := by
  refine (loOf_is exWB h).uniq ⟨⟨_, flowWB5, getWB 5 h⟩, fun n hn => ?_⟩
  obtain ⟨v, rfl, h1, h2⟩ := flowWB hn
  rw [getWB v h]; exact h1
theorem hiWB {i : Nat} (h : i < 3) : hiOf wB i = 6 := by
  refine (hiOf_is exWB h).uniq ⟨⟨_, flowWB6, getWB 6 h⟩, fun n hn => ?_⟩
  obtain ⟨v, rfl, h1, h2⟩ := flowWB hn
  rw [getWB v h]; exact h2
theorem spansWB : spansTo wB wB.length = [(5, 6), (5, 6), (5, 6)] := by
  show [(loOf wB 0, hiOf wB 0), (loOf wB 1, hiOf wB 1), (loOf wB 2, hiOf wB 2)] = _
  rw [loWB (by decide), loWB (by decide), loWB (by decide), hiWB (by decide), hiWB (by decide), hiWB (by decide)]
theorem openWB : openTo wB wB.length = [0, 1, 2] := by
  have h : ∀ i, i < 3 → loOf wB i < hiOf wB i := fun i hi => by rw [loWB hi, hiWB hi]; decide
  show openTo wB 3 = _
  rw [openTo_succ, if_pos (h 2 (by decide)), openTo_succ, if_pos (h 1 (by decide)), openTo_succ, if_pos (h 0 (by decide))]
  rfl
theorem boundWB {i : Nat} (h : i < 3) (g : Bool) : boundL 3 wB (i : Int) g = if (if g then 6 else 5) = ownI wB i g then [] else fewL (fun s => if g then lvs (wB.getD i default) s && decide (saysV wB s i = 6) else ens (wB.getD i default) s && decide (saysV wB s i = 5)) 8 := by
  have h1 : endI wB i g = if g then 6 else 5 := by unfold endI; rw [loWB h, hiWB h]
  have h2 : pB wB i g = fun s => if g then lvs (wB.getD i default) s && decide (saysV wB s i = 6) else ens (wB.getD i default) s && decide (saysV wB s i = 5) := by
    funext s; unfold pB; rw [loWB h, hiWB h]
  rw [boundL, if_pos (askWB i h), Int.toNat_natCast, h1, h2]
  rfl
theorem boundWB1 : boundL 3 wB 1 true = [0, 1] := (boundWB (i := 1) (by decide) true).trans (by decide +kernel)
end Go.Am
