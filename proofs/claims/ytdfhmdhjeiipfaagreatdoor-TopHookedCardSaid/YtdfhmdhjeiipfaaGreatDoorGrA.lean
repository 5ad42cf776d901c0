/-
  Layer 01: Span, Spans, Open: contracts, of both.
  Conditions: none.
-/
import Derived.Test.YtdfhmdhjeiipfaaGreatDoorSCo
import Derived.Test.YtdfhmdhjeiipfaaGreatDoorSPa
import Derived.RangeFuncNested
import Derived.RangeFuncBound
import Derived.RangeFuncCalls
import Derived.RangeFuncLeaves
import Derived.Shelf.Abstract
import Derived.WalkKit
import Derived.OwnWalkIn
import Derived.TacticsInMore
import Derived.LoopNIn
import Derived.LoopIn
import Derived.RangeFuncFrom
import Derived.Test.YtdfhmdhjeiipfaaGreatDoorAmL
import Derived.Test.YtdfhmdhjeiipfaaGreatDoorAna
import Derived.Test.YtdfhmdhjeiipfaaGreatDoorRows
import Derived.MakeChecks
namespace Go.Am
theorem asked_c {h : AHeap} {rm i : Int} {vW : AV} {ws : List W} (hv : Rd h vW 4 (flr wc ws)) : ACalls Go.Proofs.Tryz.prog 96 [.agg [.int .i64 rm, vW], .int .i64 i] h (fun q h' => ∃ qp, q = .tup [qp, .int .i64 (askE rm ws i)] ∧ Keeps h h' ∧ qp.one = true ∧ (askE rm ws i = 0 → ∃ n vn, AddrOf qp qp 0 0 ∧ Flow ws n ∧ St h h' [⟨qp, 0, [.int .i64 rm, vW, vn], true⟩, ⟨vn, 1, ints n, true⟩])) := by
  refine KA.fn 24 [.tmp 4, .tmp 5] Go.Proofs.Tryz.func96 rfl (by decide) rfl rfl (Nat.le_of_ble_eq_true rfl) ?_
  have hS := St.refl h
  have hvo : vW.one = true := hv.one
  show KA _ 24 _ _ [(0, .agg [.int .i64 rm, vW]), (1, .int .i64 i)] _
  refine KA.seq ?_
  refine KA.region rfl ?_
  refine KOps.boxAll hS (by first | rfl | (simp [AV.one]; done) | (simp [AV.one]; assumption) | (simp [AV.one, *]; done)) ?_
  intro p2 h' hp2 hS
  refine KOps.assign ?_
  refine KOps.assign ?_
  refine KOps.done ?_
  refine sqQ.normal ?_
  refine KA.sub (Sub.cons (t := 1) Look.eq (Sub.cons (t := 2) Look.eq (Sub.nil _))) ?_
  refine KA.seq ?_
  refine KA.seq ?_
  refine KA.region rfl ?_
  refine KOps.loadAll hS (i := 0) rfl hp2 (by rfl) (by decide) ?_
  refine KOps.call rfl (check_c (Rd.ext hS.keeps hv)) ?_
  rintro _ h5 ⟨rfl, hK⟩
  have hS0 : St _ _ (_ :: _) := St.trans hS (St.ofK hK)
  clear hS
  have hS := hS0
  clear hS0
  refine KOps.assign ?_
  refine KOps.done ?_
  refine sqQ.normal ?_
  refine KA.sub (Sub.cons (t := 1) Look.eq (Sub.cons (t := 2) Look.eq (Sub.cons (t := 6) Look.eq (Sub.nil _)))) ?_
  refine KA.seq ?_
  refine KA.region rfl ?_
  refine KOps.move ?_
  refine KOps.eql ?_
  refine KOps.move ?_
  refine KOps.guardB (dj := 11) rfl rfl true false rfl ?_ ?_
  · intro g11
    have g11 := of_decide_eq_true g11
    have hwl := (BOk.of g11).len
    refine KOps.move ?_
    refine KOps.guardYes (dj := 11) rfl rfl ?_
    refine KOps.fieldAddr hp2 ?_
    intro p13 hp13
    refine KOps.guardYes (dj := 11) rfl rfl ?_
    refine KOps.load hp13 (hS.rd 0 rfl) rfl ?_
    refine KOps.guardYes (dj := 11) rfl rfl ?_
    refine KOps.lenF wc_len (Rd.ext hS.keeps hv) ?_
    refine KOps.guardYes (dj := 11) rfl rfl ?_
    refine KOps.sub (by first | omega | (simp; omega)) (by first | omega | (simp; omega)) ?_
    refine KOps.guardYes (dj := 11) rfl rfl ?_
    refine KOps.call rfl (between_c) ?_
    rintro _ _ ⟨rfl, rfl⟩
    refine KOps.guardYes (dj := 11) rfl rfl ?_
    refine KOps.not ?_
    refine KOps.pickT ?_
    refine KOps.done ?_
    refine sqQ.normal ?_
    refine KA.sub (Sub.cons (t := 2) Look.eq (Sub.cons (t := 19) Look.eq (Sub.nil _))) ?_
    refine KA.condN ?_ ?_
    · intro c19
      refine KA.seq ?_
      refine KA.region rfl ?_
      refine KOps.assign ?_
      refine KOps.assign ?_
      refine KOps.done ?_
      refine sqQ.normal ?_
      refine KA.sub (Sub.cons (t := 4) Look.eq (Sub.cons (t := 5) Look.eq (Sub.nil _))) ?_
      refine KA.ret ?_
      refine sqQ.ret ?_
      refine fnQ.retN ?_
      have e0 : askE rm ws i = 2 := by rw [askE, if_pos g11, if_neg (by omega)]
      rw [e0]
      exact ⟨_, rfl, hS.keeps, rfl, fun h0 => absurd h0 (by decide)⟩
    · intro c19
      refine KA.skip ?_
      refine sqQ.normal ?_
      refine KA.sub (Sub.cons (t := 2) Look.eq (Sub.nil _)) ?_
      refine KA.seq ?_
      refine KA.region rfl ?_
      refine KOps.loadAll hS (i := 0) rfl hp2 (by rfl) (by decide) ?_
      refine KOps.call rfl (found_c (Rd.ext hS.keeps hv)) ?_
      rintro _ h6 ⟨qp, rfl, hK2, hqp, hyes⟩
      refine KOps.extract ?_
      refine KOps.extract ?_
      refine KOps.assign ?_
      refine KOps.assign ?_
      refine KOps.done ?_
      refine sqQ.normal ?_
      refine KA.sub (Sub.cons (t := 4) Look.eq (Sub.cons (t := 5) Look.eq (Sub.nil _))) ?_
      refine KA.ret ?_
      refine fnQ.retN ?_
      have e0 : askE rm ws i = agreeE rm ws := by rw [askE, if_pos g11, if_pos (by omega)]
      rw [e0]
      refine ⟨_, rfl, hS.keeps.trans hK2, hqp, fun h0 => ?_⟩
      obtain ⟨n, vn, hpf, hf, hSF⟩ := hyes h0
      exact ⟨n, vn, hpf, hf, St.pick [0, 1] (by decide) rfl (St.trans hS hSF : St _ _ (_ :: _ :: _))⟩
  · intro g11
    have g11 := of_decide_eq_false g11
    refine KOps.guardNo (dj := 11) rfl rfl rfl ?_
    refine KOps.guardNo (dj := 11) rfl rfl rfl ?_
    refine KOps.guardNo (dj := 11) rfl rfl rfl ?_
    refine KOps.guardNo (dj := 11) rfl rfl rfl ?_
    refine KOps.guardNo (dj := 11) rfl rfl rfl ?_
    refine KOps.guardNo (dj := 11) rfl rfl rfl ?_
    refine KOps.pickF ?_
    refine KOps.done ?_
    refine sqQ.normal ?_
    refine KA.sub (Sub.cons (t := 2) Look.eq (Sub.cons (t := 19) Look.eq (Sub.nil _))) ?_
    refine KA.condF ?_
    refine KA.skip ?_
    refine sqQ.normal ?_
    refine KA.sub (Sub.cons (t := 2) Look.eq (Sub.nil _)) ?_
    refine KA.seq ?_
    refine KA.region rfl ?_
    refine KOps.loadAll hS (i := 0) rfl hp2 (by rfl) (by decide) ?_
    refine KOps.call rfl (found_c (Rd.ext hS.keeps hv)) ?_
    rintro _ h6 ⟨qp, rfl, hK2, hqp, hyes⟩
    refine KOps.extract ?_
    refine KOps.extract ?_
    refine KOps.assign ?_
    refine KOps.assign ?_
    refine KOps.done ?_
    refine sqQ.normal ?_
    refine KA.sub (Sub.cons (t := 4) Look.eq (Sub.cons (t := 5) Look.eq (Sub.nil _))) ?_
    refine KA.ret ?_
    refine fnQ.retN ?_
    have e0 : askE rm ws i = agreeE rm ws := by rw [askE, if_neg g11, agreeE, if_neg g11]
    rw [e0]
    refine ⟨_, rfl, hS.keeps.trans hK2, hqp, fun h0 => ?_⟩
    obtain ⟨n, vn, hpf, hf, hSF⟩ := hyes h0
    exact ⟨n, vn, hpf, hf, St.pick [0, 1] (by decide) rfl (St.trans hS hSF : St _ _ (_ :: _ :: _))⟩

theorem stSpan_c {h : AHeap} {rm i : Int} {vW : AV} {ws : List W} (hv : Rd h vW 4 (flr wc ws)) : ACalls Go.Proofs.Tryz.prog 61 [.agg [.int .i64 rm, vW], .int .i64 i] h (fun q h' => q = .tup [.int .i64 (if askE rm ws i = 0 then loOf ws i.toNat else 0), .int .i64 (if askE rm ws i = 0 then hiOf ws i.toNat else 0), .int .i64 (askE rm ws i)] ∧ Keeps h h') := by
  refine KA.fn 25 [.tmp 4, .tmp 5, .tmp 6] Go.Proofs.Tryz.func61 rfl (by decide) rfl rfl (Nat.le_of_ble_eq_true rfl) ?_
  have hS := St.refl h
  have hvo : vW.one = true := hv.one
  show KA _ 25 _ _ [(0, .agg [.int .i64 rm, vW]), (1, .int .i64 i)] _
  refine KA.seq ?_
  refine KA.region rfl ?_
  refine KOps.boxAll hS (by first | rfl | (simp [AV.one]; done) | (simp [AV.one]; assumption) | (simp [AV.one, *]; done)) ?_
  intro p2 h' hp2 hS
  refine KOps.assign ?_
  refine KOps.assign ?_
  refine KOps.assign ?_
  refine KOps.done ?_
  refine sqQ.normal ?_
  refine KA.sub (Sub.cons (t := 1) Look.eq (Sub.cons (t := 2) Look.eq (Sub.nil _))) ?_
  refine KA.seq ?_
  refine KA.region rfl ?_
  refine KOps.loadAll hS (i := 0) rfl hp2 (by rfl) (by decide) ?_
  refine KOps.move ?_
  refine KOps.call rfl (asked_c (Rd.ext hS.keeps hv)) ?_
  rintro _ h5 ⟨qp, rfl, hK, hqp, hyes⟩
  refine KOps.move ?_
  refine KOps.extract ?_
  refine KOps.extract ?_
  refine KOps.assign ?_
  refine KOps.assign ?_
  refine KOps.done ?_
  refine sqQ.normal ?_
  refine KA.sub (Sub.cons (t := 1) Look.eq (Sub.cons (t := 6) Look.eq (Sub.cons (t := 7) Look.eq (Sub.nil _)))) ?_
  refine KA.seq ?_
  refine KA.seq ?_
  refine KA.region rfl ?_
  refine KOps.move ?_
  refine KOps.neq ?_
  refine KOps.done ?_
  refine sqQ.normal ?_
  refine KA.sub (Sub.cons (t := 1) Look.eq (Sub.cons (t := 6) Look.eq (Sub.cons (t := 7) Look.eq (Sub.cons (t := 15) Look.eq (Sub.nil _))))) ?_
  refine KA.condN ?_ ?_
  · intro c15
    refine KA.seq ?_
    refine KA.region rfl ?_
    refine KOps.move ?_
    refine KOps.assign ?_
    refine KOps.assign ?_
    refine KOps.assign ?_
    refine KOps.done ?_
    refine sqQ.normal ?_
    refine KA.sub (Sub.cons (t := 4) Look.eq (Sub.cons (t := 5) Look.eq (Sub.cons (t := 6) Look.eq (Sub.nil _)))) ?_
    refine KA.ret ?_
    refine sqQ.ret ?_
    refine fnQ.retN ?_
    rw [if_neg c15, if_neg c15]
    exact ⟨rfl, hS.keeps.trans hK⟩
  · intro c15
    obtain ⟨he, hi0, hi1⟩ := ask_ok c15
    have hB := (agree_ok he).1
    obtain ⟨r, rfl⟩ : ∃ r : Nat, rm = (r : Int) := ⟨rm.toNat, by have := hB.r2; omega⟩
    obtain ⟨j, rfl⟩ : ∃ j : Nat, i = (j : Int) := ⟨i.toNat, by omega⟩
    obtain ⟨n, vn, hpf, hf, hSF⟩ := hyes c15
    have hS0 : St _ _ (_ :: _ :: _) := St.trans hS hSF
    clear hS
    have hS := hS0
    clear hS0
    refine KA.skip ?_
    refine sqQ.normal ?_
    refine KA.sub (Sub.cons (t := 1) Look.eq (Sub.cons (t := 7) Look.eq (Sub.nil _))) ?_
    refine KA.seq ?_
    refine KA.region rfl ?_
    refine KOps.move ?_
    refine KOps.move ?_
    refine KOps.call rfl (span_c (r := r) (i := j) hpf hv hB hf (by omega) hS) ?_
    rintro _ h6 ⟨rfl, c2, hS6, hf6⟩
    refine KOps.move ?_
    refine KOps.extract ?_
    refine KOps.extract ?_
    refine KOps.assign ?_
    refine KOps.assign ?_
    refine KOps.done ?_
    refine sqQ.normal ?_
    refine KA.sub (Sub.cons (t := 4) Look.eq (Sub.cons (t := 5) Look.eq (Sub.nil _))) ?_
    refine KA.seq ?_
    refine KA.region rfl ?_
    refine KOps.move ?_
    refine KOps.move ?_
    refine KOps.assign ?_
    refine KOps.assign ?_
    refine KOps.assign ?_
    refine KOps.done ?_
    refine sqQ.normal ?_
    refine KA.sub (Sub.cons (t := 4) Look.eq (Sub.cons (t := 5) Look.eq (Sub.cons (t := 6) Look.eq (Sub.nil _)))) ?_
    refine KA.ret ?_
    refine fnQ.retN ?_
    rw [if_pos c15, if_pos c15, c15]
    exact ⟨rfl, hS6.keeps⟩

end Go.Am


namespace Go.Am
def wT : List W := [⟨0, 1, 5, 9⟩, ⟨1, 2, 0, 7⟩, ⟨2, 0, 4, 6⟩]
theorem askWT : askE 3 wT 0 = 0 := by decide +kernel
theorem verWT : verE 3 wT [5, 5, 5] = 0 := by decide +kernel
theorem verWT6 : verE 3 wT [6, 6, 6] = 0 := by decide +kernel
theorem flowWT {n : List Int} (h : Flow wT n) : ∃ v, n = [v, v, v] ∧ 5 ≤ v ∧ v ≤ 6 := by
  have hl : n.length = 3 := h.len
  match n, hl with
  | [a, b, c], _ =>
    have l0 : (5 : Int) ≤ a := h.lo 0 (by decide)
    have m0 : a ≤ 9 := h.hi 0 (by decide)
    have l2 : (4 : Int) ≤ c := h.lo 2 (by decide)
    have m2 : c ≤ 6 := h.hi 2 (by decide)
    have k0 := h.kp 0
    have k1 := h.kp 1
    have e0 : kept wT [a, b, c] 0 = 0 + a * (0 - 1) + b * (0 - 0) + c * (1 - 0) := rfl
    have e1 : kept wT [a, b, c] 1 = 0 + a * (1 - 0) + b * (0 - 1) + c * (0 - 0) := rfl
    rw [e0] at k0
    rw [e1] at k1
    have h1 : b = a := by omega
    have h2 : c = a := by omega
    subst h1 h2
    exact ⟨_, rfl, l0, m2⟩
theorem flowWT5 : Flow wT [5, 5, 5] := (verE_flow verWT).2
theorem flowWT6 : Flow wT [6, 6, 6] := (verE_flow verWT6).2
theorem loWT : loOf wT 0 = 5 := (loOf_is ⟨_, flowWT5⟩ (by decide)).uniq ⟨⟨_, flowWT5, rfl⟩, fun m hm => by obtain ⟨v, rfl, h1, h2⟩ := flowWT hm; exact h1⟩
theorem hiWT : hiOf wT 0 = 6 := (hiOf_is ⟨_, flowWT5⟩ (by decide)).uniq ⟨⟨_, flowWT6, rfl⟩, fun m hm => by obtain ⟨v, rfl, h1, h2⟩ := flowWT hm; exact h2⟩
theorem spanWT_c {h : AHeap} {v : AV} (hv : Rd h v 4 (flr wc wT)) : ACalls Go.Proofs.Tryz.prog 61 [.agg [.int .i64 3, v], .int .i64 0] h (fun q h' => q = .tup [.int .i64 5, .int .i64 6, .int .i64 0] ∧ Keeps h h') := by
  refine ACalls.mono (stSpan_c (rm := 3) (i := 0) (ws := wT) hv) ?_
  rintro q h' ⟨rfl, hk⟩
  rw [askWT, if_pos rfl, if_pos rfl, show (0 : Int).toNat = 0 from rfl, loWT, hiWT]
  exact ⟨rfl, hk⟩
def tM : Tray := ⟨3, [0, 1, 2, 0, 1], [1, 2, 0, 1, 0]⟩
theorem okTM : tM.Ok := ⟨by decide, by decide, rfl, by decide, by decide⟩
theorem fewTM : tM.fewS = 3 ∧ tM.chk = 0 := by decide +kernel

theorem lst_c {h : AHeap} {v : AV} : ACalls Go.Proofs.Tryz.prog 10 [v] h (fun q h' => q = v ∧ h = h') := by
  refine KA.fn 4 [.tmp 2] Go.Proofs.Tryz.func10 rfl (by decide) rfl rfl (Nat.le_of_ble_eq_true rfl) ?_
  show KA _ 4 _ _ [(0, v)] _
  refine KA.seq ?_
  refine KA.region rfl ?_
  refine KOps.assign ?_
  refine KOps.done ?_
  refine sqQ.normal ?_
  refine KA.sub (Sub.cons (t := 0) Look.eq (Sub.nil _)) ?_
  refine KA.seq ?_
  refine KA.region rfl ?_
  refine KOps.move ?_
  refine KOps.assign ?_
  refine KOps.done ?_
  refine sqQ.normal ?_
  refine KA.sub (Sub.cons (t := 2) Look.eq (Sub.nil _)) ?_
  refine KA.ret ?_
  refine fnQ.ret1 ?_
  exact ⟨rfl, rfl⟩

theorem turnedWorks_c {h : AHeap} : ACalls Go.Proofs.Tryz.prog 153 [] h (fun q h' => q = .bool true ∧ Keeps h h') := by
  refine KA.fn 56 [.tmp 0] Go.Proofs.Tryz.func153 rfl (by decide) rfl rfl (Nat.le_of_ble_eq_true rfl) ?_
  have hS := St.refl h
  show KA _ 56 _ _ [] _
  refine KA.seq ?_
  refine KA.region rfl ?_
  refine KOps.assign ?_
  refine KOps.done ?_
  refine sqQ.normal ?_
  refine KA.sub (Sub.nil _) ?_
  refine KA.seq ?_
  refine KA.region rfl ?_
  refine KOps.buildSlice hS rfl (by decide) rfl ?_
  intro v9 h' hS
  have hv9 : v9.one = true := St.one hS (k := 0) rfl
  refine KOps.call rfl lst_c ?_
  rintro _ _ ⟨rfl, rfl⟩
  refine KOps.buildG (zs := [.int .i64 0, .int .i64 0, .int .i64 0, .nils]) (cs := [_, _, _, _]) (by kernel_rfl) (by rfl) (by kernel_rfl) (.cons (off := 0) (s := 1) (by kernel_rfl) (AV.cells_one (by first | rfl | assumption)) rfl (by decide) (.cons (off := 1) (s := 1) (by kernel_rfl) (AV.cells_one (by first | rfl | assumption)) rfl (by decide) (.cons (off := 2) (s := 1) (by kernel_rfl) (AV.cells_one (by first | rfl | assumption)) rfl (by decide) (.cons (off := 3) (s := 1) (by kernel_rfl) (AV.cells_one (by first | rfl | assumption)) rfl (by decide) .nil)))) (by rfl) ?_
  refine KOps.call rfl (backCount_c (hS.rd 0 rfl)) ?_
  rintro _ hx ⟨rfl, hK⟩
  have hS0 : St _ _ _ := St.trans hS (St.ofK hK)
  clear hS
  have hS := hS0
  clear hS0
  simp only [List.nil_append] at hS
  refine KOps.move ?_
  refine KOps.extract ?_
  refine KOps.extract ?_
  refine KOps.assign ?_
  refine KOps.assign ?_
  refine KOps.done ?_
  refine sqQ.normal ?_
  refine KA.sub (Sub.cons (t := 1) Look.eq (Sub.cons (t := 2) Look.eq (Sub.nil _))) ?_
  refine KA.seq ?_
  refine KA.region rfl ?_
  refine KOps.buildG (zs := [.int .i64 0, .int .i64 0, .int .i64 0, .int .i64 0]) (cs := [_, _, _, _]) (by kernel_rfl) (by rfl) (by kernel_rfl) (.cons (off := 0) (s := 1) (by kernel_rfl) (AV.cells_one (by first | rfl | assumption)) rfl (by decide) (.cons (off := 1) (s := 1) (by kernel_rfl) (AV.cells_one (by first | rfl | assumption)) rfl (by decide) (.cons (off := 2) (s := 1) (by kernel_rfl) (AV.cells_one (by first | rfl | assumption)) rfl (by decide) (.cons (off := 3) (s := 1) (by kernel_rfl) (AV.cells_one (by first | rfl | assumption)) rfl (by decide) .nil)))) (by rfl) ?_
  refine KOps.call rfl (cut23_c) ?_
  rintro _ hx ⟨rfl, hK⟩
  have hS0 : St _ _ _ := St.trans hS (St.ofK hK)
  clear hS
  have hS := hS0
  clear hS0
  simp only [List.nil_append] at hS
  refine KOps.move ?_
  refine KOps.extract ?_
  refine KOps.extract ?_
  refine KOps.assign ?_
  refine KOps.assign ?_
  refine KOps.done ?_
  refine sqQ.normal ?_
  refine KA.sub (Sub.cons (t := 1) Look.eq (Sub.cons (t := 2) Look.eq (Sub.cons (t := 3) Look.eq (Sub.cons (t := 4) Look.eq (Sub.nil _))))) ?_
  refine KA.seq ?_
  refine KA.region rfl ?_
  refine KOps.buildG (zs := [.int .i64 0, .int .i64 0, .int .i64 0, .int .i64 0]) (cs := [_, _, _, _]) (by kernel_rfl) (by rfl) (by kernel_rfl) (.cons (off := 0) (s := 1) (by kernel_rfl) (AV.cells_one (by first | rfl | assumption)) rfl (by decide) (.cons (off := 1) (s := 1) (by kernel_rfl) (AV.cells_one (by first | rfl | assumption)) rfl (by decide) (.cons (off := 2) (s := 1) (by kernel_rfl) (AV.cells_one (by first | rfl | assumption)) rfl (by decide) (.cons (off := 3) (s := 1) (by kernel_rfl) (AV.cells_one (by first | rfl | assumption)) rfl (by decide) .nil)))) (by rfl) ?_
  refine KOps.buildG (zs := [.int .i64 0, .int .i64 0, .int .i64 0, .int .i64 0]) (cs := [_, _, _, _]) (by kernel_rfl) (by rfl) (by kernel_rfl) (.cons (off := 0) (s := 1) (by kernel_rfl) (AV.cells_one (by first | rfl | assumption)) rfl (by decide) (.cons (off := 1) (s := 1) (by kernel_rfl) (AV.cells_one (by first | rfl | assumption)) rfl (by decide) (.cons (off := 2) (s := 1) (by kernel_rfl) (AV.cells_one (by first | rfl | assumption)) rfl (by decide) (.cons (off := 3) (s := 1) (by kernel_rfl) (AV.cells_one (by first | rfl | assumption)) rfl (by decide) .nil)))) (by rfl) ?_
  refine KOps.buildG (zs := [.int .i64 0, .int .i64 0, .int .i64 0, .int .i64 0]) (cs := [_, _, _, _]) (by kernel_rfl) (by rfl) (by kernel_rfl) (.cons (off := 0) (s := 1) (by kernel_rfl) (AV.cells_one (by first | rfl | assumption)) rfl (by decide) (.cons (off := 1) (s := 1) (by kernel_rfl) (AV.cells_one (by first | rfl | assumption)) rfl (by decide) (.cons (off := 2) (s := 1) (by kernel_rfl) (AV.cells_one (by first | rfl | assumption)) rfl (by decide) (.cons (off := 3) (s := 1) (by kernel_rfl) (AV.cells_one (by first | rfl | assumption)) rfl (by decide) .nil)))) (by rfl) ?_
  refine KOps.buildSliceS (cs := flr wc wT) hS rfl rfl rfl (by decide) ?_
  intro v24 h' hS
  have hv24 : v24.one = true := St.one hS (k := 0) rfl
  refine KOps.buildG (zs := [.int .i64 0, .nils]) (cs := [_, _]) (by kernel_rfl) (by rfl) (by kernel_rfl) (.cons (off := 0) (s := 1) (by kernel_rfl) (AV.cells_one (by first | rfl | assumption)) rfl (by decide) (.cons (off := 1) (s := 1) (by kernel_rfl) (AV.cells_one (by first | rfl | assumption)) rfl (by decide) .nil)) (by rfl) ?_
  refine KOps.call rfl (spanWT_c (hS.rd 0 rfl)) ?_
  rintro _ hx ⟨rfl, hK⟩
  have hS0 : St _ _ _ := St.trans hS (St.ofK hK)
  clear hS
  have hS := hS0
  clear hS0
  simp only [List.nil_append] at hS
  refine KOps.move ?_
  refine KOps.extract ?_
  refine KOps.extract ?_
  refine KOps.extract ?_
  refine KOps.assign ?_
  refine KOps.assign ?_
  refine KOps.assign ?_
  refine KOps.done ?_
  refine sqQ.normal ?_
  refine KA.sub (Sub.cons (t := 1) Look.eq (Sub.cons (t := 2) Look.eq (Sub.cons (t := 3) Look.eq (Sub.cons (t := 4) Look.eq (Sub.cons (t := 5) Look.eq (Sub.cons (t := 6) Look.eq (Sub.cons (t := 7) Look.eq (Sub.nil _)))))))) ?_
  refine KA.seq ?_
  refine KA.region rfl ?_
  refine KOps.move ?_
  refine KOps.eql ?_
  refine KOps.move ?_
  refine KOps.guardB (dj := 32) rfl rfl true false rfl ?_ ?_
  · intro g32
    have g32 := of_decide_eq_true g32
    refine KOps.move ?_
    refine KOps.guardYes (dj := 32) rfl rfl ?_
    refine KOps.eql ?_
    refine KOps.pickT ?_
    refine KOps.move ?_
    refine KOps.guardB (dj := 36) rfl rfl true false rfl ?_ ?_
    · intro g36
      have g36 := of_decide_eq_true g36
      refine KOps.move ?_
      refine KOps.guardYes (dj := 36) rfl rfl ?_
      refine KOps.eql ?_
      refine KOps.pickT ?_
      refine KOps.move ?_
      refine KOps.guardB (dj := 40) rfl rfl true false rfl ?_ ?_
      · intro g40
        have g40 := of_decide_eq_true g40
        refine KOps.move ?_
        refine KOps.guardYes (dj := 40) rfl rfl ?_
        refine KOps.eql ?_
        refine KOps.pickT ?_
        refine KOps.move ?_
        refine KOps.guardB (dj := 44) rfl rfl true false rfl ?_ ?_
        · intro g44
          have g44 := of_decide_eq_true g44
          refine KOps.move ?_
          refine KOps.guardYes (dj := 44) rfl rfl ?_
          refine KOps.eql ?_
          refine KOps.pickT ?_
          refine KOps.move ?_
          refine KOps.guardB (dj := 48) rfl rfl true false rfl ?_ ?_
          · intro g48
            have g48 := of_decide_eq_true g48
            refine KOps.move ?_
            refine KOps.guardYes (dj := 48) rfl rfl ?_
            refine KOps.eql ?_
            refine KOps.pickT ?_
            refine KOps.move ?_
            refine KOps.guardB (dj := 52) rfl rfl true false rfl ?_ ?_
            · intro g52
              have g52 := of_decide_eq_true g52
              refine KOps.move ?_
              refine KOps.guardYes (dj := 52) rfl rfl ?_
              refine KOps.eql ?_
              refine KOps.pickT ?_
              refine KOps.assign ?_
              refine KOps.done ?_
              refine sqQ.normal ?_
              refine KA.sub (Sub.cons (t := 0) Look.eq (Sub.nil _)) ?_
              refine KA.ret ?_
              refine fnQ.ret1 ?_
              exact ⟨rfl, hS.keeps⟩
            · intro g52
              have g52 := of_decide_eq_false g52
              exact absurd rfl g52
          · intro g48
            have g48 := of_decide_eq_false g48
            exact absurd rfl g48
        · intro g44
          have g44 := of_decide_eq_false g44
          exact absurd rfl g44
      · intro g40
        have g40 := of_decide_eq_false g40
        exact absurd rfl g40
    · intro g36
      have g36 := of_decide_eq_false g36
      exact absurd rfl g36
  · intro g32
    have g32 := of_decide_eq_false g32
    exact absurd rfl g32

theorem dealtWorks_c {h : AHeap} : ACalls Go.Proofs.Tryz.prog 104 [] h (fun q h' => q = .bool true ∧ Keeps h h') := by
  refine KA.fn 18 [.tmp 0] Go.Proofs.Tryz.func104 rfl (by decide) rfl rfl (Nat.le_of_ble_eq_true rfl) ?_
  have hS := St.refl h
  show KA _ 18 _ _ [] _
  refine KA.seq ?_
  refine KA.region rfl ?_
  refine KOps.assign ?_
  refine KOps.done ?_
  refine sqQ.normal ?_
  refine KA.sub (Sub.nil _) ?_
  refine KA.seq ?_
  refine KA.region rfl ?_
  refine KOps.buildSlice hS rfl (by decide) rfl ?_
  intro v4 h' hS
  refine KOps.call rfl lst_c ?_
  rintro _ _ ⟨rfl, rfl⟩
  refine KOps.call rfl (ways_c (hS.rd 0 rfl)) ?_
  rintro _ hx ⟨rfl, hK⟩
  have hS0 : St _ _ _ := St.trans hS (St.ofK hK)
  clear hS
  have hS := hS0
  clear hS0
  simp only [List.nil_append] at hS
  refine KOps.move ?_
  refine KOps.extract ?_
  refine KOps.extract ?_
  refine KOps.assign ?_
  refine KOps.assign ?_
  refine KOps.done ?_
  refine sqQ.normal ?_
  refine KA.sub (Sub.cons (t := 1) Look.eq (Sub.cons (t := 2) Look.eq (Sub.nil _))) ?_
  refine KA.seq ?_
  refine KA.region rfl ?_
  refine KOps.move ?_
  refine KOps.eql ?_
  refine KOps.move ?_
  refine KOps.guardB (dj := 11) rfl rfl true false rfl ?_ ?_
  · intro g11
    have g11 := of_decide_eq_true g11
    refine KOps.move ?_
    refine KOps.guardYes (dj := 11) rfl rfl ?_
    refine KOps.eql ?_
    refine KOps.pickT ?_
    refine KOps.move ?_
    refine KOps.guardB (dj := 15) rfl rfl true false rfl ?_ ?_
    · intro g15
      have g15 := of_decide_eq_true g15
      refine KOps.call rfl (turnedWorks_c) ?_
      rintro _ hx ⟨rfl, hK⟩
      have hS0 : St _ _ _ := St.trans hS (St.ofK hK)
      clear hS
      have hS := hS0
      clear hS0
      simp only [List.nil_append] at hS
      refine KOps.pickT ?_
      refine KOps.assign ?_
      refine KOps.done ?_
      refine sqQ.normal ?_
      refine KA.sub (Sub.cons (t := 0) Look.eq (Sub.nil _)) ?_
      refine KA.ret ?_
      refine fnQ.ret1 ?_
      exact ⟨rfl, hS.keeps⟩
    · intro g15
      have g15 := of_decide_eq_false g15
      exact absurd rfl g15
  · intro g11
    have g11 := of_decide_eq_false g11
    exact absurd rfl g11

theorem tableWorks_c {h : AHeap} (hT : Tabs h) : ACalls Go.Proofs.Tryz.prog 69 [] h (fun q h' => q = .bool true ∧ Keeps h h') := by
  refine KA.fn 20 [.tmp 0] Go.Proofs.Tryz.func69 rfl (by decide) rfl rfl (Nat.le_of_ble_eq_true rfl) ?_
  have hS := St.refl h
  show KA _ 20 _ _ [] _
  refine KA.seq ?_
  refine KA.region rfl ?_
  refine KOps.assign ?_
  refine KOps.done ?_
  refine sqQ.normal ?_
  refine KA.sub (Sub.nil _) ?_
  refine KA.seq ?_
  refine KA.region rfl ?_
  refine KOps.buildG (zs := [.int .i64 0, .int .i64 0]) (cs := [_, _]) (by kernel_rfl) (by rfl) (by kernel_rfl) (.cons (off := 0) (s := 1) (by kernel_rfl) (AV.cells_one (by first | rfl | assumption)) rfl (by decide) (.cons (off := 1) (s := 1) (by kernel_rfl) (AV.cells_one (by first | rfl | assumption)) rfl (by decide) .nil)) (by rfl) ?_
  refine KOps.buildG (zs := [.int .i64 0, .int .i64 0]) (cs := [_, _]) (by kernel_rfl) (by rfl) (by kernel_rfl) (.cons (off := 0) (s := 1) (by kernel_rfl) (AV.cells_one (by first | rfl | assumption)) rfl (by decide) (.cons (off := 1) (s := 1) (by kernel_rfl) (AV.cells_one (by first | rfl | assumption)) rfl (by decide) .nil)) (by rfl) ?_
  refine KOps.buildG (zs := [.int .i64 0, .int .i64 0]) (cs := [_, _]) (by kernel_rfl) (by rfl) (by kernel_rfl) (.cons (off := 0) (s := 1) (by kernel_rfl) (AV.cells_one (by first | rfl | assumption)) rfl (by decide) (.cons (off := 1) (s := 1) (by kernel_rfl) (AV.cells_one (by first | rfl | assumption)) rfl (by decide) .nil)) (by rfl) ?_
  refine KOps.buildSliceS (cs := ints [0, 1, 1, 2, 0, 1]) hS rfl rfl rfl (by decide) ?_
  intro v7 h' hS
  have hv7 : v7.one = true := St.one hS (k := 0) rfl
  refine KOps.buildG (zs := [.int .i64 0, .nils]) (cs := [_, _]) (by kernel_rfl) (by rfl) (by kernel_rfl) (.cons (off := 0) (s := 1) (by kernel_rfl) (AV.cells_one (by first | rfl | assumption)) rfl (by decide) (.cons (off := 1) (s := 1) (by kernel_rfl) (AV.cells_one (by first | rfl | assumption)) rfl (by decide) .nil)) (by rfl) ?_
  refine KOps.call rfl (sorts_c (hS.rd 0 rfl) (hT.ext hS.keeps)) ?_
  rintro _ hx ⟨rfl, hK⟩
  have hS0 : St _ _ _ := St.trans hS (St.ofK hK)
  clear hS
  have hS := hS0
  clear hS0
  simp only [List.nil_append] at hS
  refine KOps.move ?_
  refine KOps.extract ?_
  refine KOps.extract ?_
  refine KOps.assign ?_
  refine KOps.assign ?_
  refine KOps.done ?_
  refine sqQ.normal ?_
  refine KA.sub (Sub.cons (t := 1) Look.eq (Sub.cons (t := 2) Look.eq (Sub.nil _))) ?_
  refine KA.seq ?_
  refine KA.region rfl ?_
  refine KOps.move ?_
  refine KOps.eql ?_
  refine KOps.move ?_
  refine KOps.guardB (dj := 14) rfl rfl true false rfl ?_ ?_
  · intro g14
    have g14 := of_decide_eq_true g14
    refine KOps.move ?_
    refine KOps.pickT ?_
    refine KOps.move ?_
    refine KOps.guardYes (dj := 17) rfl rfl ?_
    refine KOps.call rfl (dealtWorks_c) ?_
    rintro _ hx ⟨rfl, hK⟩
    have hS0 : St _ _ _ := St.trans hS (St.ofK hK)
    clear hS
    have hS := hS0
    clear hS0
    simp only [List.nil_append] at hS
    refine KOps.pickT ?_
    refine KOps.assign ?_
    refine KOps.done ?_
    refine sqQ.normal ?_
    refine KA.sub (Sub.cons (t := 0) Look.eq (Sub.nil _)) ?_
    refine KA.ret ?_
    refine fnQ.ret1 ?_
    exact ⟨rfl, hS.keeps⟩
  · intro g14
    have g14 := of_decide_eq_false g14
    exact absurd rfl g14

theorem mendWorks_c {h : AHeap} (hT : Tabs h) : ACalls Go.Proofs.Tryz.prog 37 [] h (fun q h' => q = .bool true ∧ Keeps h h') := by
  refine KA.fn 21 [.tmp 0] Go.Proofs.Tryz.func37 rfl (by decide) rfl rfl (Nat.le_of_ble_eq_true rfl) ?_
  have hS := St.refl h
  show KA _ 21 _ _ [] _
  refine KA.seq ?_
  refine KA.region rfl ?_
  refine KOps.assign ?_
  refine KOps.done ?_
  refine sqQ.normal ?_
  refine KA.sub (Sub.nil _) ?_
  refine KA.seq ?_
  refine KA.region rfl ?_
  refine KOps.buildSlice hS rfl (by decide) rfl ?_
  intro v4 h' hS
  have hv4 : v4.one = true := St.one hS (k := 0) rfl
  refine KOps.call rfl lst_c ?_
  rintro _ _ ⟨rfl, rfl⟩
  refine KOps.buildSlice hS rfl (by decide) rfl ?_
  intro v6 h' hS
  have hv6 : v6.one = true := St.one hS (k := 0) rfl
  refine KOps.call rfl lst_c ?_
  rintro _ _ ⟨rfl, rfl⟩
  refine KOps.buildG (zs := [.int .i64 0, .nils, .nils]) (cs := [_, _, _]) (by kernel_rfl) (by rfl) (by kernel_rfl) (.cons (off := 0) (s := 1) (by kernel_rfl) (AV.cells_one (by first | rfl | assumption)) rfl (by decide) (.cons (off := 1) (s := 1) (by kernel_rfl) (AV.cells_one (by first | rfl | assumption)) rfl (by decide) (.cons (off := 2) (s := 1) (by kernel_rfl) (AV.cells_one (by first | rfl | assumption)) rfl (by decide) .nil))) (by rfl) ?_
  refine KOps.call rfl (fewestP_c (t := tM) okTM (hS.rd 1 rfl) (hS.rd 0 rfl) (hT.1.ext hS.keeps)) ?_
  rintro _ hx ⟨rfl, hK⟩
  have hS0 : St _ _ _ := St.trans hS (St.ofK hK)
  clear hS
  have hS := hS0
  clear hS0
  simp only [List.nil_append] at hS
  rw [fewTM.2, fewTM.1, if_pos rfl]
  refine KOps.move ?_
  refine KOps.extract ?_
  refine KOps.extract ?_
  refine KOps.assign ?_
  refine KOps.assign ?_
  refine KOps.done ?_
  refine sqQ.normal ?_
  refine KA.sub (Sub.cons (t := 1) Look.eq (Sub.cons (t := 2) Look.eq (Sub.nil _))) ?_
  refine KA.seq ?_
  refine KA.region rfl ?_
  refine KOps.move ?_
  refine KOps.eql ?_
  refine KOps.move ?_
  refine KOps.guardB (dj := 14) rfl rfl true false rfl ?_ ?_
  · intro g14
    have g14 := of_decide_eq_true g14
    refine KOps.move ?_
    refine KOps.guardYes (dj := 14) rfl rfl ?_
    refine KOps.eql ?_
    refine KOps.pickT ?_
    refine KOps.move ?_
    refine KOps.guardB (dj := 18) rfl rfl true false rfl ?_ ?_
    · intro g18
      have g18 := of_decide_eq_true g18
      refine KOps.call rfl (tableWorks_c (hT.ext hS.keeps)) ?_
      rintro _ hx ⟨rfl, hK⟩
      have hS0 : St _ _ _ := St.trans hS (St.ofK hK)
      clear hS
      have hS := hS0
      clear hS0
      simp only [List.nil_append] at hS
      refine KOps.pickT ?_
      refine KOps.assign ?_
      refine KOps.done ?_
      refine sqQ.normal ?_
      refine KA.sub (Sub.cons (t := 0) Look.eq (Sub.nil _)) ?_
      refine KA.ret ?_
      refine fnQ.ret1 ?_
      exact ⟨rfl, hS.keeps⟩
    · intro g18
      have g18 := of_decide_eq_false g18
      exact absurd rfl g18
  · intro g14
    have g14 := of_decide_eq_false g14
    exact absurd rfl g14

end Go.Am


namespace Go.Am
/-- All packs. -/
def perms : Nat → List Nat → List (List Nat)
  | 0, _ => [[]]
  | k + 1, l => (List.range l.length).flatMap fun i => (perms k (l.eraseIdx i)).map (l.getD i 0 :: ·)
def packs (n : Nat) : List (List Nat) := perms n (List.range n)
theorem same_no {a b : List Int} {i : Nat} (hi : i < a.length) (h : ¬ a.getD i 0 = b.getD i 0) : decide (a = b) = false := decide_eq_false fun e => h (by rw [e])
theorem same_yes {a b : List Int} (hl : a.length = b.length) (h : ∀ j, j < a.length → a.getD j 0 = b.getD j 0) : decide (a = b) = true := decide_eq_true (List.ext_getElem hl fun i h1 h2 => by
  have := h i h1
  rwa [List.getD_eq_getElem?_getD, List.getD_eq_getElem?_getD, List.getElem?_eq_getElem h1, List.getElem?_eq_getElem h2] at this)
theorem rangeI (i : Nat) : nI (List.range i) ++ [(i : Int)] = nI (List.range (i + 1)) := by rw [List.range_succ, nI, nI, List.map_append]; rfl
theorem nI_gt {l : List Nat} {k : Nat} (hk : k < l.length) : (nI l).getD k 0 = ((l.getD k 0 : Nat) : Int) := by
  rw [nI, List.getD_eq_getElem?_getD, List.getD_eq_getElem?_getD, List.getElem?_map, List.getElem?_eq_getElem hk]; rfl
theorem nI_push {o l : List Nat} {k : Nat} (hk : k < l.length) : nI o ++ [(nI l).getD k 0] = nI (o ++ [l.getD k 0]) := by rw [nI_gt hk, nI, nI, List.map_append]; rfl
theorem nI_erase {l : List Nat} {k : Nat} : ([] ++ ints ((nI l).take k)) ++ ints (((nI l).drop (k + 1)).take (l.length - (k + 1))) = ints (nI (l.eraseIdx k)) := by
  rw [List.nil_append, List.take_of_length_le (l := (nI l).drop (k + 1)) (by rw [List.length_drop, nI, List.length_map]; exact Nat.le_refl _), List.eraseIdx_eq_take_drop_succ]
  simp only [ints, nI, List.map_append, List.map_take, List.map_drop]
theorem mix_step {n k : Nat} {l o : List Nat} (hk : k < l.length) (hp : ∀ q ∈ perms l.length l, o ++ q ∈ packs n) : ∀ q ∈ perms (l.eraseIdx k).length (l.eraseIdx k), (o ++ [l.getD k 0]) ++ q ∈ packs n := by
  intro q hq
  rw [List.length_eraseIdx_of_lt hk] at hq
  rw [List.append_assoc]
  refine hp _ ?_
  obtain ⟨m, hm⟩ : ∃ m, l.length = m + 1 := ⟨l.length - 1, by omega⟩
  rw [hm] at hq ⊢
  unfold perms
  exact List.mem_flatMap.2 ⟨k, List.mem_range.2 hk, List.mem_map.2 ⟨q, by simpa using hq, rfl⟩⟩

theorem same_c {h : AHeap} {v u : AV} {a b : List Int} (hv : Row h v a) (hu : Row h u b) (hla : a.length ≤ 1000000) : ACalls Go.Proofs.Tryz.prog 13 [v, u] h (fun q h' => q = .bool (decide (a = b)) ∧ h = h') := by
  refine KA.fn 26 [.tmp 4] Go.Proofs.Tryz.func13 rfl (by decide) rfl rfl (Nat.le_of_ble_eq_true rfl) ?_
  show KA _ 26 _ _ [(0, v), (1, u)] _
  refine KA.seq ?_
  refine KA.region rfl ?_
  refine KOps.assign ?_
  refine KOps.done ?_
  refine sqQ.normal ?_
  refine KA.sub (Sub.cons (t := 0) Look.eq (Sub.cons (t := 1) Look.eq (Sub.nil _))) ?_
  refine KA.seq ?_
  refine KA.seq ?_
  refine KA.region rfl ?_
  refine KOps.move ?_
  refine KOps.lenI hv ?_
  refine KOps.move ?_
  refine KOps.lenI hu ?_
  refine KOps.neq ?_
  refine KOps.done ?_
  refine sqQ.normal ?_
  refine KA.sub (Sub.cons (t := 0) Look.eq (Sub.cons (t := 1) Look.eq (Sub.cons (t := 10) Look.eq (Sub.nil _)))) ?_
  refine KA.condN ?_ ?_
  · intro c10
    refine KA.seq ?_
    refine KA.region rfl ?_
    refine KOps.assign ?_
    refine KOps.done ?_
    refine sqQ.normal ?_
    refine KA.sub (Sub.cons (t := 4) Look.eq (Sub.nil _)) ?_
    refine KA.ret ?_
    refine sqQ.ret ?_
    refine fnQ.ret1 ?_
    refine ⟨congrArg AV.bool (decide_eq_false fun e => ?_).symm, rfl⟩
    subst e
    omega
  · intro c10
    have hlab : a.length = b.length := by omega
    refine KA.skip ?_
    refine sqQ.normal ?_
    refine KA.sub (Sub.cons (t := 0) Look.eq (Sub.cons (t := 1) Look.eq (Sub.nil _))) ?_
    refine KA.seq ?_
    refine KA.seq ?_
    refine KA.region rfl ?_
    refine KOps.move ?_
    refine KOps.lenI hv ?_
    refine KOps.move ?_
    refine KOps.done ?_
    refine sqQ.normal ?_
    refine KA.sub (Sub.cons (t := 0) Look.eq (Sub.cons (t := 1) Look.eq (Sub.cons (t := 12) Look.eq (Sub.cons (t := 13) Look.eq (Sub.nil _))))) ?_
    refine KA.block ?_
    refine KA.loop (X := Nat) (fun i => [(0, v), (1, u), (12, .int .i64 (a.length : Int)), (13, .int .i64 (i : Int))]) (fun i h' => h = h' ∧ i ≤ a.length ∧ ∀ j, j < i → a.getD j 0 = b.getD j 0) (fun i => a.length - i) 0 (by repeat (first | exact Sub.nil _ | refine Sub.cons Look.eq ?_ | refine Sub.cons (Eq.trans Look.eq (congrArg (AV.int _) (by first | omega | (dsimp only; omega)))) ?_)) ?_ ?_
    · exact ⟨rfl, Nat.zero_le _, fun j hj => by omega⟩
    rintro i _ ⟨rfl, hi, hj⟩
    refine KA.seq ?_
    refine KA.region rfl ?_
    refine KOps.lss ?_
    refine KOps.done ?_
    refine sqQ.normal ?_
    refine KA.seq ?_
    refine KA.condD ?_ ?_
    · intro c14
      refine KA.skip ?_
      refine sqQ.normal ?_
      refine KA.sub (Sub.cons (t := 0) Look.eq (Sub.cons (t := 1) Look.eq (Sub.cons (t := 12) Look.eq (Sub.cons (t := 13) Look.eq (Sub.nil _))))) ?_
      refine KA.seq ?_
      refine KA.block ?_
      refine KA.seq ?_
      refine KA.region rfl ?_
      refine KOps.move ?_
      refine KOps.assign ?_
      refine KOps.done ?_
      refine sqQ.normal ?_
      refine KA.sub (Sub.cons (t := 0) Look.eq (Sub.cons (t := 1) Look.eq (Sub.cons (t := 5) Look.eq (Sub.cons (t := 12) Look.eq (Sub.cons (t := 13) Look.eq (Sub.nil _)))))) ?_
      refine KA.seq ?_
      refine KA.draw [] mixed rfl (by kernel_rfl) ?_
      refine KOps.move ?_
      refine KOps.move ?_
      refine KOps.indexIJ hv (j := i) rfl (by first | omega | (simp; done) | (simp; omega)) ?_
      intro p18 hp18
      refine KOps.loadI hp18 hv (by first | omega | (simp; done) | (simp; omega)) ?_
      refine KOps.move ?_
      refine KOps.move ?_
      refine KOps.indexIJ hu (j := i) rfl (by first | omega | (simp; done) | (simp; omega)) ?_
      intro p22 hp22
      refine KOps.loadI hp22 hu (by first | omega | (simp; done) | (simp; omega)) ?_
      refine KOps.neq ?_
      refine KOps.done ?_
      refine sqQ.normal ?_
      refine KA.sub (Sub.cons (t := 0) Look.eq (Sub.cons (t := 1) Look.eq (Sub.cons (t := 12) Look.eq (Sub.cons (t := 13) Look.eq (Sub.cons (t := 24) Look.eq (Sub.nil _)))))) ?_
      refine KA.condN ?_ ?_
      · intro c24
        refine KA.seq ?_
        refine KA.region rfl ?_
        refine KOps.assign ?_
        refine KOps.done ?_
        refine sqQ.normal ?_
        refine KA.sub (Sub.cons (t := 4) Look.eq (Sub.nil _)) ?_
        refine KA.ret ?_
        refine blQ.ret ?_
        refine sqQ.ret ?_
        refine lpQ.ret ?_
        refine blQ.ret ?_
        refine sqQ.ret ?_
        refine fnQ.ret1 ?_
        exact ⟨congrArg AV.bool (same_no (i := i) (by omega) (by omega)).symm, rfl⟩
      · intro c24
        refine KA.skip ?_
        refine blQ.normal ?_
        refine sqQ.normal ?_
        refine KA.sub (Sub.cons (t := 0) Look.eq (Sub.cons (t := 1) Look.eq (Sub.cons (t := 12) Look.eq (Sub.cons (t := 13) Look.eq (Sub.nil _))))) ?_
        refine KA.region rfl ?_
        refine KOps.add (by first | omega | (simp; omega)) (by first | omega | (simp; omega)) ?_
        refine KOps.move ?_
        refine KOps.done ?_
        refine lpQ.normal (i + 1) (by repeat (first | exact Sub.nil _ | refine Sub.cons Look.eq ?_ | refine Sub.cons (Eq.trans Look.eq (congrArg (AV.int _) (by first | omega | (dsimp only; omega)))) ?_)) ⟨rfl, by omega, ?_⟩ (by omega)
        intro j hj2
        rcases Nat.lt_succ_iff_lt_or_eq.1 hj2 with h3 | rfl
        · exact hj j h3
        · omega
    · intro c14
      refine KA.exit ?_
      refine sqQ.exit ?_
      refine lpQ.exit ?_
      refine blQ.here ?_
      refine sqQ.normal ?_
      refine KA.sub (Sub.nil _) ?_
      refine KA.seq ?_
      refine KA.region rfl ?_
      refine KOps.assign ?_
      refine KOps.done ?_
      refine sqQ.normal ?_
      refine KA.ret ?_
      refine fnQ.ret1 ?_
      exact ⟨congrArg AV.bool (same_yes (by omega) (fun j h3 => hj j (by omega))).symm, rfl⟩

end Go.Am

namespace Go.Am
def natI (l : List Nat) : List AV := ints (nI l)
/-- All such heaps. -/
def parts : List (List Nat) := (List.range 5).flatMap fun a => (List.range (a + 1)).flatMap fun b => (List.range (b + 1)).flatMap fun c => (List.range (c + 1)).map fun d => [a, b, c, d].filter fun x => decide (0 < x)
def turnH (l : List Nat) : List Nat := (List.range (l.headD 0)).map fun j => (l.filter fun x => decide (j < x)).length
def ordH (l : List Nat) : List Nat := [9, 8, 7, 6, 5, 4, 3, 2, 1].flatMap fun s => l.filter fun x => x == s
def roundH (l : List Nat) : List Nat := ordH (l.length :: l.map fun x => x - 1)
noncomputable def okTurned (p : List Nat) : Bool := p.isEmpty || runsG Go.Proofs.Tryz.prog 4000 11 [.slc 0 0 p.length 1 false] [natI p] [] (chkTupO 1 1 (natI (turnH p)) (.int .i64 0))
noncomputable def okRound (p : List Nat) : Bool := p.isEmpty || runsG Go.Proofs.Tryz.prog 4000 14 [.slc 0 0 p.length 1 false] [natI p] [] (chkTupO 1 1 (natI (roundH p)) (.int .i64 0))
theorem run_round0 : ((parts.drop 0).take 10).all okRound = true := by kernel_rfl
theorem run_round1 : ((parts.drop 10).take 10).all okRound = true := by kernel_rfl
theorem run_round2 : ((parts.drop 20).take 10).all okRound = true := by kernel_rfl
theorem run_round3 : ((parts.drop 30).take 10).all okRound = true := by kernel_rfl
theorem run_round4 : ((parts.drop 40).take 10).all okRound = true := by kernel_rfl
theorem run_round5 : ((parts.drop 50).take 10).all okRound = true := by kernel_rfl
theorem run_round6 : ((parts.drop 60).take 10).all okRound = true := by kernel_rfl
end Go.Am

namespace Go.Am
theorem natI_plain (p : List Nat) : (natI p).all AV.plain = true := by rw [natI, ints, List.all_map]; exact List.all_eq_true.2 fun _ _ => rfl
theorem natI_len (p : List Nat) : (natI p).length = p.length := by rw [natI, ints, List.length_map, List.length_map]
theorem natI_ne {p : List Nat} (h : p ≠ []) : natI p ≠ [] := fun e => by have := natI_len p; rw [e] at this; exact h (List.length_eq_zero_iff.1 this.symm)
theorem okRound_all {p : List Nat} (hp : p ∈ parts) (hne : p ≠ []) : runsG Go.Proofs.Tryz.prog 4000 14 [.slc 0 0 p.length 1 false] [natI p] [] (chkTupO 1 1 (natI (roundH p)) (.int .i64 0)) = true := by
  have h : okRound p = true := by
    have e : parts = (parts.drop 0).take 10 ++ ((parts.drop 10).take 10 ++ ((parts.drop 20).take 10 ++ ((parts.drop 30).take 10 ++ ((parts.drop 40).take 10 ++ ((parts.drop 50).take 10 ++ (parts.drop 60).take 10))))) := by decide +kernel
    rw [e] at hp
    rcases List.mem_append.1 hp with hp | hp
    · exact List.all_eq_true.1 run_round0 p hp
    rcases List.mem_append.1 hp with hp | hp
    · exact List.all_eq_true.1 run_round1 p hp
    rcases List.mem_append.1 hp with hp | hp
    · exact List.all_eq_true.1 run_round2 p hp
    rcases List.mem_append.1 hp with hp | hp
    · exact List.all_eq_true.1 run_round3 p hp
    rcases List.mem_append.1 hp with hp | hp
    · exact List.all_eq_true.1 run_round4 p hp
    rcases List.mem_append.1 hp with hp | hp
    · exact List.all_eq_true.1 run_round5 p hp
    · exact List.all_eq_true.1 run_round6 p hp
  unfold okRound at h
  cases p with
  | nil => exact absurd rfl hne
  | cons a p => rw [show (a :: p).isEmpty = false from rfl, Bool.false_or] at h; exact h
theorem round_c {h : AHeap} {v : AV} {p : List Nat} (hp : p ∈ parts) (hne : p ≠ []) (hv : Row h v (nI p)) : ACalls Go.Proofs.Tryz.prog 14 [v] h (fun r h' => ∃ a, r = .tup [a, .int .i64 0] ∧ St h h' [⟨a, 1, natI (roundH p), true⟩]) :=
  over_tupO mixed (okRound_all hp hne) [⟨v, 1, natI p, natI p⟩] rfl rfl (okGs_cons (okG_plain hv (by decide) (natI_ne hne) (natI_plain p)) okGs_nil) hgs_nil rfl (imG_cons (imG_slc rfl (by decide) (by rw [natI_len, Nat.mul_one])) imG_nil)
theorem part411 : [4, 1, 1] ∈ parts ∧ roundH [4, 1, 1] = [3, 3] := by decide +kernel

theorem list_c {h : AHeap} {v : AV} : ACalls Go.Proofs.Tryz.prog 10 [v] h (fun q h' => q = v ∧ h = h') := by
  refine KA.fn 4 [.tmp 2] Go.Proofs.Tryz.func10 rfl (by decide) rfl rfl (Nat.le_of_ble_eq_true rfl) ?_
  show KA _ 4 _ _ [(0, v)] _
  refine KA.seq ?_
  refine KA.region rfl ?_
  refine KOps.assign ?_
  refine KOps.done ?_
  refine sqQ.normal ?_
  refine KA.sub (Sub.cons (t := 0) Look.eq (Sub.nil _)) ?_
  refine KA.seq ?_
  refine KA.region rfl ?_
  refine KOps.move ?_
  refine KOps.assign ?_
  refine KOps.done ?_
  refine sqQ.normal ?_
  refine KA.sub (Sub.cons (t := 2) Look.eq (Sub.nil _)) ?_
  refine KA.ret ?_
  refine fnQ.ret1 ?_
  exact ⟨rfl, rfl⟩

theorem heapWorks_c {h : AHeap} (hT : Tabs h) : ACalls Go.Proofs.Tryz.prog 8 [] h (fun q h' => q = .bool true ∧ Keeps h h') := by
  refine KA.fn 20 [.tmp 0] Go.Proofs.Tryz.func8 rfl (by decide) rfl rfl (Nat.le_of_ble_eq_true rfl) ?_
  have hS := St.refl h
  show KA _ 20 _ _ [] _
  refine KA.seq ?_
  refine KA.region rfl ?_
  refine KOps.assign ?_
  refine KOps.done ?_
  refine sqQ.normal ?_
  refine KA.sub (Sub.nil _) ?_
  refine KA.seq ?_
  refine KA.region rfl ?_
  refine KOps.buildSlice hS rfl (by decide) rfl ?_
  intro v4 h' hS
  refine KOps.call rfl list_c ?_
  rintro _ _ ⟨rfl, rfl⟩
  refine KOps.call rfl (round_c (p := [4, 1, 1]) part411.1 (by decide) (hS.rd 0 rfl)) ?_
  rintro _ h6 ⟨v6, rfl, hS6⟩
  have hS0 : St _ _ (_ :: _) := St.trans hS hS6
  clear hS
  have hS := hS0
  clear hS0
  rw [part411.2] at hS
  refine KOps.move ?_
  refine KOps.extract ?_
  refine KOps.extract ?_
  refine KOps.assign ?_
  refine KOps.assign ?_
  refine KOps.done ?_
  refine sqQ.normal ?_
  refine KA.sub (Sub.cons (t := 1) Look.eq (Sub.cons (t := 2) Look.eq (Sub.nil _))) ?_
  refine KA.seq ?_
  refine KA.region rfl ?_
  refine KOps.move ?_
  refine KOps.eql ?_
  refine KOps.move ?_
  refine KOps.guardB (dj := 11) rfl rfl true false rfl ?_ ?_
  · intro g11
    have g11 := of_decide_eq_true g11
    refine KOps.move ?_
    refine KOps.guardYes (dj := 11) rfl rfl ?_
    refine KOps.buildSlice hS rfl (by decide) rfl ?_
    intro v13 h' hS
    refine KOps.guardYes (dj := 11) rfl rfl ?_
    refine KOps.call rfl list_c ?_
    rintro _ _ ⟨rfl, rfl⟩
    refine KOps.guardYes (dj := 11) rfl rfl ?_
    refine KOps.call rfl (same_c (a := nI [3, 3]) (b := nI [3, 3]) (hS.rd 1 rfl) (hS.rd 0 rfl) (by decide)) ?_
    rintro _ _ ⟨rfl, rfl⟩
    refine KOps.pickT ?_
    refine KOps.move ?_
    refine KOps.guardB (dj := 17) rfl rfl true false rfl ?_ ?_
    · intro g17
      have g17 := of_decide_eq_true g17
      refine KOps.call rfl (mendWorks_c (hT.ext hS.keeps)) ?_
      rintro _ hx ⟨rfl, hK⟩
      have hS0 : St _ _ _ := St.trans hS (St.ofK hK)
      clear hS
      have hS := hS0
      clear hS0
      simp only [List.nil_append] at hS
      refine KOps.pickT ?_
      refine KOps.assign ?_
      refine KOps.done ?_
      refine sqQ.normal ?_
      refine KA.sub (Sub.cons (t := 0) Look.eq (Sub.nil _)) ?_
      refine KA.ret ?_
      refine fnQ.ret1 ?_
      exact ⟨rfl, hS.keeps⟩
    · intro g17
      have g17 := of_decide_eq_false g17
      exact absurd rfl g17
  · intro g11
    have g11 := of_decide_eq_false g11
    exact absurd rfl g11

end Go.Am

namespace Go.Am
def swpI (l : List Int) (i : Nat) : List Int := (l.set i (l.getD (i - 1) 0)).set (i - 1) (l.getD i 0)
def bub (l : List Int) : Nat → List Int
  | 0 => l
  | i + 1 => if l.getD i 0 < l.getD (i + 1) 0 then bub (swpI l (i + 1)) i else l
theorem bub_yes {l : List Int} {i : Nat} (h0 : 0 < i) (h : l.getD (i - 1) 0 < l.getD i 0) : bub l i = bub (swpI l i) (i - 1) := by
  obtain ⟨i, rfl⟩ : ∃ k, i = k + 1 := ⟨i - 1, by omega⟩
  rw [Nat.add_sub_cancel] at h
  rw [bub, if_pos h]; rfl
theorem bub_no {l : List Int} {i : Nat} (h : ¬ (0 < i ∧ l.getD (i - 1) 0 < l.getD i 0)) : bub l i = l := by
  cases i with
  | zero => rfl
  | succ i => rw [bub, if_neg (fun hh => h ⟨Nat.succ_pos i, by rw [Nat.add_sub_cancel]; exact hh⟩)]
end Go.Am

namespace Go.Am
theorem natI_snoc (l : List Nat) (s : Nat) : ints (nI l ++ [(s : Int)]) = natI (l ++ [s]) := by simp [natI, nI]

end Go.Am

namespace Go.Am
theorem VRels.split {φ : Emb} {a b : List AV} {cs : List Value} {s : Nat} (h1 : VRels φ a (cs.take s)) (h2 : VRels φ b (cs.drop s)) (hs : s ≤ cs.length) : VRels φ (a ++ b) cs ∧ (a ++ b).take s = a ∧ (a ++ b).drop s = b := by
  have ha : a.length = s := by rw [h1.1, List.length_take]; omega
  have h3 := VRels.append h1 h2
  rw [List.take_append_drop] at h3
  exact ⟨h3, by rw [← ha, List.take_left], by rw [← ha, List.drop_left]⟩
end Go.Am

namespace Go.Am
open Go.ChangeShapes Go.WideShapes
def laidL : List (String × DataW Unit) := [("math/bits.deBruijn32tab", Go.Proofs.YtdfhmdhjeiipfaaGreatDoor.Rows.laid_math_bits_deBruijn32tab), ("math/bits.deBruijn64tab", Go.Proofs.YtdfhmdhjeiipfaaGreatDoor.Rows.laid_math_bits_deBruijn64tab)]
def litI : DataW Unit → Option Int
  | .lit (.int .u8 n) => some n
  | _ => none
def aggL : DataW Unit → List (DataW Unit)
  | .agg l => l
  | _ => []
theorem laid_lits : (aggL Go.Proofs.YtdfhmdhjeiipfaaGreatDoor.Rows.laid_math_bits_deBruijn32tab).map litI = tzL.map fun (v : Nat) => some (v : Int) := by kernel_rfl
theorem laid_lits64 : (aggL Go.Proofs.YtdfhmdhjeiipfaaGreatDoor.Rows.laid_math_bits_deBruijn64tab).map litI = tzL64.map fun (v : Nat) => some (v : Int) := by kernel_rfl
theorem Imp.blank {W : World} {φ : Emb} {h : AHeap} (im : Imp W φ h) : Imp W (fun b => if b = h.next then .none else φ b) (h.push (.cells .none 0 [])) := (im.push [] .none (by intro k i z hq; cases hq)).1
/-- Tables, as the package-level variables 2 and 3. -/
theorem Imp.table23 {W : World} {cs ds : List AV} (hcell : ∀ (j : Nat) (x : AV), cs[j]? = some x → ∃ v, W.cell? ⟨2, j, none⟩ = some v ∧ ∀ φ, VRel φ x v) (h2 : 2 < W.heap.size) (hcel1 : ∀ (j : Nat) (x : AV), ds[j]? = some x → ∃ v, W.cell? ⟨3, j, none⟩ = some v ∧ ∀ φ, VRel φ x v) (h3 : 3 < W.heap.size) :
    ∃ φ h, Imp W φ h ∧ (h.globs.contains 2 = true ∧ Rd h (.ptr 2 0) 0 cs) ∧ h.globs.contains 3 = true ∧ Rd h (.ptr 3 0) 0 ds := by
  obtain ⟨im, _⟩ := (Imp.empty W).blank.blank.push cs (some (2, 0, cs.length)) (by
    intro k i z hq
    cases hq
    refine ⟨h2, fun j x hx => ?_⟩
    obtain ⟨v, h1, h2⟩ := hcell j x hx
    exact ⟨v, by rw [Nat.zero_add]; exact h1, h2 _⟩)
  obtain ⟨im2, _⟩ := im.push ds (some (3, 0, ds.length)) (by
    intro k i z hq
    cases hq
    refine ⟨h3, fun j x hx => ?_⟩
    obtain ⟨v, h1, h2⟩ := hcel1 j x hx
    exact ⟨v, by rw [Nat.zero_add]; exact h1, h2 _⟩)
  refine ⟨_, ⟨_, _, [2, 3]⟩, ⟨⟨?_, im2.rel.lt, im2.rel.blk, im2.rel.arr, im2.rel.one, im2.rel.sep, im2.rel.map, im2.rel.ext⟩, im2.ro, im2.out⟩, ⟨rfl, .inr (.inl ⟨2, 0, .none, 0, cs, .inr ⟨rfl, rfl⟩, rfl, rfl, by rw [List.drop_zero, List.take_length]⟩)⟩, rfl, .inr (.inl ⟨3, 0, .none, 0, ds, .inr ⟨rfl, rfl⟩, rfl, rfl, by rw [List.drop_zero, List.take_length]⟩)⟩
  intro g hg
  have hg : g = 2 ∨ g = 3 := by simpa using hg
  rcases hg with rfl | rfl
  · exact ⟨cs.length, rfl⟩
  · exact ⟨ds.length, rfl⟩
/-- The cells of a laid table. -/
theorem table_cells {W : World} {l : List Nat} {lay : DataW Unit} {g t n : Nat} {nm : String} {cs : Array Value} {f : Nat} {p : List MemPlace}
    (hU : Go.Proofs.Tryz.prog.underlying t = some (.array n 5)) (c2 : Go.Proofs.Tryz.prog.cellsOf t = l.length) (hn : n = l.length) (hlits : (aggL lay).map litI = l.map fun (v : Nat) => some (v : Int)) (hl0 : 0 < l.length)
    (hg0 : Go.Proofs.Tryz.prog.globalNamed nm = some g) (hv0 : W.var? Go.Proofs.Tryz.prog nm = some cs)
    (hd0 : DataW.trod (fun _ => ()) Go.Proofs.Tryz.prog W 0 (fun _ => true) false f t cs.toList = some (lay, p)) :
    (∀ i x, (l.map fun (v : Nat) => AV.int .u8 (v : Int))[i]? = some x → ∃ v, W.cell? ⟨g, i, none⟩ = some v ∧ ∀ φ, VRel φ x v) ∧ g < W.heap.size := by
  obtain ⟨xs, m, rfl, hx1, hl, hxl, hx⟩ := DataW.trod_array hU hd0
  have c1 : Go.Proofs.Tryz.prog.cellsOf 5 = 1 := by kernel_rfl
  rw [c2] at hl
  have hd := (Prod.mk.inj hx1).1
  have hxs : xs.map (fun x => litI x.1) = l.map fun (v : Nat) => some (v : Int) := by
    rw [← hlits, hd]
    show _ = (xs.map (·.1)).map litI
    rw [List.map_map]; rfl
  have key : ∀ i, i < l.length → cs.toList[i]? = some (.int .u8 ((l.getD i 0 : Nat) : Int)) := by
    intro i hi
    have h2 := hx i (by omega)
    rw [c1, Nat.mul_one, List.getElem?_eq_getElem (by omega)] at h2
    obtain ⟨c, h3, h4, _⟩ := DataW.trod_int Go.Proofs.Tryz.underlying5 h2
    have h5 : ((cs.toList.drop i).take 1)[0]? = some (.int .u8 c) := by rw [h3]; rfl
    have h6 : cs.toList[i]? = some (.int .u8 c) := by simpa [List.getElem?_take, List.getElem?_drop] using h5
    have h7 := congrArg (fun l => l[i]?) hxs
    simp only [List.getElem?_map, List.getElem?_eq_getElem (show i < xs.length by omega), List.getElem?_eq_getElem hi, Option.map_some, Option.some.injEq] at h7
    rw [h4] at h7
    have h8 : c = ((l.getD i 0 : Nat) : Int) := by
      rw [List.getD_eq_getElem?_getD, List.getElem?_eq_getElem hi]
      simpa [litI] using h7
    rw [h6, h8]
  have hcell : ∀ i, i < l.length → W.cell? ⟨g, i, none⟩ = some (.int .u8 ((l.getD i 0 : Nat) : Int)) := by
    intro i hi
    rw [World.var?_cell hg0 hv0 i, ← Array.getElem?_toList]
    exact key i hi
  refine ⟨fun i x hx => ?_, ?_⟩
  · have hi : i < l.length := by
      have := (List.getElem?_eq_some_iff.1 hx).1
      rwa [List.length_map] at this
    rw [List.getElem?_map, List.getElem?_eq_getElem hi] at hx
    cases hx
    refine ⟨_, hcell i hi, fun φ => ?_⟩
    rw [List.getD_eq_getElem?_getD, List.getElem?_eq_getElem hi]
    exact .int _ _
  · have h3 := hcell 0 hl0
    unfold World.cell? at h3
    split at h3
    · rename_i hc
      exact (Array.getElem?_eq_some_iff.1 hc).1
    · cases h3
theorem sizes_laid {W : World} (h : laidMetH Go.Proofs.Tryz.prog laidL W) : ∃ φ hp, Imp W φ hp ∧ Tabs hp := by
  rw [MakeChecks.laidMetH_plain _ _ _ (by kernel_rfl)] at h
  obtain ⟨ps, ⟨g0, t0, cs0, f0, p0, q0, hg0, ht0, hv0, hd0, ⟨g1, t1, cs1, f1, p1, q1, hg1, ht1, hv1, hd1, _, _⟩, _⟩, _, _⟩ := h
  obtain rfl := Option.some.inj ((show Go.Proofs.Tryz.prog.globalNamed "math/bits.deBruijn32tab" = some 3 by kernel_rfl).symm.trans hg0)
  obtain rfl := Option.some.inj ((show (Go.Proofs.Tryz.prog.globals[3]?).map (·.type) = some 315 by kernel_rfl).symm.trans ht0)
  obtain rfl := Option.some.inj ((show Go.Proofs.Tryz.prog.globalNamed "math/bits.deBruijn64tab" = some 2 by kernel_rfl).symm.trans hg1)
  obtain rfl := Option.some.inj ((show (Go.Proofs.Tryz.prog.globals[2]?).map (·.type) = some 302 by kernel_rfl).symm.trans ht1)
  obtain ⟨a0, b0⟩ := table_cells Go.Proofs.Tryz.underlying315 (show _ = tzL.length by kernel_rfl) rfl laid_lits (by decide) hg0 hv0 hd0
  obtain ⟨a1, b1⟩ := table_cells Go.Proofs.Tryz.underlying302 (show _ = tzL64.length by kernel_rfl) rfl laid_lits64 (by decide) hg1 hv1 hd1
  obtain ⟨φ, hp, im, h0, h1⟩ := Imp.table23 (cs := tzC64) (ds := tzC) a1 b1 a0 b0
  exact ⟨φ, hp, im, h1, h0⟩
end Go.Am

namespace Go.Am
/-- All heaps, the greatest first, of at most so many cards, each of at most mx. -/
def pt : Nat → Nat → Nat → List (List Nat)
  | 0, _, _ => [[]]
  | f + 1, mx, left => [] :: (List.range (min mx left)).flatMap fun a => (pt f (a + 1) (left - (a + 1))).map ((a + 1) :: ·)
/-- The greatest first, none empty. -/
def Hps (p : List Nat) : Prop := p.Pairwise (fun a b => b ≤ a) ∧ ∀ x ∈ p, 1 ≤ x
theorem pt_mem : ∀ (f mx left : Nat) (p : List Nat), p.length ≤ f → Hps p → (∀ x ∈ p, x ≤ mx) → p.sum ≤ left → p ∈ pt f mx left := by
  intro f
  induction f with
  | zero => intro mx left p hl _ _ _; rw [List.length_eq_zero_iff.1 (by omega : p.length = 0)]; exact List.mem_singleton.2 rfl
  | succ f ih =>
    intro mx left p hl hp hm hs
    cases p with
    | nil => exact List.mem_cons_self
    | cons a p =>
      obtain ⟨h1, h2⟩ := hp
      rw [List.pairwise_cons] at h1
      have ha := h2 a List.mem_cons_self
      have hma := hm a List.mem_cons_self
      rw [List.sum_cons] at hs
      obtain ⟨k, rfl⟩ : ∃ k, a = k + 1 := ⟨a - 1, by omega⟩
      refine List.mem_cons_of_mem _ (List.mem_flatMap.2 ⟨k, List.mem_range.2 (by omega), List.mem_map.2 ⟨p, ?_, rfl⟩⟩)
      exact ih (k + 1) (left - (k + 1)) p (by simpa using hl) ⟨h1.2, fun x hx => h2 x (List.mem_cons_of_mem _ hx)⟩ (fun x hx => h1.1 x hx) (by omega)
def parts9 : List (List Nat) := (pt 9 9 9).filter fun p => !p.isEmpty
theorem len_sum : ∀ (p : List Nat), (∀ x ∈ p, 1 ≤ x) → p.length ≤ p.sum := by
  intro p
  induction p with
  | nil => intro _; exact Nat.le_refl _
  | cons a p ih =>
    intro h
    have := ih fun x hx => h x (List.mem_cons_of_mem _ hx)
    have := h a List.mem_cons_self
    rw [List.length_cons, List.sum_cons]; omega
theorem mem_sum : ∀ (p : List Nat), ∀ x ∈ p, x ≤ p.sum := by
  intro p
  induction p with
  | nil => intro x hx; cases hx
  | cons a p ih =>
    intro x hx
    rw [List.sum_cons]
    rcases List.mem_cons.1 hx with rfl | hx
    · omega
    · have := ih x hx; omega
theorem parts9_mem {p : List Nat} (hp : Hps p) (hne : p ≠ []) (hs : p.sum ≤ 9) : p ∈ parts9 := by
  refine List.mem_filter.2 ⟨pt_mem 9 9 9 p (Nat.le_trans (len_sum p hp.2) hs) hp (fun x hx => Nat.le_trans (mem_sum p x hx) hs) hs, ?_⟩
  cases p with
  | nil => exact absurd rfl hne
  | cons a p => rfl
end Go.Am

namespace Go.Am
theorem run9_0 : ((parts9.drop 0).take 16).all okTurned = true := by kernel_rfl
theorem run9_1 : ((parts9.drop 16).take 16).all okTurned = true := by kernel_rfl
theorem run9_2 : ((parts9.drop 32).take 16).all okTurned = true := by kernel_rfl
theorem run9_3 : ((parts9.drop 48).take 16).all okTurned = true := by kernel_rfl
theorem run9_4 : ((parts9.drop 64).take 16).all okTurned = true := by kernel_rfl
theorem run9_5 : ((parts9.drop 80).take 16).all okTurned = true := by kernel_rfl
theorem parts9_cut : parts9 = (parts9.drop 0).take 16 ++ ((parts9.drop 16).take 16 ++ ((parts9.drop 32).take 16 ++ ((parts9.drop 48).take 16 ++ ((parts9.drop 64).take 16 ++ (parts9.drop 80).take 16)))) := by decide +kernel
theorem okTurned9 {p : List Nat} (hp : p ∈ parts9) (hne : p ≠ []) : runsG Go.Proofs.Tryz.prog 4000 11 [.slc 0 0 p.length 1 false] [natI p] [] (chkTupO 1 1 (natI (turnH p)) (.int .i64 0)) = true := by
  have h : okTurned p = true := by
    rw [parts9_cut] at hp
    rcases List.mem_append.1 hp with hp | hp
    · exact List.all_eq_true.1 run9_0 p hp
    rcases List.mem_append.1 hp with hp | hp
    · exact List.all_eq_true.1 run9_1 p hp
    rcases List.mem_append.1 hp with hp | hp
    · exact List.all_eq_true.1 run9_2 p hp
    rcases List.mem_append.1 hp with hp | hp
    · exact List.all_eq_true.1 run9_3 p hp
    rcases List.mem_append.1 hp with hp | hp
    · exact List.all_eq_true.1 run9_4 p hp
    · exact List.all_eq_true.1 run9_5 p hp
  unfold okTurned at h
  cases p with
  | nil => exact absurd rfl hne
  | cons a p => rw [show (a :: p).isEmpty = false from rfl, Bool.false_or] at h; exact h
theorem turned9_c {h : AHeap} {v : AV} {p : List Nat} (hp : p ∈ parts9) (hne : p ≠ []) (hv : Row h v (nI p)) : ACalls Go.Proofs.Tryz.prog 11 [v] h (fun r h' => ∃ a, r = .tup [a, .int .i64 0] ∧ St h h' [⟨a, 1, natI (turnH p), true⟩]) :=
  over_tupO mixed (okTurned9 hp hne) [⟨v, 1, natI p, natI p⟩] rfl rfl (okGs_cons (okG_plain hv (by decide) (natI_ne hne) (natI_plain p)) okGs_nil) hgs_nil rfl (imG_cons (imG_slc rfl (by decide) (by rw [natI_len, Nat.mul_one])) imG_nil)
end Go.Am

/-
  Greene, Schensted: rising and falling rows by insertion.
  Conditions: none.
-/

/-! Rows of numbers, coloured; exchanges of neighbours that keep how many cards some rising rows can have. -/
namespace Go.Gr

abbrev Rise (l : List Int) : Prop := l.Pairwise (· < ·)

/-- The cards of a colour. -/
def rowC (c : Nat) (ps : List (Int × Nat)) : List Int := (ps.filter (fun p => p.2 == c)).map (·.1)

theorem rowC_append (c : Nat) (ps qs : List (Int × Nat)) : rowC c (ps ++ qs) = rowC c ps ++ rowC c qs := by simp [rowC]
theorem rowC_same (c : Nat) (x : Int) (ps : List (Int × Nat)) : rowC c ((x, c) :: ps) = x :: rowC c ps := by simp [rowC]
theorem rowC_other {c d : Nat} (h : d ≠ c) (x : Int) (ps : List (Int × Nat)) : rowC c ((x, d) :: ps) = rowC c ps := by simp [rowC, h]
theorem rowC_cons (c d : Nat) (x : Int) (ps : List (Int × Nat)) : rowC c ((x, d) :: ps) = if d = c then x :: rowC c ps else rowC c ps := by
  by_cases h : d = c
  · subst h; rw [rowC_same, if_pos rfl]
  · rw [rowC_other h, if_neg h]

/-- Some rows that rise, k at most, have n cards together. -/
def Fam (k : Nat) (w : List Int) (n : Nat) : Prop :=
  ∃ ps : List (Int × Nat), ps.map (·.1) = w ∧ (∀ c, c < k → Rise (rowC c ps)) ∧ ps.countP (fun p => decide (p.2 < k)) = n

theorem rise_mid {A B : List Int} {m : Int} : Rise (A ++ m :: B) ↔ Rise A ∧ (∀ a ∈ A, a < m) ∧ Rise B ∧ ∀ b ∈ B, m < b := by
  simp only [Rise, List.pairwise_append, List.pairwise_cons, List.mem_cons]
  constructor
  · rintro ⟨h1, ⟨h2, h3⟩, h4⟩
    exact ⟨h1, fun a ha => h4 a ha m (.inl rfl), h3, h2⟩
  · rintro ⟨h1, h2, h3, h4⟩
    refine ⟨h1, ⟨h4, h3⟩, ?_⟩
    rintro a ha b (rfl | hb)
    · exact h2 a ha
    · have := h2 a ha; have := h4 b hb; omega
theorem rise_mid2 {A B : List Int} {m q : Int} : Rise (A ++ m :: q :: B) ↔ Rise A ∧ (∀ a ∈ A, a < m) ∧ m < q ∧ Rise B ∧ ∀ b ∈ B, q < b := by
  rw [rise_mid]
  simp only [Rise, List.pairwise_cons, List.mem_cons]
  constructor
  · rintro ⟨h1, h2, ⟨h3, h4⟩, h5⟩
    exact ⟨h1, h2, h5 q (.inl rfl), h4, h3⟩
  · rintro ⟨h1, h2, h3, h4, h5⟩
    refine ⟨h1, h2, ⟨h5, h4⟩, ?_⟩
    rintro b (rfl | hb)
    · exact h3
    · have := h5 b hb; omega

theorem map_split3 {ps : List (Int × Nat)} {u v : List Int} {a b c : Int} (h : ps.map (·.1) = u ++ [a, b, c] ++ v) : ∃ pu pv ca cb cc, ps = pu ++ (a, ca) :: (b, cb) :: (c, cc) :: pv ∧ pu.map (·.1) = u ∧ pv.map (·.1) = v := by
  rw [List.append_assoc] at h
  obtain ⟨pu, r, rfl, h1, h2⟩ := List.map_eq_append_iff.1 h
  match r, h2 with
  | (a', ca) :: (b', cb) :: (c', cc) :: pv, h2 =>
    simp only [List.map_cons, List.cons_append, List.nil_append, List.cons.injEq] at h2
    obtain ⟨rfl, rfl, rfl, h3⟩ := h2
    exact ⟨pu, pv, ca, cb, cc, rfl, h1, h3⟩
theorem map_split2 {ps : List (Int × Nat)} {u v : List Int} {a b : Int} (h : ps.map (·.1) = u ++ [a, b] ++ v) : ∃ pu pv ca cb, ps = pu ++ (a, ca) :: (b, cb) :: pv ∧ pu.map (·.1) = u ∧ pv.map (·.1) = v := by
  rw [List.append_assoc] at h
  obtain ⟨pu, r, rfl, h1, h2⟩ := List.map_eq_append_iff.1 h
  match r, h2 with
  | (a', ca) :: (b', cb) :: pv, h2 =>
    simp only [List.map_cons, List.cons_append, List.nil_append, List.cons.injEq] at h2
    obtain ⟨rfl, rfl, h3⟩ := h2
    exact ⟨pu, pv, ca, cb, rfl, h1, h3⟩

/-- Neighbours of different colours may be exchanged. -/
theorem swap_rows {k : Nat} {pu pv : List (Int × Nat)} {a b : Int} {ca cb : Nat} (hne : ca ≠ cb ∨ k ≤ ca) (h : ∀ c, c < k → Rise (rowC c (pu ++ (a, ca) :: (b, cb) :: pv))) : ∀ c, c < k → Rise (rowC c (pu ++ (b, cb) :: (a, ca) :: pv)) := by
  intro c hc
  have h1 := h c hc
  simp only [rowC_append, rowC_cons] at h1 ⊢
  by_cases h2 : ca = c <;> by_cases h3 : cb = c
  · omega
  · simp only [if_pos h2, if_neg h3] at h1 ⊢; exact h1
  · simp only [if_neg h2, if_pos h3] at h1 ⊢; exact h1
  · simp only [if_neg h2, if_neg h3] at h1 ⊢; exact h1

theorem Fam.sort {k n : Nat} {u v : List Int} {a b : Int} (hf : Fam k (u ++ [a, b] ++ v) n) (hab : b < a) : Fam k (u ++ [b, a] ++ v) n := by
  obtain ⟨ps, hm, hr, hn⟩ := hf
  obtain ⟨pu, pv, ca, cb, rfl, h1, h2⟩ := map_split2 hm
  refine ⟨pu ++ (b, cb) :: (a, ca) :: pv, by simp [h1, h2], swap_rows ?_ hr, ?_⟩
  · by_cases hk : k ≤ ca
    · exact .inr hk
    · refine .inl ?_
      rintro rfl
      have := hr ca (by omega)
      rw [rowC_append, rowC_same, rowC_same, rise_mid2] at this
      omega
  · rw [← hn]
    simp only [List.countP_append, List.countP_cons]
    omega

/-- Two colours exchanged. -/
def swapC (c d : Nat) (p : Int × Nat) : Int × Nat := (p.1, if p.2 = c then d else if p.2 = d then c else p.2)
theorem rowC_swap (c d e : Nat) (ps : List (Int × Nat)) : rowC e (ps.map (swapC c d)) = rowC (if e = c then d else if e = d then c else e) ps := by
  induction ps with
  | nil => rfl
  | cons p ps ih =>
    obtain ⟨x, q⟩ := p
    simp only [List.map_cons, swapC, rowC_cons, ih]
    have hiff : ((if q = c then d else if q = d then c else q) = e) ↔ (q = if e = c then d else if e = d then c else e) := by
      split <;> split <;> (try split) <;> (try split) <;> omega
    simp only [hiff]
theorem count_swap {c d k : Nat} (hc : c < k) (hd : d < k) (ps : List (Int × Nat)) : (ps.map (swapC c d)).countP (fun p => decide (p.2 < k)) = ps.countP (fun p => decide (p.2 < k)) := by
  induction ps with
  | nil => rfl
  | cons p ps ih =>
    simp only [List.map_cons, List.countP_cons, ih]
    have hiff : ((swapC c d p).2 < k) ↔ (p.2 < k) := by
      simp only [swapC]
      split
      · omega
      · split <;> omega
    simp only [hiff]

theorem Fam.knuthA {k n : Nat} {u v : List Int} {x y z : Int} (hxy : x < y) (hyz : y < z) (hf : Fam k (u ++ [x, z, y] ++ v) n) : Fam k (u ++ [z, x, y] ++ v) n := by
  obtain ⟨ps, hm, hr, hn⟩ := hf
  obtain ⟨pu, pv, cx, cz, cy, rfl, h1, h2⟩ := map_split3 hm
  by_cases hne : cx ≠ cz ∨ k ≤ cx
  · refine ⟨pu ++ (z, cz) :: (x, cx) :: (y, cy) :: pv, by simp [h1, h2], swap_rows hne hr, ?_⟩
    rw [← hn]
    simp only [List.countP_append, List.countP_cons]
    omega
  · have he : cx = cz := by omega
    have hk : cx < k := by omega
    subst he
    have hrc := hr cx hk
    by_cases hcy : cy = cx
    · subst hcy
      rw [rowC_append, rowC_same, rowC_same, rowC_same, rise_mid2] at hrc
      have := hrc.2.2.2.2 y (by simp)
      omega
    · rw [rowC_append, rowC_same, rowC_same, rowC_other hcy, rise_mid2] at hrc
      by_cases hk2 : cy < k
      · have hrd := hr cy hk2
        rw [rowC_append, rowC_other (Ne.symm hcy), rowC_other (Ne.symm hcy), rowC_same, rise_mid] at hrd
        refine ⟨pu ++ (z, cy) :: (x, cx) :: (y, cx) :: pv.map (swapC cx cy), by simp [h1, ← h2, Function.comp_def, swapC], ?_, ?_⟩
        · intro c hc
          have hro := hr c hc
          by_cases e1 : c = cx
          · subst e1
            rw [rowC_append, rowC_other hcy, rowC_same, rowC_same, rowC_swap, if_pos rfl, rise_mid2]
            exact ⟨hrc.1, hrc.2.1, hxy, hrd.2.2.1, hrd.2.2.2⟩
          · by_cases e2 : c = cy
            · subst e2
              rw [rowC_append, rowC_same, rowC_other (Ne.symm hcy), rowC_other (Ne.symm hcy), rowC_swap, if_neg hcy, if_pos rfl, rise_mid]
              exact ⟨hrd.1, fun a ha => by have := hrd.2.1 a ha; omega, hrc.2.2.2.1, hrc.2.2.2.2⟩
            · rw [rowC_append, rowC_other (Ne.symm e1), rowC_other (Ne.symm e1), rowC_other (Ne.symm e2)] at hro
              rw [rowC_append, rowC_other (Ne.symm e2), rowC_other (Ne.symm e1), rowC_other (Ne.symm e1), rowC_swap, if_neg e1, if_neg e2]
              exact hro
        · rw [← hn]
          simp only [List.countP_append, List.countP_cons, count_swap hk hk2, hk, hk2]
      · refine ⟨pu ++ (z, cy) :: (x, cx) :: (y, cx) :: pv, by simp [h1, h2], ?_, ?_⟩
        · intro c hc
          have hro := hr c hc
          have e2 : cy ≠ c := by omega
          by_cases e1 : c = cx
          · subst e1
            rw [rowC_append, rowC_other hcy, rowC_same, rowC_same, rise_mid2]
            exact ⟨hrc.1, hrc.2.1, hxy, hrc.2.2.2.1, fun b hb => by have := hrc.2.2.2.2 b hb; omega⟩
          · rw [rowC_append, rowC_other (Ne.symm e1), rowC_other (Ne.symm e1), rowC_other e2] at hro
            rw [rowC_append, rowC_other e2, rowC_other (Ne.symm e1), rowC_other (Ne.symm e1)]
            exact hro
        · rw [← hn]
          simp only [List.countP_append, List.countP_cons, hk, hk2]
          simp

/-- Backwards, and with signs changed. -/
def rc (w : List Int) : List Int := (w.map (fun x => -x)).reverse
theorem rc_rc (w : List Int) : rc (rc w) = w := by simp [rc, List.map_reverse, List.map_map, Function.comp_def]
theorem rise_rc {w : List Int} (h : Rise w) : Rise (rc w) := by
  simp only [rc, Rise, List.pairwise_reverse, List.pairwise_map]
  exact h.imp (by intros; omega)
theorem rowC_rc (c : Nat) (ps : List (Int × Nat)) : rowC c (ps.map (fun p => (-p.1, p.2))).reverse = rc (rowC c ps) := by
  simp only [rowC, rc, List.filter_reverse, List.filter_map, List.map_reverse, List.map_map]
  rfl
theorem Fam.rc {k n : Nat} {w : List Int} (hf : Fam k w n) : Fam k (rc w) n := by
  obtain ⟨ps, hm, hr, hn⟩ := hf
  refine ⟨(ps.map (fun p => (-p.1, p.2))).reverse, ?_, ?_, ?_⟩
  · simp [← hm, Go.Gr.rc, List.map_reverse, List.map_map, Function.comp_def]
  · intro c hc
    rw [rowC_rc]
    exact rise_rc (hr c hc)
  · rw [← hn, List.countP_reverse, List.countP_map]
    rfl

theorem Fam.knuthB {k n : Nat} {u v : List Int} {x y z : Int} (hxy : x < y) (hyz : y < z) (hf : Fam k (u ++ [y, x, z] ++ v) n) : Fam k (u ++ [y, z, x] ++ v) n := by
  have h1 := hf.rc
  have e1 : Go.Gr.rc (u ++ [y, x, z] ++ v) = Go.Gr.rc v ++ [-z, -x, -y] ++ Go.Gr.rc u := by simp [Go.Gr.rc]
  have e2 : Go.Gr.rc (u ++ [y, z, x] ++ v) = Go.Gr.rc v ++ [-x, -z, -y] ++ Go.Gr.rc u := by simp [Go.Gr.rc]
  rw [e1] at h1
  have h2 := Fam.knuthA (by omega) (by omega) h1
  rw [← e2] at h2
  simpa [rc_rc] using h2.rc

/-- Words that lead to the same table. -/
inductive Kn : List Int → List Int → Prop
  | refl (w) : Kn w w
  | a (u v) {x y z} : x < y → y < z → Kn (u ++ [x, z, y] ++ v) (u ++ [z, x, y] ++ v)
  | b (u v) {x y z} : x < y → y < z → Kn (u ++ [y, x, z] ++ v) (u ++ [y, z, x] ++ v)
  | symm {w w'} : Kn w w' → Kn w' w
  | trans {w w' w''} : Kn w w' → Kn w' w'' → Kn w w''

theorem Kn.ctx {w w' : List Int} (h : Kn w w') (p q : List Int) : Kn (p ++ w ++ q) (p ++ w' ++ q) := by
  induction h with
  | refl w => exact .refl _
  | a u v h1 h2 => have := Kn.a (p ++ u) (v ++ q) h1 h2; simpa using this
  | b u v h1 h2 => have := Kn.b (p ++ u) (v ++ q) h1 h2; simpa using this
  | symm _ ih => exact .symm ih
  | trans _ _ ih1 ih2 => exact .trans ih1 ih2
theorem Kn.pre {w w' : List Int} (h : Kn w w') (p : List Int) : Kn (p ++ w) (p ++ w') := by simpa using h.ctx p []
theorem Kn.post {w w' : List Int} (h : Kn w w') (q : List Int) : Kn (w ++ q) (w' ++ q) := by simpa using h.ctx [] q

theorem Kn.rev {w w' : List Int} (h : Kn w w') : Kn w.reverse w'.reverse := by
  induction h with
  | refl w => exact .refl _
  | a u v h1 h2 => have := Kn.symm (Kn.b v.reverse u.reverse h1 h2); simpa using this
  | b u v h1 h2 => have := Kn.symm (Kn.a v.reverse u.reverse h1 h2); simpa using this
  | symm _ ih => exact .symm ih
  | trans _ _ ih1 ih2 => exact .trans ih1 ih2

theorem Kn.fam {w w' : List Int} (h : Kn w w') (k n : Nat) : Fam k w n ↔ Fam k w' n := by
  induction h with
  | refl w => exact Iff.rfl
  | @a u v x y z h1 h2 =>
    refine ⟨Fam.knuthA h1 h2, fun hf => ?_⟩
    have := Fam.sort (u := u) (v := y :: v) (a := z) (b := x) (by simpa using hf) (by omega)
    simpa using this
  | @b u v x y z h1 h2 =>
    refine ⟨Fam.knuthB h1 h2, fun hf => ?_⟩
    have := Fam.sort (u := u ++ [y]) (v := v) (a := z) (b := x) (by simpa using hf) (by omega)
    simpa using this
  | symm _ ih => exact ih.symm
  | trans _ _ ih1 ih2 => exact ih1.trans ih2

end Go.Gr

/-! Greene's theorem: how many cards some rising, or falling, rows of a pack can have together: by the table of the pack. -/
namespace Go.Gr

/-- A card put into a row: what it replaces. -/
def bump : List Int → Int → Option (Int × List Int)
  | [], _ => none
  | b :: R, c => if b < c then (bump R c).map (fun p => (p.1, b :: p.2)) else some (b, c :: R)

/-- A card put into a table. -/
def ins : List (List Int) → Int → List (List Int)
  | [], c => [[c]]
  | R :: T, c => match bump R c with
    | none => (R ++ [c]) :: T
    | some (b, R') => R' :: ins T b

def insAll (w : List Int) : List (List Int) := w.foldl ins []
theorem insAll_snoc (w : List Int) (c : Int) : insAll (w ++ [c]) = ins (insAll w) c := by simp [insAll]

/-- The word of a table: from the last row to the first. -/
def wordT (T : List (List Int)) : List Int := T.reverse.flatten
theorem wordT_cons (R : List Int) (T : List (List Int)) : wordT (R :: T) = wordT T ++ R := by simp [wordT]

theorem bump_none {R : List Int} {c : Int} (h : bump R c = none) : ∀ x ∈ R, x < c := by
  induction R with
  | nil => simp
  | cons b R ih =>
    unfold bump at h
    split at h
    · rename_i hb
      simp only [Option.map_eq_none_iff] at h
      intro x hx
      rcases List.mem_cons.1 hx with rfl | hx
      · exact hb
      · exact ih h x hx
    · cases h

theorem bump_perm {R : List Int} {c b : Int} {R' : List Int} (h : bump R c = some (b, R')) : (R ++ [c]).Perm (b :: R') := by
  induction R generalizing R' with
  | nil => cases h
  | cons r R ih =>
    unfold bump at h
    split at h
    · cases hb : bump R c with
      | none => rw [hb] at h; cases h
      | some p =>
        obtain ⟨b1, R1⟩ := p
        rw [hb] at h
        simp only [Option.map_some, Option.some.injEq, Prod.mk.injEq] at h
        obtain ⟨rfl, rfl⟩ := h
        exact ((ih hb).cons r).trans (List.Perm.swap _ _ _)
    · cases h
      simp only [List.cons_append]
      exact List.Perm.cons _ List.perm_append_comm

theorem Kn.left {r c : Int} (hc : c < r) : ∀ (M : List Int), Rise (r :: M) → Kn (r :: M ++ [c]) (r :: c :: M) := by
  intro M
  induction M generalizing r with
  | nil => intro _; exact .refl _
  | cons m M ih =>
    intro hr
    have h1 : Rise (m :: M) := (List.pairwise_cons.1 hr).2
    have hrm : r < m := (List.pairwise_cons.1 hr).1 m (by simp)
    have h2 := (ih (by omega) h1).pre [r]
    have h3 := Kn.symm (Kn.b [] M hc hrm)
    exact Kn.trans (by simpa using h2) (by simpa using h3)

theorem bump_head {R : List Int} {c b : Int} {R' : List Int} (hr : Rise R) (h : bump R c = some (b, R')) : ∃ x L, R' = x :: L ∧ x ≤ c ∧ (x = c ∨ ∃ L', R = x :: L') := by
  cases R with
  | nil => cases h
  | cons r R =>
    unfold bump at h
    split at h
    · rename_i hlt
      cases hb : bump R c with
      | none => rw [hb] at h; cases h
      | some p =>
        rw [hb] at h
        simp only [Option.map_some, Option.some.injEq, Prod.mk.injEq] at h
        exact ⟨r, p.2, h.2.symm, by omega, .inr ⟨R, rfl⟩⟩
    · cases h
      exact ⟨c, R, rfl, Int.le_refl _, .inl rfl⟩

theorem bump_lt {R : List Int} {c b : Int} {R' : List Int} (hnc : c ∉ R) (h : bump R c = some (b, R')) : c < b ∧ b ∈ R := by
  induction R generalizing R' with
  | nil => cases h
  | cons r R ih =>
    simp only [List.mem_cons, not_or] at hnc
    unfold bump at h
    split at h
    · cases hb : bump R c with
      | none => rw [hb] at h; cases h
      | some p =>
        obtain ⟨b1, R1⟩ := p
        rw [hb] at h
        simp only [Option.map_some, Option.some.injEq, Prod.mk.injEq] at h
        obtain ⟨rfl, rfl⟩ := h
        have := ih hnc.2 hb
        exact ⟨this.1, by simp [this.2]⟩
    · cases h
      exact ⟨by omega, by simp⟩

theorem Kn.bump {R : List Int} {c b : Int} {R' : List Int} (hr : Rise R) (hnc : c ∉ R) (h : Go.Gr.bump R c = some (b, R')) : Kn (R ++ [c]) (b :: R') := by
  induction R generalizing R' with
  | nil => cases h
  | cons r R ih =>
    have hnc' := hnc
    simp only [List.mem_cons, not_or] at hnc'
    have hr1 : Rise R := (List.pairwise_cons.1 hr).2
    unfold Go.Gr.bump at h
    split at h
    · rename_i hlt
      cases hb : Go.Gr.bump R c with
      | none => rw [hb] at h; cases h
      | some p =>
        obtain ⟨b1, R1⟩ := p
        rw [hb] at h
        simp only [Option.map_some, Option.some.injEq, Prod.mk.injEq] at h
        obtain ⟨rfl, rfl⟩ := h
        have h1 := (ih hr1 hnc'.2 hb).pre [r]
        obtain ⟨x, L, rfl, hx, hx2⟩ := bump_head hr1 hb
        have hcb := (bump_lt hnc'.2 hb).1
        have hrx : r < x := by
          rcases hx2 with rfl | ⟨L', rfl⟩
          · exact hlt
          · exact (List.pairwise_cons.1 hr).1 x (by simp)
        have h2 := Kn.a [] L (x := r) (y := x) (z := b1) hrx (by omega)
        exact Kn.trans (by simpa using h1) (by simpa using h2)
    · cases h
      exact Kn.left (by omega) R hr

/-- Each row rises. -/
def Rows (T : List (List Int)) : Prop := ∀ R ∈ T, Rise R

theorem bump_rise {R : List Int} {c b : Int} {R' : List Int} (hr : Rise R) (hnc : c ∉ R) (h : Go.Gr.bump R c = some (b, R')) : Rise R' := by
  induction R generalizing R' with
  | nil => cases h
  | cons r R ih =>
    have hnc' := hnc
    simp only [List.mem_cons, not_or] at hnc'
    obtain ⟨hr2, hr1⟩ := List.pairwise_cons.1 hr
    unfold Go.Gr.bump at h
    split at h
    · rename_i hlt
      cases hb : Go.Gr.bump R c with
      | none => rw [hb] at h; cases h
      | some p =>
        obtain ⟨b1, R1⟩ := p
        rw [hb] at h
        simp only [Option.map_some, Option.some.injEq, Prod.mk.injEq] at h
        obtain ⟨rfl, rfl⟩ := h
        refine List.pairwise_cons.2 ⟨?_, ih hr1 hnc'.2 hb⟩
        intro x hx
        have hm := (bump_perm hb).mem_iff.2 (List.mem_cons_of_mem _ hx)
        rcases List.mem_append.1 hm with hm | hm
        · exact hr2 x hm
        · simp at hm; omega
    · cases h
      refine List.pairwise_cons.2 ⟨?_, hr1⟩
      intro x hx
      have := hr2 x hx
      omega

theorem ins_perm (T : List (List Int)) (c : Int) : (wordT (ins T c)).Perm (wordT T ++ [c]) := by
  induction T generalizing c with
  | nil => simp [ins, wordT]
  | cons R T ih =>
    unfold ins
    cases hb : bump R c with
    | none => simp only [wordT_cons, List.append_assoc]; exact .refl _
    | some p =>
      obtain ⟨b, R'⟩ := p
      simp only [wordT_cons, List.append_assoc]
      have h1 := (ih b).append_right R'
      refine h1.trans ?_
      rw [List.append_assoc]
      exact List.Perm.append_left _ (bump_perm hb).symm

theorem ins_rows {T : List (List Int)} {c : Int} (hr : Rows T) (hnd : (wordT T ++ [c]).Nodup) : Rows (ins T c) ∧ Kn (wordT T ++ [c]) (wordT (ins T c)) := by
  induction T generalizing c with
  | nil => exact ⟨by simp [Rows, ins], by simp [ins, wordT]; exact .refl _⟩
  | cons R T ih =>
    have hR : Rise R := hr R (by simp)
    have hT : Rows T := fun S hS => hr S (by simp [hS])
    rw [wordT_cons, List.append_assoc] at hnd
    have hnc : c ∉ R := by
      have h1 := (List.nodup_append.1 hnd).2.1
      have h2 := (List.nodup_append.1 h1).2.2
      intro hc
      exact h2 c hc c (by simp) rfl
    unfold ins
    cases hb : bump R c with
    | none =>
      simp only [wordT_cons, List.append_assoc]
      refine ⟨?_, .refl _⟩
      intro S hS
      rcases List.mem_cons.1 hS with rfl | hS
      · refine List.pairwise_append.2 ⟨hR, by simp, ?_⟩
        intro a ha b hb'
        simp at hb'; subst hb'
        exact bump_none hb a ha
      · exact hT S hS
    | some p =>
      obtain ⟨b, R'⟩ := p
      have hnd2 : (wordT T ++ [b]).Nodup := by
        have h1 : (wordT T ++ (b :: R')).Nodup := (List.Perm.append_left _ (bump_perm hb)).nodup_iff.1 hnd
        have h2 : (wordT T ++ [b]).Sublist (wordT T ++ (b :: R')) := List.Sublist.append_left (List.Sublist.cons_cons b (List.nil_sublist _)) _
        exact h2.nodup h1
      obtain ⟨h1, h2⟩ := ih hT hnd2
      refine ⟨?_, ?_⟩
      · intro S hS
        rcases List.mem_cons.1 hS with rfl | hS
        · exact bump_rise hR hnc hb
        · exact h1 S hS
      · simp only [wordT_cons, List.append_assoc]
        have h3 := (Kn.bump hR hnc hb).pre (wordT T)
        refine Kn.trans h3 ?_
        have h4 := h2.post R'
        simpa using h4

theorem insAll_ok {w : List Int} (hnd : w.Nodup) : Rows (insAll w) ∧ Kn w (wordT (insAll w)) ∧ (wordT (insAll w)).Perm w := by
  have h : ∀ r : List Int, r.reverse.Nodup → Rows (insAll r.reverse) ∧ Kn r.reverse (wordT (insAll r.reverse)) ∧ (wordT (insAll r.reverse)).Perm r.reverse := by
    intro r
    induction r with
    | nil => intro _; exact ⟨by simp [Rows, insAll], .refl _, .refl _⟩
    | cons c r ih =>
      intro hnd
      rw [List.reverse_cons] at hnd ⊢
      obtain ⟨h1, h2, h3⟩ := ih (List.nodup_append.1 hnd).1
      rw [insAll_snoc]
      have hnd2 : (wordT (insAll r.reverse) ++ [c]).Nodup := (h3.append_right [c]).nodup_iff.2 hnd
      obtain ⟨h4, h5⟩ := ins_rows h1 hnd2
      exact ⟨h4, (h2.post [c]).trans h5, (ins_perm _ _).trans (h3.append_right [c])⟩
  simpa using h w.reverse (by simpa using hnd)

/-- A row stands over another one. -/
def Over (R S : List Int) : Prop := S.length ≤ R.length ∧ ∀ j, j < S.length → R.getD j 0 < S.getD j 0
/-- A table in order. -/
def Tab : List (List Int) → Prop
  | [] => True
  | R :: T => R ≠ [] ∧ Rise R ∧ Over R (T.headD []) ∧ Tab T

/-- Where a card is put. -/
def pos (R : List Int) (c : Int) : Nat := R.findIdx (fun x => !decide (x < c))
theorem pos_le (R : List Int) (c : Int) : pos R c ≤ R.length := List.findIdx_le_length
theorem pos_nil (c : Int) : pos [] c = 0 := rfl
theorem pos_cons (b : Int) (R : List Int) (c : Int) : pos (b :: R) c = if b < c then pos R c + 1 else 0 := by
  simp only [pos, List.findIdx_cons]
  by_cases h : b < c <;> simp [h]
theorem pos_lt {R : List Int} {c : Int} {j : Nat} (h : j < pos R c) : R.getD j 0 < c := by
  induction R generalizing j with
  | nil => rw [pos_nil] at h; omega
  | cons b R ih =>
    rw [pos_cons] at h
    split at h
    · cases j with
      | zero => simpa
      | succ j => simpa using ih (by omega)
    · omega
theorem pos_at {R : List Int} {c : Int} (h : pos R c < R.length) : c ≤ R.getD (pos R c) 0 := by
  induction R with
  | nil => simp at h
  | cons b R ih =>
    rw [pos_cons] at h ⊢
    split
    · rename_i hb
      rw [if_pos hb] at h
      simpa using ih (by simpa using h)
    · simp; omega
theorem pos_unique {R : List Int} {c : Int} {k : Nat} (h1 : ∀ j, j < k → R.getD j 0 < c) (h2 : k < R.length → c ≤ R.getD k 0) (h3 : k ≤ R.length) : pos R c = k := by
  have h4 := pos_le R c
  rcases Nat.lt_trichotomy (pos R c) k with h | h | h
  · have := h1 _ h
    have := pos_at (R := R) (c := c) (by omega)
    omega
  · exact h
  · have := pos_lt h
    have := h2 (by omega)
    omega

theorem bump_pos (R : List Int) (c : Int) : bump R c = if pos R c = R.length then none else some (R.getD (pos R c) 0, R.set (pos R c) c) := by
  induction R with
  | nil => simp [bump, pos]
  | cons b R ih =>
    unfold bump
    rw [pos_cons]
    by_cases hb : b < c
    · simp only [if_pos hb, ih, List.length_cons]
      by_cases h : pos R c = R.length
      · simp [h]
      · simp [h]
    · simp [hb]

theorem getD_set {R : List Int} {i j : Nat} {c : Int} (hi : i < R.length) : (R.set i c).getD j 0 = if i = j then c else R.getD j 0 := by
  simp only [List.getD_eq_getElem?_getD, List.getElem?_set]
  by_cases h : i = j
  · subst h; simp [hi]
  · simp [h]
theorem getD_snoc {R : List Int} {c : Int} (j : Nat) : (R ++ [c]).getD j 0 = if j = R.length then c else R.getD j 0 := by
  simp only [List.getD_eq_getElem?_getD]
  rcases Nat.lt_trichotomy j R.length with h | h | h
  · rw [List.getElem?_append_left h, if_neg (by omega)]
  · subst h; simp
  · rw [List.getElem?_eq_none (by simp; omega), if_neg (by omega), List.getElem?_eq_none (by omega)]

theorem rise_getD {R : List Int} (h : Rise R) {i j : Nat} (hij : i < j) (hj : j < R.length) : R.getD i 0 < R.getD j 0 := by
  have := List.pairwise_iff_getElem.1 h i j (by omega) hj hij
  simpa [List.getD_eq_getElem?_getD, List.getElem?_eq_getElem hj, List.getElem?_eq_getElem (show i < R.length by omega)] using this

theorem Tab.rows {T : List (List Int)} (h : Tab T) : Rows T := by
  induction T with
  | nil => simp [Rows]
  | cons R T ih =>
    intro S hS
    rcases List.mem_cons.1 hS with rfl | hS
    · exact h.2.1
    · exact ih h.2.2.2 S hS

theorem ins_tab {T : List (List Int)} {c : Int} (ht : Tab T) (hnd : (wordT T ++ [c]).Nodup) : Tab (ins T c) := by
  induction T generalizing c with
  | nil => simp [ins, Tab, Over]
  | cons R T ih =>
    obtain ⟨hne, hR, hov, hT⟩ := ht
    rw [wordT_cons, List.append_assoc] at hnd
    have hnc : c ∉ R := by
      have h1 := (List.nodup_append.1 hnd).2.1
      have h2 := (List.nodup_append.1 h1).2.2
      intro hc
      exact h2 c hc c (by simp) rfl
    unfold ins
    cases hb : bump R c with
    | none =>
      refine ⟨by simp, ?_, ?_, hT⟩
      · refine List.pairwise_append.2 ⟨hR, by simp, ?_⟩
        intro a ha b hb'
        simp at hb'; subst hb'
        exact bump_none hb a ha
      · refine ⟨Nat.le_trans hov.1 (by simp), ?_⟩
        intro j hj
        have h1 := hov.1
        rw [getD_snoc, if_neg (by omega)]
        exact hov.2 j hj
    | some p =>
      obtain ⟨b, R'⟩ := p
      have hrise := bump_rise hR hnc hb
      obtain ⟨hcb, hbR⟩ := bump_lt hnc hb
      have hp := bump_perm hb
      have hb' := hb
      rw [bump_pos] at hb'
      split at hb'
      · cases hb'
      rename_i hpne
      have hplt : pos R c < R.length := by have := pos_le R c; omega
      simp only [Option.some.injEq, Prod.mk.injEq] at hb'
      obtain ⟨hbe, hR'⟩ := hb'
      have hnd2 : (wordT T ++ [b]).Nodup := by
        have h1 : (wordT T ++ (b :: R')).Nodup := (List.Perm.append_left _ hp).nodup_iff.1 hnd
        have h2 : (wordT T ++ [b]).Sublist (wordT T ++ (b :: R')) := List.Sublist.append_left (List.Sublist.cons_cons b (List.nil_sublist _)) _
        exact h2.nodup h1
      have hT2 := ih hT hnd2
      refine ⟨by rw [← hR']; simpa using hne, hrise, ?_, hT2⟩
      -- what the row below has at its head
      have hlen : R'.length = R.length := by rw [← hR']; simp
      have hat : ∀ j, R'.getD j 0 = if pos R c = j then c else R.getD j 0 := by intro j; rw [← hR']; exact getD_set hplt
      have hle : ∀ j, j ≤ pos R c → R'.getD j 0 < b := by
        intro j hj
        rw [hat]
        split
        · exact hcb
        · have := rise_getD hR (i := j) (j := pos R c) (by omega) hplt
          omega
      cases T with
      | nil =>
        simp only [ins, List.headD_cons]
        exact ⟨by rw [List.length_singleton]; omega, by intro j hj; simp at hj; subst hj; simpa using hle 0 (by omega)⟩
      | cons S T' =>
        simp only [List.headD_cons] at hov
        have hgt : ∀ j, pos R c < j → j < R.length → b < R.getD j 0 := by
          intro j h1 h2
          rw [← hbe]; exact rise_getD hR h1 h2
        have hSle : ∀ j, j < S.length → S.getD j 0 < b → j < pos R c := by
          intro j hj hlt
          have h1 := hov.2 j hj
          rcases Nat.lt_trichotomy j (pos R c) with h | h | h
          · exact h
          · subst h; omega
          · have := hgt j h (by have := hov.1; omega); omega
        have hlow : ∀ j, j < S.length → R'.getD j 0 < S.getD j 0 := by
          intro j hj
          have h1 := hov.2 j hj
          rw [hat]
          split
          · rename_i he; subst he; omega
          · exact h1
        simp only [ins]
        cases hb2 : bump S b with
        | none =>
          have hall := bump_none hb2
          simp only [List.headD_cons]
          have hsl : S.length ≤ pos R c := by
            cases Nat.lt_or_ge (pos R c) S.length with
            | inr h => exact h
            | inl h =>
              have h1 := hSle _ h (hall _ (by rw [List.getD_eq_getElem?_getD, List.getElem?_eq_getElem h]; exact List.getElem_mem h))
              omega
          refine ⟨by simp; omega, ?_⟩
          intro j hj
          simp at hj
          rw [getD_snoc (R := S)]
          split
          · exact hle j (by omega)
          · exact hlow j (by omega)
        | some p2 =>
          obtain ⟨b2, S'⟩ := p2
          simp only [List.headD_cons]
          rw [bump_pos] at hb2
          split at hb2
          · cases hb2
          rename_i hp2
          have hp2lt : pos S b < S.length := by have := pos_le S b; omega
          simp only [Option.some.injEq, Prod.mk.injEq] at hb2
          obtain ⟨_, rfl⟩ := hb2
          refine ⟨by have := hov.1; simp; omega, ?_⟩
          intro j hj
          simp at hj
          rw [getD_set hp2lt]
          split
          · rename_i he
            subst he
            refine hle _ ?_
            cases Nat.lt_or_ge (pos R c) (pos S b) with
            | inr h => exact h
            | inl h => have h1 := hSle _ (by omega) (pos_lt h); omega
          · exact hlow j hj

theorem insAll_tab {w : List Int} (hnd : w.Nodup) : Tab (insAll w) := by
  have h : ∀ r : List Int, r.reverse.Nodup → Tab (insAll r.reverse) := by
    intro r
    induction r with
    | nil => intro _; simp [insAll, Tab]
    | cons c r ih =>
      intro hnd
      rw [List.reverse_cons] at hnd ⊢
      have h1 := (List.nodup_append.1 hnd).1
      rw [insAll_snoc]
      exact (ins_tab (ih h1) (((insAll_ok h1).2.2.append_right [c]).nodup_iff.2 hnd))
  simpa using h w.reverse (by simpa using hnd)

end Go.Gr

/-! Greene's theorem: the rows, or columns, of the table of a pack tell how many cards some rising, or falling, rows have together. -/
namespace Go.Gr

theorem count_succ (k : Nat) (ps : List (Int × Nat)) : ps.countP (fun p => decide (p.2 < k + 1)) = ps.countP (fun p => decide (p.2 < k)) + (rowC k ps).length := by
  induction ps with
  | nil => rfl
  | cons p ps ih =>
    obtain ⟨x, q⟩ := p
    rw [List.countP_cons, List.countP_cons, ih, rowC_cons]
    by_cases h1 : q = k
    · subst h1; simp; omega
    · rw [if_neg h1]
      have : (q < k + 1) ↔ (q < k) := by omega
      simp only [this]
      omega
theorem count_le {ps : List (Int × Nat)} : ∀ {k : Nat}, (∀ c, c < k → (rowC c ps).length ≤ 1) → ps.countP (fun p => decide (p.2 < k)) ≤ k := by
  intro k
  induction k with
  | zero => intro _; simp
  | succ k ih =>
    intro h
    rw [count_succ]
    have := ih (fun c hc => h c (by omega))
    have := h k (by omega)
    omega
theorem rowC_sub (c : Nat) (ps : List (Int × Nat)) : (rowC c ps).Sublist (ps.map (·.1)) := List.filter_sublist.map _
theorem rowC_mono {c : Nat} {ps qs : List (Int × Nat)} (h : ps.Sublist qs) : (rowC c ps).Sublist (rowC c qs) := (h.filter _).map _
theorem rise_fall {l : List Int} (h1 : Rise l) (h2 : l.Pairwise (· > ·)) : l.length ≤ 1 := by
  match l, h1, h2 with
  | [], _, _ => simp
  | [a], _, _ => simp
  | a :: b :: l, h1, h2 =>
    have := (List.pairwise_cons.1 h1).1 b (by simp)
    have := (List.pairwise_cons.1 h2).1 b (by simp)
    omega
/-- Of cards that fall, k colours have one each, at most. -/
theorem count_fall {k : Nat} {ps : List (Int × Nat)} (h : (ps.map (·.1)).Pairwise (· > ·)) (hr : ∀ c, c < k → Rise (rowC c ps)) : ps.countP (fun p => decide (p.2 < k)) ≤ min k ps.length := by
  have h1 : ps.countP (fun p => decide (p.2 < k)) ≤ k := count_le fun c hc => rise_fall (hr c hc) (h.sublist (rowC_sub c ps))
  have h2 := List.countP_le_length (p := fun p : Int × Nat => decide (p.2 < k)) (l := ps)
  omega

/-- How many cards the columns have, k from each row. -/
def colSum (k : Nat) (T : List (List Int)) : Nat := (T.map (fun R => min k R.length)).sum
/-- How many cards the first k rows have. -/
def rowSum (k : Nat) (T : List (List Int)) : Nat := ((T.take k).map List.length).sum

theorem wordT_rev (T : List (List Int)) : (wordT T).reverse = (T.map List.reverse).flatten := by
  induction T with
  | nil => rfl
  | cons R T ih => rw [wordT_cons, List.reverse_append, ih]; rfl

theorem fallUp {k : Nat} {T : List (List Int)} (ht : Rows T) : ∀ {ps : List (Int × Nat)}, ps.map (·.1) = (T.map List.reverse).flatten → (∀ c, c < k → Rise (rowC c ps)) → ps.countP (fun p => decide (p.2 < k)) ≤ colSum k T := by
  induction T with
  | nil => intro ps hm _; simp at hm; subst hm; simp
  | cons R T ih =>
    intro ps hm hr
    rw [List.map_cons, List.flatten_cons] at hm
    obtain ⟨p1, p2, rfl, h1, h2⟩ := List.map_eq_append_iff.1 hm
    rw [List.countP_append]
    have ha := count_fall (k := k) (ps := p1) (by rw [h1, List.pairwise_reverse]; exact (ht R (by simp))) (fun c hc => (hr c hc).sublist (rowC_mono (List.sublist_append_left p1 p2)))
    have hb := ih (fun S hS => ht S (by simp [hS])) h2 (fun c hc => (hr c hc).sublist (rowC_mono (List.sublist_append_right p1 p2)))
    have hl : p1.length = R.length := by have := congrArg List.length h1; simpa using this
    rw [hl] at ha
    simp only [colSum, List.map_cons, List.sum_cons] at hb ⊢
    omega

/-- A column. -/
def colT (c : Nat) (T : List (List Int)) : List Int := T.filterMap (fun R => R[c]?)
theorem colT_gt {c : Nat} {T : List (List Int)} : ∀ {R : List Int}, Tab (R :: T) → ∀ x ∈ colT c T, c < R.length ∧ R.getD c 0 < x := by
  induction T with
  | nil => intro R _ x hx; simp [colT] at hx
  | cons S T ih =>
    intro R ht x hx
    have hov := ht.2.2.1
    simp only [List.headD_cons] at hov
    have key : c < S.length → c < R.length ∧ R.getD c 0 < S.getD c 0 := fun h => ⟨Nat.lt_of_lt_of_le h hov.1, hov.2 c h⟩
    simp only [colT, List.filterMap_cons] at hx
    cases hs : S[c]? with
    | none =>
      rw [hs] at hx
      have := ih ht.2.2.2 x hx
      rw [List.getElem?_eq_none_iff] at hs
      omega
    | some y =>
      rw [hs] at hx
      have hc := (List.getElem?_eq_some_iff.1 hs).1
      have hy : S.getD c 0 = y := by rw [List.getD_eq_getElem?_getD, hs]; rfl
      obtain ⟨k1, k2⟩ := key hc
      rcases List.mem_cons.1 hx with rfl | hx
      · exact ⟨k1, by rw [← hy]; exact k2⟩
      · have := ih ht.2.2.2 x hx
        exact ⟨k1, by omega⟩
theorem colT_rise {c : Nat} {T : List (List Int)} (ht : Tab T) : Rise (colT c T) := by
  induction T with
  | nil => simp [colT]
  | cons R T ih =>
    have h1 := ih ht.2.2.2
    simp only [colT, List.filterMap_cons]
    cases hr : R[c]? with
    | none => exact h1
    | some y =>
      refine List.pairwise_cons.2 ⟨fun x hx => ?_, h1⟩
      have := (colT_gt ht x hx).2
      rwa [List.getD_eq_getElem?_getD, hr] at this

theorem rowC_zip (c : Nat) : ∀ (R : List Int) (i : Nat), rowC c (R.zipIdx i) = if i ≤ c then (R[c - i]?).toList else [] := by
  intro R
  induction R with
  | nil => intro i; simp [rowC]
  | cons x R ih =>
    intro i
    rw [List.zipIdx_cons, rowC_cons, ih]
    by_cases h1 : i = c
    · subst h1; rw [if_pos rfl, if_neg (by omega)]; simp
    · rw [if_neg h1]
      by_cases h2 : i ≤ c
      · rw [if_pos (by omega), if_pos h2]
        obtain ⟨q, hq⟩ : ∃ q, c - i = q + 1 := ⟨c - i - 1, by omega⟩
        rw [hq, show c - (i + 1) = q by omega, List.getElem?_cons_succ]
      · rw [if_neg (by omega), if_neg h2]
theorem count_zip (k : Nat) : ∀ (R : List Int) (i : Nat), (R.zipIdx i).countP (fun p => decide (p.2 < k)) = min (k - i) R.length := by
  intro R
  induction R with
  | nil => intro i; simp
  | cons x R ih =>
    intro i
    rw [List.zipIdx_cons, List.countP_cons, ih, List.length_cons]
    by_cases h : i < k
    · simp [h]; omega
    · simp [h]; omega

theorem fallDown (k : Nat) {T : List (List Int)} (ht : Tab T) : Fam k (wordT T).reverse (colSum k T) := by
  refine ⟨(T.map fun R => (R.zipIdx 0).reverse).flatten, ?_, ?_, ?_⟩
  · rw [wordT_rev, List.map_flatten, List.map_map]
    congr 1
    apply List.map_congr_left
    intro R _
    simp [Function.comp, List.map_reverse]
  · intro c _
    have : rowC c ((T.map fun R => (R.zipIdx 0).reverse).flatten) = colT c T := by
      induction T with
      | nil => rfl
      | cons R T ih =>
        rw [List.map_cons, List.flatten_cons, rowC_append, ih ht.2.2.2]
        have h1 : rowC c (R.zipIdx 0).reverse = (R[c]?).toList := by
          have h2 := rowC_zip c R 0
          rw [if_pos (Nat.zero_le _), Nat.sub_zero] at h2
          simp only [rowC, List.filter_reverse, List.map_reverse] at h2 ⊢
          rw [h2]
          cases R[c]? <;> rfl
        rw [h1]
        simp only [colT, List.filterMap_cons]
        cases R[c]? <;> rfl
    rw [this]
    exact colT_rise ht
  · rw [List.countP_flatten, List.map_map]
    simp only [colSum]
    congr 1
    apply List.map_congr_left
    intro R _
    simp only [Function.comp, List.countP_reverse, count_zip]
    rfl

/-- Colours by rows. -/
def rowsPs : Nat → List (List Int) → List (Int × Nat)
  | _, [] => []
  | i, R :: T => rowsPs (i + 1) T ++ R.map (fun x => (x, i))
theorem rowsPs_fst (T : List (List Int)) : ∀ i, (rowsPs i T).map (·.1) = wordT T := by
  induction T with
  | nil => intro i; rfl
  | cons R T ih => intro i; rw [rowsPs, List.map_append, ih, wordT_cons, List.map_map]; simp [Function.comp_def]
theorem rowC_map (c i : Nat) (R : List Int) : rowC c (R.map (fun x => (x, i))) = if i = c then R else [] := by
  induction R with
  | nil => simp [rowC]
  | cons x R ih =>
    rw [List.map_cons, rowC_cons, ih]
    split <;> rfl
theorem rowsPs_row (c : Nat) (T : List (List Int)) : ∀ i, rowC c (rowsPs i T) = if i ≤ c then T.getD (c - i) [] else [] := by
  induction T with
  | nil => intro i; simp [rowsPs, rowC]
  | cons R T ih =>
    intro i
    rw [rowsPs, rowC_append, ih, rowC_map]
    by_cases h1 : i = c
    · subst h1; rw [if_neg (by omega), if_pos rfl, if_pos (Nat.le_refl _)]; simp
    · rw [if_neg h1, List.append_nil]
      by_cases h2 : i ≤ c
      · rw [if_pos (by omega), if_pos h2]
        obtain ⟨q, hq⟩ : ∃ q, c - i = q + 1 := ⟨c - i - 1, by omega⟩
        rw [hq, show c - (i + 1) = q by omega]; simp
      · rw [if_neg (by omega), if_neg h2]
theorem rowsPs_count (k : Nat) (T : List (List Int)) : ∀ i, (rowsPs i T).countP (fun p => decide (p.2 < k)) = rowSum (k - i) T := by
  induction T with
  | nil => intro i; simp [rowsPs, rowSum]
  | cons R T ih =>
    intro i
    rw [rowsPs, List.countP_append, ih, List.countP_map]
    by_cases h : i < k
    · obtain ⟨q, hq⟩ : ∃ q, k - i = q + 1 := ⟨k - i - 1, by omega⟩
      rw [hq, show k - (i + 1) = q by omega]
      have : R.countP ((fun p : Int × Nat => decide (p.2 < k)) ∘ fun x => (x, i)) = R.length := by
        rw [List.countP_eq_length]; intro x _; simp [h]
      rw [this]
      simp only [rowSum, List.take_succ_cons, List.map_cons, List.sum_cons]
      omega
    · rw [show k - i = 0 by omega, show k - (i + 1) = 0 by omega]
      have : R.countP ((fun p : Int × Nat => decide (p.2 < k)) ∘ fun x => (x, i)) = 0 := by
        rw [List.countP_eq_zero]; intro x _; simp; omega
      rw [this]
      simp [rowSum]

theorem riseDown (k : Nat) {T : List (List Int)} (ht : Rows T) : Fam k (wordT T) (rowSum k T) := by
  refine ⟨rowsPs 0 T, rowsPs_fst T 0, ?_, by rw [rowsPs_count, Nat.sub_zero]⟩
  intro c _
  rw [rowsPs_row, if_pos (Nat.zero_le _), Nat.sub_zero, List.getD_eq_getElem?_getD]
  cases h : T[c]? with
  | none => simp
  | some R => exact ht R (List.mem_of_getElem? h)

/-- Columns that rise, rows that get no longer. -/
def WTab : List (List Int) → Prop
  | [] => True
  | R :: T => Over R (T.headD []) ∧ WTab T
theorem Tab.w {T : List (List Int)} (h : Tab T) : WTab T := by
  induction T with
  | nil => trivial
  | cons R T ih => exact ⟨h.2.2.1, ih h.2.2.2⟩
theorem Over.tail {R S : List Int} (h : Over R S) : Over R.tail S.tail := by
  refine ⟨by have := h.1; simp only [List.length_tail]; omega, ?_⟩
  intro j hj
  simp only [List.length_tail] at hj
  have := h.2 (j + 1) (by omega)
  simpa [List.getD_eq_getElem?_getD] using this
theorem WTab.tail {T : List (List Int)} (h : WTab T) : WTab (T.map List.tail) := by
  induction T with
  | nil => trivial
  | cons R T ih =>
    refine ⟨?_, ih h.2⟩
    have := h.1.tail
    cases T with
    | nil => simpa using this
    | cons S T => simpa using this
theorem WTab.nil {T : List (List Int)} (h : WTab ([] :: T)) : ∀ R ∈ T, R = [] := by
  induction T with
  | nil => simp
  | cons S T ih =>
    have h1 := h.1.1
    simp only [List.headD_cons, List.length_nil] at h1
    have h2 : S = [] := List.length_eq_zero_iff.1 (by omega)
    subst h2
    intro R hR
    rcases List.mem_cons.1 hR with rfl | hR
    · rfl
    · exact ih h.2 R hR

/-- How many rows there are. -/
def high (T : List (List Int)) : Nat := T.countP (fun R => !R.isEmpty)
theorem rowSum_tail (k : Nat) {T : List (List Int)} (h : WTab T) : rowSum k T = rowSum k (T.map List.tail) + min k (high T) := by
  induction T generalizing k with
  | nil => simp [rowSum, high]
  | cons R T ih =>
    cases k with
    | zero => simp [rowSum]
    | succ k =>
      have h1 := ih k h.2
      simp only [rowSum, List.take_succ_cons, List.map_cons, List.sum_cons, high, List.countP_cons, List.length_tail] at h1 ⊢
      cases R with
      | nil =>
        have hn := h.nil
        have hz : T.countP (fun R => !R.isEmpty) = 0 := by rw [List.countP_eq_zero]; intro R hR; rw [hn R hR]; simp
        rw [hz] at h1 ⊢
        simp only [List.length_nil, List.isEmpty_nil] at h1 ⊢
        simp at h1 ⊢
        omega
      | cons x R =>
        simp only [List.length_cons, List.isEmpty_cons] at h1 ⊢
        simp at h1 ⊢
        omega

theorem rows_split {T : List (List Int)} : ∀ {ps : List (Int × Nat)}, ps.map (·.1) = wordT T → ∃ PS : List (List (Int × Nat)), PS.map (fun l => l.map (·.1)) = T ∧ ps = PS.reverse.flatten := by
  induction T with
  | nil => intro ps h; simp [wordT] at h; exact ⟨[], rfl, by simp [h]⟩
  | cons R T ih =>
    intro ps h
    rw [wordT_cons] at h
    obtain ⟨p1, p2, rfl, h1, h2⟩ := List.map_eq_append_iff.1 h
    obtain ⟨PS, h3, rfl⟩ := ih h1
    exact ⟨p2 :: PS, by simp [h2, h3], by simp⟩

theorem heads_fall {T : List (List Int)} (h : WTab T) : (colT 0 T).Pairwise (· < ·) := by
  have hgt : ∀ {T : List (List Int)} {R : List Int}, WTab (R :: T) → ∀ x ∈ colT 0 T, 0 < R.length ∧ R.getD 0 0 < x := by
    intro T
    induction T with
    | nil => intro R _ x hx; simp [colT] at hx
    | cons S T ih =>
      intro R ht x hx
      have hov := ht.1
      simp only [List.headD_cons] at hov
      simp only [colT, List.filterMap_cons] at hx
      cases hs : S[0]? with
      | none =>
        rw [hs] at hx
        have := ih ht.2 x hx
        rw [List.getElem?_eq_none_iff] at hs
        omega
      | some y =>
        rw [hs] at hx
        have hc := (List.getElem?_eq_some_iff.1 hs).1
        have hy : S.getD 0 0 = y := by rw [List.getD_eq_getElem?_getD, hs]; rfl
        have k1 := hov.1
        have k2 := hov.2 0 hc
        rcases List.mem_cons.1 hx with rfl | hx
        · exact ⟨by omega, by omega⟩
        · have := ih ht.2 x hx
          exact ⟨by omega, by omega⟩
  induction T with
  | nil => simp [colT]
  | cons R T ih =>
    have h1 := ih h.2
    simp only [colT, List.filterMap_cons]
    cases hr : R[0]? with
    | none => exact h1
    | some y =>
      refine List.pairwise_cons.2 ⟨fun x hx => ?_, h1⟩
      have := (hgt h x hx).2
      rwa [List.getD_eq_getElem?_getD, hr] at this

theorem flatten_sub {α : Type} {f : List α → List α} (hf : ∀ l, (f l).Sublist l) (L : List (List α)) : (L.map f).flatten.Sublist L.flatten := by
  induction L with
  | nil => exact .refl _
  | cons l L ih => simp only [List.map_cons, List.flatten_cons]; exact (hf l).append ih

theorem riseUp (k m : Nat) : ∀ {T : List (List Int)}, WTab T → (∀ R ∈ T, R.length ≤ m) → ∀ {ps : List (Int × Nat)}, ps.map (·.1) = wordT T → (∀ c, c < k → Rise (rowC c ps)) → ps.countP (fun p => decide (p.2 < k)) ≤ rowSum k T := by
  induction m with
  | zero =>
    intro T _ hm ps hps _
    have : ps = [] := by
      have h1 : wordT T = [] := by
        rw [wordT, List.flatten_eq_nil_iff]
        intro R hR
        exact List.length_eq_zero_iff.1 (by have := hm R (by simpa using hR); omega)
      rw [h1] at hps
      simpa using hps
    subst this
    simp
  | succ m ih =>
    intro T hw hm ps hps hr
    obtain ⟨PS, h1, rfl⟩ := rows_split hps
    have hsub : (PS.map List.tail).reverse.flatten.Sublist PS.reverse.flatten := by
      rw [← List.map_reverse]; exact flatten_sub (fun l => List.tail_sublist l) _
    have htl : (PS.map List.tail).map (fun l => l.map (·.1)) = T.map List.tail := by
      rw [← h1, List.map_map, List.map_map]
      apply List.map_congr_left
      intro l _
      simp [Function.comp, List.map_tail]
    have ha := ih (T := T.map List.tail) hw.tail
      (by intro R hR; obtain ⟨S, hS, rfl⟩ := List.mem_map.1 hR; have := hm S hS; simp only [List.length_tail]; omega)
      (ps := (PS.map List.tail).reverse.flatten)
      (by rw [List.map_flatten, List.map_reverse, htl]; rfl)
      (fun c hc => (hr c hc).sublist (rowC_mono hsub))
    -- the heads
    have hsub2 : (PS.map (List.take 1)).reverse.flatten.Sublist PS.reverse.flatten := by
      rw [← List.map_reverse]; exact flatten_sub (fun l => List.take_sublist 1 l) _
    have hhd : ((PS.map (List.take 1)).reverse.flatten).map (·.1) = (colT 0 T).reverse := by
      rw [← h1]
      clear hsub hsub2 ha htl hr hps hm hw h1
      induction PS with
      | nil => rfl
      | cons l PS ih2 =>
        simp only [List.map_cons, List.reverse_cons, List.flatten_append, List.map_append, ih2, colT, List.filterMap_cons]
        cases l with
        | nil => simp
        | cons p l => simp
    have hb := count_fall (k := k) (ps := (PS.map (List.take 1)).reverse.flatten) (by rw [hhd, List.pairwise_reverse]; exact heads_fall hw) (fun c hc => (hr c hc).sublist (rowC_mono hsub2))
    have hlen : (PS.map (List.take 1)).reverse.flatten.length = high T := by
      have h2 := congrArg List.length hhd
      rw [List.length_map, List.length_reverse] at h2
      rw [h2]
      clear h2 hhd hb ha hsub hsub2 htl hr hps hm hw h1
      induction T with
      | nil => rfl
      | cons R T ih2 =>
        simp only [colT, List.filterMap_cons, high, List.countP_cons] at ih2 ⊢
        cases R with
        | nil => simpa using ih2
        | cons x R => simp at ih2 ⊢; omega
    rw [hlen] at hb
    have hsum : PS.reverse.flatten.countP (fun p => decide (p.2 < k)) = (PS.map (List.take 1)).reverse.flatten.countP (fun p => decide (p.2 < k)) + (PS.map List.tail).reverse.flatten.countP (fun p => decide (p.2 < k)) := by
      clear hlen hb hhd hsub2 ha htl hsub hr hps hm hw h1
      induction PS with
      | nil => rfl
      | cons l PS ih2 =>
        simp only [List.map_cons, List.reverse_cons, List.flatten_append, List.countP_append, ih2]
        have : l.countP (fun p => decide (p.2 < k)) = (l.take 1).countP (fun p => decide (p.2 < k)) + l.tail.countP (fun p => decide (p.2 < k)) := by
          rw [← List.countP_append]
          congr 1
          cases l <;> simp
        simp only [List.flatten_cons, List.flatten_nil, List.append_nil]
        omega
    rw [hsum, rowSum_tail k hw]
    omega

theorem le_of_mem_bound {T : List (List Int)} : ∃ m, ∀ R ∈ T, R.length ≤ m := by
  induction T with
  | nil => exact ⟨0, by simp⟩
  | cons R T ih =>
    obtain ⟨m, hm⟩ := ih
    refine ⟨max m R.length, ?_⟩
    intro S hS
    rcases List.mem_cons.1 hS with rfl | hS
    · omega
    · have := hm S hS; omega

/-- Greene's theorem, rising rows. -/
theorem greene {w : List Int} (hnd : w.Nodup) (k : Nat) : Fam k w (rowSum k (insAll w)) ∧ ∀ n, Fam k w n → n ≤ rowSum k (insAll w) := by
  obtain ⟨h1, h2, h3⟩ := insAll_ok hnd
  refine ⟨(h2.fam k _).2 (riseDown k h1), fun n hn => ?_⟩
  obtain ⟨ps, hm, hr, rfl⟩ := (h2.fam k n).1 hn
  obtain ⟨m, hb⟩ := le_of_mem_bound (T := insAll w)
  exact riseUp k m (insAll_tab hnd).w hb hm hr
/-- Greene's theorem, falling rows. -/
theorem greeneD {w : List Int} (hnd : w.Nodup) (k : Nat) : Fam k w.reverse (colSum k (insAll w)) ∧ ∀ n, Fam k w.reverse n → n ≤ colSum k (insAll w) := by
  obtain ⟨h1, h2, h3⟩ := insAll_ok hnd
  refine ⟨(h2.rev.fam k _).2 (fallDown k (insAll_tab hnd)), fun n hn => ?_⟩
  obtain ⟨ps, hm, hr, rfl⟩ := (h2.rev.fam k n).1 hn
  exact fallUp h1 (by rw [hm, wordT_rev]) hr

end Go.Gr
