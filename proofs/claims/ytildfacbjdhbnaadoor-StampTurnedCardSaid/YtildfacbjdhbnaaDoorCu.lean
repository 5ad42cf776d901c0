/-
  Layer 01: Span, Spans, Open: contracts, of both.
  Conditions: none.
-/
import Derived.Test.YtildfacbjdhbnaaDoorCo
namespace Go.Am
/-- The error of books and a way, without looking for a flow. -/
def askR (rm : Int) (ws : List W) (i : Int) : Int := if chkB rm ws = 0 then (if 0 ≤ i ∧ i ≤ (ws.length : Int) - 1 then 0 else 2) else chkB rm ws
theorem askR_yes {rm : Int} {ws : List W} {i : Int} (h : askR rm ws i = 0) : askE rm ws i = agreeE rm ws ∧ 0 ≤ i ∧ i < ws.length := by
  unfold askR at h
  unfold askE
  by_cases h1 : chkB rm ws = 0
  · rw [if_pos h1] at h ⊢
    by_cases h2 : 0 ≤ i ∧ i ≤ (ws.length : Int) - 1
    · rw [if_pos h2]; exact ⟨rfl, by omega, by omega⟩
    · rw [if_neg h2] at h; cases h
  · rw [if_neg h1] at h; exact absurd h h1
abbrev pc (p : Int × Int) : List AV := ints [p.1, p.2]
theorem pc_len (p : Int × Int) : (pc p).length = 2 := rfl
noncomputable def spansTo (ws : List W) (k : Nat) : List (Int × Int) := (List.range k).map fun i => (loOf ws i, hiOf ws i)
theorem spansTo_len (ws : List W) (k : Nat) : (spansTo ws k).length = k := by simp [spansTo]
theorem spansTo_succ (ws : List W) (k : Nat) : spansTo ws (k + 1) = spansTo ws k ++ [(loOf ws k, hiOf ws k)] := by simp [spansTo, List.range_succ]
theorem spansTo_get {ws : List W} {k i : Nat} (h : i < k) : (spansTo ws k).getD i default = (loOf ws i, hiOf ws i) := by
  rw [List.getD_eq_getElem?_getD, spansTo, List.getElem?_map, List.getElem?_range h]; rfl
noncomputable def openTo (ws : List W) (k : Nat) : List Int := ((List.range k).filter fun i => decide (loOf ws i < hiOf ws i)).map fun i : Nat => (i : Int)
theorem openTo_succ (ws : List W) (k : Nat) : openTo ws (k + 1) = if loOf ws k < hiOf ws k then openTo ws k ++ [(k : Int)] else openTo ws k := by
  unfold openTo
  rw [List.range_succ, List.filter_append, List.map_append]
  by_cases h : loOf ws k < hiOf ws k
  · rw [if_pos h, List.filter_cons_of_pos (by simpa using h)]; rfl
  · rw [if_neg h, List.filter_cons_of_neg (by simpa using h)]; simp
theorem openTo_len (ws : List W) (k : Nat) : (openTo ws k).length ≤ k := by
  unfold openTo
  rw [List.length_map]
  exact Nat.le_trans (List.length_filter_le _ _) (by simp)
theorem lo_le_hi {ws : List W} {i : Nat} (h : ∃ n, Flow ws n) (hi : i < ws.length) : loOf ws i ≤ hiOf ws i := by
  obtain ⟨n, hn⟩ := h
  have h1 := (loOf_is ⟨n, hn⟩ hi).2 n hn
  have h2 := (hiOf_is ⟨n, hn⟩ hi).2 n hn
  omega

theorem asked_c {h : AHeap} {rm i : Int} {vW : AV} {ws : List W} (hv : Rd h vW 4 (flr wc ws)) : ACalls Go.Proofs.Tryd.prog 78 [.agg [.int .i64 rm, vW], .int .i64 i] h (fun q h' => ∃ qp, q = .tup [qp, .int .i64 (askE rm ws i)] ∧ Keeps h h' ∧ qp.one = true ∧ (askE rm ws i = 0 → ∃ n vn, AddrOf qp qp 0 0 ∧ Flow ws n ∧ St h h' [⟨qp, 0, [.int .i64 rm, vW, vn], true⟩, ⟨vn, 1, ints n, true⟩])) := by
  refine KA.fn 24 [.tmp 4, .tmp 5] Go.Proofs.Tryd.func78 rfl (by decide) rfl rfl (Nat.le_of_ble_eq_true rfl) ?_
  have hS := St.refl h
  have hvo : vW.one = true := hv.one
  show KA _ 24 _ _ [(0, .agg [.int .i64 rm, vW]), (1, .int .i64 i)] _
  refine KA.seq ?_
  refine KA.region rfl ?_
  refine KOps.boxAll hS (by first | rfl | (simp [AV.one]; done) | (simp [AV.one]; assumption) | (simp [AV.one, *]; done)) ?_
  intro p2 h' hp2 hS
  refine KOps.assign ?_
  refine KOps.assign ?_
  refine KOps.done ?_
  refine sqQ.normal ?_
  refine KA.sub (Sub.cons (t := 1) Look.eq (Sub.cons (t := 2) Look.eq (Sub.nil _))) ?_
  refine KA.seq ?_
  refine KA.seq ?_
  refine KA.region rfl ?_
  refine KOps.loadAll hS (i := 0) rfl hp2 (by rfl) (by decide) ?_
  refine KOps.call rfl (check_c (Rd.ext hS.keeps hv)) ?_
  rintro _ h5 ⟨rfl, hK⟩
  have hS0 : St _ _ (_ :: _) := St.trans hS (St.ofK hK)
  clear hS
  have hS := hS0
  clear hS0
  refine KOps.assign ?_
  refine KOps.done ?_
  refine sqQ.normal ?_
  refine KA.sub (Sub.cons (t := 1) Look.eq (Sub.cons (t := 2) Look.eq (Sub.cons (t := 6) Look.eq (Sub.nil _)))) ?_
  refine KA.seq ?_
  refine KA.region rfl ?_
  refine KOps.move ?_
  refine KOps.eql ?_
  refine KOps.move ?_
  refine KOps.guardB (dj := 11) rfl rfl true false rfl ?_ ?_
  · intro g11
    have g11 := of_decide_eq_true g11
    have hwl := (BOk.of g11).len
    refine KOps.move ?_
    refine KOps.guardYes (dj := 11) rfl rfl ?_
    refine KOps.fieldAddr hp2 ?_
    intro p13 hp13
    refine KOps.guardYes (dj := 11) rfl rfl ?_
    refine KOps.load hp13 (hS.rd 0 rfl) rfl ?_
    refine KOps.guardYes (dj := 11) rfl rfl ?_
    refine KOps.lenF wc_len (Rd.ext hS.keeps hv) ?_
    refine KOps.guardYes (dj := 11) rfl rfl ?_
    refine KOps.sub (by first | omega | (simp; omega)) (by first | omega | (simp; omega)) ?_
    refine KOps.guardYes (dj := 11) rfl rfl ?_
    refine KOps.call rfl (between_c) ?_
    rintro _ _ ⟨rfl, rfl⟩
    refine KOps.guardYes (dj := 11) rfl rfl ?_
    refine KOps.not ?_
    refine KOps.pickT ?_
    refine KOps.done ?_
    refine sqQ.normal ?_
    refine KA.sub (Sub.cons (t := 2) Look.eq (Sub.cons (t := 19) Look.eq (Sub.nil _))) ?_
    refine KA.condN ?_ ?_
    · intro c19
      refine KA.seq ?_
      refine KA.region rfl ?_
      refine KOps.assign ?_
      refine KOps.assign ?_
      refine KOps.done ?_
      refine sqQ.normal ?_
      refine KA.sub (Sub.cons (t := 4) Look.eq (Sub.cons (t := 5) Look.eq (Sub.nil _))) ?_
      refine KA.ret ?_
      refine sqQ.ret ?_
      refine fnQ.retN ?_
      have e0 : askE rm ws i = 2 := by rw [askE, if_pos g11, if_neg (by omega)]
      rw [e0]
      exact ⟨_, rfl, hS.keeps, rfl, fun h0 => absurd h0 (by decide)⟩
    · intro c19
      refine KA.skip ?_
      refine sqQ.normal ?_
      refine KA.sub (Sub.cons (t := 2) Look.eq (Sub.nil _)) ?_
      refine KA.seq ?_
      refine KA.region rfl ?_
      refine KOps.loadAll hS (i := 0) rfl hp2 (by rfl) (by decide) ?_
      refine KOps.call rfl (found_c (Rd.ext hS.keeps hv)) ?_
      rintro _ h6 ⟨qp, rfl, hK2, hqp, hyes⟩
      refine KOps.extract ?_
      refine KOps.extract ?_
      refine KOps.assign ?_
      refine KOps.assign ?_
      refine KOps.done ?_
      refine sqQ.normal ?_
      refine KA.sub (Sub.cons (t := 4) Look.eq (Sub.cons (t := 5) Look.eq (Sub.nil _))) ?_
      refine KA.ret ?_
      refine fnQ.retN ?_
      have e0 : askE rm ws i = agreeE rm ws := by rw [askE, if_pos g11, if_pos (by omega)]
      rw [e0]
      refine ⟨_, rfl, hS.keeps.trans hK2, hqp, fun h0 => ?_⟩
      obtain ⟨n, vn, hpf, hf, hSF⟩ := hyes h0
      exact ⟨n, vn, hpf, hf, St.pick [0, 1] (by decide) rfl (St.trans hS hSF : St _ _ (_ :: _ :: _))⟩
  · intro g11
    have g11 := of_decide_eq_false g11
    refine KOps.guardNo (dj := 11) rfl rfl rfl ?_
    refine KOps.guardNo (dj := 11) rfl rfl rfl ?_
    refine KOps.guardNo (dj := 11) rfl rfl rfl ?_
    refine KOps.guardNo (dj := 11) rfl rfl rfl ?_
    refine KOps.guardNo (dj := 11) rfl rfl rfl ?_
    refine KOps.guardNo (dj := 11) rfl rfl rfl ?_
    refine KOps.pickF ?_
    refine KOps.done ?_
    refine sqQ.normal ?_
    refine KA.sub (Sub.cons (t := 2) Look.eq (Sub.cons (t := 19) Look.eq (Sub.nil _))) ?_
    refine KA.condF ?_
    refine KA.skip ?_
    refine sqQ.normal ?_
    refine KA.sub (Sub.cons (t := 2) Look.eq (Sub.nil _)) ?_
    refine KA.seq ?_
    refine KA.region rfl ?_
    refine KOps.loadAll hS (i := 0) rfl hp2 (by rfl) (by decide) ?_
    refine KOps.call rfl (found_c (Rd.ext hS.keeps hv)) ?_
    rintro _ h6 ⟨qp, rfl, hK2, hqp, hyes⟩
    refine KOps.extract ?_
    refine KOps.extract ?_
    refine KOps.assign ?_
    refine KOps.assign ?_
    refine KOps.done ?_
    refine sqQ.normal ?_
    refine KA.sub (Sub.cons (t := 4) Look.eq (Sub.cons (t := 5) Look.eq (Sub.nil _))) ?_
    refine KA.ret ?_
    refine fnQ.retN ?_
    have e0 : askE rm ws i = agreeE rm ws := by rw [askE, if_neg g11, agreeE, if_neg g11]
    rw [e0]
    refine ⟨_, rfl, hS.keeps.trans hK2, hqp, fun h0 => ?_⟩
    obtain ⟨n, vn, hpf, hf, hSF⟩ := hyes h0
    exact ⟨n, vn, hpf, hf, St.pick [0, 1] (by decide) rfl (St.trans hS hSF : St _ _ (_ :: _ :: _))⟩

theorem stSpan_c {h : AHeap} {rm i : Int} {vW : AV} {ws : List W} (hv : Rd h vW 4 (flr wc ws)) : ACalls Go.Proofs.Tryd.prog 33 [.agg [.int .i64 rm, vW], .int .i64 i] h (fun q h' => q = .tup [.int .i64 (if askE rm ws i = 0 then loOf ws i.toNat else 0), .int .i64 (if askE rm ws i = 0 then hiOf ws i.toNat else 0), .int .i64 (askE rm ws i)] ∧ Keeps h h') := by
  refine KA.fn 25 [.tmp 4, .tmp 5, .tmp 6] Go.Proofs.Tryd.func33 rfl (by decide) rfl rfl (Nat.le_of_ble_eq_true rfl) ?_
  have hS := St.refl h
  have hvo : vW.one = true := hv.one
  show KA _ 25 _ _ [(0, .agg [.int .i64 rm, vW]), (1, .int .i64 i)] _
  refine KA.seq ?_
  refine KA.region rfl ?_
  refine KOps.boxAll hS (by first | rfl | (simp [AV.one]; done) | (simp [AV.one]; assumption) | (simp [AV.one, *]; done)) ?_
  intro p2 h' hp2 hS
  refine KOps.assign ?_
  refine KOps.assign ?_
  refine KOps.assign ?_
  refine KOps.done ?_
  refine sqQ.normal ?_
  refine KA.sub (Sub.cons (t := 1) Look.eq (Sub.cons (t := 2) Look.eq (Sub.nil _))) ?_
  refine KA.seq ?_
  refine KA.region rfl ?_
  refine KOps.loadAll hS (i := 0) rfl hp2 (by rfl) (by decide) ?_
  refine KOps.move ?_
  refine KOps.call rfl (asked_c (Rd.ext hS.keeps hv)) ?_
  rintro _ h5 ⟨qp, rfl, hK, hqp, hyes⟩
  refine KOps.move ?_
  refine KOps.extract ?_
  refine KOps.extract ?_
  refine KOps.assign ?_
  refine KOps.assign ?_
  refine KOps.done ?_
  refine sqQ.normal ?_
  refine KA.sub (Sub.cons (t := 1) Look.eq (Sub.cons (t := 6) Look.eq (Sub.cons (t := 7) Look.eq (Sub.nil _)))) ?_
  refine KA.seq ?_
  refine KA.seq ?_
  refine KA.region rfl ?_
  refine KOps.move ?_
  refine KOps.neq ?_
  refine KOps.done ?_
  refine sqQ.normal ?_
  refine KA.sub (Sub.cons (t := 1) Look.eq (Sub.cons (t := 6) Look.eq (Sub.cons (t := 7) Look.eq (Sub.cons (t := 15) Look.eq (Sub.nil _))))) ?_
  refine KA.condN ?_ ?_
  · intro c15
    refine KA.seq ?_
    refine KA.region rfl ?_
    refine KOps.move ?_
    refine KOps.assign ?_
    refine KOps.assign ?_
    refine KOps.assign ?_
    refine KOps.done ?_
    refine sqQ.normal ?_
    refine KA.sub (Sub.cons (t := 4) Look.eq (Sub.cons (t := 5) Look.eq (Sub.cons (t := 6) Look.eq (Sub.nil _)))) ?_
    refine KA.ret ?_
    refine sqQ.ret ?_
    refine fnQ.retN ?_
    rw [if_neg c15, if_neg c15]
    exact ⟨rfl, hS.keeps.trans hK⟩
  · intro c15
    obtain ⟨he, hi0, hi1⟩ := ask_ok c15
    have hB := (agree_ok he).1
    obtain ⟨r, rfl⟩ : ∃ r : Nat, rm = (r : Int) := ⟨rm.toNat, by have := hB.r2; omega⟩
    obtain ⟨j, rfl⟩ : ∃ j : Nat, i = (j : Int) := ⟨i.toNat, by omega⟩
    obtain ⟨n, vn, hpf, hf, hSF⟩ := hyes c15
    have hS0 : St _ _ (_ :: _ :: _) := St.trans hS hSF
    clear hS
    have hS := hS0
    clear hS0
    refine KA.skip ?_
    refine sqQ.normal ?_
    refine KA.sub (Sub.cons (t := 1) Look.eq (Sub.cons (t := 7) Look.eq (Sub.nil _))) ?_
    refine KA.seq ?_
    refine KA.region rfl ?_
    refine KOps.move ?_
    refine KOps.move ?_
    refine KOps.call rfl (span_c (r := r) (i := j) hpf hv hB hf (by omega) hS) ?_
    rintro _ h6 ⟨rfl, c2, hS6, hf6⟩
    refine KOps.move ?_
    refine KOps.extract ?_
    refine KOps.extract ?_
    refine KOps.assign ?_
    refine KOps.assign ?_
    refine KOps.done ?_
    refine sqQ.normal ?_
    refine KA.sub (Sub.cons (t := 4) Look.eq (Sub.cons (t := 5) Look.eq (Sub.nil _))) ?_
    refine KA.seq ?_
    refine KA.region rfl ?_
    refine KOps.move ?_
    refine KOps.move ?_
    refine KOps.assign ?_
    refine KOps.assign ?_
    refine KOps.assign ?_
    refine KOps.done ?_
    refine sqQ.normal ?_
    refine KA.sub (Sub.cons (t := 4) Look.eq (Sub.cons (t := 5) Look.eq (Sub.cons (t := 6) Look.eq (Sub.nil _)))) ?_
    refine KA.ret ?_
    refine fnQ.retN ?_
    rw [if_pos c15, if_pos c15, c15]
    exact ⟨rfl, hS6.keeps⟩

end Go.Am

namespace Go.Am

theorem stSpans_c {h : AHeap} {rm : Int} {vW : AV} {ws : List W} (hv : Rd h vW 4 (flr wc ws)) : ACalls Go.Proofs.Tryd.prog 35 [.agg [.int .i64 rm, vW]] h (fun q h' => ∃ vo, q = .tup [vo, .int .i64 (agreeE rm ws)] ∧ St h h' [⟨vo, 2, flr pc (if agreeE rm ws = 0 then spansTo ws ws.length else []), true⟩]) := by
  refine KA.fn 38 [.tmp 2, .tmp 3] Go.Proofs.Tryd.func35 rfl (by decide) rfl rfl (Nat.le_of_ble_eq_true rfl) ?_
  have hS := St.refl h
  have hvo : vW.one = true := hv.one
  show KA _ 38 _ _ [(0, .agg [.int .i64 rm, vW])] _
  refine KA.seq ?_
  refine KA.region rfl ?_
  refine KOps.boxAll hS (by first | rfl | (simp [AV.one]; done) | (simp [AV.one]; assumption) | (simp [AV.one, *]; done)) ?_
  intro p1 h' hp1 hS
  refine KOps.assign ?_
  refine KOps.assign ?_
  refine KOps.done ?_
  refine sqQ.normal ?_
  refine KA.sub (Sub.cons (t := 1) Look.eq (Sub.nil _)) ?_
  refine KA.seq ?_
  refine KA.region rfl ?_
  refine KOps.loadAll hS (i := 0) rfl hp1 (by rfl) (by decide) ?_
  refine KOps.call rfl (found_c (Rd.ext hS.keeps hv)) ?_
  rintro _ h5 ⟨qp, rfl, hK, hqp, hyes⟩
  refine KOps.move ?_
  refine KOps.extract ?_
  refine KOps.extract ?_
  refine KOps.assign ?_
  refine KOps.assign ?_
  refine KOps.done ?_
  refine sqQ.normal ?_
  refine KA.sub (Sub.cons (t := 1) Look.eq (Sub.cons (t := 4) Look.eq (Sub.cons (t := 5) Look.eq (Sub.nil _)))) ?_
  refine KA.seq ?_
  refine KA.seq ?_
  refine KA.region rfl ?_
  refine KOps.move ?_
  refine KOps.neq ?_
  refine KOps.done ?_
  refine sqQ.normal ?_
  refine KA.sub (Sub.cons (t := 1) Look.eq (Sub.cons (t := 4) Look.eq (Sub.cons (t := 5) Look.eq (Sub.cons (t := 16) Look.eq (Sub.nil _))))) ?_
  refine KA.condN ?_ ?_
  · intro c16
    refine KA.seq ?_
    refine KA.region rfl ?_
    refine KOps.move ?_
    refine KOps.assign ?_
    refine KOps.assign ?_
    refine KOps.done ?_
    refine sqQ.normal ?_
    refine KA.sub (Sub.cons (t := 2) Look.eq (Sub.cons (t := 3) Look.eq (Sub.nil _))) ?_
    refine KA.ret ?_
    refine sqQ.ret ?_
    refine fnQ.retN ?_
    rw [if_neg c16]
    exact ⟨_, rfl, St.trans (St.ofK (hS.keeps.trans hK)) (St.addNil 2 true (St.refl _))⟩
  · intro c16
    have hB := (agree_ok c16).1
    have hwl := hB.len
    obtain ⟨r, rfl⟩ : ∃ r : Nat, rm = (r : Int) := ⟨rm.toNat, by have := hB.r2; omega⟩
    obtain ⟨n, vn, hpf, hf, hSF⟩ := hyes c16
    have hS0 : St _ _ (_ :: _ :: _) := St.trans hS hSF
    clear hS
    have hS := hS0
    clear hS0
    refine KA.skip ?_
    refine sqQ.normal ?_
    refine KA.sub (Sub.cons (t := 1) Look.eq (Sub.cons (t := 4) Look.eq (Sub.nil _))) ?_
    refine KA.seq ?_
    refine KA.region rfl ?_
    refine KOps.assign ?_
    refine KOps.done ?_
    refine sqQ.normal ?_
    refine KA.seq ?_
    refine KA.seq ?_
    refine KA.region rfl ?_
    refine KOps.fieldAddr hp1 ?_
    intro p18 hp18
    refine KOps.load hp18 (hS.rd 2 rfl) rfl ?_
    refine KOps.lenF wc_len (Rd.ext hS.keeps hv) ?_
    refine KOps.move ?_
    refine KOps.done ?_
    refine sqQ.normal ?_
    refine KA.sub (Sub.cons (t := 4) Look.eq (Sub.cons (t := 6) Look.eq (Sub.cons (t := 20) Look.eq (Sub.cons (t := 21) Look.eq (Sub.nil _))))) ?_
    refine KA.block ?_
    refine KA.loop (X := Nat × AV × List Int) (fun x => [(4, qp), (6, x.2.1), (20, .int .i64 (ws.length : Int)), (21, .int .i64 (x.1 : Int))]) (fun x h' => x.1 ≤ ws.length ∧ Flow ws x.2.2 ∧ St h h' [⟨qp, 0, [.int .i64 (r : Int), vW, vn], true⟩, ⟨vn, 1, ints x.2.2, true⟩, ⟨p1, 0, [.int .i64 (r : Int), vW], true⟩, ⟨x.2.1, 2, flr pc (spansTo ws x.1), true⟩]) (fun x => ws.length - x.1) (0, .nils, n) (by repeat (first | exact Sub.nil _ | refine Sub.cons Look.eq ?_ | refine Sub.cons (Eq.trans Look.eq (congrArg (AV.int _) (by first | omega | (dsimp only; omega)))) ?_)) ?_ ?_
    · exact ⟨Nat.zero_le _, hf, St.addNil 2 true hS⟩
    rintro ⟨i, vo, n⟩ h9 ⟨hi, hf, hS⟩
    dsimp only at hi hf hS ⊢
    refine KA.seq ?_
    refine KA.region rfl ?_
    refine KOps.lss ?_
    refine KOps.done ?_
    refine sqQ.normal ?_
    refine KA.seq ?_
    refine KA.condD ?_ ?_
    · intro c22
      refine KA.skip ?_
      refine sqQ.normal ?_
      refine KA.sub (Sub.cons (t := 4) Look.eq (Sub.cons (t := 6) Look.eq (Sub.cons (t := 20) Look.eq (Sub.cons (t := 21) Look.eq (Sub.nil _))))) ?_
      refine KA.seq ?_
      refine KA.block ?_
      refine KA.seq ?_
      refine KA.region rfl ?_
      refine KOps.move ?_
      refine KOps.assign ?_
      refine KOps.done ?_
      refine sqQ.normal ?_
      refine KA.sub (Sub.cons (t := 4) Look.eq (Sub.cons (t := 6) Look.eq (Sub.cons (t := 7) Look.eq (Sub.cons (t := 20) Look.eq (Sub.cons (t := 21) Look.eq (Sub.nil _)))))) ?_
      refine KA.seq ?_
      refine KA.region rfl ?_
      refine KOps.move ?_
      refine KOps.move ?_
      refine KOps.call rfl (span_c (r := r) (i := i) hpf hv hB hf (by omega) hS) ?_
      rintro _ h6 ⟨rfl, n2, hS6, hf6⟩
      clear hS
      have hS := hS6
      clear hS6
      refine KOps.move ?_
      refine KOps.extract ?_
      refine KOps.extract ?_
      refine KOps.assign ?_
      refine KOps.assign ?_
      refine KOps.done ?_
      refine sqQ.normal ?_
      refine KA.sub (Sub.cons (t := 4) Look.eq (Sub.cons (t := 6) Look.eq (Sub.cons (t := 8) Look.eq (Sub.cons (t := 9) Look.eq (Sub.cons (t := 20) Look.eq (Sub.cons (t := 21) Look.eq (Sub.nil _))))))) ?_
      refine KA.region rfl ?_
      refine KOps.move ?_
      refine KOps.move ?_
      refine KOps.move ?_
      refine KOps.buildS2 (z0 := .int .i64 0) (z1 := .int .i64 0) (by kernel_rfl) (by rfl) (by kernel_rfl) (by kernel_rfl) (by kernel_rfl) (by first | rfl | assumption) (by first | rfl | assumption) ?_
      refine KOps.buildSliceS (cs := [.int .i64 (loOf ws i), .int .i64 (hiOf ws i)]) hS rfl rfl rfl (by decide) ?_
      intro v34 h' hS
      refine KOps.append hS (fun _ => rfl) (i := 4) rfl (a := i) (by rw [flr_len pc_len, spansTo_len]) (hS.rd 0 rfl) (b := 1) rfl rfl (by omega) ?_
      intro r35 h' hS
      simp only [List.set_cons_zero, List.set_cons_succ, Nat.zero_add] at hS
      have hr35 : r35.one = true := St.one hS (k := 4) rfl
      have hS0 := St.tail hS
      clear hS
      have hS := hS0
      clear hS0
      refine KOps.assign ?_
      refine KOps.done ?_
      refine blQ.normal ?_
      refine sqQ.normal ?_
      refine KA.sub (Sub.cons (t := 4) Look.eq (Sub.cons (t := 6) Look.eq (Sub.cons (t := 20) Look.eq (Sub.cons (t := 21) Look.eq (Sub.nil _))))) ?_
      refine KA.region rfl ?_
      refine KOps.add (by first | omega | (simp; omega)) (by first | omega | (simp; omega)) ?_
      refine KOps.move ?_
      refine KOps.done ?_
      rw [show ([.int .i64 (loOf ws i), .int .i64 (hiOf ws i)] : List AV) = pc (loOf ws i, hiOf ws i) from rfl, flr_snoc, ← spansTo_succ] at hS
      exact lpQ.normal (i + 1, r35, n2) (by repeat (first | exact Sub.nil _ | refine Sub.cons Look.eq ?_ | refine Sub.cons (Eq.trans Look.eq (congrArg (AV.int _) (by first | omega | (dsimp only; omega)))) ?_)) ⟨by dsimp only; omega, hf6, hS⟩ (by dsimp only; omega)
    · intro c22
      refine KA.exit ?_
      refine sqQ.exit ?_
      refine lpQ.exit ?_
      refine blQ.here ?_
      refine sqQ.normal ?_
      refine KA.sub (Sub.cons (t := 6) Look.eq (Sub.nil _)) ?_
      refine KA.seq ?_
      refine KA.region rfl ?_
      refine KOps.move ?_
      refine KOps.assign ?_
      refine KOps.assign ?_
      refine KOps.done ?_
      refine sqQ.normal ?_
      refine KA.sub (Sub.cons (t := 2) Look.eq (Sub.cons (t := 3) Look.eq (Sub.nil _))) ?_
      refine KA.ret ?_
      refine fnQ.retN ?_
      rw [if_pos c16, c16, show ws.length = i by omega]
      exact ⟨_, rfl, St.pick [3] (by decide) rfl hS⟩

theorem stOpen_c {h : AHeap} {rm : Int} {vW : AV} {ws : List W} (hv : Rd h vW 4 (flr wc ws)) : ACalls Go.Proofs.Tryd.prog 37 [.agg [.int .i64 rm, vW]] h (fun q h' => ∃ vo, q = .tup [vo, .int .i64 (agreeE rm ws)] ∧ St h h' [⟨vo, 1, ints (if agreeE rm ws = 0 then openTo ws ws.length else []), true⟩]) := by
  refine KA.fn 35 [.tmp 2, .tmp 3] Go.Proofs.Tryd.func37 rfl (by decide) rfl rfl (Nat.le_of_ble_eq_true rfl) ?_
  have hS := St.refl h
  have hvo : vW.one = true := hv.one
  show KA _ 35 _ _ [(0, .agg [.int .i64 rm, vW])] _
  refine KA.seq ?_
  refine KA.region rfl ?_
  refine KOps.boxAll hS (by first | rfl | (simp [AV.one]; done) | (simp [AV.one]; assumption) | (simp [AV.one, *]; done)) ?_
  intro p1 h' hp1 hS
  refine KOps.assign ?_
  refine KOps.assign ?_
  refine KOps.done ?_
  refine sqQ.normal ?_
  refine KA.sub (Sub.cons (t := 1) Look.eq (Sub.nil _)) ?_
  refine KA.seq ?_
  refine KA.region rfl ?_
  refine KOps.loadAll hS (i := 0) rfl hp1 (by rfl) (by decide) ?_
  refine KOps.call rfl (stSpans_c (Rd.ext hS.keeps hv)) ?_
  rintro _ h5 ⟨vs, rfl, hSS⟩
  refine KOps.move ?_
  refine KOps.extract ?_
  refine KOps.extract ?_
  refine KOps.assign ?_
  refine KOps.assign ?_
  refine KOps.done ?_
  refine sqQ.normal ?_
  refine KA.sub (Sub.cons (t := 4) Look.eq (Sub.cons (t := 5) Look.eq (Sub.nil _))) ?_
  refine KA.seq ?_
  refine KA.seq ?_
  refine KA.region rfl ?_
  refine KOps.move ?_
  refine KOps.neq ?_
  refine KOps.done ?_
  refine sqQ.normal ?_
  refine KA.sub (Sub.cons (t := 4) Look.eq (Sub.cons (t := 5) Look.eq (Sub.cons (t := 15) Look.eq (Sub.nil _)))) ?_
  refine KA.condN ?_ ?_
  · intro c15
    refine KA.seq ?_
    refine KA.region rfl ?_
    refine KOps.move ?_
    refine KOps.assign ?_
    refine KOps.assign ?_
    refine KOps.done ?_
    refine sqQ.normal ?_
    refine KA.sub (Sub.cons (t := 2) Look.eq (Sub.cons (t := 3) Look.eq (Sub.nil _))) ?_
    refine KA.ret ?_
    refine sqQ.ret ?_
    refine fnQ.retN ?_
    rw [if_neg c15]
    rw [if_neg c15] at hSS
    exact ⟨_, rfl, St.trans (St.ofK (hS.keeps.trans hSS.keeps)) (St.addNil 1 true (St.refl _))⟩
  · intro c15
    have hS0 : St _ _ (_ :: _) := St.trans hS hSS
    clear hS
    have hS := hS0
    clear hS0
    rw [if_pos c15] at hS
    have hfl := (agree_ok c15).2
    have hwl := (agree_ok c15).1.len
    have hsl := spansTo_len ws ws.length
    refine KA.skip ?_
    refine sqQ.normal ?_
    refine KA.sub (Sub.cons (t := 4) Look.eq (Sub.nil _)) ?_
    refine KA.seq ?_
    refine KA.region rfl ?_
    refine KOps.assign ?_
    refine KOps.done ?_
    refine sqQ.normal ?_
    refine KA.seq ?_
    refine KA.seq ?_
    refine KA.region rfl ?_
    refine KOps.move ?_
    refine KOps.lenF pc_len (hS.rd 0 rfl) ?_
    refine KOps.move ?_
    refine KOps.done ?_
    refine sqQ.normal ?_
    refine KA.sub (Sub.cons (t := 6) Look.eq (Sub.cons (t := 17) Look.eq (Sub.cons (t := 18) Look.eq (Sub.cons (t := 19) Look.eq (Sub.nil _))))) ?_
    refine KA.block ?_
    refine KA.loop (X := Nat × AV) (fun x => [(17, vs), (18, .int .i64 ((spansTo ws ws.length).length : Int)), (19, .int .i64 (x.1 : Int)), (6, x.2)]) (fun x h' => x.1 ≤ ws.length ∧ St h h' [⟨vs, 2, flr pc (spansTo ws ws.length), true⟩, ⟨p1, 0, [.int .i64 rm, vW], true⟩, ⟨x.2, 1, ints (openTo ws x.1), true⟩]) (fun x => ws.length - x.1) (0, .nils) (by repeat (first | exact Sub.nil _ | refine Sub.cons Look.eq ?_ | refine Sub.cons (Eq.trans Look.eq (congrArg (AV.int _) (by first | omega | (dsimp only; omega)))) ?_)) ?_ ?_
    · exact ⟨Nat.zero_le _, St.addNil 1 true hS⟩
    rintro ⟨i, vo⟩ h9 ⟨hi, hS⟩
    dsimp only at hi hS ⊢
    have hol := openTo_len ws i
    refine KA.seq ?_
    refine KA.region rfl ?_
    refine KOps.lss ?_
    refine KOps.done ?_
    refine sqQ.normal ?_
    refine KA.seq ?_
    refine KA.condD ?_ ?_
    · intro c20
      refine KA.skip ?_
      refine sqQ.normal ?_
      refine KA.sub (Sub.cons (t := 6) Look.eq (Sub.cons (t := 17) Look.eq (Sub.cons (t := 18) Look.eq (Sub.cons (t := 19) Look.eq (Sub.nil _))))) ?_
      refine KA.seq ?_
      refine KA.block ?_
      refine KA.seq ?_
      refine KA.region rfl ?_
      refine KOps.move ?_
      refine KOps.indexF pc_len (hS.rd 0 rfl) (j := i) rfl (by first | omega | (simp; omega)) ?_
      intro p22 hp22
      refine KOps.loadFl pc_len (by decide) hp22 (hS.rd 0 rfl) (by first | omega | (simp; omega)) ?_
      refine KOps.alloc hS ?_
      intro p8 h' hp8 hS
      refine KOps.assign ?_
      refine KOps.storeAll hS rfl (i := 0) rfl hp8 (by first | rfl | (simp [AV.one]; done) | (simp [AV.one]; assumption) | (simp [AV.one, *]; done)) (by rfl) (by rfl) (by decide) ?_
      intro h' hS
      simp only [List.set_cons_zero, List.set_cons_succ, Nat.zero_add] at hS
      refine KOps.done ?_
      refine sqQ.normal ?_
      refine KA.sub (Sub.cons (t := 6) Look.eq (Sub.cons (t := 7) Look.eq (Sub.cons (t := 8) Look.eq (Sub.cons (t := 17) Look.eq (Sub.cons (t := 18) Look.eq (Sub.cons (t := 19) Look.eq (Sub.nil _))))))) ?_
      refine KA.seq ?_
      refine KA.region rfl ?_
      refine KOps.indexAt hp8 (j := 0) rfl (by decide) ?_
      intro p24 hp24
      refine KOps.load hp24 (hS.rd 0 rfl) rfl ?_
      refine KOps.indexAt hp8 (j := 1) rfl (by decide) ?_
      intro p26 hp26
      refine KOps.load hp26 (hS.rd 0 rfl) rfl ?_
      refine KOps.neq ?_
      refine KOps.done ?_
      refine sqQ.normal ?_
      refine KA.sub (Sub.cons (t := 6) Look.eq (Sub.cons (t := 7) Look.eq (Sub.cons (t := 17) Look.eq (Sub.cons (t := 18) Look.eq (Sub.cons (t := 19) Look.eq (Sub.cons (t := 28) Look.eq (Sub.nil _))))))) ?_
      refine KA.condN ?_ ?_
      · intro c28
        have hg := spansTo_get (ws := ws) (k := ws.length) (i := i) (by omega)
        have hle := lo_le_hi hfl (show i < ws.length by omega)
        rw [hg] at c28
        have hlt : loOf ws i < hiOf ws i := by dsimp only at c28; omega
        refine KA.region rfl ?_
        refine KOps.move ?_
        refine KOps.move ?_
        refine KOps.buildSlice hS rfl (by decide) rfl ?_
        intro v31 h' hS
        refine KOps.appendI hS (fun _ => rfl) (i := 3) rfl (by first | omega | (simp; omega)) ?_
        intro r32 h' hr32 hS
        refine KOps.assign ?_
        refine KOps.done ?_
        refine blQ.normal ?_
        refine sqQ.normal ?_
        refine KA.sub (Sub.cons (t := 6) Look.eq (Sub.cons (t := 17) Look.eq (Sub.cons (t := 18) Look.eq (Sub.cons (t := 19) Look.eq (Sub.nil _))))) ?_
        refine KA.region rfl ?_
        refine KOps.add (by first | omega | (simp; omega)) (by first | omega | (simp; omega)) ?_
        refine KOps.move ?_
        refine KOps.done ?_
        rw [show openTo ws i ++ [(i : Int)] = openTo ws (i + 1) by rw [openTo_succ, if_pos hlt]] at hS
        exact lpQ.normal (i + 1, r32) (by repeat (first | exact Sub.nil _ | refine Sub.cons Look.eq ?_ | refine Sub.cons (Eq.trans Look.eq (congrArg (AV.int _) (by first | omega | (dsimp only; omega)))) ?_)) ⟨by dsimp only; omega, St.tail hS⟩ (by dsimp only; omega)
      · intro c28
        have hg := spansTo_get (ws := ws) (k := ws.length) (i := i) (by omega)
        have hle := lo_le_hi hfl (show i < ws.length by omega)
        rw [hg] at c28
        have hlt : ¬ loOf ws i < hiOf ws i := by dsimp only at c28; omega
        refine KA.skip ?_
        refine blQ.normal ?_
        refine sqQ.normal ?_
        refine KA.sub (Sub.cons (t := 6) Look.eq (Sub.cons (t := 17) Look.eq (Sub.cons (t := 18) Look.eq (Sub.cons (t := 19) Look.eq (Sub.nil _))))) ?_
        refine KA.region rfl ?_
        refine KOps.add (by first | omega | (simp; omega)) (by first | omega | (simp; omega)) ?_
        refine KOps.move ?_
        refine KOps.done ?_
        rw [show openTo ws i = openTo ws (i + 1) by rw [openTo_succ, if_neg hlt]] at hS
        exact lpQ.normal (i + 1, vo) (by repeat (first | exact Sub.nil _ | refine Sub.cons Look.eq ?_ | refine Sub.cons (Eq.trans Look.eq (congrArg (AV.int _) (by first | omega | (dsimp only; omega)))) ?_)) ⟨by dsimp only; omega, St.tail hS⟩ (by dsimp only; omega)
    · intro c20
      refine KA.exit ?_
      refine sqQ.exit ?_
      refine lpQ.exit ?_
      refine blQ.here ?_
      refine sqQ.normal ?_
      refine KA.sub (Sub.cons (t := 6) Look.eq (Sub.nil _)) ?_
      refine KA.seq ?_
      refine KA.region rfl ?_
      refine KOps.move ?_
      refine KOps.assign ?_
      refine KOps.assign ?_
      refine KOps.done ?_
      refine sqQ.normal ?_
      refine KA.sub (Sub.cons (t := 2) Look.eq (Sub.cons (t := 3) Look.eq (Sub.nil _))) ?_
      refine KA.ret ?_
      refine fnQ.retN ?_
      rw [if_pos c15, c15, show ws.length = i by omega]
      exact ⟨_, rfl, St.pick [2] (by decide) rfl hS⟩

end Go.Am

namespace Go.Am
section
variable {rm : Int} {ws : List W} {l : List Int}
theorem verE_chk (h : ¬ chkB rm ws = 0) : verE rm ws l = chkB rm ws := by rw [verE, if_pos h]
theorem verE_len (h : chkB rm ws = 0) (h2 : ¬ l.length = ws.length) : verE rm ws l = 5 := by rw [verE, if_neg (fun h3 => h3 h), if_pos h2]
theorem verE_in (h : chkB rm ws = 0) (h2 : l.length = ws.length) {i : Nat} (hi : i < ws.length) (h3 : ¬ ((ws.getD i default).l ≤ l.getD i 0 ∧ l.getD i 0 ≤ (ws.getD i default).m)) : verE rm ws l = 1 := by
  rw [verE, if_neg (fun h3 => h3 h), if_neg (fun h4 => h4 h2), if_pos (withinB_no hi h3)]
theorem verE_end (h : chkB rm ws = 0) (h2 : l.length = ws.length) (h3 : ∀ i, i < ws.length → (ws.getD i default).l ≤ l.getD i 0 ∧ l.getD i 0 ≤ (ws.getD i default).m) : verE rm ws l = if zeroB rm.toNat ws l = false then 17 else 0 := by
  rw [verE, if_neg (fun h3 => h3 h), if_neg (fun h4 => h4 h2), withinB_iff.2 h3, if_neg (by decide)]
theorem in_bound (hB : BOk rm ws) (h3 : ∀ i, i < ws.length → (ws.getD i default).l ≤ l.getD i 0 ∧ l.getD i 0 ≤ (ws.getD i default).m) : ∀ i, i < ws.length → 0 ≤ l.getD i 0 ∧ l.getD i 0 ≤ 99 := by
  intro i hi
  have h1 := h3 i hi
  have h4 := hB.way i hi
  have h5 := h4.l0
  have h6 := h4.m1
  omega
theorem any_zero (r : Nat) (ws : List W) (l : List Int) : ((keptL r ws l ws.length).any fun x => !decide (x = 0)) = !zeroB r ws l := by
  unfold keptL zeroB
  rw [List.any_map]
  induction List.range r with
  | nil => rfl
  | cons a t ih => rw [List.any_cons, List.all_cons, ih]; simp
end

theorem verify_c {h : AHeap} {rm : Int} {vW vn : AV} {ws : List W} {l : List Int} (hv : Rd h vW 4 (flr wc ws)) (hn : Row h vn l) : ACalls Go.Proofs.Tryd.prog 25 [.agg [.int .i64 rm, vW], vn] h (fun q h' => q = .int .i64 (verE rm ws l) ∧ Keeps h h') := by
  refine KA.fn 52 [.tmp 4] Go.Proofs.Tryd.func25 rfl (by decide) rfl rfl (Nat.le_of_ble_eq_true rfl) ?_
  have hS := St.refl h
  have hvo : vW.one = true := hv.one
  have hno : vn.one = true := hn.one
  show KA _ 52 _ _ [(0, .agg [.int .i64 rm, vW]), (1, vn)] _
  refine KA.seq ?_
  refine KA.region rfl ?_
  refine KOps.boxAll hS (by first | rfl | (simp [AV.one]; done) | (simp [AV.one]; assumption) | (simp [AV.one, *]; done)) ?_
  intro p2 h' hp2 hS
  refine KOps.assign ?_
  refine KOps.done ?_
  refine sqQ.normal ?_
  refine KA.sub (Sub.cons (t := 1) Look.eq (Sub.cons (t := 2) Look.eq (Sub.nil _))) ?_
  refine KA.seq ?_
  refine KA.region rfl ?_
  refine KOps.loadAll hS (i := 0) rfl hp2 (by rfl) (by decide) ?_
  refine KOps.call rfl (check_c (Rd.ext hS.keeps hv)) ?_
  rintro _ h5 ⟨rfl, hK⟩
  have hS0 : St _ _ (_ :: _) := St.trans hS (St.ofK hK)
  clear hS
  have hS := hS0
  clear hS0
  refine KOps.assign ?_
  refine KOps.done ?_
  refine sqQ.normal ?_
  refine KA.sub (Sub.cons (t := 1) Look.eq (Sub.cons (t := 2) Look.eq (Sub.cons (t := 5) Look.eq (Sub.nil _)))) ?_
  refine KA.seq ?_
  refine KA.block ?_
  refine KA.seq ?_
  refine KA.region rfl ?_
  refine KOps.move ?_
  refine KOps.neq ?_
  refine KOps.assign ?_
  refine KOps.done ?_
  refine sqQ.normal ?_
  refine KA.sub (Sub.cons (t := 1) Look.eq (Sub.cons (t := 2) Look.eq (Sub.cons (t := 5) Look.eq (Sub.cons (t := 11) Look.eq (Sub.nil _))))) ?_
  refine KA.condN ?_ ?_
  · intro c11
    refine KA.seq ?_
    refine KA.region rfl ?_
    refine KOps.move ?_
    refine KOps.assign ?_
    refine KOps.done ?_
    refine sqQ.normal ?_
    refine KA.sub (Sub.cons (t := 4) Look.eq (Sub.nil _)) ?_
    refine KA.ret ?_
    refine blQ.ret ?_
    refine sqQ.ret ?_
    refine fnQ.ret1 ?_
    rw [verE_chk c11]
    exact ⟨rfl, hS.keeps⟩
  · intro c11
    refine KA.seq ?_
    refine KA.region rfl ?_
    refine KOps.move ?_
    refine KOps.lenI (Row.ext hS.keeps hn) ?_
    refine KOps.fieldAddr hp2 ?_
    intro p18 hp18
    refine KOps.load hp18 (hS.rd 0 rfl) rfl ?_
    refine KOps.lenF wc_len (Rd.ext hS.keeps hv) ?_
    refine KOps.neq ?_
    refine KOps.assign ?_
    refine KOps.done ?_
    refine sqQ.normal ?_
    refine KA.sub (Sub.cons (t := 1) Look.eq (Sub.cons (t := 2) Look.eq (Sub.cons (t := 15) Look.eq (Sub.nil _)))) ?_
    refine KA.condN ?_ ?_
    · intro c15
      refine KA.seq ?_
      refine KA.region rfl ?_
      refine KOps.assign ?_
      refine KOps.done ?_
      refine sqQ.normal ?_
      refine KA.sub (Sub.cons (t := 4) Look.eq (Sub.nil _)) ?_
      refine KA.ret ?_
      refine blQ.ret ?_
      refine sqQ.ret ?_
      refine fnQ.ret1 ?_
      rw [verE_len c11 (by omega)]
      exact ⟨rfl, hS.keeps⟩
    · intro c15
      have hl : l.length = ws.length := by omega
      have hB := BOk.of c11
      have hwl := hB.len
      refine KA.skip ?_
      refine blQ.normal ?_
      refine sqQ.normal ?_
      refine KA.sub (Sub.cons (t := 1) Look.eq (Sub.cons (t := 2) Look.eq (Sub.nil _))) ?_
      refine KA.seq ?_
      refine KA.seq ?_
      refine KA.region rfl ?_
      refine KOps.move ?_
      refine KOps.lenI (Row.ext hS.keeps hn) ?_
      refine KOps.move ?_
      refine KOps.done ?_
      refine sqQ.normal ?_
      refine KA.block ?_
      refine KA.loop (X := Nat) (fun i => [(1, vn), (2, p2), (22, vn), (23, .int .i64 (l.length : Int)), (24, .int .i64 (i : Int))]) (fun i h' => i ≤ ws.length ∧ (∀ j, j < i → (ws.getD j default).l ≤ l.getD j 0 ∧ l.getD j 0 ≤ (ws.getD j default).m) ∧ St h h' [⟨p2, 0, [.int .i64 rm, vW], true⟩]) (fun i => ws.length - i) 0 (by repeat (first | exact Sub.nil _ | refine Sub.cons Look.eq ?_ | refine Sub.cons (Eq.trans Look.eq (congrArg (AV.int _) (by first | omega | (dsimp only; omega)))) ?_)) ?_ ?_
      · exact ⟨Nat.zero_le _, fun j hj => absurd hj (Nat.not_lt_zero _), hS⟩
      rintro i h9 ⟨hi, hin, hS⟩
      refine KA.seq ?_
      refine KA.region rfl ?_
      refine KOps.lss ?_
      refine KOps.done ?_
      refine sqQ.normal ?_
      refine KA.seq ?_
      refine KA.condD ?_ ?_
      · intro c25
        refine KA.skip ?_
        refine sqQ.normal ?_
        refine KA.sub (Sub.cons (t := 1) Look.eq (Sub.cons (t := 2) Look.eq (Sub.cons (t := 22) Look.eq (Sub.cons (t := 23) Look.eq (Sub.cons (t := 24) Look.eq (Sub.nil _)))))) ?_
        refine KA.seq ?_
        refine KA.block ?_
        refine KA.seq ?_
        refine KA.region rfl ?_
        refine KOps.move ?_
        refine KOps.indexIJ (Row.ext hS.keeps hn) (j := i) rfl (by first | omega | (simp; omega)) ?_
        intro p27 hp27
        refine KOps.loadI hp27 (Row.ext hS.keeps hn) (by first | omega | (simp; omega)) ?_
        refine KOps.assign ?_
        refine KOps.assign ?_
        refine KOps.done ?_
        refine sqQ.normal ?_
        refine KA.sub (Sub.cons (t := 1) Look.eq (Sub.cons (t := 2) Look.eq (Sub.cons (t := 6) Look.eq (Sub.cons (t := 7) Look.eq (Sub.cons (t := 22) Look.eq (Sub.cons (t := 23) Look.eq (Sub.cons (t := 24) Look.eq (Sub.nil _)))))))) ?_
        refine KA.seq ?_
        refine KA.draw [] mixed rfl (by kernel_rfl) ?_
        refine KOps.fieldAddr hp2 ?_
        intro p29 hp29
        refine KOps.load hp29 (hS.rd 0 rfl) rfl ?_
        refine KOps.move ?_
        refine KOps.indexF wc_len (Rd.ext hS.keeps hv) (j := i) (by first | omega | (simp; omega)) (by first | omega | (simp; omega)) ?_
        intro p32 hp32
        refine KOps.fieldAddr hp32 ?_
        intro p33 hp33
        refine KOps.loadFc wc_len (by decide) hp33 (Rd.ext hS.keeps hv) (by first | omega | (simp; omega)) rfl ?_
        refine KOps.move ?_
        refine KOps.fieldAddr hp2 ?_
        intro p36 hp36
        refine KOps.load hp36 (hS.rd 0 rfl) rfl ?_
        refine KOps.move ?_
        refine KOps.indexF wc_len (Rd.ext hS.keeps hv) (j := i) (by first | omega | (simp; omega)) (by first | omega | (simp; omega)) ?_
        intro p39 hp39
        refine KOps.fieldAddr hp39 ?_
        intro p40 hp40
        refine KOps.loadFc wc_len (by decide) hp40 (Rd.ext hS.keeps hv) (by first | omega | (simp; omega)) rfl ?_
        refine KOps.call rfl (between_c) ?_
        rintro _ _ ⟨rfl, rfl⟩
        refine KOps.not ?_
        refine KOps.done ?_
        refine sqQ.normal ?_
        refine KA.sub (Sub.cons (t := 1) Look.eq (Sub.cons (t := 2) Look.eq (Sub.cons (t := 22) Look.eq (Sub.cons (t := 23) Look.eq (Sub.cons (t := 24) Look.eq (Sub.cons (t := 43) Look.eq (Sub.nil _))))))) ?_
        refine KA.condN ?_ ?_
        · intro c43
          refine KA.seq ?_
          refine KA.region rfl ?_
          refine KOps.assign ?_
          refine KOps.done ?_
          refine sqQ.normal ?_
          refine KA.sub (Sub.cons (t := 4) Look.eq (Sub.nil _)) ?_
          refine KA.ret ?_
          refine blQ.ret ?_
          refine sqQ.ret ?_
          refine lpQ.ret ?_
          refine blQ.ret ?_
          refine sqQ.ret ?_
          refine fnQ.ret1 ?_
          rw [verE_in c11 hl (by omega) c43]
          exact ⟨rfl, hS.keeps⟩
        · intro c43
          refine KA.skip ?_
          refine blQ.normal ?_
          refine sqQ.normal ?_
          refine KA.sub (Sub.cons (t := 1) Look.eq (Sub.cons (t := 2) Look.eq (Sub.cons (t := 22) Look.eq (Sub.cons (t := 23) Look.eq (Sub.cons (t := 24) Look.eq (Sub.nil _)))))) ?_
          refine KA.region rfl ?_
          refine KOps.add (by first | omega | (simp; omega)) (by first | omega | (simp; omega)) ?_
          refine KOps.move ?_
          refine KOps.done ?_
          exact lpQ.normal (i + 1) (by repeat (first | exact Sub.nil _ | refine Sub.cons Look.eq ?_ | refine Sub.cons (Eq.trans Look.eq (congrArg (AV.int _) (by first | omega | (dsimp only; omega)))) ?_)) ⟨by omega, fun j hj => (Nat.lt_succ_iff_lt_or_eq.1 hj).elim (fun h0 => hin j h0) (fun h0 => by subst h0; exact c43), hS⟩ (by omega)
      · intro c25
        refine KA.exit ?_
        refine sqQ.exit ?_
        refine lpQ.exit ?_
        refine blQ.here ?_
        refine sqQ.normal ?_
        refine KA.sub (Sub.cons (t := 1) Look.eq (Sub.cons (t := 2) Look.eq (Sub.nil _))) ?_
        refine KA.seq ?_
        refine KA.region rfl ?_
        have hie : i = ws.length := by omega
        subst hie
        obtain ⟨r, rfl⟩ : ∃ r : Nat, rm = (r : Int) := ⟨rm.toNat, by have := hB.r2; omega⟩
        have hr6 := hB.r6
        have e0 := verE_end c11 hl hin
        refine KOps.loadAll hS (i := 0) rfl hp2 (by rfl) (by decide) ?_
        refine KOps.move ?_
        refine KOps.buildA2 (z0 := .int .i64 0) (z1 := .nils) (z2 := .nils) (by kernel_rfl) (by rfl) (by kernel_rfl) (by kernel_rfl) (by kernel_rfl) (by first | rfl | assumption) (by first | rfl | assumption) (by first | rfl | assumption) ?_
        refine KOps.boxAll hS (by show (true && (vW.one && (vn.one && true))) = true; rw [hvo, hno]; rfl) ?_
        intro p48 h' hp48 hS
        refine KOps.assign ?_
        refine KOps.done ?_
        refine sqQ.normal ?_
        refine KA.sub (Sub.cons (t := 8) Look.eq (Sub.nil _)) ?_
        refine KA.seq ?_
        refine KA.seq ?_
        refine KA.region rfl ?_
        refine KOps.move ?_
        refine KOps.call rfl (kept_c hp48 (hS.rd 0 rfl) (Rd.ext hS.keeps hv) (Row.ext hS.keeps hn) hB hl (in_bound hB hin)) ?_
        rintro vk h6 hK
        refine KOps.call rfl (anyNz_c (hK.rd 0 rfl) (by rw [keptL_len]; omega) (fun _ _ => nz63_c)) ?_
        rintro _ h7 ⟨rfl, rfl⟩
        refine KOps.done ?_
        refine sqQ.normal ?_
        refine KA.sub (Sub.cons (t := 51) Look.eq (Sub.nil _)) ?_
        refine KA.condB ?_ ?_
        · intro c51
          refine KA.seq ?_
          refine KA.region rfl ?_
          refine KOps.assign ?_
          refine KOps.done ?_
          refine sqQ.normal ?_
          refine KA.sub (Sub.cons (t := 4) Look.eq (Sub.nil _)) ?_
          refine KA.ret ?_
          refine sqQ.ret ?_
          refine fnQ.ret1 ?_
          rw [any_zero] at c51
          rw [e0, Int.toNat_natCast, show zeroB r ws l = false by simpa using c51, if_pos rfl]
          exact ⟨rfl, hS.keeps.trans hK.keeps⟩
        · intro c51
          refine KA.skip ?_
          refine sqQ.normal ?_
          refine KA.sub (Sub.nil _) ?_
          refine KA.seq ?_
          refine KA.region rfl ?_
          refine KOps.assign ?_
          refine KOps.done ?_
          refine sqQ.normal ?_
          refine KA.ret ?_
          refine fnQ.ret1 ?_
          rw [any_zero] at c51
          rw [e0, Int.toNat_natCast, show zeroB r ws l = true by simpa using c51, if_neg (by decide)]
          exact ⟨rfl, hS.keeps.trans hK.keeps⟩

end Go.Am

namespace Go.Am
/-- A flow that is the same ahead of a way, and has more there. -/
def Up (ws : List W) (l : List Int) (i : Nat) : Prop := ∃ m, Flow ws m ∧ (∀ k, k < i → m.getD k 0 = l.getD k 0) ∧ l.getD i 0 < m.getD i 0
structure IsNext (ws : List W) (l : List Int) (i : Nat) (y : List Int) : Prop where
  hi : i < ws.length
  fl : Flow ws y
  same : ∀ k, k < i → y.getD k 0 = l.getD k 0
  up : y.getD i 0 = l.getD i 0 + 1
  le : ∀ m, Flow ws m → ∀ k, i < k → k < ws.length → (∀ x, x < k → m.getD x 0 = y.getD x 0) → y.getD k 0 ≤ m.getD k 0
  no : ∀ k, i < k → k < ws.length → ¬ Up ws l k
theorem IsNext.uniq {ws : List W} {l y y' : List Int} {i i' : Nat} (h : IsNext ws l i y) (h' : IsNext ws l i' y') : y = y' := by
  have hii : i = i' := by
    rcases Nat.lt_trichotomy i i' with h1 | h1 | h1
    · exact absurd ⟨y', h'.fl, h'.same, by have := h'.up; omega⟩ (h.no i' h1 h'.hi)
    · exact h1
    · exact absurd ⟨y, h.fl, h.same, by have := h.up; omega⟩ (h'.no i h1 h.hi)
  subst hii
  have h1 : FromTo ws y (i + 1) ws.length y := ⟨h.fl, fun _ _ => rfl, fun m hm k hk hk2 => h.le m hm k (by omega) hk2⟩
  have h2 : FromTo ws y (i + 1) ws.length y' := by
    refine ⟨h'.fl, fun k hk => ?_, fun m hm k hk hk2 => h'.le m hm k (by omega) hk2⟩
    rcases Nat.lt_succ_iff_lt_or_eq.1 hk with h3 | rfl
    · rw [h'.same k h3, h.same k h3]
    · rw [h'.up, h.up]
  exact h1.uniq h2
open Classical in
noncomputable def nextOf (ws : List W) (l : List Int) : Option (List Int) := if h : ∃ y i, IsNext ws l i y then some (Classical.choose h) else none
theorem nextOf_some {ws : List W} {l y : List Int} {i : Nat} (h : IsNext ws l i y) : nextOf ws l = some y := by
  have hx : ∃ y i, IsNext ws l i y := ⟨y, i, h⟩
  unfold nextOf
  rw [dif_pos hx]
  obtain ⟨j, hj⟩ := Classical.choose_spec hx
  rw [hj.uniq h]
theorem nextOf_none {ws : List W} {l : List Int} (h : ∀ k, k < ws.length → ¬ Up ws l k) : nextOf ws l = none := by
  unfold nextOf
  rw [dif_neg]
  rintro ⟨y, i, hn⟩
  exact h i hn.hi ⟨y, hn.fl, hn.same, by have := hn.up; omega⟩
abbrev After (i : Nat) (k : Nat) : Bool := decide (i < k)
theorem pre_near {m l : List Int} {i : Nat} (h : ∀ k, k < i → m.getD k 0 = l.getD k 0) : Near i (After i) l m := by
  intro k hk hA
  have := of_decide_eq_false hA
  exact h k (by omega)
theorem near_pre {m l : List Int} {i : Nat} (h : Near i (After i) l m) : ∀ k, k < i → m.getD k 0 = l.getD k 0 := fun k hk => h k (by omega) (decide_eq_false (by omega))
theorem no_up {r : Nat} {ws : List W} {l : List Int} {i : Nat} (hr : InR r ws) (hf : Flow ws l) (hi : i < ws.length) (h : ¬ ∃ vs E, Path ws l (but i (After i)) (ws.getD i default).t vs (ws.getD i default).f E) : ¬ Up ws l i := by
  rintro ⟨m, hm, hk, hlt⟩
  have := high_of hr hf hi h m hm (pre_near hk)
  omega
theorem no_most {ws : List W} {l : List Int} {i : Nat} (hi : i < ws.length) (h : l.getD i 0 = (ws.getD i default).m) : ¬ Up ws l i := by
  rintro ⟨m, hm, _, hlt⟩
  have := hm.hi i hi
  omega
theorem next_from {ws : List W} {l n y : List Int} {i : Nat} (hi : i < ws.length) (hn : Near i (After i) l n) (hu : n.getD i 0 = l.getD i 0 + 1) (hy : FromTo ws n (i + 1) ws.length y) (hno : ∀ k, i < k → k < ws.length → ¬ Up ws l k) : IsNext ws l i y :=
  ⟨hi, hy.fl, fun k hk => by rw [hy.same k (by omega), near_pre hn k hk], by rw [hy.same i (by omega), hu], fun m hm k hk hk2 h => hy.le m hm k (by omega) hk2 h, hno⟩
/-- Another flow, and the error. -/
noncomputable def otherL (rm : Int) (ws : List W) (l : List Int) : List Int :=
  if verE rm ws l = 0 then (if firstOf ws = l then (nextOf ws l).getD [] else firstOf ws) else []
open Classical in
noncomputable def otherE (rm : Int) (ws : List W) (l : List Int) : Int :=
  if verE rm ws l = 0 then (if firstOf ws = l then (if (nextOf ws l).isSome then 0 else 12) else 0) else verE rm ws l
end Go.Am

namespace Go.Am

theorem refSame_c {h : AHeap} {v u : AV} {a b : List Int} (hv : Row h v a) (hu : Row h u b) (hla : a.length ≤ 1000000) (hlab : a.length = b.length) : ACalls Go.Proofs.Tryd.prog 69 [v, u] h (fun q h' => q = .bool (decide (a = b)) ∧ h = h') := by
  refine KA.fn 26 [.tmp 4] Go.Proofs.Tryd.func69 rfl (by decide) rfl rfl (Nat.le_of_ble_eq_true rfl) ?_
  show KA _ 26 _ _ [(0, v), (1, u)] _
  refine KA.seq ?_
  refine KA.region rfl ?_
  refine KOps.assign ?_
  refine KOps.done ?_
  refine sqQ.normal ?_
  refine KA.sub (Sub.cons (t := 0) Look.eq (Sub.cons (t := 1) Look.eq (Sub.nil _))) ?_
  refine KA.seq ?_
  refine KA.seq ?_
  refine KA.region rfl ?_
  refine KOps.assign ?_
  refine KOps.done ?_
  refine sqQ.normal ?_
  refine KA.block ?_
  refine KA.loop (X := Nat) (fun i => [(0, v), (1, u), (5, .int .i64 (i : Int))]) (fun i h' => h = h' ∧ i ≤ a.length ∧ ∀ j, j < i → a.getD j 0 = b.getD j 0) (fun i => a.length - i) 0 (by repeat (first | exact Sub.nil _ | refine Sub.cons Look.eq ?_ | refine Sub.cons (Eq.trans Look.eq (congrArg (AV.int _) (by first | omega | (dsimp only; omega)))) ?_)) ?_ ?_
  · exact ⟨rfl, Nat.zero_le _, fun j hj => by omega⟩
  rintro i _ ⟨rfl, hi, hj⟩
  refine KA.seq ?_
  refine KA.seq ?_
  refine KA.region rfl ?_
  refine KOps.move ?_
  refine KOps.move ?_
  refine KOps.lenI hv ?_
  refine KOps.lss ?_
  refine KOps.done ?_
  refine sqQ.normal ?_
  refine KA.sub (Sub.cons (t := 0) Look.eq (Sub.cons (t := 1) Look.eq (Sub.cons (t := 5) Look.eq (Sub.cons (t := 9) Look.eq (Sub.nil _))))) ?_
  refine KA.condD ?_ ?_
  · intro c9
    refine KA.skip ?_
    refine sqQ.normal ?_
    refine KA.sub (Sub.cons (t := 0) Look.eq (Sub.cons (t := 1) Look.eq (Sub.cons (t := 5) Look.eq (Sub.nil _)))) ?_
    refine KA.seq ?_
    refine KA.block ?_
    refine KA.seq ?_
    refine KA.draw [] mixed rfl (by kernel_rfl) ?_
    refine KOps.move ?_
    refine KOps.move ?_
    refine KOps.indexIJ hv (j := i) rfl (by first | omega | (simp; omega)) ?_
    intro p14 hp14
    refine KOps.loadI hp14 hv (by first | omega | (simp; omega)) ?_
    refine KOps.move ?_
    refine KOps.move ?_
    refine KOps.indexIJ hu (j := i) rfl (by first | omega | (simp; omega)) ?_
    intro p18 hp18
    refine KOps.loadI hp18 hu (by first | omega | (simp; omega)) ?_
    refine KOps.neq ?_
    refine KOps.done ?_
    refine sqQ.normal ?_
    refine KA.sub (Sub.cons (t := 0) Look.eq (Sub.cons (t := 1) Look.eq (Sub.cons (t := 5) Look.eq (Sub.cons (t := 20) Look.eq (Sub.nil _))))) ?_
    refine KA.condN ?_ ?_
    · intro c20
      refine KA.seq ?_
      refine KA.region rfl ?_
      refine KOps.assign ?_
      refine KOps.done ?_
      refine sqQ.normal ?_
      refine KA.sub (Sub.cons (t := 4) Look.eq (Sub.nil _)) ?_
      refine KA.ret ?_
      refine blQ.ret ?_
      refine sqQ.ret ?_
      refine lpQ.ret ?_
      refine blQ.ret ?_
      refine sqQ.ret ?_
      refine fnQ.ret1 ?_
      exact ⟨congrArg AV.bool (same_no (i := i) (by omega) (by omega)).symm, rfl⟩
    · intro c20
      refine KA.skip ?_
      refine blQ.normal ?_
      refine sqQ.normal ?_
      refine KA.sub (Sub.cons (t := 0) Look.eq (Sub.cons (t := 1) Look.eq (Sub.cons (t := 5) Look.eq (Sub.nil _)))) ?_
      refine KA.region rfl ?_
      refine KOps.move ?_
      refine KOps.add (by first | omega | (simp; omega)) (by first | omega | (simp; omega)) ?_
      refine KOps.assign ?_
      refine KOps.done ?_
      refine lpQ.normal (i + 1) (by repeat (first | exact Sub.nil _ | refine Sub.cons Look.eq ?_ | refine Sub.cons (Eq.trans Look.eq (congrArg (AV.int _) (by first | omega | (dsimp only; omega)))) ?_)) ⟨rfl, by omega, ?_⟩ (by omega)
      intro j hj2
      rcases Nat.lt_succ_iff_lt_or_eq.1 hj2 with h3 | rfl
      · exact hj j h3
      · omega
  · intro c9
    refine KA.exit ?_
    refine sqQ.exit ?_
    refine lpQ.exit ?_
    refine blQ.here ?_
    refine sqQ.normal ?_
    refine KA.sub (Sub.cons (t := 0) Look.eq (Sub.cons (t := 1) Look.eq (Sub.nil _))) ?_
    refine KA.seq ?_
    refine KA.region rfl ?_
    refine KOps.move ?_
    refine KOps.lenI hv ?_
    refine KOps.move ?_
    refine KOps.lenI hu ?_
    refine KOps.eql ?_
    refine KOps.assign ?_
    refine KOps.done ?_
    refine sqQ.normal ?_
    refine KA.sub (Sub.cons (t := 4) Look.eq (Sub.nil _)) ?_
    refine KA.ret ?_
    refine fnQ.ret1 ?_
    refine ⟨congrArg AV.bool ?_, rfl⟩
    rw [same_yes (by omega) (fun j h3 => hj j (by omega)), decide_eq_true (by omega)]

theorem equal_c {h : AHeap} {v u : AV} {a b : List Int} (hv : Row h v a) (hu : Row h u b) (hla : a.length ≤ 1000000) : ACalls Go.Proofs.Tryd.prog 64 [v, u] h (fun q h' => q = .bool (decide (a = b)) ∧ h = h') := by
  refine KA.fn 26 [.tmp 4] Go.Proofs.Tryd.func64 rfl (by decide) rfl rfl (Nat.le_of_ble_eq_true rfl) ?_
  show KA _ 26 _ _ [(0, v), (1, u)] _
  refine KA.seq ?_
  refine KA.region rfl ?_
  refine KOps.assign ?_
  refine KOps.done ?_
  refine sqQ.normal ?_
  refine KA.sub (Sub.cons (t := 0) Look.eq (Sub.cons (t := 1) Look.eq (Sub.nil _))) ?_
  refine KA.seq ?_
  refine KA.seq ?_
  refine KA.region rfl ?_
  refine KOps.move ?_
  refine KOps.lenI hv ?_
  refine KOps.move ?_
  refine KOps.lenI hu ?_
  refine KOps.neq ?_
  refine KOps.done ?_
  refine sqQ.normal ?_
  refine KA.sub (Sub.cons (t := 0) Look.eq (Sub.cons (t := 1) Look.eq (Sub.cons (t := 10) Look.eq (Sub.nil _)))) ?_
  refine KA.condN ?_ ?_
  · intro c10
    refine KA.seq ?_
    refine KA.region rfl ?_
    refine KOps.assign ?_
    refine KOps.done ?_
    refine sqQ.normal ?_
    refine KA.sub (Sub.cons (t := 4) Look.eq (Sub.nil _)) ?_
    refine KA.ret ?_
    refine sqQ.ret ?_
    refine fnQ.ret1 ?_
    refine ⟨congrArg AV.bool (decide_eq_false fun e => ?_).symm, rfl⟩
    subst e
    omega
  · intro c10
    have hlab : a.length = b.length := by omega
    refine KA.skip ?_
    refine sqQ.normal ?_
    refine KA.sub (Sub.cons (t := 0) Look.eq (Sub.cons (t := 1) Look.eq (Sub.nil _))) ?_
    refine KA.seq ?_
    refine KA.seq ?_
    refine KA.region rfl ?_
    refine KOps.move ?_
    refine KOps.lenI hv ?_
    refine KOps.move ?_
    refine KOps.done ?_
    refine sqQ.normal ?_
    refine KA.sub (Sub.cons (t := 0) Look.eq (Sub.cons (t := 1) Look.eq (Sub.cons (t := 12) Look.eq (Sub.cons (t := 13) Look.eq (Sub.nil _))))) ?_
    refine KA.block ?_
    refine KA.loop (X := Nat) (fun i => [(0, v), (1, u), (12, .int .i64 (a.length : Int)), (13, .int .i64 (i : Int))]) (fun i h' => h = h' ∧ i ≤ a.length ∧ ∀ j, j < i → a.getD j 0 = b.getD j 0) (fun i => a.length - i) 0 (by repeat (first | exact Sub.nil _ | refine Sub.cons Look.eq ?_ | refine Sub.cons (Eq.trans Look.eq (congrArg (AV.int _) (by first | omega | (dsimp only; omega)))) ?_)) ?_ ?_
    · exact ⟨rfl, Nat.zero_le _, fun j hj => by omega⟩
    rintro i _ ⟨rfl, hi, hj⟩
    refine KA.seq ?_
    refine KA.region rfl ?_
    refine KOps.lss ?_
    refine KOps.done ?_
    refine sqQ.normal ?_
    refine KA.seq ?_
    refine KA.condD ?_ ?_
    · intro c14
      refine KA.skip ?_
      refine sqQ.normal ?_
      refine KA.sub (Sub.cons (t := 0) Look.eq (Sub.cons (t := 1) Look.eq (Sub.cons (t := 12) Look.eq (Sub.cons (t := 13) Look.eq (Sub.nil _))))) ?_
      refine KA.seq ?_
      refine KA.block ?_
      refine KA.seq ?_
      refine KA.region rfl ?_
      refine KOps.move ?_
      refine KOps.assign ?_
      refine KOps.done ?_
      refine sqQ.normal ?_
      refine KA.sub (Sub.cons (t := 0) Look.eq (Sub.cons (t := 1) Look.eq (Sub.cons (t := 5) Look.eq (Sub.cons (t := 12) Look.eq (Sub.cons (t := 13) Look.eq (Sub.nil _)))))) ?_
      refine KA.seq ?_
      refine KA.draw [] mixed rfl (by kernel_rfl) ?_
      refine KOps.move ?_
      refine KOps.move ?_
      refine KOps.indexIJ hv (j := i) rfl (by first | omega | (simp; omega)) ?_
      intro p18 hp18
      refine KOps.loadI hp18 hv (by first | omega | (simp; omega)) ?_
      refine KOps.move ?_
      refine KOps.move ?_
      refine KOps.indexIJ hu (j := i) rfl (by first | omega | (simp; omega)) ?_
      intro p22 hp22
      refine KOps.loadI hp22 hu (by first | omega | (simp; omega)) ?_
      refine KOps.neq ?_
      refine KOps.done ?_
      refine sqQ.normal ?_
      refine KA.sub (Sub.cons (t := 0) Look.eq (Sub.cons (t := 1) Look.eq (Sub.cons (t := 12) Look.eq (Sub.cons (t := 13) Look.eq (Sub.cons (t := 24) Look.eq (Sub.nil _)))))) ?_
      refine KA.condN ?_ ?_
      · intro c24
        refine KA.seq ?_
        refine KA.region rfl ?_
        refine KOps.assign ?_
        refine KOps.done ?_
        refine sqQ.normal ?_
        refine KA.sub (Sub.cons (t := 4) Look.eq (Sub.nil _)) ?_
        refine KA.ret ?_
        refine blQ.ret ?_
        refine sqQ.ret ?_
        refine lpQ.ret ?_
        refine blQ.ret ?_
        refine sqQ.ret ?_
        refine fnQ.ret1 ?_
        exact ⟨congrArg AV.bool (same_no (i := i) (by omega) (by omega)).symm, rfl⟩
      · intro c24
        refine KA.skip ?_
        refine blQ.normal ?_
        refine sqQ.normal ?_
        refine KA.sub (Sub.cons (t := 0) Look.eq (Sub.cons (t := 1) Look.eq (Sub.cons (t := 12) Look.eq (Sub.cons (t := 13) Look.eq (Sub.nil _))))) ?_
        refine KA.region rfl ?_
        refine KOps.add (by first | omega | (simp; omega)) (by first | omega | (simp; omega)) ?_
        refine KOps.move ?_
        refine KOps.done ?_
        refine lpQ.normal (i + 1) (by repeat (first | exact Sub.nil _ | refine Sub.cons Look.eq ?_ | refine Sub.cons (Eq.trans Look.eq (congrArg (AV.int _) (by first | omega | (dsimp only; omega)))) ?_)) ⟨rfl, by omega, ?_⟩ (by omega)
        intro j hj2
        rcases Nat.lt_succ_iff_lt_or_eq.1 hj2 with h3 | rfl
        · exact hj j h3
        · omega
    · intro c14
      refine KA.exit ?_
      refine sqQ.exit ?_
      refine lpQ.exit ?_
      refine blQ.here ?_
      refine sqQ.normal ?_
      refine KA.sub (Sub.nil _) ?_
      refine KA.seq ?_
      refine KA.region rfl ?_
      refine KOps.assign ?_
      refine KOps.done ?_
      refine sqQ.normal ?_
      refine KA.ret ?_
      refine fnQ.ret1 ?_
      exact ⟨congrArg AV.bool (same_yes (by omega) (fun j h3 => hj j (by omega))).symm, rfl⟩

theorem clone_c {h : AHeap} {v : AV} {l : List Int} (hv : Row h v l) (hlen : l.length ≤ 1000000) (h0 : l ≠ []) : ACalls Go.Proofs.Tryd.prog 65 [v] h (fun r h' => St h h' [⟨r, 1, ints l, true⟩]) := by
  refine KA.fn 8 [.tmp 2] Go.Proofs.Tryd.func65 rfl (by decide) rfl rfl (Nat.le_of_ble_eq_true rfl) ?_
  have hS := St.refl h
  show KA _ 8 _ _ [(0, v)] _
  refine KA.seq ?_
  refine KA.region rfl ?_
  refine KOps.assign ?_
  refine KOps.done ?_
  refine sqQ.normal ?_
  refine KA.sub (Sub.cons (t := 0) Look.eq (Sub.nil _)) ?_
  refine KA.seq ?_
  refine KA.seq ?_
  refine KA.region rfl ?_
  refine KOps.move ?_
  refine KOps.slcEq hv (by decide) (by intro he; exact h0 (by simpa [ints] using he)) ?_
  refine KOps.done ?_
  refine sqQ.normal ?_
  refine KA.sub (Sub.cons (t := 0) Look.eq (Sub.cons (t := 4) Look.eq (Sub.nil _))) ?_
  refine KA.condF ?_
  refine KA.skip ?_
  refine sqQ.normal ?_
  refine KA.sub (Sub.cons (t := 0) Look.eq (Sub.nil _)) ?_
  refine KA.seq ?_
  refine KA.region rfl ?_
  refine KOps.buildSlice hS rfl (by decide) rfl ?_
  intro v5 h' hS
  refine KOps.move ?_
  refine KOps.appendAll hS (fun _ => rfl) (i := 0) (p := []) rfl (Row.ext hS.keeps hv) (by rw [List.length_nil]; omega) ?_
  intro r7 h6 hr7 hS
  simp only [List.set_cons_zero, List.nil_append] at hS
  refine KOps.assign ?_
  refine KOps.done ?_
  refine sqQ.normal ?_
  refine KA.sub (Sub.cons (t := 2) Look.eq (Sub.nil _)) ?_
  refine KA.ret ?_
  refine fnQ.ret1 ?_
  exact hS

theorem other1_c {h : AHeap} {i k : Nat} {p9 : AV} (hp9 : AddrOf p9 p9 0 0) (h9 : Rd h p9 0 [.int .i64 ((i + 1 : Nat) - 1 : Int)]) : ACalls Go.Proofs.Tryd.prog 67 [.int .i64 (k : Int), p9] h (fun q h' => q = .bool (but i (After i) k) ∧ h = h') := by
  refine KA.fn 7 [.tmp 3] Go.Proofs.Tryd.func67 rfl (by decide) rfl rfl (Nat.le_of_ble_eq_true rfl) ?_
  show KA _ 7 _ _ [(0, .int .i64 (k : Int)), (1, p9)] _
  refine KA.seq ?_
  refine KA.region rfl ?_
  refine KOps.assign ?_
  refine KOps.done ?_
  refine sqQ.normal ?_
  refine KA.sub (Sub.cons (t := 0) Look.eq (Sub.cons (t := 1) Look.eq (Sub.nil _))) ?_
  refine KA.seq ?_
  refine KA.region rfl ?_
  refine KOps.move ?_
  refine KOps.load hp9 h9 rfl ?_
  refine KOps.gtr ?_
  refine KOps.assign ?_
  refine KOps.done ?_
  refine sqQ.normal ?_
  refine KA.sub (Sub.cons (t := 3) Look.eq (Sub.nil _)) ?_
  refine KA.ret ?_
  refine fnQ.ret1 ?_
  refine ⟨congrArg AV.bool ?_, rfl⟩
  rw [but, After]
  by_cases hk : i < k
  · rw [decide_eq_true hk, decide_eq_true (by omega), decide_eq_false (by omega)]; rfl
  · rw [decide_eq_false hk, decide_eq_false (by omega), Bool.and_false]

theorem other_c {h : AHeap} {rm : Int} {vW vn : AV} {ws : List W} {l : List Int} (hv : Rd h vW 4 (flr wc ws)) (hn : Row h vn l) : ACalls Go.Proofs.Tryd.prog 27 [.agg [.int .i64 rm, vW], vn] h (fun q h' => ∃ vo, q = .tup [vo, .int .i64 (otherE rm ws l)] ∧ St h h' [⟨vo, 1, ints (otherL rm ws l), true⟩]) := by
  refine KA.fn 86 [.tmp 4, .tmp 5] Go.Proofs.Tryd.func27 rfl (by decide) rfl rfl (Nat.le_of_ble_eq_true rfl) ?_
  have hS := St.refl h
  have hvo : vW.one = true := hv.one
  have hno : vn.one = true := hn.one
  show KA _ 86 _ _ [(0, .agg [.int .i64 rm, vW]), (1, vn)] _
  refine KA.seq ?_
  refine KA.region rfl ?_
  refine KOps.boxAll hS (by first | rfl | (simp [AV.one]; done) | (simp [AV.one]; assumption) | (simp [AV.one, *]; done)) ?_
  intro p2 h' hp2 hS
  refine KOps.assign ?_
  refine KOps.assign ?_
  refine KOps.done ?_
  refine sqQ.normal ?_
  refine KA.sub (Sub.cons (t := 1) Look.eq (Sub.cons (t := 2) Look.eq (Sub.nil _))) ?_
  refine KA.seq ?_
  refine KA.seq ?_
  refine KA.region rfl ?_
  refine KOps.loadAll hS (i := 0) rfl hp2 (by rfl) (by decide) ?_
  refine KOps.move ?_
  refine KOps.call rfl (verify_c (Rd.ext hS.keeps hv) (Row.ext hS.keeps hn)) ?_
  rintro _ h5 ⟨rfl, hK⟩
  have hS0 : St _ _ (_ :: _) := St.trans hS (St.ofK hK)
  clear hS
  have hS := hS0
  clear hS0
  refine KOps.assign ?_
  refine KOps.done ?_
  refine sqQ.normal ?_
  refine KA.sub (Sub.cons (t := 1) Look.eq (Sub.cons (t := 2) Look.eq (Sub.cons (t := 6) Look.eq (Sub.nil _)))) ?_
  refine KA.seq ?_
  refine KA.region rfl ?_
  refine KOps.move ?_
  refine KOps.neq ?_
  refine KOps.done ?_
  refine sqQ.normal ?_
  refine KA.sub (Sub.cons (t := 1) Look.eq (Sub.cons (t := 2) Look.eq (Sub.cons (t := 6) Look.eq (Sub.cons (t := 17) Look.eq (Sub.nil _))))) ?_
  refine KA.condN ?_ ?_
  · intro c17
    refine KA.seq ?_
    refine KA.region rfl ?_
    refine KOps.move ?_
    refine KOps.assign ?_
    refine KOps.assign ?_
    refine KOps.done ?_
    refine sqQ.normal ?_
    refine KA.sub (Sub.cons (t := 4) Look.eq (Sub.cons (t := 5) Look.eq (Sub.nil _))) ?_
    refine KA.ret ?_
    refine sqQ.ret ?_
    refine fnQ.retN ?_
    rw [otherE, otherL, if_neg c17, if_neg c17]
    exact ⟨_, rfl, St.pick [1] (by decide) rfl (St.addNil 1 true hS)⟩
  · intro c17
    obtain ⟨hB, hlf⟩ := verE_flow c17
    have e0 := agree_flow (by
      unfold verE at c17
      by_cases h1 : chkB rm ws = 0
      · exact h1
      · rw [if_pos h1] at c17; exact c17) hlf
    have hl := hlf.len
    have hwl := hB.len
    have hfo := firstOf_is ⟨l, hlf⟩
    have hfl := hfo.fl.len
    refine KA.skip ?_
    refine sqQ.normal ?_
    refine KA.sub (Sub.cons (t := 1) Look.eq (Sub.cons (t := 2) Look.eq (Sub.nil _))) ?_
    refine KA.seq ?_
    refine KA.region rfl ?_
    refine KOps.loadAll hS (i := 0) rfl hp2 (by rfl) (by decide) ?_
    refine KOps.call rfl (stFirst_c (Rd.ext hS.keeps hv)) ?_
    rintro _ h6 ⟨vo, rfl, hSF⟩
    have hS0 : St _ _ (_ :: _) := St.trans hS hSF
    clear hS
    have hS := hS0
    clear hS0
    rw [if_pos e0] at hS
    rw [e0]
    refine KOps.move ?_
    refine KOps.extract ?_
    refine KOps.extract ?_
    refine KOps.assign ?_
    refine KOps.assign ?_
    refine KOps.done ?_
    refine sqQ.normal ?_
    refine KA.sub (Sub.cons (t := 1) Look.eq (Sub.cons (t := 2) Look.eq (Sub.cons (t := 7) Look.eq (Sub.nil _)))) ?_
    refine KA.seq ?_
    refine KA.seq ?_
    refine KA.region rfl ?_
    refine KOps.move ?_
    refine KOps.move ?_
    refine KOps.call rfl (equal_c (hS.rd 0 rfl) (Row.ext hS.keeps hn) (by omega)) ?_
    rintro _ _ ⟨rfl, rfl⟩
    refine KOps.not ?_
    refine KOps.done ?_
    refine sqQ.normal ?_
    refine KA.sub (Sub.cons (t := 2) Look.eq (Sub.cons (t := 7) Look.eq (Sub.cons (t := 27) Look.eq (Sub.nil _)))) ?_
    refine KA.condN ?_ ?_
    · intro c27
      refine KA.seq ?_
      refine KA.region rfl ?_
      refine KOps.move ?_
      refine KOps.assign ?_
      refine KOps.assign ?_
      refine KOps.done ?_
      refine sqQ.normal ?_
      refine KA.sub (Sub.cons (t := 4) Look.eq (Sub.cons (t := 5) Look.eq (Sub.nil _))) ?_
      refine KA.ret ?_
      refine sqQ.ret ?_
      refine fnQ.retN ?_
      rw [otherE, otherL, if_pos c17, if_pos c17, if_neg c27, if_neg c27]
      exact ⟨_, rfl, St.pick [0] (by decide) rfl hS⟩
    · intro c27
      obtain ⟨r, rfl⟩ : ∃ r : Nat, rm = (r : Int) := ⟨rm.toNat, by have := hB.r2; omega⟩
      have e27 : firstOf ws = l := c27
      rw [e27] at hS
      refine KA.skip ?_
      refine sqQ.normal ?_
      refine KA.sub (Sub.cons (t := 2) Look.eq (Sub.cons (t := 7) Look.eq (Sub.nil _))) ?_
      refine KA.seq ?_
      refine KA.seq ?_
      refine KA.region rfl ?_
      refine KOps.move ?_
      refine KOps.lenI (hS.rd 0 rfl) ?_
      refine KOps.sub (by first | omega | (simp; omega)) (by first | omega | (simp; omega)) ?_
      refine KOps.alloc hS ?_
      intro p9 h' hp9 hS
      refine KOps.storeBox hS rfl (i := 0) rfl hp9 (by first | rfl | assumption) ?_
      intro h' hS
      refine KOps.done ?_
      refine sqQ.normal ?_
      refine KA.sub (Sub.cons (t := 2) Look.eq (Sub.cons (t := 7) Look.eq (Sub.cons (t := 9) Look.eq (Sub.nil _)))) ?_
      refine KA.block ?_
      refine KA.loop (X := Nat × AV) (fun x => [(2, p2), (7, vo), (9, x.2)]) (fun x h' => x.1 ≤ ws.length ∧ AddrOf x.2 x.2 0 0 ∧ (∀ k, x.1 ≤ k → k < ws.length → ¬ Up ws l k) ∧ St h h' [⟨x.2, 0, [.int .i64 ((x.1 : Int) - 1)], true⟩, ⟨vo, 1, ints l, true⟩, ⟨p2, 0, [.int .i64 (r : Int), vW], true⟩]) (fun x => x.1) (ws.length, p9) (by repeat (first | exact Sub.nil _ | refine Sub.cons Look.eq ?_ | refine Sub.cons (Eq.trans Look.eq (congrArg (AV.int _) (by first | omega | (dsimp only; omega)))) ?_)) ?_ ?_
      · exact ⟨Nat.le_refl _, hp9, fun k h1 h2 => by omega, by rw [← hl]; exact hS⟩
      rintro ⟨k, pi⟩ h9 ⟨hki, hpi, hno2, hS⟩
      dsimp only at hki hpi hno2 hS ⊢
      refine KA.seq ?_
      refine KA.seq ?_
      refine KA.region rfl ?_
      refine KOps.loadBox hS (i := 0) rfl hpi ?_
      refine KOps.geq ?_
      refine KOps.done ?_
      refine sqQ.normal ?_
      refine KA.sub (Sub.cons (t := 2) Look.eq (Sub.cons (t := 7) Look.eq (Sub.cons (t := 9) Look.eq (Sub.cons (t := 33) Look.eq (Sub.nil _))))) ?_
      refine KA.condD ?_ ?_
      · intro c33
        obtain ⟨i, rfl⟩ : ∃ i, k = i + 1 := ⟨k - 1, by omega⟩
        have hwi := hB.way i (by omega)
        have hwf0 := hwi.f0
        have hwf1 := hwi.f1
        have hwt0 := hwi.t0
        have hwt1 := hwi.t1
        have hib := within_bound hB hlf.toWithin i (by omega)
        refine KA.skip ?_
        refine sqQ.normal ?_
        refine KA.sub (Sub.cons (t := 2) Look.eq (Sub.cons (t := 7) Look.eq (Sub.cons (t := 9) Look.eq (Sub.nil _)))) ?_
        refine KA.seq ?_
        refine KA.block ?_
        refine KA.seq ?_
        refine KA.region rfl ?_
        refine KOps.fieldAddr hp2 ?_
        intro p36 hp36
        refine KOps.load hp36 (hS.rd 2 rfl) rfl ?_
        refine KOps.loadBox hS (i := 0) rfl hpi ?_
        refine KOps.indexF wc_len (Rd.ext hS.keeps hv) (j := i) (by first | omega | (simp; omega)) (by first | omega | (simp; omega)) ?_
        intro p39 hp39
        refine KOps.loadFl wc_len (by decide) hp39 (Rd.ext hS.keeps hv) (by first | omega | (simp; omega)) ?_
        refine KOps.alloc hS ?_
        intro p10 h' hp10 hS
        refine KOps.storeAll hS rfl (i := 0) rfl hp10 (by first | rfl | (simp [AV.one]; done) | (simp [AV.one]; assumption) | (simp [AV.one, *]; done)) (by rfl) (by rfl) (by decide) ?_
        intro h' hS
        simp only [List.set_cons_zero, List.set_cons_succ, Nat.zero_add] at hS
        refine KOps.done ?_
        refine sqQ.normal ?_
        refine KA.sub (Sub.cons (t := 2) Look.eq (Sub.cons (t := 7) Look.eq (Sub.cons (t := 9) Look.eq (Sub.cons (t := 10) Look.eq (Sub.nil _))))) ?_
        refine KA.seq ?_
        refine KA.draw [2] mixed rfl (by kernel_rfl) ?_
        refine KOps.loadAll hS (i := 3) rfl hp2 (by rfl) (by decide) ?_
        refine KOps.move ?_
        refine KOps.callK (fun _ _ hr => hr.keeps) (clone_c (hS.rd 2 rfl) (by omega) (by rintro rfl; simp at hl; omega)) ?_
        rintro v43 h7 hC
        have hS0 : St _ _ (_ :: _) := St.trans hS hC
        clear hS
        have hS := hS0
        clear hS0
        have hv43 : v43.one = true := St.one hS (k := 0) rfl
        refine KOps.buildA2 (z0 := .int .i64 0) (z1 := .nils) (z2 := .nils) (by kernel_rfl) (by rfl) (by kernel_rfl) (by kernel_rfl) (by kernel_rfl) (by first | rfl | assumption) (by first | rfl | assumption) (by first | rfl | assumption) ?_
        refine KOps.boxAll hS (by show (true && (vW.one && (v43.one && true))) = true; rw [hvo, hv43]; rfl) ?_
        intro p45 h' hp45 hS
        refine KOps.assign ?_
        refine KOps.done ?_
        refine sqQ.normal ?_
        refine KA.sub (Sub.cons (t := 2) Look.eq (Sub.cons (t := 7) Look.eq (Sub.cons (t := 9) Look.eq (Sub.cons (t := 10) Look.eq (Sub.cons (t := 11) Look.eq (Sub.nil _)))))) ?_
        refine KA.seq ?_
        refine KA.seq ?_
        refine KA.draw [] mixed rfl (by kernel_rfl) ?_
        refine KOps.move ?_
        refine KOps.nilP hp45 ?_
        refine KOps.fieldAddr hp45 ?_
        intro p48 hp48
        refine KOps.load hp48 (hS.rd 0 rfl) rfl ?_
        refine KOps.loadBox hS (i := 3) rfl hpi ?_
        refine KOps.indexIJ (hS.rd 1 rfl) (j := i) (by first | omega | (simp; omega)) (by first | omega | (simp; omega)) ?_
        intro p51 hp51
        refine KOps.loadI hp51 (hS.rd 1 rfl) (by first | omega | (simp; omega)) ?_
        refine KOps.fieldAddr hp10 ?_
        intro p53 hp53
        refine KOps.load hp53 (hS.rd 2 rfl) rfl ?_
        refine KOps.eql ?_
        refine KOps.done ?_
        refine sqQ.normal ?_
        refine KA.sub (Sub.cons (t := 2) Look.eq (Sub.cons (t := 7) Look.eq (Sub.cons (t := 9) Look.eq (Sub.cons (t := 10) Look.eq (Sub.cons (t := 11) Look.eq (Sub.cons (t := 55) Look.eq (Sub.nil _))))))) ?_
        refine KA.condD ?_ ?_
        · intro c55
          refine KA.exit ?_
          refine sqQ.exit ?_
          refine blQ.here ?_
          refine sqQ.normal ?_
          refine KA.sub (Sub.cons (t := 2) Look.eq (Sub.cons (t := 7) Look.eq (Sub.cons (t := 9) Look.eq (Sub.nil _)))) ?_
          refine KA.seq ?_
          refine KA.seq ?_
          refine KA.region rfl ?_
          refine KOps.loadBox hS (i := 3) rfl hpi ?_
          refine KOps.done ?_
          refine sqQ.normal ?_
          refine KA.sub (Sub.cons (t := 2) Look.eq (Sub.cons (t := 7) Look.eq (Sub.cons (t := 85) Look.eq (Sub.nil _)))) ?_
          refine KA.region rfl ?_
          refine KOps.alloc hS ?_
          intro p9 h' hp9 hS
          refine KOps.storeBox hS rfl (i := 0) rfl hp9 (by first | rfl | assumption) ?_
          intro h' hS
          refine KOps.done ?_
          refine sqQ.normal ?_
          refine KA.sub (Sub.cons (t := 2) Look.eq (Sub.cons (t := 7) Look.eq (Sub.cons (t := 9) Look.eq (Sub.nil _)))) ?_
          refine KA.region rfl ?_
          refine KOps.loadBox hS (i := 0) rfl hp9 ?_
          refine KOps.sub (by first | omega | (simp; omega)) (by first | omega | (simp; omega)) ?_
          refine KOps.storeBox hS rfl (i := 0) rfl hp9 (by first | rfl | assumption) ?_
          intro h' hS
          refine KOps.done ?_
          rw [show ((i + 1 : Nat) : Int) - 1 - 1 = (i : Int) - 1 by omega] at hS
          refine lpQ.normal (i, p9) (by repeat (first | exact Sub.nil _ | refine Sub.cons Look.eq ?_ | refine Sub.cons (Eq.trans Look.eq (congrArg (AV.int _) (by first | omega | (dsimp only; omega)))) ?_)) ⟨by dsimp only; omega, hp9, fun k h1 h2 => ?_, St.pick [0, 5, 6] (by decide) rfl hS⟩ (by dsimp only; omega)
          rcases Nat.eq_or_lt_of_le h1 with h3 | h3
          · subst h3
            exact no_most h2 c55
          · exact hno2 k h3 h2
        · intro c55
          refine KA.skip ?_
          refine sqQ.normal ?_
          refine KA.sub (Sub.cons (t := 2) Look.eq (Sub.cons (t := 7) Look.eq (Sub.cons (t := 9) Look.eq (Sub.cons (t := 10) Look.eq (Sub.cons (t := 11) Look.eq (Sub.nil _)))))) ?_
          refine KA.seq ?_
          refine KA.region rfl ?_
          refine KOps.move ?_
          refine KOps.fieldAddr hp10 ?_
          intro p57 hp57
          refine KOps.load hp57 (hS.rd 2 rfl) rfl ?_
          refine KOps.fieldAddr hp10 ?_
          intro p59 hp59
          refine KOps.load hp59 (hS.rd 2 rfl) rfl ?_
          refine KOps.makeFunc ?_
          refine KOps.call rfl (path_c hp45 (hS.rd 0 rfl) (Rd.ext hS.keeps hv) (hS.rd 1 rfl) hB hl hwt0 hwt1 (A := but i (After i)) (by
              intro h' k hK hk
              exact other1_c hpi (Rd.ext hK (hS.rd 3 rfl)))) ?_
          rintro q h8 ⟨b, G9, hq, hG, hno, hyes⟩
          have hS9 := St.trans hS hG
          clear hS
          refine KOps.assign ?_
          refine KOps.done ?_
          refine sqQ.normal ?_
          refine KA.sub (Sub.cons (t := 2) Look.eq (Sub.cons (t := 7) Look.eq (Sub.cons (t := 9) Look.eq (Sub.cons (t := 11) Look.eq (Sub.cons (t := 12) Look.eq (Sub.nil _)))))) ?_
          refine KA.seq ?_
          refine KA.region rfl ?_
          refine KOps.move ?_
          refine KOps.neqNilm (p := (3, 4)) (by kernel_rfl) hq ?_
          refine KOps.done ?_
          refine sqQ.normal ?_
          refine KA.sub (Sub.cons (t := 2) Look.eq (Sub.cons (t := 7) Look.eq (Sub.cons (t := 9) Look.eq (Sub.cons (t := 11) Look.eq (Sub.cons (t := 12) Look.eq (Sub.cons (t := 64) Look.eq (Sub.nil _))))))) ?_
          refine KA.condB ?_ ?_
          · intro c64
            have hb : b = false := by simpa using c64
            subst hb
            obtain ⟨vs, E, p, rfl⟩ := hyes rfl
            have hS := St.sink2 hS9
            clear hS9
            have hpl := pushE_len E l
            have hsm := p.same (but_self i (After i))
            refine KA.seq ?_
            refine KA.region rfl ?_
            refine KOps.move ?_
            refine KOps.move ?_
            refine KOps.call rfl (pushP_c (G := [_, _, _, _]) hp45 (AV.mapNil_mp hq) hB hlf.toWithin (by omega) p hS) ?_
            rintro _ h10 hS
            refine KOps.done ?_
            refine sqQ.normal ?_
            refine KA.sub (Sub.cons (t := 9) Look.eq (Sub.cons (t := 11) Look.eq (Sub.nil _))) ?_
            refine KA.seq ?_
            refine KA.draw [] mixed rfl (by kernel_rfl) ?_
            refine KOps.move ?_
            refine KOps.nilP hp45 ?_
            refine KOps.fieldAddr hp45 ?_
            intro p70 hp70
            refine KOps.load hp70 (hS.rd 0 rfl) rfl ?_
            refine KOps.loadBox hS (i := 3) rfl hpi ?_
            refine KOps.indexIJ (hS.rd 1 rfl) (j := i) (by first | omega | (simp; omega)) (by first | omega | (simp; omega)) ?_
            intro p73 hp73
            refine KOps.loadI hp73 (hS.rd 1 rfl) (by first | omega | (simp; omega)) ?_
            refine KOps.add (by first | omega | (simp; omega)) (by first | omega | (simp; omega)) ?_
            refine KOps.indexIJ (hS.rd 1 rfl) (j := i) (by first | omega | (simp; omega)) (by first | omega | (simp; omega)) ?_
            intro p76 hp76
            refine KOps.storeI hS rfl (i := 1) rfl hp76 (by first | omega | (simp; omega)) ?_
            intro h' hS
            refine KOps.done ?_
            refine sqQ.normal ?_
            refine KA.sub (Sub.cons (t := 9) Look.eq (Sub.cons (t := 11) Look.eq (Sub.nil _))) ?_
            refine KA.seq ?_
            refine KA.region rfl ?_
            have hmx := hlf.hi i (by omega)
            obtain ⟨hfl2, hn2, hu2⟩ := p.raise hlf (by omega) (by omega)
            rw [hsm] at hS
            refine KOps.move ?_
            refine KOps.loadBox hS (i := 3) rfl hpi ?_
            refine KOps.add (by omega) (by omega) ?_
            rw [show ((i + 1 : Nat) - 1 : Int) + 1 = ((i + 1 : Nat) : Int) by omega]
            refine KOps.call rfl (first_c (i := i + 1) (G := [_, _, _, _]) hp45 hv hB hfl2 (by omega) hS) ?_
            rintro _ h11 ⟨y, hS11, hft⟩
            clear hS
            have hS := hS11
            clear hS11
            refine KOps.done ?_
            refine sqQ.normal ?_
            refine KA.sub (Sub.cons (t := 11) Look.eq (Sub.nil _)) ?_
            refine KA.seq ?_
            refine KA.region rfl ?_
            refine KOps.move ?_
            refine KOps.nilP hp45 ?_
            refine KOps.fieldAddr hp45 ?_
            intro p83 hp83
            refine KOps.load hp83 (hS.rd 0 rfl) rfl ?_
            refine KOps.assign ?_
            refine KOps.assign ?_
            refine KOps.done ?_
            refine sqQ.normal ?_
            refine KA.sub (Sub.cons (t := 4) Look.eq (Sub.cons (t := 5) Look.eq (Sub.nil _))) ?_
            refine KA.ret ?_
            refine blQ.ret ?_
            refine sqQ.ret ?_
            refine lpQ.ret ?_
            refine blQ.ret ?_
            refine sqQ.ret ?_
            refine fnQ.retN ?_
            have hnx := next_from (by omega) hn2 hu2 hft (fun k h1 h2 => hno2 k h1 h2)
            have e1 : otherE (r : Int) ws l = 0 := by rw [otherE, if_pos c17, if_pos e27, nextOf_some hnx]; rfl
            have e2 : otherL (r : Int) ws l = y := by rw [otherL, if_pos c17, if_pos e27, nextOf_some hnx]; rfl
            rw [e1, e2]
            exact ⟨_, rfl, St.pick [1] (by decide) rfl hS⟩
          · intro c64
            have hS := St.drop hS9
            clear hS9
            refine KA.skip ?_
            refine blQ.normal ?_
            refine sqQ.normal ?_
            refine KA.sub (Sub.cons (t := 2) Look.eq (Sub.cons (t := 7) Look.eq (Sub.cons (t := 9) Look.eq (Sub.nil _)))) ?_
            refine KA.seq ?_
            refine KA.seq ?_
            refine KA.region rfl ?_
            refine KOps.loadBox hS (i := 3) rfl hpi ?_
            refine KOps.done ?_
            refine sqQ.normal ?_
            refine KA.sub (Sub.cons (t := 2) Look.eq (Sub.cons (t := 7) Look.eq (Sub.cons (t := 85) Look.eq (Sub.nil _)))) ?_
            refine KA.region rfl ?_
            refine KOps.alloc hS ?_
            intro p9 h' hp9 hS
            refine KOps.storeBox hS rfl (i := 0) rfl hp9 (by first | rfl | assumption) ?_
            intro h' hS
            refine KOps.done ?_
            refine sqQ.normal ?_
            refine KA.sub (Sub.cons (t := 2) Look.eq (Sub.cons (t := 7) Look.eq (Sub.cons (t := 9) Look.eq (Sub.nil _)))) ?_
            refine KA.region rfl ?_
            refine KOps.loadBox hS (i := 0) rfl hp9 ?_
            refine KOps.sub (by first | omega | (simp; omega)) (by first | omega | (simp; omega)) ?_
            refine KOps.storeBox hS rfl (i := 0) rfl hp9 (by first | rfl | assumption) ?_
            intro h' hS
            refine KOps.done ?_
            rw [show ((i + 1 : Nat) : Int) - 1 - 1 = (i : Int) - 1 by omega] at hS
            refine lpQ.normal (i, p9) (by repeat (first | exact Sub.nil _ | refine Sub.cons Look.eq ?_ | refine Sub.cons (Eq.trans Look.eq (congrArg (AV.int _) (by first | omega | (dsimp only; omega)))) ?_)) ⟨by dsimp only; omega, hp9, fun k h1 h2 => ?_, St.pick [0, 5, 6] (by decide) rfl hS⟩ (by dsimp only; omega)
            rcases Nat.eq_or_lt_of_le h1 with h3 | h3
            · subst h3
              exact no_up hB.inR hlf h2 (hno (by simpa using c64))
            · exact hno2 k h3 h2
      · intro c33
        refine KA.exit ?_
        refine sqQ.exit ?_
        refine lpQ.exit ?_
        refine blQ.here ?_
        refine sqQ.normal ?_
        refine KA.sub (Sub.nil _) ?_
        refine KA.seq ?_
        refine KA.region rfl ?_
        refine KOps.assign ?_
        refine KOps.assign ?_
        refine KOps.done ?_
        refine sqQ.normal ?_
        refine KA.ret ?_
        refine fnQ.retN ?_
        have hnn := nextOf_none (ws := ws) (l := l) (fun j h2 => hno2 j (by omega) h2)
        have e1 : otherE (r : Int) ws l = 12 := by rw [otherE, if_pos c17, if_pos e27, hnn]; rfl
        have e2 : otherL (r : Int) ws l = [] := by rw [otherL, if_pos c17, if_pos e27, hnn]; rfl
        rw [e1, e2]
        exact ⟨_, rfl, St.pick [3] (by decide) rfl (St.addNil 1 true hS)⟩

end Go.Am

namespace Go.Am
/-- What leaves rooms at least, what enters them at most; a way is left out. -/
def lstTo (ws : List W) (s : Nat) (w : Int) : Nat → Int
  | 0 => 0
  | i + 1 => lstTo ws s w i + if (i : Int) ≠ w ∧ lvs (ws.getD i default) s = true then (ws.getD i default).l else 0
def mstTo (ws : List W) (s : Nat) (w : Int) : Nat → Int
  | 0 => 0
  | i + 1 => mstTo ws s w i + if (i : Int) ≠ w ∧ ens (ws.getD i default) s = true then (ws.getD i default).m else 0
theorem sums_bound {rm : Int} {ws : List W} (h : BOk rm ws) (s : Nat) (w : Int) : ∀ k, k ≤ ws.length → (0 ≤ lstTo ws s w k ∧ lstTo ws s w k ≤ 99 * (k : Int)) ∧ 0 ≤ mstTo ws s w k ∧ mstTo ws s w k ≤ 99 * (k : Int) := by
  intro k
  induction k with
  | zero => intro _; simp [lstTo, mstTo]
  | succ k ih =>
    intro hk
    have h1 := ih (by omega)
    have hw := h.way k (by omega)
    have := hw.l0; have := hw.m1; have := hw.lm
    rw [lstTo, mstTo]
    constructor <;> split <;> omega
theorem net_sums (ws : List W) (s : Nat) : ∀ k, netTo ws s k = lstTo ws s (-1) k - mstTo ws s (-1) k := by
  intro k
  induction k with
  | zero => rfl
  | succ k ih =>
    rw [netTo, lstTo, mstTo, ih]
    cases lvs (ws.getD k default) s <;> cases ens (ws.getD k default) s <;> simp <;> omega
theorem proof_sums (ws : List W) (s : Nat) : proofB ws s = decide (mstTo ws s (-1) ws.length < lstTo ws s (-1) ws.length) := by
  rw [proofB, net_sums]
  exact decide_eq_decide.2 (by omega)
def saysV (ws : List W) (s i : Nat) : Int := if lvs (ws.getD i default) s then mstTo ws s i ws.length - lstTo ws s i ws.length else lstTo ws s i ws.length - mstTo ws s i ws.length
theorem lvs_ens (w : W) (s : Nat) : (inS s w.f == inS s w.t) = (!lvs w s && !ens w s) := by
  unfold lvs ens
  cases inS s w.f <;> cases inS s w.t <;> rfl
/-- Rooms of a list: the error of one, the error of the first ones, the set. -/
def roomE (rm : Int) (l : List Int) (i : Nat) : Int := if ¬ (0 ≤ l.getD i 0 ∧ l.getD i 0 ≤ rm - 1) then 2 else if 0 < i ∧ l.getD i 0 ≤ l.getD (i - 1) 0 then 7 else 0
def roomsE (rm : Int) (l : List Int) : Nat → Int
  | 0 => 0
  | i + 1 => if roomsE rm l i = 0 then roomE rm l i else roomsE rm l i
def setTo (l : List Int) : Nat → Nat
  | 0 => 0
  | i + 1 => setTo l i ||| 2 ^ (l.getD i 0).toNat
theorem roomsE_stop {rm : Int} {l : List Int} {i : Nat} (h0 : roomsE rm l i = 0) (he : roomE rm l i ≠ 0) : ∀ {n : Nat}, i < n → roomsE rm l n = roomE rm l i := by
  intro n
  induction n with
  | zero => intro h; omega
  | succ n ih =>
    intro h
    rw [roomsE]
    rcases Nat.lt_succ_iff_lt_or_eq.1 h with h1 | rfl
    · rw [ih h1, if_neg he]
    · rw [if_pos h0]
theorem roomsE_next {rm : Int} {l : List Int} {i : Nat} (h0 : roomsE rm l i = 0) (he : roomE rm l i = 0) : roomsE rm l (i + 1) = 0 := by rw [roomsE, if_pos h0, he]
theorem or64 : ∀ s : Nat, s < 64 → ∀ x : Nat, x < 6 → s ||| 2 ^ x < 64 := by decide +kernel
/-- Fewer rooms, or as many and smaller. -/
def befB (a b : List Int) : Bool := decide (a.length < b.length) || (decide (a.length = b.length) && (List.range a.length).any fun i => ((List.range i).all fun j => decide (a.getD j 0 = b.getD j 0)) && decide (a.getD i 0 < b.getD i 0))
theorem befB_len {a b : List Int} (h : a.length ≠ b.length) : befB a b = decide (a.length < b.length) := by
  rw [befB, decide_eq_false h, Bool.false_and, Bool.or_false]
theorem befB_at {a b : List Int} {i : Nat} (h : a.length = b.length) (hi : i < a.length) (hp : ∀ j, j < i → a.getD j 0 = b.getD j 0) (hne : a.getD i 0 ≠ b.getD i 0) : befB a b = decide (a.getD i 0 < b.getD i 0) := by
  rw [befB, decide_eq_false (by omega), Bool.false_or, decide_eq_true h, Bool.true_and, Bool.eq_iff_iff, decide_eq_true_iff, List.any_eq_true]
  constructor
  · rintro ⟨k, hk, hb⟩
    rw [Bool.and_eq_true, decide_eq_true_iff, List.all_eq_true] at hb
    obtain ⟨h1, h2⟩ := hb
    rcases Nat.lt_trichotomy k i with h3 | rfl | h3
    · have := hp k h3; omega
    · exact h2
    · exact absurd (of_decide_eq_true (h1 i (List.mem_range.2 h3))) hne
  · intro hlt
    refine ⟨i, List.mem_range.2 hi, ?_⟩
    rw [Bool.and_eq_true, decide_eq_true_iff, List.all_eq_true]
    exact ⟨fun j hj => decide_eq_true (hp j (List.mem_range.1 hj)), hlt⟩
theorem befB_same {a b : List Int} (h : a.length = b.length) (hp : ∀ j, j < a.length → a.getD j 0 = b.getD j 0) : befB a b = false := by
  rw [befB, decide_eq_false (by omega), Bool.false_or, decide_eq_true h, Bool.true_and, List.any_eq_false]
  intro i hi
  rw [Bool.and_eq_true, decide_eq_true_iff]
  rintro ⟨_, h2⟩
  have := hp i (List.mem_range.1 hi)
  omega
/-- The first set with the fewest rooms. -/
def betterO (o : Option Nat) (k : Nat) : Bool := match o with | none => true | some b => befB (roomsTo k 6) (roomsTo b 6)
def bestTo (p : Nat → Bool) : Nat → Option Nat
  | 0 => none
  | k + 1 => if (p k && betterO (bestTo p k) k) = true then some k else bestTo p k
def fewL (p : Nat → Bool) (k : Nat) : List Int := match bestTo p k with | none => [] | some b => roomsTo b 6
end Go.Am

namespace Go.Am
theorem and8 : ∀ s : Nat, s < 64 → ∀ i : Nat, i < 6 → bits .and .u8 ((s : Int).fdiv (2 ^ Min.min (i : Int).toNat (IntKind.bits .u8))) 1 = if s.testBit i then 1 else 0 := by decide +kernel
theorem or8 : ∀ s : Nat, s < 64 → ∀ i : Nat, i < 6 → bits .or .u8 (s : Int) (IntKind.wrap .u8 (1 * 2 ^ Min.min (i : Int).toNat (IntKind.bits .u8))) = ((s ||| 2 ^ i : Nat) : Int) := by decide +kernel
theorem and_in8 {s : Nat} {x : Int} (hs : s < 64) (h0 : 0 ≤ x) (h1 : x < 6) : decide (bits .and .u8 ((s : Int).fdiv (2 ^ Min.min x.toNat (IntKind.bits .u8))) 1 = 1) = inS s x := by
  have := and8 s hs x.toNat (by omega)
  rw [show ((x.toNat : Nat) : Int).toNat = x.toNat by omega] at this
  rw [this]
  unfold inS
  cases s.testBit x.toNat <;> rfl

theorem has8_c {h : AHeap} {s : Nat} {x : Int} (hs : s < 64) (h0 : 0 ≤ x) (h1 : x < 6) : ACalls Go.Proofs.Tryd.prog 87 [.int .u8 (s : Int), .int .i64 x] h (fun q h' => q = .bool (inS s x) ∧ h = h') := by
  refine KA.fn 10 [.tmp 4] Go.Proofs.Tryd.func87 rfl (by decide) rfl rfl (Nat.le_of_ble_eq_true rfl) ?_
  show KA _ 10 _ _ [(0, .int .u8 (s : Int)), (1, .int .i64 x)] _
  refine KA.seq ?_
  refine KA.region rfl ?_
  refine KOps.assign ?_
  refine KOps.done ?_
  refine sqQ.normal ?_
  refine KA.sub (Sub.cons (t := 0) Look.eq (Sub.cons (t := 1) Look.eq (Sub.nil _))) ?_
  refine KA.seq ?_
  refine KA.region rfl ?_
  refine KOps.move ?_
  refine KOps.move ?_
  refine KOps.shr (by first | omega | (simp; omega)) ?_
  refine KOps.bits (by simp) ?_
  refine KOps.eql ?_
  rw [and_in8 hs h0 h1]
  refine KOps.assign ?_
  refine KOps.done ?_
  refine sqQ.normal ?_
  refine KA.sub (Sub.cons (t := 4) Look.eq (Sub.nil _)) ?_
  refine KA.ret ?_
  refine fnQ.ret1 ?_
  exact ⟨rfl, rfl⟩

theorem sums_c {h : AHeap} {rm w : Int} {vW : AV} {ws : List W} {s : Nat} (hv : Rd h vW 4 (flr wc ws)) (hB : BOk rm ws) (hs : s < 64) : ACalls Go.Proofs.Tryd.prog 97 [.agg [.int .i64 rm, vW], .int .u8 (s : Int), .int .i64 w] h (fun q h' => q = .tup [.int .i64 (lstTo ws s w ws.length), .int .i64 (mstTo ws s w ws.length)] ∧ Keeps h h') := by
  refine KA.fn 49 [.tmp 6, .tmp 7] Go.Proofs.Tryd.func97 rfl (by decide) rfl rfl (Nat.le_of_ble_eq_true rfl) ?_
  have hS := St.refl h
  have hvo : vW.one = true := hv.one
  have hwl := hB.len
  have hr6 := hB.r6
  show KA _ 49 _ _ [(0, .agg [.int .i64 rm, vW]), (1, .int .u8 (s : Int)), (2, .int .i64 w)] _
  refine KA.seq ?_
  refine KA.region rfl ?_
  refine KOps.boxAll hS (by first | rfl | (simp [AV.one]; done) | (simp [AV.one]; assumption) | (simp [AV.one, *]; done)) ?_
  intro p3 h' hp3 hS
  refine KOps.assign ?_
  refine KOps.assign ?_
  refine KOps.done ?_
  refine sqQ.normal ?_
  refine KA.sub (Sub.cons (t := 1) Look.eq (Sub.cons (t := 2) Look.eq (Sub.cons (t := 3) Look.eq (Sub.cons (t := 6) Look.eq (Sub.cons (t := 7) Look.eq (Sub.nil _)))))) ?_
  refine KA.seq ?_
  refine KA.seq ?_
  refine KA.region rfl ?_
  refine KOps.fieldAddr hp3 ?_
  intro p10 hp10
  refine KOps.load hp10 (hS.rd 0 rfl) rfl ?_
  refine KOps.lenF wc_len (Rd.ext hS.keeps hv) ?_
  refine KOps.move ?_
  refine KOps.done ?_
  refine sqQ.normal ?_
  refine KA.sub (Sub.cons (t := 1) Look.eq (Sub.cons (t := 2) Look.eq (Sub.cons (t := 6) Look.eq (Sub.cons (t := 7) Look.eq (Sub.cons (t := 11) Look.eq (Sub.cons (t := 12) Look.eq (Sub.cons (t := 13) Look.eq (Sub.nil _)))))))) ?_
  refine KA.block ?_
  refine KA.loop (X := Nat) (fun i => [(1, .int .u8 (s : Int)), (2, .int .i64 w), (6, .int .i64 (lstTo ws s w i)), (7, .int .i64 (mstTo ws s w i)), (11, vW), (12, .int .i64 (ws.length : Int)), (13, .int .i64 (i : Int))]) (fun i h' => i ≤ ws.length ∧ St h h' [⟨p3, 0, [.int .i64 rm, vW], true⟩]) (fun i => ws.length - i) 0 (by repeat (first | exact Sub.nil _ | refine Sub.cons Look.eq ?_ | refine Sub.cons (Eq.trans Look.eq (congrArg (AV.int _) (by first | omega | (dsimp only; omega)))) ?_)) ?_ ?_
  · exact ⟨Nat.zero_le _, hS⟩
  rintro i h2 ⟨hi, hS⟩
  refine KA.seq ?_
  refine KA.region rfl ?_
  refine KOps.lss ?_
  refine KOps.done ?_
  refine sqQ.normal ?_
  refine KA.seq ?_
  refine KA.condD ?_ ?_
  · intro c14
    refine KA.skip ?_
    refine sqQ.normal ?_
    refine KA.sub (Sub.cons (t := 1) Look.eq (Sub.cons (t := 2) Look.eq (Sub.cons (t := 6) Look.eq (Sub.cons (t := 7) Look.eq (Sub.cons (t := 11) Look.eq (Sub.cons (t := 12) Look.eq (Sub.cons (t := 13) Look.eq (Sub.nil _)))))))) ?_
    refine KA.seq ?_
    refine KA.block ?_
    refine KA.seq ?_
    refine KA.region rfl ?_
    refine KOps.move ?_
    refine KOps.indexF wc_len (Rd.ext hS.keeps hv) (j := i) rfl (by first | omega | (simp; omega)) ?_
    intro p16 hp16
    refine KOps.loadFl wc_len (by decide) hp16 (Rd.ext hS.keeps hv) (by first | omega | (simp; omega)) ?_
    refine KOps.alloc hS ?_
    intro p9 h' hp9 hS
    refine KOps.assign ?_
    refine KOps.storeAll hS rfl (i := 0) rfl hp9 (by first | rfl | (simp [AV.one]; done) | (simp [AV.one]; assumption) | (simp [AV.one, *]; done)) (by rfl) (by rfl) (by decide) ?_
    intro h' hS
    simp only [List.set_cons_zero, List.set_cons_succ, Nat.zero_add] at hS
    refine KOps.done ?_
    refine sqQ.normal ?_
    refine KA.sub (Sub.cons (t := 1) Look.eq (Sub.cons (t := 2) Look.eq (Sub.cons (t := 6) Look.eq (Sub.cons (t := 7) Look.eq (Sub.cons (t := 8) Look.eq (Sub.cons (t := 9) Look.eq (Sub.cons (t := 11) Look.eq (Sub.cons (t := 12) Look.eq (Sub.cons (t := 13) Look.eq (Sub.nil _)))))))))) ?_
    refine KA.block ?_
    refine KA.seq ?_
    refine KA.draw [7, 11] mixed rfl (by kernel_rfl) ?_
    have hwi := hB.way i (by omega)
    have hwf0 := hwi.f0
    have hwf1 := hwi.f1
    have hwt0 := hwi.t0
    have hwt1 := hwi.t1
    have hwl0 := hwi.l0
    have hwm1 := hwi.m1
    have hwlm := hwi.lm
    have hsb := sums_bound hB s w i (by omega)
    refine KOps.move ?_
    refine KOps.move ?_
    refine KOps.eql ?_
    refine KOps.move ?_
    refine KOps.guardB (dj := 26) rfl rfl false true rfl ?_ ?_
    · intro g26
      have g26 := of_decide_eq_false g26
      refine KOps.move ?_
      refine KOps.guardYes (dj := 26) rfl rfl ?_
      refine KOps.fieldAddr hp9 ?_
      intro p28 hp28
      refine KOps.guardYes (dj := 26) rfl rfl ?_
      refine KOps.load hp28 (hS.rd 0 rfl) rfl ?_
      refine KOps.guardYes (dj := 26) rfl rfl ?_
      refine KOps.callK (by intro _ _ hr; exact hr.2 ▸ Keeps.refl _) (has8_c (by first | omega | (simp; omega)) (by first | omega | (simp; omega)) (by first | omega | (simp; omega))) ?_
      rintro _ _ ⟨rfl, rfl⟩
      refine KOps.guardYes (dj := 26) rfl rfl ?_
      refine KOps.move ?_
      refine KOps.guardYes (dj := 26) rfl rfl ?_
      refine KOps.fieldAddr hp9 ?_
      intro p32 hp32
      refine KOps.guardYes (dj := 26) rfl rfl ?_
      refine KOps.load hp32 (hS.rd 0 rfl) rfl ?_
      refine KOps.guardYes (dj := 26) rfl rfl ?_
      refine KOps.callK (by intro _ _ hr; exact hr.2 ▸ Keeps.refl _) (has8_c (by first | omega | (simp; omega)) (by first | omega | (simp; omega)) (by first | omega | (simp; omega))) ?_
      rintro _ _ ⟨rfl, rfl⟩
      refine KOps.guardYes (dj := 26) rfl rfl ?_
      refine KOps.eqlB (by kernel_rfl) ?_
      refine KOps.pickF ?_
      refine KOps.assign ?_
      refine KOps.done ?_
      refine sqQ.normal ?_
      refine KA.sub (Sub.cons (t := 1) Look.eq (Sub.cons (t := 2) Look.eq (Sub.cons (t := 6) Look.eq (Sub.cons (t := 7) Look.eq (Sub.cons (t := 9) Look.eq (Sub.cons (t := 11) Look.eq (Sub.cons (t := 12) Look.eq (Sub.cons (t := 13) Look.eq (Sub.cons (t := 22) Look.eq (Sub.cons (t := 27) Look.eq (Sub.cons (t := 28) Look.eq (Sub.cons (t := 29) Look.eq (Sub.cons (t := 30) Look.eq (Sub.cons (t := 31) Look.eq (Sub.cons (t := 32) Look.eq (Sub.cons (t := 33) Look.eq (Sub.cons (t := 34) Look.eq (Sub.cons (t := 35) Look.eq (Sub.nil _))))))))))))))))))) ?_
      refine KA.condB ?_ ?_
      · intro c22
        have hc : lvs (ws.getD i default) s = false ∧ ens (ws.getD i default) s = false := by
          rw [lvs_ens] at c22; simpa using c22
        refine KA.skip ?_
        refine blQ.normal ?_
        refine blQ.normal ?_
        refine sqQ.normal ?_
        refine KA.sub (Sub.cons (t := 1) Look.eq (Sub.cons (t := 2) Look.eq (Sub.cons (t := 6) Look.eq (Sub.cons (t := 7) Look.eq (Sub.cons (t := 11) Look.eq (Sub.cons (t := 12) Look.eq (Sub.cons (t := 13) Look.eq (Sub.cons (t := 27) Look.eq (Sub.cons (t := 28) Look.eq (Sub.cons (t := 29) Look.eq (Sub.cons (t := 30) Look.eq (Sub.cons (t := 31) Look.eq (Sub.cons (t := 32) Look.eq (Sub.cons (t := 33) Look.eq (Sub.cons (t := 34) Look.eq (Sub.cons (t := 35) Look.eq (Sub.nil _))))))))))))))))) ?_
        refine KA.region rfl ?_
        refine KOps.add (by first | omega | (simp; omega)) (by first | omega | (simp; omega)) ?_
        refine KOps.move ?_
        refine KOps.done ?_
        exact lpQ.normal (i + 1) (by repeat (first | exact Sub.nil _ | refine Sub.cons Look.eq ?_ | refine Sub.cons (Eq.trans Look.eq (congrArg (AV.int _) (by first | omega | (dsimp only; omega)))) ?_ | refine Sub.cons (Eq.trans Look.eq (congrArg (AV.int _) (by rw [lstTo, if_neg (fun h0 => by rw [hc.1] at h0; exact absurd h0.2 (by decide))] <;> omega))) ?_ | refine Sub.cons (Eq.trans Look.eq (congrArg (AV.int _) (by rw [mstTo, if_neg (fun h0 => by rw [hc.2] at h0; exact absurd h0.2 (by decide))] <;> omega))) ?_)) ⟨by omega, St.tail hS⟩ (by omega)
      · intro c22
        refine KA.seq ?_
        refine KA.region rfl ?_
        refine KOps.move ?_
        refine KOps.fieldAddr hp9 ?_
        intro p39 hp39
        refine KOps.load hp39 (hS.rd 0 rfl) rfl ?_
        refine KOps.call rfl (has8_c (by first | omega | (simp; omega)) (by first | omega | (simp; omega)) (by first | omega | (simp; omega))) ?_
        rintro _ _ ⟨rfl, rfl⟩
        refine KOps.assign ?_
        refine KOps.done ?_
        refine sqQ.normal ?_
        refine KA.sub (Sub.cons (t := 1) Look.eq (Sub.cons (t := 2) Look.eq (Sub.cons (t := 6) Look.eq (Sub.cons (t := 7) Look.eq (Sub.cons (t := 9) Look.eq (Sub.cons (t := 11) Look.eq (Sub.cons (t := 12) Look.eq (Sub.cons (t := 13) Look.eq (Sub.cons (t := 27) Look.eq (Sub.cons (t := 28) Look.eq (Sub.cons (t := 29) Look.eq (Sub.cons (t := 30) Look.eq (Sub.cons (t := 31) Look.eq (Sub.cons (t := 32) Look.eq (Sub.cons (t := 33) Look.eq (Sub.cons (t := 34) Look.eq (Sub.cons (t := 35) Look.eq (Sub.cons (t := 37) Look.eq (Sub.nil _))))))))))))))))))) ?_
        refine KA.condB ?_ ?_
        · intro c37
          have hc : lvs (ws.getD i default) s = true ∧ ens (ws.getD i default) s = false := by
            unfold lvs ens; rw [c37] at c22 ⊢; cases h9 : inS s (ws.getD i default).t <;> simp_all
          refine KA.region rfl ?_
          refine KOps.move ?_
          refine KOps.fieldAddr hp9 ?_
          intro p43 hp43
          refine KOps.load hp43 (hS.rd 0 rfl) rfl ?_
          refine KOps.add (by first | omega | (simp; omega)) (by first | omega | (simp; omega)) ?_
          refine KOps.assign ?_
          refine KOps.done ?_
          refine blQ.normal ?_
          refine blQ.normal ?_
          refine sqQ.normal ?_
          refine KA.sub (Sub.cons (t := 1) Look.eq (Sub.cons (t := 2) Look.eq (Sub.cons (t := 6) Look.eq (Sub.cons (t := 7) Look.eq (Sub.cons (t := 11) Look.eq (Sub.cons (t := 12) Look.eq (Sub.cons (t := 13) Look.eq (Sub.cons (t := 27) Look.eq (Sub.cons (t := 28) Look.eq (Sub.cons (t := 29) Look.eq (Sub.cons (t := 30) Look.eq (Sub.cons (t := 31) Look.eq (Sub.cons (t := 32) Look.eq (Sub.cons (t := 33) Look.eq (Sub.cons (t := 34) Look.eq (Sub.cons (t := 35) Look.eq (Sub.nil _))))))))))))))))) ?_
          refine KA.region rfl ?_
          refine KOps.add (by first | omega | (simp; omega)) (by first | omega | (simp; omega)) ?_
          refine KOps.move ?_
          refine KOps.done ?_
          exact lpQ.normal (i + 1) (by repeat (first | exact Sub.nil _ | refine Sub.cons Look.eq ?_ | refine Sub.cons (Eq.trans Look.eq (congrArg (AV.int _) (by first | omega | (dsimp only; omega)))) ?_ | refine Sub.cons (Eq.trans Look.eq (congrArg (AV.int _) (by rw [lstTo, if_pos ⟨g26, hc.1⟩] <;> omega))) ?_ | refine Sub.cons (Eq.trans Look.eq (congrArg (AV.int _) (by rw [mstTo, if_neg (fun h0 => by rw [hc.2] at h0; exact absurd h0.2 (by decide))] <;> omega))) ?_)) ⟨by omega, St.tail hS⟩ (by omega)
        · intro c37
          have hc : lvs (ws.getD i default) s = false ∧ ens (ws.getD i default) s = true := by
            unfold lvs ens; rw [c37] at c22 ⊢; cases h9 : inS s (ws.getD i default).t <;> simp_all
          refine KA.region rfl ?_
          refine KOps.move ?_
          refine KOps.fieldAddr hp9 ?_
          intro p19 hp19
          refine KOps.load hp19 (hS.rd 0 rfl) rfl ?_
          refine KOps.add (by first | omega | (simp; omega)) (by first | omega | (simp; omega)) ?_
          refine KOps.assign ?_
          refine KOps.done ?_
          refine blQ.normal ?_
          refine blQ.normal ?_
          refine sqQ.normal ?_
          refine KA.sub (Sub.cons (t := 1) Look.eq (Sub.cons (t := 2) Look.eq (Sub.cons (t := 6) Look.eq (Sub.cons (t := 7) Look.eq (Sub.cons (t := 11) Look.eq (Sub.cons (t := 12) Look.eq (Sub.cons (t := 13) Look.eq (Sub.cons (t := 27) Look.eq (Sub.cons (t := 28) Look.eq (Sub.cons (t := 29) Look.eq (Sub.cons (t := 30) Look.eq (Sub.cons (t := 31) Look.eq (Sub.cons (t := 32) Look.eq (Sub.cons (t := 33) Look.eq (Sub.cons (t := 34) Look.eq (Sub.cons (t := 35) Look.eq (Sub.nil _))))))))))))))))) ?_
          refine KA.region rfl ?_
          refine KOps.add (by first | omega | (simp; omega)) (by first | omega | (simp; omega)) ?_
          refine KOps.move ?_
          refine KOps.done ?_
          exact lpQ.normal (i + 1) (by repeat (first | exact Sub.nil _ | refine Sub.cons Look.eq ?_ | refine Sub.cons (Eq.trans Look.eq (congrArg (AV.int _) (by first | omega | (dsimp only; omega)))) ?_ | refine Sub.cons (Eq.trans Look.eq (congrArg (AV.int _) (by rw [lstTo, if_neg (fun h0 => by rw [hc.1] at h0; exact absurd h0.2 (by decide))] <;> omega))) ?_ | refine Sub.cons (Eq.trans Look.eq (congrArg (AV.int _) (by rw [mstTo, if_pos ⟨g26, hc.2⟩] <;> omega))) ?_)) ⟨by omega, St.tail hS⟩ (by omega)
    · intro g26
      have g26 := of_decide_eq_true g26
      refine KOps.guardNo (dj := 26) rfl rfl rfl ?_
      refine KOps.guardNo (dj := 26) rfl rfl rfl ?_
      refine KOps.guardNo (dj := 26) rfl rfl rfl ?_
      refine KOps.guardNo (dj := 26) rfl rfl rfl ?_
      refine KOps.guardNo (dj := 26) rfl rfl rfl ?_
      refine KOps.guardNo (dj := 26) rfl rfl rfl ?_
      refine KOps.guardNo (dj := 26) rfl rfl rfl ?_
      refine KOps.guardNo (dj := 26) rfl rfl rfl ?_
      refine KOps.pickT ?_
      refine KOps.assign ?_
      refine KOps.done ?_
      refine sqQ.normal ?_
      refine KA.sub (Sub.cons (t := 1) Look.eq (Sub.cons (t := 2) Look.eq (Sub.cons (t := 6) Look.eq (Sub.cons (t := 7) Look.eq (Sub.cons (t := 9) Look.eq (Sub.cons (t := 11) Look.eq (Sub.cons (t := 12) Look.eq (Sub.cons (t := 13) Look.eq (Sub.cons (t := 22) Look.eq (Sub.cons (t := 27) Look.eq (Sub.cons (t := 28) Look.eq (Sub.cons (t := 29) Look.eq (Sub.cons (t := 30) Look.eq (Sub.cons (t := 31) Look.eq (Sub.cons (t := 32) Look.eq (Sub.cons (t := 33) Look.eq (Sub.cons (t := 34) Look.eq (Sub.cons (t := 35) Look.eq (Sub.nil _))))))))))))))))))) ?_
      refine KA.condT ?_
      refine KA.skip ?_
      refine blQ.normal ?_
      refine blQ.normal ?_
      refine sqQ.normal ?_
      refine KA.sub (Sub.cons (t := 1) Look.eq (Sub.cons (t := 2) Look.eq (Sub.cons (t := 6) Look.eq (Sub.cons (t := 7) Look.eq (Sub.cons (t := 11) Look.eq (Sub.cons (t := 12) Look.eq (Sub.cons (t := 13) Look.eq (Sub.cons (t := 27) Look.eq (Sub.cons (t := 28) Look.eq (Sub.cons (t := 29) Look.eq (Sub.cons (t := 30) Look.eq (Sub.cons (t := 31) Look.eq (Sub.cons (t := 32) Look.eq (Sub.cons (t := 33) Look.eq (Sub.cons (t := 34) Look.eq (Sub.cons (t := 35) Look.eq (Sub.nil _))))))))))))))))) ?_
      refine KA.region rfl ?_
      refine KOps.add (by first | omega | (simp; omega)) (by first | omega | (simp; omega)) ?_
      refine KOps.move ?_
      refine KOps.done ?_
      exact lpQ.normal (i + 1) (by repeat (first | exact Sub.nil _ | refine Sub.cons Look.eq ?_ | refine Sub.cons (Eq.trans Look.eq (congrArg (AV.int _) (by first | omega | (dsimp only; omega)))) ?_ | refine Sub.cons (Eq.trans Look.eq (congrArg (AV.int _) (by rw [lstTo, if_neg (fun h0 => h0.1 g26)] <;> omega))) ?_ | refine Sub.cons (Eq.trans Look.eq (congrArg (AV.int _) (by rw [mstTo, if_neg (fun h0 => h0.1 g26)] <;> omega))) ?_)) ⟨by omega, St.tail hS⟩ (by omega)
  · intro c14
    refine KA.exit ?_
    refine sqQ.exit ?_
    refine lpQ.exit ?_
    refine blQ.here ?_
    refine sqQ.normal ?_
    refine KA.sub (Sub.cons (t := 6) Look.eq (Sub.cons (t := 7) Look.eq (Sub.nil _))) ?_
    refine KA.seq ?_
    refine KA.region rfl ?_
    refine KOps.move ?_
    refine KOps.move ?_
    refine KOps.assign ?_
    refine KOps.assign ?_
    refine KOps.done ?_
    refine sqQ.normal ?_
    refine KA.sub (Sub.cons (t := 6) Look.eq (Sub.cons (t := 7) Look.eq (Sub.nil _))) ?_
    refine KA.ret ?_
    refine fnQ.retN ?_
    rw [show ws.length = i by omega]
    exact ⟨rfl, hS.keeps⟩

end Go.Am
