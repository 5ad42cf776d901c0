/-
  Layer 01: what rooms say of a way: contracts, of both.
  Conditions: none.
-/
import Derived.Test.YtildfacbjdhbnaaDoorCx
import Derived.Test.YtildfacbjdhbnaaDoorCl
namespace Go.Am
def crosses (ws : List W) (s i : Nat) : Bool := lvs (ws.getD i default) s || ens (ws.getD i default) s
theorem cross_no {ws : List W} {s i : Nat} : (inS s (ws.getD i default).f == inS s (ws.getD i default).t) = !crosses ws s i := by
  rw [lvs_ens, crosses, Bool.not_or]
def sayE (rm : Int) (ws : List W) (l : List Int) (i : Int) : Int := if askR rm ws i = 0 then (if roomsE rm l l.length = 0 then (if crosses ws (setE rm l) i.toNat = true then 0 else 12) else roomsE rm l l.length) else askR rm ws i
def sayV (rm : Int) (ws : List W) (l : List Int) (i : Int) : Int := if sayE rm ws l i = 0 then saysV ws (setE rm l) i.toNat else 0
theorem askR_B {rm : Int} {ws : List W} {i : Int} (h : askR rm ws i = 0) : BOk rm ws ∧ chkB rm ws = 0 := by
  unfold askR at h
  by_cases h1 : chkB rm ws = 0
  · exact ⟨BOk.of h1, h1⟩
  · rw [if_neg h1] at h; exact absurd h h1

theorem says_c {h : AHeap} {rm : Int} {vW : AV} {ws : List W} {s i : Nat} (hv : Rd h vW 4 (flr wc ws)) (hB : BOk rm ws) (hs : s < 64) (hi : i < ws.length) : ACalls Go.Proofs.Tryd.prog 82 [.agg [.int .i64 rm, vW], .int .u8 (s : Int), .int .i64 (i : Int)] h (fun q h' => q = .tup [.int .i64 (if crosses ws s i = true then saysV ws s i else 0), .bool (crosses ws s i)] ∧ Keeps h h') := by
  refine KA.fn 44 [.tmp 6, .tmp 7] Go.Proofs.Tryd.func82 rfl (by decide) rfl rfl (Nat.le_of_ble_eq_true rfl) ?_
  have hS := St.refl h
  have hvo : vW.one = true := hv.one
  have hwl := hB.len
  have hr6 := hB.r6
  have hsb := sums_bound hB s (i : Int) ws.length (Nat.le_refl _)
  have hwi := hB.way i (by omega)
  have hwf0 := hwi.f0
  have hwf1 := hwi.f1
  have hwt0 := hwi.t0
  have hwt1 := hwi.t1
  have hwl0 := hwi.l0
  have hwm1 := hwi.m1
  have hwlm := hwi.lm
  have hcr := cross_no (ws := ws) (s := s) (i := i)
  show KA _ 44 _ _ [(0, .agg [.int .i64 rm, vW]), (1, .int .u8 (s : Int)), (2, .int .i64 (i : Int))] _
  refine KA.seq ?_
  refine KA.region rfl ?_
  refine KOps.boxAll hS (by first | rfl | (simp [AV.one]; done) | (simp [AV.one]; assumption) | (simp [AV.one, *]; done)) ?_
  intro p3 h' hp3 hS
  refine KOps.assign ?_
  refine KOps.assign ?_
  refine KOps.done ?_
  refine sqQ.normal ?_
  refine KA.sub (Sub.cons (t := 1) Look.eq (Sub.cons (t := 2) Look.eq (Sub.cons (t := 3) Look.eq (Sub.nil _)))) ?_
  refine KA.seq ?_
  refine KA.region rfl ?_
  refine KOps.loadAll hS (i := 0) rfl hp3 (by rfl) (by decide) ?_
  refine KOps.move ?_
  refine KOps.move ?_
  refine KOps.call rfl (sums_c (Rd.ext hS.keeps hv) hB hs) ?_
  rintro _ h5 ⟨rfl, hK⟩
  have hS0 : St _ _ (_ :: _) := St.trans hS (St.ofK hK)
  clear hS
  have hS := hS0
  clear hS0
  refine KOps.move ?_
  refine KOps.extract ?_
  refine KOps.extract ?_
  refine KOps.assign ?_
  refine KOps.assign ?_
  refine KOps.done ?_
  refine sqQ.normal ?_
  refine KA.sub (Sub.cons (t := 1) Look.eq (Sub.cons (t := 2) Look.eq (Sub.cons (t := 3) Look.eq (Sub.cons (t := 8) Look.eq (Sub.cons (t := 9) Look.eq (Sub.nil _)))))) ?_
  refine KA.seq ?_
  refine KA.seq ?_
  refine KA.region rfl ?_
  refine KOps.fieldAddr hp3 ?_
  intro p18 hp18
  refine KOps.load hp18 (hS.rd 0 rfl) rfl ?_
  refine KOps.move ?_
  refine KOps.indexF wc_len (Rd.ext hS.keeps hv) (j := i) (by first | omega | (simp; omega)) (by first | omega | (simp; omega)) ?_
  intro p21 hp21
  refine KOps.loadFl wc_len (by decide) hp21 (Rd.ext hS.keeps hv) (by first | omega | (simp; omega)) ?_
  refine KOps.alloc hS ?_
  intro p10 h' hp10 hS
  refine KOps.storeAll hS rfl (i := 0) rfl hp10 (by first | rfl | (simp [AV.one]; done) | (simp [AV.one]; assumption) | (simp [AV.one, *]; done)) (by rfl) (by rfl) (by decide) ?_
  intro h' hS
  simp only [List.set_cons_zero, List.set_cons_succ, Nat.zero_add] at hS
  refine KOps.done ?_
  refine sqQ.normal ?_
  refine KA.sub (Sub.cons (t := 1) Look.eq (Sub.cons (t := 8) Look.eq (Sub.cons (t := 9) Look.eq (Sub.cons (t := 10) Look.eq (Sub.nil _))))) ?_
  refine KA.block ?_
  refine KA.seq ?_
  refine KA.draw [3, 7] mixed rfl (by kernel_rfl) ?_
  refine KOps.move ?_
  refine KOps.fieldAddr hp10 ?_
  intro p25 hp25
  refine KOps.load hp25 (hS.rd 0 rfl) rfl ?_
  refine KOps.callK (by intro _ _ hr; exact hr.2 ▸ Keeps.refl _) (has8_c (by first | omega | (simp; omega)) (by first | omega | (simp; omega)) (by first | omega | (simp; omega))) ?_
  rintro _ _ ⟨rfl, rfl⟩
  refine KOps.move ?_
  refine KOps.fieldAddr hp10 ?_
  intro p29 hp29
  refine KOps.load hp29 (hS.rd 0 rfl) rfl ?_
  refine KOps.callK (by intro _ _ hr; exact hr.2 ▸ Keeps.refl _) (has8_c (by first | omega | (simp; omega)) (by first | omega | (simp; omega)) (by first | omega | (simp; omega))) ?_
  rintro _ _ ⟨rfl, rfl⟩
  refine KOps.eqlB (by kernel_rfl) ?_
  rw [hcr]
  refine KOps.assign ?_
  refine KOps.done ?_
  refine sqQ.normal ?_
  refine KA.sub (Sub.cons (t := 1) Look.eq (Sub.cons (t := 8) Look.eq (Sub.cons (t := 9) Look.eq (Sub.cons (t := 10) Look.eq (Sub.cons (t := 23) Look.eq (Sub.nil _)))))) ?_
  refine KA.condB ?_ ?_
  · intro c23
    refine KA.seq ?_
    refine KA.region rfl ?_
    refine KOps.assign ?_
    refine KOps.assign ?_
    refine KOps.done ?_
    refine sqQ.normal ?_
    refine KA.sub (Sub.cons (t := 6) Look.eq (Sub.cons (t := 7) Look.eq (Sub.nil _))) ?_
    refine KA.ret ?_
    refine blQ.ret ?_
    refine sqQ.ret ?_
    refine fnQ.retN ?_
    rw [show crosses ws s i = false by simpa using c23]
    exact ⟨rfl, hS.keeps⟩
  · intro c23
    refine KA.seq ?_
    refine KA.region rfl ?_
    refine KOps.move ?_
    refine KOps.fieldAddr hp10 ?_
    intro p35 hp35
    refine KOps.load hp35 (hS.rd 0 rfl) rfl ?_
    refine KOps.call rfl (has8_c (by first | omega | (simp; omega)) (by first | omega | (simp; omega)) (by first | omega | (simp; omega))) ?_
    rintro _ _ ⟨rfl, rfl⟩
    refine KOps.assign ?_
    refine KOps.done ?_
    refine sqQ.normal ?_
    refine KA.sub (Sub.cons (t := 8) Look.eq (Sub.cons (t := 9) Look.eq (Sub.cons (t := 33) Look.eq (Sub.nil _)))) ?_
    refine KA.condB ?_ ?_
    · intro c33
      refine KA.seq ?_
      refine KA.region rfl ?_
      refine KOps.move ?_
      refine KOps.move ?_
      refine KOps.sub (by first | omega | (simp; omega)) (by first | omega | (simp; omega)) ?_
      refine KOps.assign ?_
      refine KOps.assign ?_
      refine KOps.done ?_
      refine sqQ.normal ?_
      refine KA.sub (Sub.cons (t := 6) Look.eq (Sub.cons (t := 7) Look.eq (Sub.nil _))) ?_
      refine KA.ret ?_
      refine blQ.ret ?_
      refine sqQ.ret ?_
      refine fnQ.retN ?_
      have hc : crosses ws s i = true := by simpa using c23
      have hl : lvs (ws.getD i default) s = true := by
        unfold crosses lvs ens at hc
        unfold lvs
        rw [c33] at hc ⊢
        simpa using hc
      rw [hc, if_pos rfl, saysV, if_pos hl]
      exact ⟨rfl, hS.keeps⟩
    · intro c33
      refine KA.skip ?_
      refine blQ.normal ?_
      refine sqQ.normal ?_
      refine KA.sub (Sub.cons (t := 8) Look.eq (Sub.cons (t := 9) Look.eq (Sub.nil _))) ?_
      refine KA.seq ?_
      refine KA.region rfl ?_
      refine KOps.move ?_
      refine KOps.move ?_
      refine KOps.sub (by first | omega | (simp; omega)) (by first | omega | (simp; omega)) ?_
      refine KOps.assign ?_
      refine KOps.assign ?_
      refine KOps.done ?_
      refine sqQ.normal ?_
      refine KA.sub (Sub.cons (t := 6) Look.eq (Sub.cons (t := 7) Look.eq (Sub.nil _))) ?_
      refine KA.ret ?_
      refine fnQ.retN ?_
      have hc : crosses ws s i = true := by simpa using c23
      have hl : lvs (ws.getD i default) s = false := by
        unfold lvs
        rw [c33]; rfl
      rw [hc, if_pos rfl, saysV, if_neg (by rw [hl]; decide)]
      exact ⟨rfl, hS.keeps⟩

theorem refSays_c {h : AHeap} {rm : Int} {vW : AV} {ws : List W} {s i : Nat} (hv : Rd h vW 4 (flr wc ws)) (hB : BOk rm ws) (hs : s < 64) (hi : i < ws.length) : ACalls Go.Proofs.Tryd.prog 85 [.agg [.int .i64 rm, vW], .int .i64 (s : Int), .int .i64 (i : Int)] h (fun q h' => q = .int .i64 (saysV ws s i) ∧ Keeps h h') := by
  refine KA.fn 74 [.tmp 6] Go.Proofs.Tryd.func85 rfl (by decide) rfl rfl (Nat.le_of_ble_eq_true rfl) ?_
  have hS := St.refl h
  have hvo : vW.one = true := hv.one
  have hwl := hB.len
  have hr6 := hB.r6
  show KA _ 74 _ _ [(0, .agg [.int .i64 rm, vW]), (1, .int .i64 (s : Int)), (2, .int .i64 (i : Int))] _
  refine KA.seq ?_
  refine KA.region rfl ?_
  refine KOps.boxAll hS (by first | rfl | (simp [AV.one]; done) | (simp [AV.one]; assumption) | (simp [AV.one, *]; done)) ?_
  intro p3 h' hp3 hS
  refine KOps.assign ?_
  refine KOps.done ?_
  refine sqQ.normal ?_
  refine KA.sub (Sub.cons (t := 1) Look.eq (Sub.cons (t := 2) Look.eq (Sub.cons (t := 3) Look.eq (Sub.nil _)))) ?_
  refine KA.seq ?_
  refine KA.region rfl ?_
  refine KOps.assign ?_
  refine KOps.assign ?_
  refine KOps.done ?_
  refine sqQ.normal ?_
  refine KA.seq ?_
  refine KA.seq ?_
  refine KA.region rfl ?_
  refine KOps.assign ?_
  refine KOps.done ?_
  refine sqQ.normal ?_
  refine KA.block ?_
  refine KA.loop (X := Nat) (fun k => [(1, .int .i64 (s : Int)), (2, .int .i64 (i : Int)), (3, p3), (7, .int .i64 (lstTo ws s (i : Int) k)), (8, .int .i64 (mstTo ws s (i : Int) k)), (9, .int .i64 (k : Int))]) (fun k h' => k ≤ ws.length ∧ St h h' [⟨p3, 0, [.int .i64 rm, vW], true⟩]) (fun k => ws.length - k) 0 (by repeat (first | exact Sub.nil _ | refine Sub.cons Look.eq ?_ | refine Sub.cons (Eq.trans Look.eq (congrArg (AV.int _) (by first | omega | (dsimp only; omega)))) ?_)) ?_ ?_
  · exact ⟨Nat.zero_le _, hS⟩
  rintro k h4 ⟨hk, hS⟩
  refine KA.seq ?_
  refine KA.seq ?_
  refine KA.region rfl ?_
  refine KOps.move ?_
  refine KOps.fieldAddr hp3 ?_
  intro p13 hp13
  refine KOps.load hp13 (hS.rd 0 rfl) rfl ?_
  refine KOps.lenF wc_len (Rd.ext hS.keeps hv) ?_
  refine KOps.lss ?_
  refine KOps.done ?_
  refine sqQ.normal ?_
  refine KA.sub (Sub.cons (t := 1) Look.eq (Sub.cons (t := 2) Look.eq (Sub.cons (t := 3) Look.eq (Sub.cons (t := 7) Look.eq (Sub.cons (t := 8) Look.eq (Sub.cons (t := 9) Look.eq (Sub.cons (t := 16) Look.eq (Sub.nil _)))))))) ?_
  refine KA.condD ?_ ?_
  · intro c16
    refine KA.skip ?_
    refine sqQ.normal ?_
    refine KA.sub (Sub.cons (t := 1) Look.eq (Sub.cons (t := 2) Look.eq (Sub.cons (t := 3) Look.eq (Sub.cons (t := 7) Look.eq (Sub.cons (t := 8) Look.eq (Sub.cons (t := 9) Look.eq (Sub.nil _))))))) ?_
    refine KA.seq ?_
    refine KA.block ?_
    refine KA.seq ?_
    refine KA.draw [6, 13] mixed rfl (by kernel_rfl) ?_
    have hwi := hB.way k (by omega)
    have hwf0 := hwi.f0
    have hwf1 := hwi.f1
    have hwt0 := hwi.t0
    have hwt1 := hwi.t1
    have hwl0 := hwi.l0
    have hwm1 := hwi.m1
    have hwlm := hwi.lm
    have hsb := sums_bound hB s (i : Int) k (by omega)
    refine KOps.fieldAddr hp3 ?_
    intro p19 hp19
    refine KOps.load hp19 (hS.rd 0 rfl) rfl ?_
    refine KOps.move ?_
    refine KOps.indexF wc_len (Rd.ext hS.keeps hv) (j := k) rfl (by first | omega | (simp; omega)) ?_
    intro p22 hp22
    refine KOps.loadFl wc_len (by decide) hp22 (Rd.ext hS.keeps hv) (by first | omega | (simp; omega)) ?_
    refine KOps.move ?_
    refine KOps.callK (by intro _ _ hr; exact hr.2) (leaves_c (by first | omega | (simp; omega)) (by first | omega | (simp; omega)) (by first | omega | (simp; omega)) (by first | omega | (simp; omega)) (by first | omega | (simp; omega))) ?_
    rintro _ h5 ⟨rfl, hK⟩
    have hS0 : St _ _ (_ :: _) := St.trans hS (St.ofK hK)
    clear hS
    have hS := hS0
    clear hS0
    refine KOps.fieldAddr hp3 ?_
    intro p26 hp26
    refine KOps.load hp26 (hS.rd 0 rfl) rfl ?_
    refine KOps.move ?_
    refine KOps.indexF wc_len (Rd.ext hS.keeps hv) (j := k) rfl (by first | omega | (simp; omega)) ?_
    intro p29 hp29
    refine KOps.loadFl wc_len (by decide) hp29 (Rd.ext hS.keeps hv) (by first | omega | (simp; omega)) ?_
    refine KOps.move ?_
    refine KOps.callK (by intro _ _ hr; exact hr.2) (enters_c (by first | omega | (simp; omega)) (by first | omega | (simp; omega)) (by first | omega | (simp; omega)) (by first | omega | (simp; omega)) (by first | omega | (simp; omega))) ?_
    rintro _ h6 ⟨rfl, hK2⟩
    have hS0 : St _ _ (_ :: _) := St.trans hS (St.ofK hK2)
    clear hS
    have hS := hS0
    clear hS0
    refine KOps.assign ?_
    refine KOps.assign ?_
    refine KOps.done ?_
    refine sqQ.normal ?_
    refine KA.sub (Sub.cons (t := 1) Look.eq (Sub.cons (t := 2) Look.eq (Sub.cons (t := 3) Look.eq (Sub.cons (t := 7) Look.eq (Sub.cons (t := 8) Look.eq (Sub.cons (t := 9) Look.eq (Sub.cons (t := 10) Look.eq (Sub.cons (t := 11) Look.eq (Sub.nil _))))))))) ?_
    refine KA.meet (X := Unit) (fun _ => [(1, .int .i64 (s : Int)), (2, .int .i64 (i : Int)), (3, p3), (7, .int .i64 (lstTo ws s (i : Int) (k + 1))), (8, .int .i64 (mstTo ws s (i : Int) k)), (9, .int .i64 (k : Int)), (11, .bool (ens (ws.getD k default) s))]) (fun _ h' => St h h' [⟨p3, 0, [.int .i64 rm, vW], true⟩]) ?_ ?_
    ·
      refine KA.seq ?_
      refine KA.region rfl ?_
      refine KOps.move ?_
      refine KOps.move ?_
      refine KOps.neq ?_
      refine KOps.move ?_
      refine KOps.guardB (dj := 36) rfl rfl true false rfl ?_ ?_
      · intro g36
        have g36 := not_of_not_decide g36
        refine KOps.move ?_
        refine KOps.pickT ?_
        refine KOps.done ?_
        refine sqQ.normal ?_
        refine KA.sub (Sub.cons (t := 1) Look.eq (Sub.cons (t := 2) Look.eq (Sub.cons (t := 3) Look.eq (Sub.cons (t := 7) Look.eq (Sub.cons (t := 8) Look.eq (Sub.cons (t := 9) Look.eq (Sub.cons (t := 11) Look.eq (Sub.cons (t := 37) Look.eq (Sub.cons (t := 38) Look.eq (Sub.nil _)))))))))) ?_
        refine KA.condB ?_ ?_
        · intro c38
          refine KA.region rfl ?_
          refine KOps.move ?_
          refine KOps.fieldAddr hp3 ?_
          intro p40 hp40
          refine KOps.load hp40 (hS.rd 0 rfl) rfl ?_
          refine KOps.move ?_
          refine KOps.indexF wc_len (Rd.ext hS.keeps hv) (j := k) rfl (by first | omega | (simp; omega)) ?_
          intro p43 hp43
          refine KOps.fieldAddr hp43 ?_
          intro p44 hp44
          refine KOps.loadFc wc_len (by decide) hp44 (Rd.ext hS.keeps hv) (by first | omega | (simp; omega)) rfl ?_
          refine KOps.add (by first | omega | (simp; omega)) (by first | omega | (simp; omega)) ?_
          refine KOps.assign ?_
          refine KOps.done ?_
          exact mtQ.normal () (by repeat (first | exact Sub.nil _ | refine Sub.cons Look.eq ?_ | refine Sub.cons (Eq.trans Look.eq (congrArg (AV.int _) (by first | omega | (dsimp only; omega)))) ?_ | refine Sub.cons (Eq.trans Look.eq (congrArg (AV.int _) (by rw [lstTo, if_pos ⟨g36, c38⟩] <;> omega))) ?_)) hS
        · intro c38
          refine KA.skip ?_
          exact mtQ.normal () (by repeat (first | exact Sub.nil _ | refine Sub.cons Look.eq ?_ | refine Sub.cons (Eq.trans Look.eq (congrArg (AV.int _) (by first | omega | (dsimp only; omega)))) ?_ | refine Sub.cons (Eq.trans Look.eq (congrArg (AV.int _) (by rw [lstTo, if_neg (fun h0 => by rw [c38] at h0; exact absurd h0.2 (by decide))] <;> omega))) ?_)) hS
      · intro g36
        have g36 := of_not_decide g36
        refine KOps.pickF ?_
        refine KOps.done ?_
        refine sqQ.normal ?_
        refine KA.sub (Sub.cons (t := 1) Look.eq (Sub.cons (t := 2) Look.eq (Sub.cons (t := 3) Look.eq (Sub.cons (t := 7) Look.eq (Sub.cons (t := 8) Look.eq (Sub.cons (t := 9) Look.eq (Sub.cons (t := 11) Look.eq (Sub.cons (t := 37) Look.eq (Sub.cons (t := 38) Look.eq (Sub.nil _)))))))))) ?_
        refine KA.condF ?_
        refine KA.skip ?_
        exact mtQ.normal () (by repeat (first | exact Sub.nil _ | refine Sub.cons Look.eq ?_ | refine Sub.cons (Eq.trans Look.eq (congrArg (AV.int _) (by first | omega | (dsimp only; omega)))) ?_ | refine Sub.cons (Eq.trans Look.eq (congrArg (AV.int _) (by rw [lstTo, if_neg (fun h0 => h0.1 g36)] <;> omega))) ?_)) hS
    ·
      rintro _ h7 hS
      refine KA.seq ?_
      refine KA.region rfl ?_
      refine KOps.move ?_
      refine KOps.move ?_
      refine KOps.neq ?_
      refine KOps.move ?_
      refine KOps.guardB (dj := 50) rfl rfl true false rfl ?_ ?_
      · intro g50
        have g50 := not_of_not_decide g50
        refine KOps.move ?_
        refine KOps.pickT ?_
        refine KOps.done ?_
        refine sqQ.normal ?_
        refine KA.sub (Sub.cons (t := 1) Look.eq (Sub.cons (t := 2) Look.eq (Sub.cons (t := 3) Look.eq (Sub.cons (t := 7) Look.eq (Sub.cons (t := 8) Look.eq (Sub.cons (t := 9) Look.eq (Sub.cons (t := 51) Look.eq (Sub.cons (t := 52) Look.eq (Sub.nil _))))))))) ?_
        refine KA.condB ?_ ?_
        · intro c52
          refine KA.region rfl ?_
          refine KOps.move ?_
          refine KOps.fieldAddr hp3 ?_
          intro p54 hp54
          refine KOps.load hp54 (hS.rd 0 rfl) rfl ?_
          refine KOps.move ?_
          refine KOps.indexF wc_len (Rd.ext hS.keeps hv) (j := k) rfl (by first | omega | (simp; omega)) ?_
          intro p57 hp57
          refine KOps.fieldAddr hp57 ?_
          intro p58 hp58
          refine KOps.loadFc wc_len (by decide) hp58 (Rd.ext hS.keeps hv) (by first | omega | (simp; omega)) rfl ?_
          refine KOps.add (by first | omega | (simp; omega)) (by first | omega | (simp; omega)) ?_
          refine KOps.assign ?_
          refine KOps.done ?_
          refine blQ.normal ?_
          refine sqQ.normal ?_
          refine KA.sub (Sub.cons (t := 1) Look.eq (Sub.cons (t := 2) Look.eq (Sub.cons (t := 3) Look.eq (Sub.cons (t := 7) Look.eq (Sub.cons (t := 8) Look.eq (Sub.cons (t := 9) Look.eq (Sub.cons (t := 51) Look.eq (Sub.nil _)))))))) ?_
          refine KA.region rfl ?_
          refine KOps.move ?_
          refine KOps.add (by first | omega | (simp; omega)) (by first | omega | (simp; omega)) ?_
          refine KOps.assign ?_
          refine KOps.done ?_
          exact lpQ.normal (k + 1) (by repeat (first | exact Sub.nil _ | refine Sub.cons Look.eq ?_ | refine Sub.cons (Eq.trans Look.eq (congrArg (AV.int _) (by first | omega | (dsimp only; omega)))) ?_ | refine Sub.cons (Eq.trans Look.eq (congrArg (AV.int _) (by rw [mstTo, if_pos ⟨g50, c52⟩] <;> omega))) ?_)) ⟨by omega, hS⟩ (by omega)
        · intro c52
          refine KA.skip ?_
          refine blQ.normal ?_
          refine sqQ.normal ?_
          refine KA.sub (Sub.cons (t := 1) Look.eq (Sub.cons (t := 2) Look.eq (Sub.cons (t := 3) Look.eq (Sub.cons (t := 7) Look.eq (Sub.cons (t := 8) Look.eq (Sub.cons (t := 9) Look.eq (Sub.cons (t := 51) Look.eq (Sub.nil _)))))))) ?_
          refine KA.region rfl ?_
          refine KOps.move ?_
          refine KOps.add (by first | omega | (simp; omega)) (by first | omega | (simp; omega)) ?_
          refine KOps.assign ?_
          refine KOps.done ?_
          exact lpQ.normal (k + 1) (by repeat (first | exact Sub.nil _ | refine Sub.cons Look.eq ?_ | refine Sub.cons (Eq.trans Look.eq (congrArg (AV.int _) (by first | omega | (dsimp only; omega)))) ?_ | refine Sub.cons (Eq.trans Look.eq (congrArg (AV.int _) (by rw [mstTo, if_neg (fun h0 => by rw [c52] at h0; exact absurd h0.2 (by decide))] <;> omega))) ?_)) ⟨by omega, hS⟩ (by omega)
      · intro g50
        have g50 := of_not_decide g50
        refine KOps.pickF ?_
        refine KOps.done ?_
        refine sqQ.normal ?_
        refine KA.sub (Sub.cons (t := 1) Look.eq (Sub.cons (t := 2) Look.eq (Sub.cons (t := 3) Look.eq (Sub.cons (t := 7) Look.eq (Sub.cons (t := 8) Look.eq (Sub.cons (t := 9) Look.eq (Sub.cons (t := 51) Look.eq (Sub.cons (t := 52) Look.eq (Sub.nil _))))))))) ?_
        refine KA.condF ?_
        refine KA.skip ?_
        refine blQ.normal ?_
        refine sqQ.normal ?_
        refine KA.sub (Sub.cons (t := 1) Look.eq (Sub.cons (t := 2) Look.eq (Sub.cons (t := 3) Look.eq (Sub.cons (t := 7) Look.eq (Sub.cons (t := 8) Look.eq (Sub.cons (t := 9) Look.eq (Sub.cons (t := 51) Look.eq (Sub.nil _)))))))) ?_
        refine KA.region rfl ?_
        refine KOps.move ?_
        refine KOps.add (by first | omega | (simp; omega)) (by first | omega | (simp; omega)) ?_
        refine KOps.assign ?_
        refine KOps.done ?_
        exact lpQ.normal (k + 1) (by repeat (first | exact Sub.nil _ | refine Sub.cons Look.eq ?_ | refine Sub.cons (Eq.trans Look.eq (congrArg (AV.int _) (by first | omega | (dsimp only; omega)))) ?_ | refine Sub.cons (Eq.trans Look.eq (congrArg (AV.int _) (by rw [mstTo, if_neg (fun h0 => h0.1 g50)] <;> omega))) ?_)) ⟨by omega, hS⟩ (by omega)
  · intro c16
    refine KA.exit ?_
    refine sqQ.exit ?_
    refine lpQ.exit ?_
    refine blQ.here ?_
    refine sqQ.normal ?_
    refine KA.sub (Sub.cons (t := 1) Look.eq (Sub.cons (t := 2) Look.eq (Sub.cons (t := 3) Look.eq (Sub.cons (t := 7) Look.eq (Sub.cons (t := 8) Look.eq (Sub.nil _)))))) ?_
    refine KA.seq ?_
    refine KA.seq ?_
    refine KA.region rfl ?_
    have hke : k = ws.length := by omega
    subst hke
    have hsb := sums_bound hB s (i : Int) ws.length (Nat.le_refl _)
    have hwi := hB.way i (by omega)
    have hwf0 := hwi.f0
    have hwf1 := hwi.f1
    have hwt0 := hwi.t0
    have hwt1 := hwi.t1
    have hwl0 := hwi.l0
    have hwm1 := hwi.m1
    have hwlm := hwi.lm

    refine KOps.fieldAddr hp3 ?_
    intro p61 hp61
    refine KOps.load hp61 (hS.rd 0 rfl) rfl ?_
    refine KOps.move ?_
    refine KOps.indexF wc_len (Rd.ext hS.keeps hv) (j := i) (by first | omega | (simp; omega)) (by first | omega | (simp; omega)) ?_
    intro p64 hp64
    refine KOps.loadFl wc_len (by decide) hp64 (Rd.ext hS.keeps hv) (by first | omega | (simp; omega)) ?_
    refine KOps.move ?_
    refine KOps.call rfl (leaves_c (by first | omega | (simp; omega)) (by first | omega | (simp; omega)) (by first | omega | (simp; omega)) (by first | omega | (simp; omega)) (by first | omega | (simp; omega))) ?_
    rintro _ h9 ⟨rfl, hK⟩
    have hS0 : St _ _ (_ :: _) := St.trans hS (St.ofK hK)
    clear hS
    have hS := hS0
    clear hS0
    refine KOps.done ?_
    refine sqQ.normal ?_
    refine KA.sub (Sub.cons (t := 7) Look.eq (Sub.cons (t := 8) Look.eq (Sub.cons (t := 67) Look.eq (Sub.nil _)))) ?_
    refine KA.condB ?_ ?_
    · intro c67
      refine KA.seq ?_
      refine KA.region rfl ?_
      refine KOps.move ?_
      refine KOps.move ?_
      refine KOps.sub (by first | omega | (simp; omega)) (by first | omega | (simp; omega)) ?_
      refine KOps.assign ?_
      refine KOps.done ?_
      refine sqQ.normal ?_
      refine KA.sub (Sub.cons (t := 6) Look.eq (Sub.nil _)) ?_
      refine KA.ret ?_
      refine sqQ.ret ?_
      refine fnQ.ret1 ?_
      rw [saysV, if_pos c67]
      exact ⟨rfl, hS.keeps⟩
    · intro c67
      refine KA.skip ?_
      refine sqQ.normal ?_
      refine KA.sub (Sub.cons (t := 7) Look.eq (Sub.cons (t := 8) Look.eq (Sub.nil _))) ?_
      refine KA.seq ?_
      refine KA.region rfl ?_
      refine KOps.move ?_
      refine KOps.move ?_
      refine KOps.sub (by first | omega | (simp; omega)) (by first | omega | (simp; omega)) ?_
      refine KOps.assign ?_
      refine KOps.done ?_
      refine sqQ.normal ?_
      refine KA.sub (Sub.cons (t := 6) Look.eq (Sub.nil _)) ?_
      refine KA.ret ?_
      refine fnQ.ret1 ?_
      rw [saysV, if_neg (by rw [c67]; decide)]
      exact ⟨rfl, hS.keeps⟩

end Go.Am

namespace Go.Am
theorem say_ask {rm : Int} {ws : List W} {l : List Int} {i : Int} (h : askR rm ws i ≠ 0) : sayE rm ws l i = askR rm ws i ∧ sayV rm ws l i = 0 := by
  have e : sayE rm ws l i = askR rm ws i := by rw [sayE, if_neg h]
  exact ⟨e, by rw [sayV, if_neg (by rw [e]; exact h)]⟩
theorem say_rooms {rm : Int} {ws : List W} {l : List Int} {i : Int} (h : askR rm ws i = 0) (h2 : roomsE rm l l.length ≠ 0) : sayE rm ws l i = roomsE rm l l.length ∧ sayV rm ws l i = 0 := by
  have e : sayE rm ws l i = roomsE rm l l.length := by rw [sayE, if_pos h, if_neg h2]
  exact ⟨e, by rw [sayV, if_neg (by rw [e]; exact h2)]⟩
theorem say_lost {rm : Int} {ws : List W} {l : List Int} {i : Int} (h : askR rm ws i = 0) (h2 : roomsE rm l l.length = 0) (h3 : crosses ws (setE rm l) i.toNat = false) : sayE rm ws l i = 12 ∧ sayV rm ws l i = 0 := by
  have e : sayE rm ws l i = 12 := by rw [sayE, if_pos h, if_pos h2, if_neg (by rw [h3]; decide)]
  exact ⟨e, by rw [sayV, if_neg (by rw [e]; decide)]⟩
theorem say_ok {rm : Int} {ws : List W} {l : List Int} {i : Int} (h : askR rm ws i = 0) (h2 : roomsE rm l l.length = 0) (h3 : crosses ws (setE rm l) i.toNat = true) : sayE rm ws l i = 0 ∧ sayV rm ws l i = saysV ws (setE rm l) i.toNat := by
  have e : sayE rm ws l i = 0 := by rw [sayE, if_pos h, if_pos h2, if_pos h3]
  exact ⟨e, by rw [sayV, if_pos e]⟩
theorem say_zero {rm : Int} {ws : List W} {l : List Int} {i : Int} (h : askR rm ws i = 0) (h2 : sayE rm ws l i = 0) : sayV rm ws l i = saysV ws (setE rm l) i.toNat := by rw [sayV, if_pos h2]

theorem stSays_c {h : AHeap} {rm i : Int} {vW vn : AV} {ws : List W} {l : List Int} (hv : Rd h vW 4 (flr wc ws)) (hn : Row h vn l) (hll : l.length ≤ 1000000) : ACalls Go.Proofs.Tryd.prog 40 [.agg [.int .i64 rm, vW], vn, .int .i64 i] h (fun q h' => q = .tup [.int .i64 (sayV rm ws l i), .int .i64 (sayE rm ws l i)] ∧ Keeps h h') := by
  refine KA.fn 45 [.tmp 6, .tmp 7] Go.Proofs.Tryd.func40 rfl (by decide) rfl rfl (Nat.le_of_ble_eq_true rfl) ?_
  have hS := St.refl h
  have hvo : vW.one = true := hv.one
  show KA _ 45 _ _ [(0, .agg [.int .i64 rm, vW]), (1, vn), (2, .int .i64 i)] _
  refine KA.seq ?_
  refine KA.region rfl ?_
  refine KOps.boxAll hS (by first | rfl | (simp [AV.one]; done) | (simp [AV.one]; assumption) | (simp [AV.one, *]; done)) ?_
  intro p3 h' hp3 hS
  refine KOps.assign ?_
  refine KOps.assign ?_
  refine KOps.done ?_
  refine sqQ.normal ?_
  refine KA.sub (Sub.cons (t := 1) Look.eq (Sub.cons (t := 2) Look.eq (Sub.cons (t := 3) Look.eq (Sub.nil _)))) ?_
  refine KA.seq ?_
  refine KA.region rfl ?_
  refine KOps.loadAll hS (i := 0) rfl hp3 (by rfl) (by decide) ?_
  refine KOps.call rfl (check_c (Rd.ext hS.keeps hv)) ?_
  rintro _ h5 ⟨rfl, hK⟩
  have hS0 : St _ _ (_ :: _) := St.trans hS (St.ofK hK)
  clear hS
  have hS := hS0
  clear hS0
  refine KOps.assign ?_
  refine KOps.done ?_
  refine sqQ.normal ?_
  refine KA.sub (Sub.cons (t := 1) Look.eq (Sub.cons (t := 2) Look.eq (Sub.cons (t := 3) Look.eq (Sub.cons (t := 8) Look.eq (Sub.nil _))))) ?_
  refine KA.seq ?_
  refine KA.block ?_
  refine KA.seq ?_
  refine KA.region rfl ?_
  refine KOps.move ?_
  refine KOps.neq ?_
  refine KOps.assign ?_
  refine KOps.done ?_
  refine sqQ.normal ?_
  refine KA.sub (Sub.cons (t := 1) Look.eq (Sub.cons (t := 2) Look.eq (Sub.cons (t := 3) Look.eq (Sub.cons (t := 8) Look.eq (Sub.cons (t := 14) Look.eq (Sub.nil _)))))) ?_
  refine KA.condN ?_ ?_
  · intro c14
    refine KA.seq ?_
    refine KA.region rfl ?_
    refine KOps.move ?_
    refine KOps.assign ?_
    refine KOps.assign ?_
    refine KOps.done ?_
    refine sqQ.normal ?_
    refine KA.sub (Sub.cons (t := 6) Look.eq (Sub.cons (t := 7) Look.eq (Sub.nil _))) ?_
    refine KA.ret ?_
    refine blQ.ret ?_
    refine sqQ.ret ?_
    refine fnQ.retN ?_
    have e8 : askR rm ws i = chkB rm ws := by rw [askR, if_neg c14]
    have e9 := say_ask (l := l) (by rw [e8]; exact c14)
    rw [e9.1, e9.2, e8]
    exact ⟨rfl, hS.keeps⟩
  · intro c14
    have hwl := (BOk.of c14).len
    refine KA.seq ?_
    refine KA.region rfl ?_
    refine KOps.move ?_
    refine KOps.fieldAddr hp3 ?_
    intro p20 hp20
    refine KOps.load hp20 (hS.rd 0 rfl) rfl ?_
    refine KOps.lenF wc_len (Rd.ext hS.keeps hv) ?_
    refine KOps.sub (by first | omega | (simp; omega)) (by first | omega | (simp; omega)) ?_
    refine KOps.call rfl (between_c) ?_
    rintro _ _ ⟨rfl, rfl⟩
    refine KOps.not ?_
    refine KOps.assign ?_
    refine KOps.done ?_
    refine sqQ.normal ?_
    refine KA.sub (Sub.cons (t := 1) Look.eq (Sub.cons (t := 2) Look.eq (Sub.cons (t := 3) Look.eq (Sub.cons (t := 18) Look.eq (Sub.nil _))))) ?_
    refine KA.condN ?_ ?_
    · intro c18
      refine KA.seq ?_
      refine KA.region rfl ?_
      refine KOps.assign ?_
      refine KOps.assign ?_
      refine KOps.done ?_
      refine sqQ.normal ?_
      refine KA.sub (Sub.cons (t := 6) Look.eq (Sub.cons (t := 7) Look.eq (Sub.nil _))) ?_
      refine KA.ret ?_
      refine blQ.ret ?_
      refine sqQ.ret ?_
      refine fnQ.retN ?_
      have e8 : askR rm ws i = 2 := by rw [askR, if_pos c14, if_neg c18]
      have e9 := say_ask (l := l) (by rw [e8]; decide)
      rw [e9.1, e9.2, e8]
      exact ⟨rfl, hS.keeps⟩
    · intro c18
      have h0 : askR rm ws i = 0 := by rw [askR, if_pos c14, if_pos c18]
      obtain ⟨hB, hc0⟩ := askR_B h0
      have hii := (askR_yes h0).2
      have hwl := hB.len
      have hr6 := hB.r6
      obtain ⟨j, rfl⟩ : ∃ j : Nat, i = (j : Int) := ⟨i.toNat, by omega⟩
      have hse := setE_lt (rm := rm) (l := l) hr6

      refine KA.skip ?_
      refine blQ.normal ?_
      refine sqQ.normal ?_
      refine KA.sub (Sub.cons (t := 1) Look.eq (Sub.cons (t := 2) Look.eq (Sub.cons (t := 3) Look.eq (Sub.nil _)))) ?_
      refine KA.seq ?_
      refine KA.region rfl ?_
      refine KOps.loadAll hS (i := 0) rfl hp3 (by rfl) (by decide) ?_
      refine KOps.move ?_
      refine KOps.call rfl (rooms_c (Rd.ext hS.keeps hv) (Row.ext hS.keeps hn) hB hll) ?_
      rintro _ h6 ⟨rfl, hK⟩
      have hS0 : St _ _ (_ :: _) := St.trans hS (St.ofK hK)
      clear hS
      have hS := hS0
      clear hS0
      refine KOps.move ?_
      refine KOps.extract ?_
      refine KOps.extract ?_
      refine KOps.assign ?_
      refine KOps.assign ?_
      refine KOps.done ?_
      refine sqQ.normal ?_
      refine KA.sub (Sub.cons (t := 2) Look.eq (Sub.cons (t := 3) Look.eq (Sub.cons (t := 8) Look.eq (Sub.cons (t := 9) Look.eq (Sub.nil _))))) ?_
      refine KA.seq ?_
      refine KA.seq ?_
      refine KA.region rfl ?_
      refine KOps.move ?_
      refine KOps.neq ?_
      refine KOps.done ?_
      refine sqQ.normal ?_
      refine KA.sub (Sub.cons (t := 2) Look.eq (Sub.cons (t := 3) Look.eq (Sub.cons (t := 8) Look.eq (Sub.cons (t := 9) Look.eq (Sub.cons (t := 33) Look.eq (Sub.nil _)))))) ?_
      refine KA.condN ?_ ?_
      · intro c33
        refine KA.seq ?_
        refine KA.region rfl ?_
        refine KOps.move ?_
        refine KOps.assign ?_
        refine KOps.assign ?_
        refine KOps.done ?_
        refine sqQ.normal ?_
        refine KA.sub (Sub.cons (t := 6) Look.eq (Sub.cons (t := 7) Look.eq (Sub.nil _))) ?_
        refine KA.ret ?_
        refine sqQ.ret ?_
        refine fnQ.retN ?_
        have e9 := say_rooms h0 c33
        rw [e9.1, e9.2]
        exact ⟨rfl, hS.keeps⟩
      · intro c33
        refine KA.skip ?_
        refine sqQ.normal ?_
        refine KA.sub (Sub.cons (t := 2) Look.eq (Sub.cons (t := 3) Look.eq (Sub.cons (t := 9) Look.eq (Sub.nil _)))) ?_
        refine KA.seq ?_
        refine KA.region rfl ?_
        refine KOps.loadAll hS (i := 0) rfl hp3 (by rfl) (by decide) ?_
        refine KOps.move ?_
        refine KOps.move ?_
        refine KOps.call rfl (says_c (i := j) (Rd.ext hS.keeps hv) hB hse (by omega)) ?_
        rintro _ h7 ⟨rfl, hK⟩
        have hS0 : St _ _ (_ :: _) := St.trans hS (St.ofK hK)
        clear hS
        have hS := hS0
        clear hS0
        refine KOps.move ?_
        refine KOps.extract ?_
        refine KOps.extract ?_
        refine KOps.assign ?_
        refine KOps.assign ?_
        refine KOps.done ?_
        refine sqQ.normal ?_
        refine KA.sub (Sub.cons (t := 10) Look.eq (Sub.cons (t := 11) Look.eq (Sub.nil _))) ?_
        refine KA.seq ?_
        refine KA.seq ?_
        refine KA.region rfl ?_
        refine KOps.move ?_
        refine KOps.not ?_
        refine KOps.done ?_
        refine sqQ.normal ?_
        refine KA.sub (Sub.cons (t := 10) Look.eq (Sub.cons (t := 43) Look.eq (Sub.nil _))) ?_
        refine KA.condB ?_ ?_
        · intro c43
          refine KA.seq ?_
          refine KA.region rfl ?_
          refine KOps.assign ?_
          refine KOps.assign ?_
          refine KOps.done ?_
          refine sqQ.normal ?_
          refine KA.sub (Sub.cons (t := 6) Look.eq (Sub.cons (t := 7) Look.eq (Sub.nil _))) ?_
          refine KA.ret ?_
          refine sqQ.ret ?_
          refine fnQ.retN ?_
          have e9 := say_lost h0 c33 (by simpa using c43)
          rw [e9.1, e9.2]
          exact ⟨rfl, hS.keeps⟩
        · intro c43
          refine KA.skip ?_
          refine sqQ.normal ?_
          refine KA.sub (Sub.cons (t := 10) Look.eq (Sub.nil _)) ?_
          refine KA.seq ?_
          refine KA.region rfl ?_
          refine KOps.move ?_
          refine KOps.assign ?_
          refine KOps.assign ?_
          refine KOps.done ?_
          refine sqQ.normal ?_
          refine KA.sub (Sub.cons (t := 6) Look.eq (Sub.cons (t := 7) Look.eq (Sub.nil _))) ?_
          refine KA.ret ?_
          refine fnQ.retN ?_
          have hc : crosses ws (setE rm l) ((j : Int)).toNat = true := by simpa using c43
          have e9 := say_ok h0 c33 hc
          rw [Int.toNat_natCast] at hc e9
          rw [e9.1, e9.2, if_pos hc]
          exact ⟨rfl, hS.keeps⟩

theorem refSaysE_c {h : AHeap} {rm i : Int} {vW vn : AV} {ws : List W} {l : List Int} (hv : Rd h vW 4 (flr wc ws)) (hn : Row h vn l) (hll : l.length ≤ 1000000) : ACalls Go.Proofs.Tryd.prog 41 [.agg [.int .i64 rm, vW], vn, .int .i64 i] h (fun q h' => q = .tup [.int .i64 (sayV rm ws l i), .int .i64 (sayE rm ws l i)] ∧ Keeps h h') := by
  refine KA.fn 51 [.tmp 6, .tmp 7] Go.Proofs.Tryd.func41 rfl (by decide) rfl rfl (Nat.le_of_ble_eq_true rfl) ?_
  have hS := St.refl h
  have hvo : vW.one = true := hv.one
  show KA _ 51 _ _ [(0, .agg [.int .i64 rm, vW]), (1, vn), (2, .int .i64 i)] _
  refine KA.seq ?_
  refine KA.region rfl ?_
  refine KOps.boxAll hS (by first | rfl | (simp [AV.one]; done) | (simp [AV.one]; assumption) | (simp [AV.one, *]; done)) ?_
  intro p3 h' hp3 hS
  refine KOps.assign ?_
  refine KOps.assign ?_
  refine KOps.done ?_
  refine sqQ.normal ?_
  refine KA.sub (Sub.cons (t := 1) Look.eq (Sub.cons (t := 2) Look.eq (Sub.cons (t := 3) Look.eq (Sub.nil _)))) ?_
  refine KA.seq ?_
  refine KA.region rfl ?_
  refine KOps.loadAll hS (i := 0) rfl hp3 (by rfl) (by decide) ?_
  refine KOps.move ?_
  refine KOps.call rfl (refAsked_c (Rd.ext hS.keeps hv)) ?_
  rintro _ h5 ⟨rfl, hK⟩
  have hS0 : St _ _ (_ :: _) := St.trans hS (St.ofK hK)
  clear hS
  have hS := hS0
  clear hS0
  refine KOps.assign ?_
  refine KOps.done ?_
  refine sqQ.normal ?_
  refine KA.sub (Sub.cons (t := 1) Look.eq (Sub.cons (t := 2) Look.eq (Sub.cons (t := 3) Look.eq (Sub.cons (t := 8) Look.eq (Sub.nil _))))) ?_
  refine KA.seq ?_
  refine KA.seq ?_
  refine KA.region rfl ?_
  refine KOps.move ?_
  refine KOps.neq ?_
  refine KOps.done ?_
  refine sqQ.normal ?_
  refine KA.sub (Sub.cons (t := 1) Look.eq (Sub.cons (t := 2) Look.eq (Sub.cons (t := 3) Look.eq (Sub.cons (t := 8) Look.eq (Sub.cons (t := 14) Look.eq (Sub.nil _)))))) ?_
  refine KA.condN ?_ ?_
  · intro c14
    refine KA.seq ?_
    refine KA.region rfl ?_
    refine KOps.move ?_
    refine KOps.assign ?_
    refine KOps.assign ?_
    refine KOps.done ?_
    refine sqQ.normal ?_
    refine KA.sub (Sub.cons (t := 6) Look.eq (Sub.cons (t := 7) Look.eq (Sub.nil _))) ?_
    refine KA.ret ?_
    refine sqQ.ret ?_
    refine fnQ.retN ?_
    have e9 := say_ask (l := l) c14
    rw [e9.1, e9.2]
    exact ⟨rfl, hS.keeps⟩
  · intro c14
    have h0 : askR rm ws i = 0 := c14
    obtain ⟨hB, hc0⟩ := askR_B h0
    have hii := (askR_yes h0).2
    have hwl := hB.len
    have hr6 := hB.r6
    obtain ⟨j, rfl⟩ : ∃ j : Nat, i = (j : Int) := ⟨i.toNat, by omega⟩
    have hse := setE_lt (rm := rm) (l := l) hr6
    have hwi := hB.way j (by omega)
    have hwf0 := hwi.f0
    have hwf1 := hwi.f1
    have hwt0 := hwi.t0
    have hwt1 := hwi.t1

    refine KA.skip ?_
    refine sqQ.normal ?_
    refine KA.sub (Sub.cons (t := 1) Look.eq (Sub.cons (t := 2) Look.eq (Sub.cons (t := 3) Look.eq (Sub.nil _)))) ?_
    refine KA.seq ?_
    refine KA.region rfl ?_
    refine KOps.loadAll hS (i := 0) rfl hp3 (by rfl) (by decide) ?_
    refine KOps.move ?_
    refine KOps.call rfl (refRooms_c (Rd.ext hS.keeps hv) (Row.ext hS.keeps hn) hB hll) ?_
    rintro _ h6 ⟨rfl, hK⟩
    have hS0 : St _ _ (_ :: _) := St.trans hS (St.ofK hK)
    clear hS
    have hS := hS0
    clear hS0
    refine KOps.move ?_
    refine KOps.extract ?_
    refine KOps.extract ?_
    refine KOps.assign ?_
    refine KOps.assign ?_
    refine KOps.done ?_
    refine sqQ.normal ?_
    refine KA.sub (Sub.cons (t := 2) Look.eq (Sub.cons (t := 3) Look.eq (Sub.cons (t := 8) Look.eq (Sub.cons (t := 9) Look.eq (Sub.nil _))))) ?_
    refine KA.meet (X := Unit) (fun _ => [(2, .int .i64 (j : Int)), (3, p3), (8, .int .i64 (sayE rm ws l (j : Int))), (9, .int .i64 (setE rm l : Int))]) (fun _ h' => St h h' [⟨p3, 0, [.int .i64 rm, vW], true⟩]) ?_ ?_
    ·
      refine KA.seq ?_
      refine KA.region rfl ?_
      refine KOps.move ?_
      refine KOps.eql ?_
      refine KOps.move ?_
      refine KOps.guardB (dj := 24) rfl rfl true false rfl ?_ ?_
      · intro g24
        have g24 := of_decide_eq_true g24
        refine KOps.fieldAddr hp3 ?_
        intro p25 hp25
        refine KOps.guardYes (dj := 24) rfl rfl ?_
        refine KOps.load hp25 (hS.rd 0 rfl) rfl ?_
        refine KOps.guardYes (dj := 24) rfl rfl ?_
        refine KOps.move ?_
        refine KOps.guardYes (dj := 24) rfl rfl ?_
        refine KOps.indexF wc_len (Rd.ext hS.keeps hv) (j := j) (by first | omega | (simp; omega)) (by first | omega | (simp; omega)) ?_
        intro p28 hp28
        refine KOps.guardYes (dj := 24) rfl rfl ?_
        refine KOps.loadFl wc_len (by decide) hp28 (Rd.ext hS.keeps hv) (by first | omega | (simp; omega)) ?_
        refine KOps.guardYes (dj := 24) rfl rfl ?_
        refine KOps.move ?_
        refine KOps.guardYes (dj := 24) rfl rfl ?_
        refine KOps.call rfl (leaves_c (by first | omega | (simp; omega)) (by first | omega | (simp; omega)) (by first | omega | (simp; omega)) (by first | omega | (simp; omega)) (by first | omega | (simp; omega))) ?_
        rintro _ h7 ⟨rfl, hK⟩
        have hS0 : St _ _ (_ :: _) := St.trans hS (St.ofK hK)
        clear hS
        have hS := hS0
        clear hS0
        refine KOps.guardYes (dj := 24) rfl rfl ?_
        refine KOps.not ?_
        refine KOps.pickT ?_
        refine KOps.move ?_
        refine KOps.guardB (dj := 34) rfl rfl true false rfl ?_ ?_
        · intro g34
          refine KOps.fieldAddr hp3 ?_
          intro p35 hp35
          refine KOps.guardYes (dj := 34) rfl rfl ?_
          refine KOps.load hp35 (hS.rd 0 rfl) rfl ?_
          refine KOps.guardYes (dj := 34) rfl rfl ?_
          refine KOps.move ?_
          refine KOps.guardYes (dj := 34) rfl rfl ?_
          refine KOps.indexF wc_len (Rd.ext hS.keeps hv) (j := j) (by first | omega | (simp; omega)) (by first | omega | (simp; omega)) ?_
          intro p38 hp38
          refine KOps.guardYes (dj := 34) rfl rfl ?_
          refine KOps.loadFl wc_len (by decide) hp38 (Rd.ext hS.keeps hv) (by first | omega | (simp; omega)) ?_
          refine KOps.guardYes (dj := 34) rfl rfl ?_
          refine KOps.move ?_
          refine KOps.guardYes (dj := 34) rfl rfl ?_
          refine KOps.call rfl (enters_c (by first | omega | (simp; omega)) (by first | omega | (simp; omega)) (by first | omega | (simp; omega)) (by first | omega | (simp; omega)) (by first | omega | (simp; omega))) ?_
          rintro _ h8 ⟨rfl, hK⟩
          have hS0 : St _ _ (_ :: _) := St.trans hS (St.ofK hK)
          clear hS
          have hS := hS0
          clear hS0
          refine KOps.guardYes (dj := 34) rfl rfl ?_
          refine KOps.not ?_
          refine KOps.pickT ?_
          refine KOps.done ?_
          refine sqQ.normal ?_
          refine KA.sub (Sub.cons (t := 2) Look.eq (Sub.cons (t := 3) Look.eq (Sub.cons (t := 8) Look.eq (Sub.cons (t := 9) Look.eq (Sub.cons (t := 43) Look.eq (Sub.nil _)))))) ?_
          refine KA.condB ?_ ?_
          · intro c43
            refine KA.region rfl ?_
            refine KOps.assign ?_
            refine KOps.done ?_
            have hl : lvs (ws.getD j default) (setE rm l) = false := by simpa using g34
            have hn9 : ens (ws.getD j default) (setE rm l) = false := by simpa using c43
            have e9 := say_lost (rm := rm) (i := (j : Int)) h0 g24 (by rw [Int.toNat_natCast, crosses, hl, hn9]; rfl)
            exact mtQ.normal () (by repeat (first | exact Sub.nil _ | refine Sub.cons Look.eq ?_ | refine Sub.cons (Eq.trans Look.eq (congrArg (AV.int _) (by first | omega | (dsimp only; omega)))) ?_ | refine Sub.cons (Eq.trans Look.eq (by rw [e9.1])) ?_)) hS
          · intro c43
            refine KA.skip ?_
            have hn9 : ens (ws.getD j default) (setE rm l) = true := by simpa using c43
            have e9 := say_ok (rm := rm) (i := (j : Int)) h0 g24 (by rw [Int.toNat_natCast, crosses, hn9, Bool.or_true])
            exact mtQ.normal () (by repeat (first | exact Sub.nil _ | refine Sub.cons Look.eq ?_ | refine Sub.cons (Eq.trans Look.eq (congrArg (AV.int _) (by first | omega | (dsimp only; omega)))) ?_ | refine Sub.cons (Eq.trans Look.eq (by rw [e9.1, g24])) ?_)) hS
        · intro g34
          refine KOps.guardNo (dj := 34) rfl rfl rfl ?_
          refine KOps.guardNo (dj := 34) rfl rfl rfl ?_
          refine KOps.guardNo (dj := 34) rfl rfl rfl ?_
          refine KOps.guardNo (dj := 34) rfl rfl rfl ?_
          refine KOps.guardNo (dj := 34) rfl rfl rfl ?_
          refine KOps.guardNo (dj := 34) rfl rfl rfl ?_
          refine KOps.guardNo (dj := 34) rfl rfl rfl ?_
          refine KOps.pickF ?_
          refine KOps.done ?_
          refine sqQ.normal ?_
          refine KA.sub (Sub.cons (t := 2) Look.eq (Sub.cons (t := 3) Look.eq (Sub.cons (t := 8) Look.eq (Sub.cons (t := 9) Look.eq (Sub.cons (t := 43) Look.eq (Sub.nil _)))))) ?_
          refine KA.condF ?_
          refine KA.skip ?_
          have hl : lvs (ws.getD j default) (setE rm l) = true := by simpa using g34
          have e9 := say_ok (rm := rm) (i := (j : Int)) h0 g24 (by rw [Int.toNat_natCast, crosses, hl, Bool.true_or])
          exact mtQ.normal () (by repeat (first | exact Sub.nil _ | refine Sub.cons Look.eq ?_ | refine Sub.cons (Eq.trans Look.eq (congrArg (AV.int _) (by first | omega | (dsimp only; omega)))) ?_ | refine Sub.cons (Eq.trans Look.eq (by rw [e9.1, g24])) ?_)) hS
      · intro g24
        have g24 := of_decide_eq_false g24
        refine KOps.guardNo (dj := 24) rfl rfl rfl ?_
        refine KOps.guardNo (dj := 24) rfl rfl rfl ?_
        refine KOps.guardNo (dj := 24) rfl rfl rfl ?_
        refine KOps.guardNo (dj := 24) rfl rfl rfl ?_
        refine KOps.guardNo (dj := 24) rfl rfl rfl ?_
        refine KOps.guardNo (dj := 24) rfl rfl rfl ?_
        refine KOps.guardNo (dj := 24) rfl rfl rfl ?_
        refine KOps.pickF ?_
        refine KOps.move ?_
        refine KOps.guardNo (dj := 34) rfl rfl rfl ?_
        refine KOps.guardNo (dj := 34) rfl rfl rfl ?_
        refine KOps.guardNo (dj := 34) rfl rfl rfl ?_
        refine KOps.guardNo (dj := 34) rfl rfl rfl ?_
        refine KOps.guardNo (dj := 34) rfl rfl rfl ?_
        refine KOps.guardNo (dj := 34) rfl rfl rfl ?_
        refine KOps.guardNo (dj := 34) rfl rfl rfl ?_
        refine KOps.guardNo (dj := 34) rfl rfl rfl ?_
        refine KOps.pickF ?_
        refine KOps.done ?_
        refine sqQ.normal ?_
        refine KA.sub (Sub.cons (t := 2) Look.eq (Sub.cons (t := 3) Look.eq (Sub.cons (t := 8) Look.eq (Sub.cons (t := 9) Look.eq (Sub.cons (t := 43) Look.eq (Sub.nil _)))))) ?_
        refine KA.condF ?_
        refine KA.skip ?_
        exact mtQ.normal () (by repeat (first | exact Sub.nil _ | refine Sub.cons Look.eq ?_ | refine Sub.cons (Eq.trans Look.eq (congrArg (AV.int _) (by first | omega | (dsimp only; omega)))) ?_ | refine Sub.cons (Eq.trans Look.eq (by rw [(say_rooms h0 g24).1])) ?_)) hS
    ·
      rintro _ h10 hS
      refine KA.seq ?_
      refine KA.seq ?_
      refine KA.region rfl ?_
      refine KOps.move ?_
      refine KOps.neq ?_
      refine KOps.done ?_
      refine sqQ.normal ?_
      refine KA.sub (Sub.cons (t := 2) Look.eq (Sub.cons (t := 3) Look.eq (Sub.cons (t := 8) Look.eq (Sub.cons (t := 9) Look.eq (Sub.cons (t := 45) Look.eq (Sub.nil _)))))) ?_
      refine KA.condN ?_ ?_
      · intro c45
        refine KA.seq ?_
        refine KA.region rfl ?_
        refine KOps.move ?_
        refine KOps.assign ?_
        refine KOps.assign ?_
        refine KOps.done ?_
        refine sqQ.normal ?_
        refine KA.sub (Sub.cons (t := 6) Look.eq (Sub.cons (t := 7) Look.eq (Sub.nil _))) ?_
        refine KA.ret ?_
        refine sqQ.ret ?_
        refine fnQ.retN ?_
        rw [sayV, if_neg c45]
        exact ⟨rfl, hS.keeps⟩
      · intro c45
        refine KA.skip ?_
        refine sqQ.normal ?_
        refine KA.sub (Sub.cons (t := 2) Look.eq (Sub.cons (t := 3) Look.eq (Sub.cons (t := 9) Look.eq (Sub.nil _)))) ?_
        refine KA.seq ?_
        refine KA.region rfl ?_
        refine KOps.loadAll hS (i := 0) rfl hp3 (by rfl) (by decide) ?_
        refine KOps.move ?_
        refine KOps.move ?_
        refine KOps.call rfl (refSays_c (i := j) (Rd.ext hS.keeps hv) hB hse (by omega)) ?_
        rintro _ h9 ⟨rfl, hK⟩
        have hS0 : St _ _ (_ :: _) := St.trans hS (St.ofK hK)
        clear hS
        have hS := hS0
        clear hS0
        refine KOps.assign ?_
        refine KOps.assign ?_
        refine KOps.done ?_
        refine sqQ.normal ?_
        refine KA.sub (Sub.cons (t := 6) Look.eq (Sub.cons (t := 7) Look.eq (Sub.nil _))) ?_
        refine KA.ret ?_
        refine fnQ.retN ?_
        rw [say_zero h0 c45, c45]
        exact ⟨rfl, hS.keeps⟩

end Go.Am

namespace Go.Am
theorem AW.region_drawS2 {P : Program} {id c r t a d : Nat} {ops : Array Oper} {l1 l2 : List Oper} {oc : Oper} {ex : List Nat} {sz : Nat} {o : Oper} {Q : Ex → List AV → AHeap → Prop} {fr : List AV} {h : AHeap} (hm : P.follows .mixedOrders = true) (hl : ops.toList = l1 ++ oc :: l2) (hc : l1.length = c + 1)
    (hok : RgOk sz ops ex [(c, r), (c + 1, r)]) (hsz : fr.length = sz) (hrc : r < c) (ho : ops[r]? = some o) (hop : o.op = .load t (.tmp a)) (hod : o.dst = some d) (hdz : d < sz) (hno : ∀ j (oj : Oper), r ≤ j → j ≤ c + 1 → ops[j]? = some oj → oj.dst ≠ some a ∧ (r < j → oj.dst ≠ some d))
    (hw : AOps P ops ex (fun fr1 h1 => aload P h1 t (fr1.getD a .bot) = some (fr1.getD d .bot) ∧ AOps P ops ex (fun fr2 h2 => aload P h2 t (fr2.getD a .bot) = some (fr2.getD d .bot) ∧ AOps P ops ex (Q .normal) (c + 2) l2 fr2 h2) (c + 1) [oc] fr1 h1) 0 l1 fr h) : AW P (.region id ops true) Q fr h := by
  have hsize : ops.size = l1.length + (l2.length + 1) := by rw [← Array.length_toList, hl, List.length_append, List.length_cons]
  have g1 : ∀ i, i < l1.length → l1[i]? = ops[0 + i]? := by
    intro i hi
    rw [Nat.zero_add, ← Array.getElem?_toList, hl, List.getElem?_append_left hi]
  have g3 : ∀ i, i < [oc].length → [oc][i]? = ops[c + 1 + i]? := by
    intro i hi
    simp only [List.length_singleton] at hi
    rw [← Array.getElem?_toList, hl, List.getElem?_append_right (by omega), hc, Nat.add_sub_cancel_left, show i = 0 by omega]
    rfl
  have g2 : ∀ i, l2[i]? = ops[c + 2 + i]? := by
    intro i
    rw [← Array.getElem?_toList, hl, List.getElem?_append_right (by omega), hc, show c + 2 + i - (c + 1) = i + 1 by omega]
    rfl
  obtain ⟨ws1, fs1, ks1, a1, a2, ⟨hchkA, hKA⟩, hallA⟩ := aops_textP hok.ntx l1 0 fr h g1 hw
  simp only [Nat.zero_add, hc] at hchkA hKA hallA
  obtain ⟨ws2, fs2, ks2, b1, b2, ⟨hchkB, hKB⟩, hallB⟩ := aops_textP hok.ntx [oc] (c + 1) _ _ g3 hKA
  simp only [List.length_singleton] at hchkB hKB hallB
  obtain ⟨vs1, frs1, hs1, e1, e2, hchk1, hchk, hK1, hall1⟩ : ∃ (vs : Nat → AV) (frs : Nat → List AV) (hs : Nat → AHeap), frs 0 = fr ∧ hs 0 = h ∧ aload P (hs (c + 1)) t ((frs (c + 1)).getD a .bot) = some ((frs (c + 1)).getD d .bot) ∧ aload P (hs (c + 2)) t ((frs (c + 2)).getD a .bot) = some ((frs (c + 2)).getD d .bot) ∧ AOps P ops ex (Q .normal) (c + 2) l2 (frs (c + 2)) (hs (c + 2)) ∧ ∀ i o, 0 ≤ i → i < c + 2 → ops[i]? = some o → TS P ops ex i o (frs i) (hs i) (vs i) (frs (i + 1)) (hs (i + 1)) := by
    refine ⟨fun i => if i ≤ c then ws1 i else ws2 i, fun i => if i ≤ c then fs1 i else fs2 i, fun i => if i ≤ c then ks1 i else ks2 i, by simp [a1], by simp [a2], ?_, ?_, ?_, ?_⟩
    · simp only [if_neg (show ¬ c + 1 ≤ c by omega), b1, b2]; exact hchkA
    · simp only [if_neg (show ¬ c + 2 ≤ c by omega)]; exact hchkB
    · simp only [if_neg (show ¬ c + 2 ≤ c by omega)]; exact hKB
    · intro i oi _ hi hoi
      by_cases h1 : i ≤ c
      · have ht := hallA i oi (Nat.zero_le _) (by omega) hoi
        by_cases h2 : i + 1 ≤ c
        · simp only [if_pos h1, if_pos h2]; exact ht
        · have h3 : i = c := by omega
          subst h3
          simp only [if_pos h1, if_neg h2, b1, b2]
          exact ht
      · simp only [if_neg h1, if_neg (show ¬ i + 1 ≤ c by omega)]
        exact hallB i oi (by omega) (by omega) hoi
  obtain ⟨vs2, frs2, hs2, e3, e4, hK2, hall2⟩ := aops_text hok.ntx l2 (c + 2) _ _ g2 hK1
  have hlen : ∀ i, i ≤ c + 2 → (frs1 i).length = sz := by
    intro i
    induction i with
    | zero => intro _; rw [e1]; exact hsz
    | succ i ih =>
      intro hi
      have ht := hall1 i _ (Nat.zero_le _) (by omega) (Array.getElem?_eq_getElem (by omega))
      rw [ht.1]
      unfold setF
      split
      · rw [List.length_set]; exact ih (by omega)
      · exact ih (by omega)
  have hget : ∀ (l : List AV) (dst : Option Tmp) (v : AV) (x : Nat), dst ≠ some x → (setF l dst v).getD x .bot = l.getD x .bot := by
    intro l dst v x hx
    unfold setF
    split
    · rename_i y
      rw [List.getD_eq_getElem?_getD, List.getD_eq_getElem?_getD, List.getElem?_set_ne (by rintro rfl; exact hx rfl)]
    · rfl
  have ha : ∀ j, r ≤ j → j ≤ c + 2 → (frs1 j).getD a .bot = (frs1 r).getD a .bot := by
    intro j h1
    induction j with
    | zero => intro _; rw [show r = 0 by omega]
    | succ j ih =>
      intro h2
      rcases Nat.lt_or_eq_of_le h1 with h3 | h3
      · have ho2 := Array.getElem?_eq_getElem (xs := ops) (i := j) (by omega)
        have ht := hall1 j _ (Nat.zero_le _) (by omega) ho2
        rw [ht.1, hget _ _ _ _ (hno j _ (by omega) (by omega) ho2).1, ih (by omega) (by omega)]
      · rw [← h3]
  have hd : ∀ j, r < j → j ≤ c + 2 → (frs1 j).getD d .bot = vs1 r := by
    intro j h1
    induction j with
    | zero => omega
    | succ j ih =>
      intro h2
      have ho2 := Array.getElem?_eq_getElem (xs := ops) (i := j) (by omega)
      have ht := hall1 j _ (Nat.zero_le _) (by omega) ho2
      rw [ht.1]
      by_cases hj : j = r
      · subst hj
        rw [ho2] at ho
        cases ho
        rw [hod]
        simp only [setF]
        rw [List.getD_eq_getElem?_getD, List.getElem?_set_self (by rw [hlen j (by omega)]; exact hdz)]
        rfl
      · rw [hget _ _ _ _ ((hno j _ (by omega) (by omega) ho2).2 (by omega))]
        exact ih (by omega) (by omega)
  refine AW.region_run hm hok hsz (vs := fun i => if i ≤ c + 1 then vs1 i else vs2 i) (frs := fun i => if i ≤ c + 1 then frs1 i else frs2 i) (hs := fun i => if i ≤ c + 1 then hs1 i else hs2 i) (by simp [e1]) (by simp [e2]) ?_ ?_ ?_
  · simp only [if_neg (show ¬ ops.size ≤ c + 1 by omega)]
    rw [show ops.size = c + 2 + l2.length by omega]
    exact hK2
  · intro i oi hi hoi
    by_cases h1 : i ≤ c + 1
    · have ht := hall1 i oi (Nat.zero_le _) (by omega) hoi
      by_cases h2 : i + 1 ≤ c + 1
      · simp only [if_pos h1, if_pos h2]; exact ht
      · have h3 : i = c + 1 := by omega
        subst h3
        simp only [if_pos h1, if_neg h2, e3, e4]
        exact ht
    · simp only [if_neg h1, if_neg (show ¬ i + 1 ≤ c + 1 by omega)]
      exact hall2 i oi (by omega) (by omega) hoi
  · intro c' r' o' hcr _ ho'
    have hcr' : (c' = c ∧ r' = r) ∨ (c' = c + 1 ∧ r' = r) := by simpa using hcr
    rcases hcr' with ⟨rfl, rfl⟩ | ⟨rfl, rfl⟩
    · rw [ho] at ho'
      cases ho'
      simp only [if_pos (show c' + 1 ≤ c' + 1 by omega), if_pos (show r' ≤ c' + 1 by omega)]
      rw [hop]
      show aload P _ t ((frs1 r').getD a .bot) = _
      rw [← ha (c' + 1) (by omega) (by omega), ← hd (c' + 1) (by omega) (by omega)]
      exact hchk1
    · rw [ho] at ho'
      cases ho'
      simp only [if_neg (show ¬ c + 1 + 1 ≤ c + 1 by omega), if_pos (show r' ≤ c + 1 by omega), e4]
      rw [hop]
      show aload P _ t ((frs1 r').getD a .bot) = _
      rw [← ha (c + 2) (by omega) (Nat.le_refl _), ← hd (c + 2) (by omega) (Nat.le_refl _)]
      exact hchk

section drawS
variable {P : Program} {n : Nat} {Q : Ex → KF → AHeap → Prop} {K : KF} {h : AHeap}
theorem KA.drawS2 {id c r t a d : Nat} {ops : Array Oper} {l1 l2 : List Oper} {oc o : Oper} (ex : List Nat) (hm : P.follows .mixedOrders = true) (hl1 : ops.toList.take (c + 1) = l1) (hl2 : ops.toList.drop (c + 1) = oc :: l2) (hc : l1.length = c + 1) (hok : rgOk n ops.toList ex [(c, r), (c + 1, r)] = true) (ho : ops[r]? = some o) (hop : o.op = .load t (.tmp a)) (hod : o.dst = some d) (hdz : d < n) (hrc : r < c)
    (hno : ((List.range' r (c + 2 - r)).all fun j => match ops[j]? with | some oj => oj.dst != some a && (j == r || oj.dst != some d) | none => true) = true)
    (hw : KOps P n ops ex (fun K1 h1 => aload P h1 t ((toFr n K1).getD a .bot) = some ((toFr n K1).getD d .bot) ∧ KOps P n ops ex (fun K2 h2 => aload P h2 t ((toFr n K2).getD a .bot) = some ((toFr n K2).getD d .bot) ∧ KOps P n ops ex (Q .normal) (c + 2) l2 K2 h2) (c + 1) [oc] K1 h1) 0 l1 K h) : KA P n (.region id ops true) Q K h := by
  refine AW.region_drawS2 (c := c) (r := r) (t := t) (a := a) (d := d) (l1 := l1) (oc := oc) (l2 := l2) hm (by rw [← hl1, ← hl2, List.take_append_drop]) hc (rgOk_sound rfl hok) (toFr_length n K) hrc ho hop hod hdz ?_ ?_
  · intro j oj h1 h2 hj
    have := List.all_eq_true.1 hno j (List.mem_range'_1.2 ⟨h1, by omega⟩)
    simp only [hj, Bool.and_eq_true, bne_iff_ne, Bool.or_eq_true, beq_iff_eq] at this
    exact ⟨this.1, fun h3 => this.2.resolve_left (by omega)⟩
  · refine aops_mono ?_ _ _ _ _ hw
    rintro fr1 h1 ⟨K1, rfl, hchk, hrest⟩
    refine ⟨hchk, aops_mono ?_ _ _ _ _ hrest⟩
    rintro fr2 h2 ⟨K2, rfl, hchk2, hrest2⟩
    exact ⟨hchk2, hrest2⟩
end drawS
section drawS2
variable {P : Program} {n : Nat} {ops : Array Oper} {ex : List Nat} {k : Nat} {K : KF} {h : AHeap}
theorem KOps.doneS2 {t a d s j : Nat} {R : KF → AHeap → Prop} {p v y : AV} {xs : List AV} [hla : Look K a p] [hld : Look K d y] [ht : ScT P t] (hna : Nat.ble n a = false) (hnd : Nat.ble n d = false) (ha : AddrOf p v s j) (hr : Rd h v s xs) (hy : xs[j]? = some y) (hrest : R K h) :
    KOps P n ops ex (fun K1 h1 => aload P h1 t ((toFr n K1).getD a .bot) = some ((toFr n K1).getD d .bot) ∧ R K1 h1) k [] K h := by
  refine KOps.done ⟨?_, hrest⟩
  rw [toFr_getD, toFr_getD, hna, hnd, cond_false, cond_false, hla.eq, hld.eq]
  exact hr.load ha hy
end drawS2
end Go.Am

namespace Go.Am
/-- Rooms that say an end of a span. -/
noncomputable def pB (ws : List W) (i : Nat) (g : Bool) (s : Nat) : Bool := if g then lvs (ws.getD i default) s && decide (saysV ws s i = hiOf ws i) else ens (ws.getD i default) s && decide (saysV ws s i = loOf ws i)
noncomputable def endI (ws : List W) (i : Nat) (g : Bool) : Int := if g then hiOf ws i else loOf ws i
def insI (ws : List W) (i : Nat) (g : Bool) : Int := if g then (ws.getD i default).f else (ws.getD i default).t
def ownI (ws : List W) (i : Nat) (g : Bool) : Int := if g then (ws.getD i default).m else (ws.getD i default).l
theorem cross_in (ws : List W) (s i : Nat) (g : Bool) : (crosses ws s i && inS s (insI ws i g)) = if g then lvs (ws.getD i default) s else ens (ws.getD i default) s := by
  unfold crosses insI lvs ens
  cases g <;> simp only [if_true, if_false, Bool.false_eq_true] <;> cases inS s (ws.getD i default).f <;> cases inS s (ws.getD i default).t <;> rfl
theorem pB_is {ws : List W} {s i : Nat} {g : Bool} : pB ws i g s = (crosses ws s i && inS s (insI ws i g) && decide (saysV ws s i = endI ws i g)) := by
  rw [cross_in]
  unfold pB endI
  cases g <;> rfl
theorem pB_full {r : Nat} {ws : List W} (hB : BOk (r : Int) ws) {i : Nat} (hi : i < ws.length) (g : Bool) : pB ws i g (2 ^ r - 1) = false := by
  have h := lvs_full (hB.way i hi)
  unfold pB
  rw [h.1, h.2]
  cases g <;> rfl
/-- The stamps that cross a cut. -/
theorem cut_sum {r : Nat} {ws : List W} {n : List Int} {i : Nat} {ρ : Int → Bool} (hB : BOk (r : Int) ws) (hw : Within ws n) (hc : Closed ws n (but i (fun _ => true)) (fun x => ρ x = true)) :
    ∀ k, k ≤ ws.length → crossTo ws n ρ k = lstTo ws (maskB (fun x => !ρ x) r) i k - mstTo ws (maskB (fun x => !ρ x) r) i k + if i < k then n.getD i 0 * (bi (ρ (ws.getD i default).t) - bi (ρ (ws.getD i default).f)) else 0 := by
  intro k
  induction k with
  | zero => intro _; rw [if_neg (by omega)]; rfl
  | succ k ih =>
    intro hk
    have hwk := hB.way k (by omega)
    rw [crossTo, ih (by omega), lstTo, mstTo]
    have e1 : lvs (ws.getD k default) (maskB (fun x => !ρ x) r) = (!ρ (ws.getD k default).f && ρ (ws.getD k default).t) := by
      unfold lvs; rw [inS_mask hwk.f0 hwk.f1, inS_mask hwk.t0 hwk.t1, Bool.not_not]
    have e2 : ens (ws.getD k default) (maskB (fun x => !ρ x) r) = (ρ (ws.getD k default).f && !ρ (ws.getD k default).t) := by
      unfold ens; rw [inS_mask hwk.f0 hwk.f1, inS_mask hwk.t0 hwk.t1, Bool.not_not]
    rw [e1, e2]
    by_cases hik : i = k
    · subst hik
      rw [if_neg (Nat.lt_irrefl _), if_pos (Nat.lt_succ_self _), if_neg (fun h => h.1 rfl), if_neg (fun h => h.1 rfl)]
      omega
    · have hlo := hw.lo k (by omega)
      have hhi := hw.hi k (by omega)
      have hcl := hc k (by omega) (by
        simp only [but, Bool.and_true]
        rw [decide_eq_false (by omega)]; rfl)
      have h3 : (if i < k + 1 then n.getD i 0 * (bi (ρ (ws.getD i default).t) - bi (ρ (ws.getD i default).f)) else 0) = if i < k then n.getD i 0 * (bi (ρ (ws.getD i default).t) - bi (ρ (ws.getD i default).f)) else 0 := by
        by_cases h4 : i < k
        · rw [if_pos h4, if_pos (by omega)]
        · rw [if_neg h4, if_neg (by omega)]
      rw [h3]
      generalize (if i < k then n.getD i 0 * (bi (ρ (ws.getD i default).t) - bi (ρ (ws.getD i default).f)) else 0) = z
      have hne : ((k : Nat) : Int) ≠ (i : Int) := by omega
      generalize ws.getD k default = w at *
      generalize n.getD k 0 = a at *
      cases hf : ρ w.f <;> cases ht : ρ w.t <;> simp only [hf, ht, Bool.not_false, Bool.not_true, Bool.true_and, Bool.false_and, Bool.and_false, Bool.false_eq_true, if_false, if_true, and_true, and_false, bi, hne, ne_eq, not_false_eq_true, Bool.and_true]
      · omega
      · have : ¬ w.l < a := fun h5 => by have h6 : ρ w.f = true := hcl.2 ht h5; rw [hf] at h6; cases h6
        omega
      · have : ¬ a < w.m := fun h5 => by have h6 : ρ w.t = true := hcl.1 hf h5; rw [ht] at h6; cases h6
        omega
      · omega
theorem bound_some {r : Nat} {ws : List W} (hB : BOk (r : Int) ws) (hx : ∃ n, Flow ws n) {i : Nat} (hi : i < ws.length) {g : Bool} (hne : endI ws i g ≠ ownI ws i g) : ∃ s, s < 2 ^ r ∧ pB ws i g s = true := by
  classical
  have hwi := hB.way i hi
  cases g with
  | true =>
    have hh := hiOf_is hx hi
    obtain ⟨n, hn, hnv⟩ := hh.1
    have hne : hiOf ws i ≠ (ws.getD i default).m := hne
    have hm := hn.hi i hi
    have hno : ¬ ∃ vs E, Path ws n (but i (fun _ => true)) (ws.getD i default).t vs (ws.getD i default).f E := by
      rintro ⟨vs, E, p⟩
      obtain ⟨h1, _, h3⟩ := p.raise hn hi (by omega)
      have := hh.2 _ h1
      omega
    let ρ : Int → Bool := fun x => decide (∃ vs E, Path ws n (but i (fun _ => true)) (ws.getD i default).t vs x E)
    have hc : Closed ws n (but i (fun _ => true)) (fun x => ρ x = true) := by
      have := path_or (ws := ws) (n := n) (A := but i (fun _ => true)) (ws.getD i default).t
      intro k hk hA
      have := this k hk hA
      simp only [ρ, decide_eq_true_iff]
      exact this
    have h1 : ρ (ws.getD i default).t = true := decide_eq_true ⟨_, _, .nil⟩
    have h2 : ρ (ws.getD i default).f = false := decide_eq_false hno
    have hs := cut_sum hB hn.toWithin hc ws.length (Nat.le_refl _)
    rw [cross_flow hB.inR hn, if_pos hi, h1, h2] at hs
    have hl : lvs (ws.getD i default) (maskB (fun x => !ρ x) r) = true := by
      unfold lvs; rw [inS_mask hwi.f0 hwi.f1, inS_mask hwi.t0 hwi.t1, h1, h2]; rfl
    refine ⟨maskB (fun x => !ρ x) r, maskB_lt (fun x => !ρ x) r, ?_⟩
    rw [pB, if_pos rfl, hl, Bool.true_and]
    refine decide_eq_true ?_
    rw [saysV, if_pos hl]
    simp only [bi, if_true, Bool.false_eq_true, if_false] at hs
    omega
  | false =>
    have hh := loOf_is hx hi
    obtain ⟨n, hn, hnv⟩ := hh.1
    have hne : loOf ws i ≠ (ws.getD i default).l := hne
    have hm := hn.lo i hi
    have hno : ¬ ∃ vs E, Path ws n (but i (fun _ => true)) (ws.getD i default).f vs (ws.getD i default).t E := by
      rintro ⟨vs, E, p⟩
      obtain ⟨h1, _, h3⟩ := p.lower hn hi (by omega)
      have := hh.2 _ h1
      omega
    let ρ : Int → Bool := fun x => decide (∃ vs E, Path ws n (but i (fun _ => true)) (ws.getD i default).f vs x E)
    have hc : Closed ws n (but i (fun _ => true)) (fun x => ρ x = true) := by
      have := path_or (ws := ws) (n := n) (A := but i (fun _ => true)) (ws.getD i default).f
      intro k hk hA
      have := this k hk hA
      simp only [ρ, decide_eq_true_iff]
      exact this
    have h1 : ρ (ws.getD i default).f = true := decide_eq_true ⟨_, _, .nil⟩
    have h2 : ρ (ws.getD i default).t = false := decide_eq_false hno
    have hs := cut_sum hB hn.toWithin hc ws.length (Nat.le_refl _)
    rw [cross_flow hB.inR hn, if_pos hi, h1, h2] at hs
    have hl : ens (ws.getD i default) (maskB (fun x => !ρ x) r) = true := by
      unfold ens; rw [inS_mask hwi.f0 hwi.f1, inS_mask hwi.t0 hwi.t1, h1, h2]; rfl
    have hl2 : lvs (ws.getD i default) (maskB (fun x => !ρ x) r) = false := by
      unfold lvs; rw [inS_mask hwi.f0 hwi.f1, inS_mask hwi.t0 hwi.t1, h1, h2]; rfl
    refine ⟨maskB (fun x => !ρ x) r, maskB_lt (fun x => !ρ x) r, ?_⟩
    rw [pB, if_neg (by decide), hl, Bool.true_and]
    refine decide_eq_true ?_
    rw [saysV, hl2, if_neg (by decide)]
    simp only [bi, if_true, Bool.false_eq_true, if_false] at hs
    omega
noncomputable def boundL (rm : Int) (ws : List W) (i : Int) (g : Bool) : List Int := if askE rm ws i = 0 then (if endI ws i.toNat g = ownI ws i.toNat g then [] else fewL (pB ws i.toNat g) (2 ^ rm.toNat)) else []
end Go.Am
