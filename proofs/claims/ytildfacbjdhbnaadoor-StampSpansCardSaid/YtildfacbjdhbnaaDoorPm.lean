/-
  Layer 01: Against, Proves: contracts, of both.
  Conditions: none.
-/
import Derived.Test.YtildfacbjdhbnaaDoorCw
import Derived.Test.YtildfacbjdhbnaaDoorCl
namespace Go.Am
theorem inS_full {r : Nat} {x : Int} (h0 : 0 ≤ x) (h1 : x < r) : inS (2 ^ r - 1) x = true := by
  unfold inS
  rw [Nat.testBit_two_pow_sub_one]
  exact decide_eq_true (by omega)
theorem lvs_full {r : Nat} {w : W} (h : WOk (r : Int) w) : lvs w (2 ^ r - 1) = false ∧ ens w (2 ^ r - 1) = false := by
  unfold lvs ens
  rw [inS_full h.f0 h.f1, inS_full h.t0 h.t1]
  exact ⟨rfl, rfl⟩
theorem proof_full {r : Nat} {ws : List W} (hB : BOk (r : Int) ws) : proofB ws (2 ^ r - 1) = false := by
  have key : ∀ k, k ≤ ws.length → netTo ws (2 ^ r - 1) k = 0 := by
    intro k
    induction k with
    | zero => intro _; rfl
    | succ k ih =>
      intro hk
      have h := lvs_full (hB.way k (by omega))
      rw [netTo, ih (by omega), h.1, h.2]
      rfl
  rw [proofB, key _ (Nat.le_refl _)]
  rfl
theorem can_no {r : Nat} {ws : List W} (h : canB r ws = false) : ∃ s, s < 2 ^ r ∧ proofB ws s = true := by
  unfold canB at h
  rw [List.all_eq_false] at h
  obtain ⟨s, hs, hp⟩ := h
  exact ⟨s, List.mem_range.1 hs, by simpa using hp⟩
def againE (rm : Int) (ws : List W) : Int := if chkB rm ws = 0 then (if canP rm ws = true then 13 else 0) else chkB rm ws
theorem again_ok {rm : Int} {ws : List W} (h : againE rm ws = 0) : chkB rm ws = 0 ∧ canP rm ws = false := by
  unfold againE at h
  by_cases h1 : chkB rm ws = 0
  · rw [if_pos h1] at h
    cases hc : canP rm ws with
    | true => rw [hc] at h; exact absurd h (by decide)
    | false => exact ⟨h1, rfl⟩
  · rw [if_neg h1] at h; exact absurd h h1
theorem again_some {r : Nat} {ws : List W} (h : chkB (r : Int) ws = 0) (h2 : canP (r : Int) ws = false) : ∃ s, s < 2 ^ r ∧ proofB ws s = true := by
  unfold canP at h2
  rw [decide_eq_true h, Bool.true_and, Int.toNat_natCast] at h2
  exact can_no h2
def provE (rm : Int) (ws : List W) (l : List Int) : Int := if chkB rm ws = 0 then (if roomsE rm l l.length = 0 then (if proofB ws (setE rm l) = true then 0 else 14) else roomsE rm l l.length) else chkB rm ws
theorem setTo_lt {rm : Int} {l : List Int} (hr : rm ≤ 6) : ∀ i, roomsE rm l i = 0 → setTo l i < 64 := by
  intro i
  induction i with
  | zero => intro _; exact (show 0 < 64 by decide)
  | succ i ih =>
    intro h
    rw [roomsE] at h
    by_cases h1 : roomsE rm l i = 0
    · rw [if_pos h1] at h
      refine set_next (rm := rm) (ih h1) ?_ hr
      refine Classical.byContradiction fun h2 => ?_
      rw [roomE_in h2] at h
      cases h
    · rw [if_neg h1] at h; exact absurd h h1
theorem setE_lt {rm : Int} {l : List Int} (hr : rm ≤ 6) : setE rm l < 64 := by
  unfold setE
  split
  · rename_i h; exact setTo_lt hr _ h
  · decide

theorem against_c {h : AHeap} {rm : Int} {vW : AV} {ws : List W} (hv : Rd h vW 4 (flr wc ws)) (hSz : Sizes h) : ACalls Go.Proofs.Tryd.prog 29 [.agg [.int .i64 rm, vW]] h (fun q h' => ∃ vo, q = .tup [vo, .int .i64 (againE rm ws)] ∧ St h h' [⟨vo, 1, ints (if againE rm ws = 0 then fewL (proofB ws) (2 ^ rm.toNat) else []), true⟩]) := by
  refine KA.fn 21 [.tmp 2, .tmp 3] Go.Proofs.Tryd.func29 rfl (by decide) rfl rfl (Nat.le_of_ble_eq_true rfl) ?_
  have hS := St.refl h
  have hvo : vW.one = true := hv.one
  show KA _ 21 _ _ [(0, .agg [.int .i64 rm, vW])] _
  refine KA.seq ?_
  refine KA.region rfl ?_
  refine KOps.boxAll hS (by first | rfl | (simp [AV.one]; done) | (simp [AV.one]; assumption) | (simp [AV.one, *]; done)) ?_
  intro p1 h' hp1 hS
  refine KOps.assign ?_
  refine KOps.assign ?_
  refine KOps.done ?_
  refine sqQ.normal ?_
  refine KA.sub (Sub.cons (t := 1) Look.eq (Sub.nil _)) ?_
  refine KA.seq ?_
  refine KA.region rfl ?_
  refine KOps.loadAll hS (i := 0) rfl hp1 (by rfl) (by decide) ?_
  refine KOps.call rfl (stCan_c (Rd.ext hS.keeps hv)) ?_
  rintro _ h5 ⟨rfl, hK⟩
  have hS0 : St _ _ (_ :: _) := St.trans hS (St.ofK hK)
  clear hS
  have hS := hS0
  clear hS0
  refine KOps.move ?_
  refine KOps.extract ?_
  refine KOps.extract ?_
  refine KOps.assign ?_
  refine KOps.assign ?_
  refine KOps.done ?_
  refine sqQ.normal ?_
  refine KA.sub (Sub.cons (t := 1) Look.eq (Sub.cons (t := 4) Look.eq (Sub.cons (t := 5) Look.eq (Sub.nil _)))) ?_
  refine KA.seq ?_
  refine KA.block ?_
  refine KA.seq ?_
  refine KA.region rfl ?_
  refine KOps.move ?_
  refine KOps.neq ?_
  refine KOps.assign ?_
  refine KOps.done ?_
  refine sqQ.normal ?_
  refine KA.sub (Sub.cons (t := 1) Look.eq (Sub.cons (t := 4) Look.eq (Sub.cons (t := 5) Look.eq (Sub.cons (t := 11) Look.eq (Sub.nil _))))) ?_
  refine KA.condN ?_ ?_
  · intro c11
    refine KA.seq ?_
    refine KA.region rfl ?_
    refine KOps.move ?_
    refine KOps.assign ?_
    refine KOps.assign ?_
    refine KOps.done ?_
    refine sqQ.normal ?_
    refine KA.sub (Sub.cons (t := 2) Look.eq (Sub.cons (t := 3) Look.eq (Sub.nil _))) ?_
    refine KA.ret ?_
    refine blQ.ret ?_
    refine sqQ.ret ?_
    refine fnQ.retN ?_
    have e0 : againE rm ws = chkB rm ws := by rw [againE, if_neg (by omega)]
    rw [if_neg (by rw [e0]; omega), e0]
    exact ⟨_, rfl, St.pick [1] (by decide) rfl (St.addNil 1 true hS)⟩
  · intro c11
    refine KA.seq ?_
    refine KA.region rfl ?_
    refine KOps.move ?_
    refine KOps.assign ?_
    refine KOps.done ?_
    refine sqQ.normal ?_
    refine KA.sub (Sub.cons (t := 1) Look.eq (Sub.cons (t := 15) Look.eq (Sub.nil _))) ?_
    refine KA.condB ?_ ?_
    · intro c15
      refine KA.seq ?_
      refine KA.region rfl ?_
      refine KOps.assign ?_
      refine KOps.assign ?_
      refine KOps.done ?_
      refine sqQ.normal ?_
      refine KA.sub (Sub.cons (t := 2) Look.eq (Sub.cons (t := 3) Look.eq (Sub.nil _))) ?_
      refine KA.ret ?_
      refine blQ.ret ?_
      refine sqQ.ret ?_
      refine fnQ.retN ?_
      have e0 : againE rm ws = 13 := by rw [againE, if_pos (by omega), if_pos c15]
      rw [if_neg (by rw [e0]; decide), e0]
      exact ⟨_, rfl, St.pick [1] (by decide) rfl (St.addNil 1 true hS)⟩
    · intro c15
      have hc0 : chkB rm ws = 0 := by omega
      have hB := BOk.of hc0
      obtain ⟨r, rfl⟩ : ∃ r : Nat, rm = (r : Int) := ⟨rm.toNat, by have := hB.r2; omega⟩
      have hr6 := hB.r6
      have hpw : 2 ^ r ≤ 2 ^ 6 := Nat.pow_le_pow_right (by decide) (by omega)
      refine KA.skip ?_
      refine blQ.normal ?_
      refine sqQ.normal ?_
      refine KA.sub (Sub.cons (t := 1) Look.eq (Sub.nil _)) ?_
      refine KA.seq ?_
      refine KA.region rfl ?_
      refine KOps.loadAll hS (i := 0) rfl hp1 (by rfl) (by decide) ?_
      refine KOps.loadAll hS (i := 0) rfl hp1 (by rfl) (by decide) ?_
      refine KOps.makeMeth ?_
      refine KOps.call rfl (fewest_c (r := r) (p := proofB ws) (vi := .fnm 72 [.agg [.int .i64 (r : Int), vW]] []) (Rd.ext hS.keeps hv) (by omega) (hSz.ext hS.keeps) rfl (fun h' s hK hs => ACalls.mono (proof_c (s := s) (Rd.ext (hS.keeps.trans hK) hv) hB (by omega)) (fun _ _ hx => hx))) ?_
      rintro vo h6 hF
      refine KOps.assign ?_
      refine KOps.assign ?_
      refine KOps.done ?_
      refine sqQ.normal ?_
      refine KA.sub (Sub.cons (t := 2) Look.eq (Sub.cons (t := 3) Look.eq (Sub.nil _))) ?_
      refine KA.ret ?_
      refine fnQ.retN ?_
      have e0 : againE (r : Int) ws = 0 := by rw [againE, if_pos hc0, if_neg (by rw [c15]; decide)]
      rw [if_pos e0, e0, Int.toNat_natCast]
      exact ⟨_, rfl, St.pick [0] (by decide) rfl (St.trans hS hF)⟩

theorem refAgainst_c {h : AHeap} {rm : Int} {vW : AV} {ws : List W} (hv : Rd h vW 4 (flr wc ws)) : ACalls Go.Proofs.Tryd.prog 30 [.agg [.int .i64 rm, vW]] h (fun q h' => ∃ vo, q = .tup [vo, .int .i64 (againE rm ws)] ∧ St h h' [⟨vo, 1, ints (if againE rm ws = 0 then fewL (proofB ws) (2 ^ rm.toNat) else []), true⟩]) := by
  refine KA.fn 45 [.tmp 2, .tmp 3] Go.Proofs.Tryd.func30 rfl (by decide) rfl rfl (Nat.le_of_ble_eq_true rfl) ?_
  have hS := St.refl h
  have hvo : vW.one = true := hv.one
  show KA _ 45 _ _ [(0, .agg [.int .i64 rm, vW])] _
  refine KA.seq ?_
  refine KA.region rfl ?_
  refine KOps.boxAll hS (by first | rfl | (simp [AV.one]; done) | (simp [AV.one]; assumption) | (simp [AV.one, *]; done)) ?_
  intro p1 h' hp1 hS
  refine KOps.assign ?_
  refine KOps.assign ?_
  refine KOps.done ?_
  refine sqQ.normal ?_
  refine KA.sub (Sub.cons (t := 1) Look.eq (Sub.nil _)) ?_
  refine KA.seq ?_
  refine KA.region rfl ?_
  refine KOps.loadAll hS (i := 0) rfl hp1 (by rfl) (by decide) ?_
  refine KOps.call rfl (refCan_c (Rd.ext hS.keeps hv)) ?_
  rintro _ h5 ⟨rfl, hK⟩
  have hS0 : St _ _ (_ :: _) := St.trans hS (St.ofK hK)
  clear hS
  have hS := hS0
  clear hS0
  refine KOps.move ?_
  refine KOps.extract ?_
  refine KOps.extract ?_
  refine KOps.assign ?_
  refine KOps.assign ?_
  refine KOps.done ?_
  refine sqQ.normal ?_
  refine KA.sub (Sub.cons (t := 1) Look.eq (Sub.cons (t := 4) Look.eq (Sub.cons (t := 5) Look.eq (Sub.nil _)))) ?_
  refine KA.meet (X := Unit) (fun _ => [(1, p1), (5, .int .i64 (againE rm ws))]) (fun _ h' => St h h' [⟨p1, 0, [.int .i64 rm, vW], true⟩]) ?_ ?_
  ·
    refine KA.seq ?_
    refine KA.region rfl ?_
    refine KOps.move ?_
    refine KOps.eql ?_
    refine KOps.move ?_
    refine KOps.guardB (dj := 15) rfl rfl true false rfl ?_ ?_
    · intro g15
      have g15 := of_decide_eq_true g15
      refine KOps.move ?_
      refine KOps.pickT ?_
      refine KOps.done ?_
      refine sqQ.normal ?_
      refine KA.sub (Sub.cons (t := 1) Look.eq (Sub.cons (t := 5) Look.eq (Sub.cons (t := 17) Look.eq (Sub.nil _)))) ?_
      refine KA.condB ?_ ?_
      · intro c17
        refine KA.region rfl ?_
        refine KOps.assign ?_
        refine KOps.done ?_
        exact mtQ.normal () (by repeat (first | exact Sub.nil _ | refine Sub.cons Look.eq ?_ | refine Sub.cons (Eq.trans Look.eq (congrArg (AV.int _) (by first | omega | (dsimp only; omega)))) ?_ | refine Sub.cons (Eq.trans Look.eq (by rw [againE, if_pos g15, if_pos c17])) ?_)) hS
      · intro c17
        refine KA.skip ?_
        exact mtQ.normal () (by repeat (first | exact Sub.nil _ | refine Sub.cons Look.eq ?_ | refine Sub.cons (Eq.trans Look.eq (congrArg (AV.int _) (by first | omega | (dsimp only; omega)))) ?_ | refine Sub.cons (Eq.trans Look.eq (by rw [againE, if_pos g15, if_neg (by rw [c17]; decide), g15])) ?_)) hS
    · intro g15
      have g15 := of_decide_eq_false g15
      refine KOps.pickF ?_
      refine KOps.done ?_
      refine sqQ.normal ?_
      refine KA.sub (Sub.cons (t := 1) Look.eq (Sub.cons (t := 5) Look.eq (Sub.cons (t := 17) Look.eq (Sub.nil _)))) ?_
      refine KA.condF ?_
      refine KA.skip ?_
      exact mtQ.normal () (by repeat (first | exact Sub.nil _ | refine Sub.cons Look.eq ?_ | refine Sub.cons (Eq.trans Look.eq (congrArg (AV.int _) (by first | omega | (dsimp only; omega)))) ?_ | refine Sub.cons (Eq.trans Look.eq (by rw [againE, if_neg g15])) ?_)) hS
  ·
    rintro _ h8 hS
    refine KA.seq ?_
    refine KA.seq ?_
    refine KA.region rfl ?_
    refine KOps.move ?_
    refine KOps.neq ?_
    refine KOps.done ?_
    refine sqQ.normal ?_
    refine KA.sub (Sub.cons (t := 1) Look.eq (Sub.cons (t := 5) Look.eq (Sub.cons (t := 19) Look.eq (Sub.nil _)))) ?_
    refine KA.condN ?_ ?_
    · intro c19
      refine KA.seq ?_
      refine KA.region rfl ?_
      refine KOps.move ?_
      refine KOps.assign ?_
      refine KOps.assign ?_
      refine KOps.done ?_
      refine sqQ.normal ?_
      refine KA.sub (Sub.cons (t := 2) Look.eq (Sub.cons (t := 3) Look.eq (Sub.nil _))) ?_
      refine KA.ret ?_
      refine sqQ.ret ?_
      refine fnQ.retN ?_
      rw [if_neg c19]
      exact ⟨_, rfl, St.pick [1] (by decide) rfl (St.addNil 1 true hS)⟩
    · intro c19
      obtain ⟨hc0, hcp⟩ := again_ok c19
      have hB := BOk.of hc0
      obtain ⟨r, rfl⟩ : ∃ r : Nat, rm = (r : Int) := ⟨rm.toNat, by have := hB.r2; omega⟩
      have hr6 := hB.r6
      have hpw : 2 ^ r ≤ 2 ^ 6 := Nat.pow_le_pow_right (by decide) (by omega)
      have hsh := shl64 r (by omega)
      have h1p : 1 ≤ 2 ^ r := Nat.one_le_two_pow
      refine KA.skip ?_
      refine sqQ.normal ?_
      refine KA.sub (Sub.cons (t := 1) Look.eq (Sub.nil _)) ?_
      refine KA.seq ?_
      refine KA.region rfl ?_
      refine KOps.fieldAddr hp1 ?_
      intro p21 hp21
      refine KOps.load hp21 (hS.rd 0 rfl) rfl ?_
      refine KOps.shl (by omega) ?_
      rw [hsh]
      refine KOps.sub (by omega) (by omega) ?_
      rw [show ((2 ^ r : Nat) : Int) - 1 = ((2 ^ r - 1 : Nat) : Int) by omega]
      refine KOps.call rfl (listed_c (s := 2 ^ r - 1) (by omega)) ?_
      rintro vf h6 hL
      have hS0 : St _ _ (_ :: _) := St.trans hS hL
      clear hS
      have hS := hS0
      clear hS0
      refine KOps.assign ?_
      refine KOps.done ?_
      refine sqQ.normal ?_
      refine KA.sub (Sub.cons (t := 1) Look.eq (Sub.cons (t := 6) Look.eq (Sub.nil _))) ?_
      refine KA.seq ?_
      refine KA.seq ?_
      refine KA.region rfl ?_
      refine KOps.assign ?_
      refine KOps.done ?_
      refine sqQ.normal ?_
      refine KA.block ?_
      refine KA.loop (X := Nat × AV) (fun x => [(1, p1), (6, x.2), (7, .int .i64 (x.1 : Int))]) (fun x h' => x.1 ≤ 2 ^ r ∧ St h h' [⟨x.2, 1, ints (fewF (proofB ws) (2 ^ r - 1) x.1), true⟩, ⟨p1, 0, [.int .i64 (r : Int), vW], true⟩]) (fun x => 2 ^ r - x.1) (0, vf) (by repeat (first | exact Sub.nil _ | refine Sub.cons Look.eq ?_ | refine Sub.cons (Eq.trans Look.eq (congrArg (AV.int _) (by first | omega | (dsimp only; omega)))) ?_)) ?_ ?_
      · exact ⟨Nat.zero_le _, hS⟩
      rintro ⟨k, vb⟩ h10 ⟨hk, hS⟩
      dsimp only at hk hS ⊢
      refine KA.seq ?_
      refine KA.seq ?_
      refine KA.region rfl ?_
      refine KOps.move ?_
      refine KOps.fieldAddr hp1 ?_
      intro p27 hp27
      refine KOps.load hp27 (hS.rd 1 rfl) rfl ?_
      refine KOps.shl (by omega) ?_
      rw [hsh]
      refine KOps.lss ?_
      refine KOps.done ?_
      refine sqQ.normal ?_
      refine KA.sub (Sub.cons (t := 1) Look.eq (Sub.cons (t := 6) Look.eq (Sub.cons (t := 7) Look.eq (Sub.cons (t := 30) Look.eq (Sub.nil _))))) ?_
      refine KA.condD ?_ ?_
      · intro c30
        refine KA.skip ?_
        refine sqQ.normal ?_
        refine KA.sub (Sub.cons (t := 1) Look.eq (Sub.cons (t := 6) Look.eq (Sub.cons (t := 7) Look.eq (Sub.nil _)))) ?_
        refine KA.seq ?_
        refine KA.block ?_
        refine KA.seq ?_
        refine KA.region rfl ?_
        refine KOps.loadAll hS (i := 1) rfl hp1 (by rfl) (by decide) ?_
        refine KOps.move ?_
        refine KOps.call rfl (refProof_c (Rd.ext hS.keeps hv) hB (by omega)) ?_
        rintro _ h7 ⟨rfl, hK⟩
        have hS0 : St _ _ (_ :: _) := St.trans hS (St.ofK hK)
        clear hS
        have hS := hS0
        clear hS0
        refine KOps.move ?_
        refine KOps.guardB (dj := 36) rfl rfl true false rfl ?_ ?_
        · intro g36
          refine KOps.move ?_
          refine KOps.guardYes (dj := 36) rfl rfl ?_
          refine KOps.call rfl (listed_c (s := k) (by omega)) ?_
          rintro vl h8 hL
          have hS0 : St _ _ (_ :: _) := St.trans hS hL
          clear hS
          have hS := hS0
          clear hS0
          refine KOps.guardYes (dj := 36) rfl rfl ?_
          refine KOps.move ?_
          refine KOps.guardYes (dj := 36) rfl rfl ?_
          refine KOps.call rfl (before_c (hS.rd 0 rfl) (hS.rd 1 rfl) (by have := roomsTo_len k 6; omega)) ?_
          rintro _ _ ⟨rfl, rfl⟩
          refine KOps.pickT ?_
          refine KOps.done ?_
          refine sqQ.normal ?_
          refine KA.sub (Sub.cons (t := 1) Look.eq (Sub.cons (t := 6) Look.eq (Sub.cons (t := 7) Look.eq (Sub.cons (t := 37) Look.eq (Sub.cons (t := 38) Look.eq (Sub.cons (t := 39) Look.eq (Sub.cons (t := 40) Look.eq (Sub.cons (t := 41) Look.eq (Sub.nil _))))))))) ?_
          refine KA.condB ?_ ?_
          · intro c41
            refine KA.region rfl ?_
            refine KOps.move ?_
            refine KOps.call rfl (listed_c (s := k) (by omega)) ?_
            rintro vm h9 hL
            have hS0 : St _ _ (_ :: _) := St.trans hS hL
            clear hS
            have hS := hS0
            clear hS0
            refine KOps.assign ?_
            refine KOps.done ?_
            refine blQ.normal ?_
            refine sqQ.normal ?_
            refine KA.sub (Sub.cons (t := 1) Look.eq (Sub.cons (t := 6) Look.eq (Sub.cons (t := 7) Look.eq (Sub.cons (t := 37) Look.eq (Sub.cons (t := 38) Look.eq (Sub.cons (t := 39) Look.eq (Sub.cons (t := 40) Look.eq (Sub.nil _)))))))) ?_
            refine KA.region rfl ?_
            refine KOps.move ?_
            refine KOps.add (by first | omega | (simp; omega)) (by first | omega | (simp; omega)) ?_
            refine KOps.assign ?_
            refine KOps.done ?_
            have hfs := fewF_succ (p := proofB ws) (r := r) (by omega) (proof_full hB) (k := k) (by omega)
            rw [g36, c41, Bool.and_self, if_pos rfl] at hfs
            exact lpQ.normal (k + 1, vm) (by repeat (first | exact Sub.nil _ | refine Sub.cons Look.eq ?_ | refine Sub.cons (Eq.trans Look.eq (congrArg (AV.int _) (by first | omega | (dsimp only; omega)))) ?_)) ⟨by dsimp only; omega, by dsimp only; rw [hfs]; exact St.pick [0, 3] (by decide) rfl hS⟩ (by dsimp only; omega)
          · intro c41
            refine KA.skip ?_
            refine blQ.normal ?_
            refine sqQ.normal ?_
            refine KA.sub (Sub.cons (t := 1) Look.eq (Sub.cons (t := 6) Look.eq (Sub.cons (t := 7) Look.eq (Sub.cons (t := 37) Look.eq (Sub.cons (t := 38) Look.eq (Sub.cons (t := 39) Look.eq (Sub.cons (t := 40) Look.eq (Sub.nil _)))))))) ?_
            refine KA.region rfl ?_
            refine KOps.move ?_
            refine KOps.add (by first | omega | (simp; omega)) (by first | omega | (simp; omega)) ?_
            refine KOps.assign ?_
            refine KOps.done ?_
            have hfs := fewF_succ (p := proofB ws) (r := r) (by omega) (proof_full hB) (k := k) (by omega)
            rw [c41, Bool.and_false, if_neg (by decide)] at hfs
            exact lpQ.normal (k + 1, vb) (by repeat (first | exact Sub.nil _ | refine Sub.cons Look.eq ?_ | refine Sub.cons (Eq.trans Look.eq (congrArg (AV.int _) (by first | omega | (dsimp only; omega)))) ?_)) ⟨by dsimp only; omega, by dsimp only; rw [hfs]; exact St.pick [1, 2] (by decide) rfl hS⟩ (by dsimp only; omega)
        · intro g36
          refine KOps.guardNo (dj := 36) rfl rfl rfl ?_
          refine KOps.guardNo (dj := 36) rfl rfl rfl ?_
          refine KOps.guardNo (dj := 36) rfl rfl rfl ?_
          refine KOps.pickF ?_
          refine KOps.done ?_
          refine sqQ.normal ?_
          refine KA.sub (Sub.cons (t := 1) Look.eq (Sub.cons (t := 6) Look.eq (Sub.cons (t := 7) Look.eq (Sub.cons (t := 37) Look.eq (Sub.cons (t := 38) Look.eq (Sub.cons (t := 39) Look.eq (Sub.cons (t := 40) Look.eq (Sub.cons (t := 41) Look.eq (Sub.nil _))))))))) ?_
          refine KA.condF ?_
          refine KA.skip ?_
          refine blQ.normal ?_
          refine sqQ.normal ?_
          refine KA.sub (Sub.cons (t := 1) Look.eq (Sub.cons (t := 6) Look.eq (Sub.cons (t := 7) Look.eq (Sub.cons (t := 37) Look.eq (Sub.cons (t := 38) Look.eq (Sub.cons (t := 39) Look.eq (Sub.cons (t := 40) Look.eq (Sub.nil _)))))))) ?_
          refine KA.region rfl ?_
          refine KOps.move ?_
          refine KOps.add (by first | omega | (simp; omega)) (by first | omega | (simp; omega)) ?_
          refine KOps.assign ?_
          refine KOps.done ?_
          have hfs := fewF_succ (p := proofB ws) (r := r) (by omega) (proof_full hB) (k := k) (by omega)
          rw [g36, Bool.false_and, if_neg (by decide)] at hfs
          exact lpQ.normal (k + 1, vb) (by repeat (first | exact Sub.nil _ | refine Sub.cons Look.eq ?_ | refine Sub.cons (Eq.trans Look.eq (congrArg (AV.int _) (by first | omega | (dsimp only; omega)))) ?_)) ⟨by dsimp only; omega, by dsimp only; rw [hfs]; exact hS⟩ (by dsimp only; omega)
      · intro c30
        refine KA.exit ?_
        refine sqQ.exit ?_
        refine lpQ.exit ?_
        refine blQ.here ?_
        refine sqQ.normal ?_
        refine KA.sub (Sub.cons (t := 6) Look.eq (Sub.nil _)) ?_
        refine KA.seq ?_
        refine KA.region rfl ?_
        refine KOps.move ?_
        refine KOps.assign ?_
        refine KOps.assign ?_
        refine KOps.done ?_
        refine sqQ.normal ?_
        refine KA.sub (Sub.cons (t := 2) Look.eq (Sub.cons (t := 3) Look.eq (Sub.nil _))) ?_
        refine KA.ret ?_
        refine fnQ.retN ?_
        obtain ⟨s, hs, hp⟩ := again_some hc0 hcp
        rw [if_pos c19, c19, Int.toNat_natCast]
        rw [show k = 2 ^ r by omega, fewF_few hp hs] at hS
        exact ⟨_, rfl, St.pick [0] (by decide) rfl hS⟩

theorem proves_c {h : AHeap} {rm : Int} {vW vn : AV} {ws : List W} {l : List Int} (hv : Rd h vW 4 (flr wc ws)) (hn : Row h vn l) (hll : l.length ≤ 1000000) : ACalls Go.Proofs.Tryd.prog 31 [.agg [.int .i64 rm, vW], vn] h (fun q h' => q = .int .i64 (provE rm ws l) ∧ Keeps h h') := by
  refine KA.fn 28 [.tmp 4] Go.Proofs.Tryd.func31 rfl (by decide) rfl rfl (Nat.le_of_ble_eq_true rfl) ?_
  have hS := St.refl h
  have hvo : vW.one = true := hv.one
  show KA _ 28 _ _ [(0, .agg [.int .i64 rm, vW]), (1, vn)] _
  refine KA.seq ?_
  refine KA.region rfl ?_
  refine KOps.boxAll hS (by first | rfl | (simp [AV.one]; done) | (simp [AV.one]; assumption) | (simp [AV.one, *]; done)) ?_
  intro p2 h' hp2 hS
  refine KOps.assign ?_
  refine KOps.done ?_
  refine sqQ.normal ?_
  refine KA.sub (Sub.cons (t := 1) Look.eq (Sub.cons (t := 2) Look.eq (Sub.nil _))) ?_
  refine KA.seq ?_
  refine KA.seq ?_
  refine KA.region rfl ?_
  refine KOps.loadAll hS (i := 0) rfl hp2 (by rfl) (by decide) ?_
  refine KOps.call rfl (check_c (Rd.ext hS.keeps hv)) ?_
  rintro _ h5 ⟨rfl, hK⟩
  have hS0 : St _ _ (_ :: _) := St.trans hS (St.ofK hK)
  clear hS
  have hS := hS0
  clear hS0
  refine KOps.assign ?_
  refine KOps.done ?_
  refine sqQ.normal ?_
  refine KA.sub (Sub.cons (t := 1) Look.eq (Sub.cons (t := 2) Look.eq (Sub.cons (t := 5) Look.eq (Sub.nil _)))) ?_
  refine KA.seq ?_
  refine KA.region rfl ?_
  refine KOps.move ?_
  refine KOps.neq ?_
  refine KOps.done ?_
  refine sqQ.normal ?_
  refine KA.sub (Sub.cons (t := 1) Look.eq (Sub.cons (t := 2) Look.eq (Sub.cons (t := 5) Look.eq (Sub.cons (t := 11) Look.eq (Sub.nil _))))) ?_
  refine KA.condN ?_ ?_
  · intro c11
    refine KA.seq ?_
    refine KA.region rfl ?_
    refine KOps.move ?_
    refine KOps.assign ?_
    refine KOps.done ?_
    refine sqQ.normal ?_
    refine KA.sub (Sub.cons (t := 4) Look.eq (Sub.nil _)) ?_
    refine KA.ret ?_
    refine sqQ.ret ?_
    refine fnQ.ret1 ?_
    rw [provE, if_neg c11]
    exact ⟨rfl, hS.keeps⟩
  · intro c11
    have hB := BOk.of c11
    refine KA.skip ?_
    refine sqQ.normal ?_
    refine KA.sub (Sub.cons (t := 1) Look.eq (Sub.cons (t := 2) Look.eq (Sub.nil _))) ?_
    refine KA.seq ?_
    refine KA.region rfl ?_
    refine KOps.loadAll hS (i := 0) rfl hp2 (by rfl) (by decide) ?_
    refine KOps.move ?_
    refine KOps.call rfl (rooms_c (Rd.ext hS.keeps hv) (Row.ext hS.keeps hn) hB hll) ?_
    rintro _ h6 ⟨rfl, hK⟩
    have hS0 : St _ _ (_ :: _) := St.trans hS (St.ofK hK)
    clear hS
    have hS := hS0
    clear hS0
    refine KOps.move ?_
    refine KOps.extract ?_
    refine KOps.extract ?_
    refine KOps.assign ?_
    refine KOps.assign ?_
    refine KOps.done ?_
    refine sqQ.normal ?_
    refine KA.sub (Sub.cons (t := 2) Look.eq (Sub.cons (t := 6) Look.eq (Sub.cons (t := 7) Look.eq (Sub.nil _)))) ?_
    refine KA.seq ?_
    refine KA.seq ?_
    refine KA.region rfl ?_
    refine KOps.move ?_
    refine KOps.eql ?_
    refine KOps.move ?_
    refine KOps.guardB (dj := 21) rfl rfl true false rfl ?_ ?_
    · intro g21
      have g21 := of_decide_eq_true g21
      refine KOps.loadAll hS (i := 0) rfl hp2 (by rfl) (by decide) ?_
      refine KOps.guardYes (dj := 21) rfl rfl ?_
      refine KOps.move ?_
      refine KOps.guardYes (dj := 21) rfl rfl ?_
      refine KOps.call rfl (proof_c (Rd.ext hS.keeps hv) hB (setE_lt hB.r6)) ?_
      rintro _ h7 ⟨rfl, hK⟩
      have hS0 : St _ _ (_ :: _) := St.trans hS (St.ofK hK)
      clear hS
      have hS := hS0
      clear hS0
      refine KOps.guardYes (dj := 21) rfl rfl ?_
      refine KOps.not ?_
      refine KOps.pickT ?_
      refine KOps.done ?_
      refine sqQ.normal ?_
      refine KA.sub (Sub.cons (t := 7) Look.eq (Sub.cons (t := 26) Look.eq (Sub.nil _))) ?_
      refine KA.condB ?_ ?_
      · intro c26
        refine KA.seq ?_
        refine KA.region rfl ?_
        refine KOps.assign ?_
        refine KOps.done ?_
        refine sqQ.normal ?_
        refine KA.sub (Sub.cons (t := 4) Look.eq (Sub.nil _)) ?_
        refine KA.ret ?_
        refine sqQ.ret ?_
        refine fnQ.ret1 ?_
        rw [provE, if_pos c11, if_pos g21, if_neg (by simpa using c26)]
        exact ⟨rfl, hS.keeps⟩
      · intro c26
        refine KA.skip ?_
        refine sqQ.normal ?_
        refine KA.sub (Sub.cons (t := 7) Look.eq (Sub.nil _)) ?_
        refine KA.seq ?_
        refine KA.region rfl ?_
        refine KOps.move ?_
        refine KOps.assign ?_
        refine KOps.done ?_
        refine sqQ.normal ?_
        refine KA.sub (Sub.cons (t := 4) Look.eq (Sub.nil _)) ?_
        refine KA.ret ?_
        refine fnQ.ret1 ?_
        rw [provE, if_pos c11, if_pos g21, if_pos (by simpa using c26), g21]
        exact ⟨rfl, hS.keeps⟩
    · intro g21
      have g21 := of_decide_eq_false g21
      refine KOps.guardNo (dj := 21) rfl rfl rfl ?_
      refine KOps.guardNo (dj := 21) rfl rfl rfl ?_
      refine KOps.guardNo (dj := 21) rfl rfl rfl ?_
      refine KOps.pickF ?_
      refine KOps.done ?_
      refine sqQ.normal ?_
      refine KA.sub (Sub.cons (t := 7) Look.eq (Sub.cons (t := 26) Look.eq (Sub.nil _))) ?_
      refine KA.condF ?_
      refine KA.skip ?_
      refine sqQ.normal ?_
      refine KA.sub (Sub.cons (t := 7) Look.eq (Sub.nil _)) ?_
      refine KA.seq ?_
      refine KA.region rfl ?_
      refine KOps.move ?_
      refine KOps.assign ?_
      refine KOps.done ?_
      refine sqQ.normal ?_
      refine KA.sub (Sub.cons (t := 4) Look.eq (Sub.nil _)) ?_
      refine KA.ret ?_
      refine fnQ.ret1 ?_
      rw [provE, if_pos c11, if_neg g21]
      exact ⟨rfl, hS.keeps⟩

theorem refProves_c {h : AHeap} {rm : Int} {vW vn : AV} {ws : List W} {l : List Int} (hv : Rd h vW 4 (flr wc ws)) (hn : Row h vn l) (hll : l.length ≤ 1000000) : ACalls Go.Proofs.Tryd.prog 32 [.agg [.int .i64 rm, vW], vn] h (fun q h' => q = .int .i64 (provE rm ws l) ∧ Keeps h h') := by
  refine KA.fn 27 [.tmp 4] Go.Proofs.Tryd.func32 rfl (by decide) rfl rfl (Nat.le_of_ble_eq_true rfl) ?_
  have hS := St.refl h
  have hvo : vW.one = true := hv.one
  show KA _ 27 _ _ [(0, .agg [.int .i64 rm, vW]), (1, vn)] _
  refine KA.seq ?_
  refine KA.region rfl ?_
  refine KOps.boxAll hS (by first | rfl | (simp [AV.one]; done) | (simp [AV.one]; assumption) | (simp [AV.one, *]; done)) ?_
  intro p2 h' hp2 hS
  refine KOps.assign ?_
  refine KOps.done ?_
  refine sqQ.normal ?_
  refine KA.sub (Sub.cons (t := 1) Look.eq (Sub.cons (t := 2) Look.eq (Sub.nil _))) ?_
  refine KA.seq ?_
  refine KA.region rfl ?_
  refine KOps.loadAll hS (i := 0) rfl hp2 (by rfl) (by decide) ?_
  refine KOps.call rfl (refCheck_c (Rd.ext hS.keeps hv)) ?_
  rintro _ h5 ⟨rfl, hK⟩
  have hS0 : St _ _ (_ :: _) := St.trans hS (St.ofK hK)
  clear hS
  have hS := hS0
  clear hS0
  refine KOps.assign ?_
  refine KOps.done ?_
  refine sqQ.normal ?_
  refine KA.sub (Sub.cons (t := 1) Look.eq (Sub.cons (t := 2) Look.eq (Sub.cons (t := 5) Look.eq (Sub.nil _)))) ?_
  refine KA.seq ?_
  refine KA.seq ?_
  refine KA.region rfl ?_
  refine KOps.move ?_
  refine KOps.neq ?_
  refine KOps.done ?_
  refine sqQ.normal ?_
  refine KA.sub (Sub.cons (t := 1) Look.eq (Sub.cons (t := 2) Look.eq (Sub.cons (t := 5) Look.eq (Sub.cons (t := 10) Look.eq (Sub.nil _))))) ?_
  refine KA.condN ?_ ?_
  · intro c10
    refine KA.seq ?_
    refine KA.region rfl ?_
    refine KOps.move ?_
    refine KOps.assign ?_
    refine KOps.done ?_
    refine sqQ.normal ?_
    refine KA.sub (Sub.cons (t := 4) Look.eq (Sub.nil _)) ?_
    refine KA.ret ?_
    refine sqQ.ret ?_
    refine fnQ.ret1 ?_
    rw [provE, if_neg c10]
    exact ⟨rfl, hS.keeps⟩
  · intro c10
    have hB := BOk.of c10
    refine KA.skip ?_
    refine sqQ.normal ?_
    refine KA.sub (Sub.cons (t := 1) Look.eq (Sub.cons (t := 2) Look.eq (Sub.nil _))) ?_
    refine KA.seq ?_
    refine KA.region rfl ?_
    refine KOps.loadAll hS (i := 0) rfl hp2 (by rfl) (by decide) ?_
    refine KOps.move ?_
    refine KOps.call rfl (refRooms_c (Rd.ext hS.keeps hv) (Row.ext hS.keeps hn) hB hll) ?_
    rintro _ h6 ⟨rfl, hK⟩
    have hS0 : St _ _ (_ :: _) := St.trans hS (St.ofK hK)
    clear hS
    have hS := hS0
    clear hS0
    refine KOps.move ?_
    refine KOps.extract ?_
    refine KOps.extract ?_
    refine KOps.assign ?_
    refine KOps.assign ?_
    refine KOps.done ?_
    refine sqQ.normal ?_
    refine KA.sub (Sub.cons (t := 2) Look.eq (Sub.cons (t := 5) Look.eq (Sub.cons (t := 6) Look.eq (Sub.nil _)))) ?_
    refine KA.seq ?_
    refine KA.seq ?_
    refine KA.region rfl ?_
    refine KOps.move ?_
    refine KOps.eql ?_
    refine KOps.move ?_
    refine KOps.guardB (dj := 20) rfl rfl true false rfl ?_ ?_
    · intro g20
      have g20 := of_decide_eq_true g20
      refine KOps.loadAll hS (i := 0) rfl hp2 (by rfl) (by decide) ?_
      refine KOps.guardYes (dj := 20) rfl rfl ?_
      refine KOps.move ?_
      refine KOps.guardYes (dj := 20) rfl rfl ?_
      refine KOps.call rfl (refProof_c (Rd.ext hS.keeps hv) hB (setE_lt hB.r6)) ?_
      rintro _ h7 ⟨rfl, hK⟩
      have hS0 : St _ _ (_ :: _) := St.trans hS (St.ofK hK)
      clear hS
      have hS := hS0
      clear hS0
      refine KOps.guardYes (dj := 20) rfl rfl ?_
      refine KOps.not ?_
      refine KOps.pickT ?_
      refine KOps.done ?_
      refine sqQ.normal ?_
      refine KA.sub (Sub.cons (t := 5) Look.eq (Sub.cons (t := 25) Look.eq (Sub.nil _))) ?_
      refine KA.condB ?_ ?_
      · intro c25
        refine KA.region rfl ?_
        refine KOps.assign ?_
        refine KOps.done ?_
        refine sqQ.normal ?_
        refine KA.sub (Sub.cons (t := 5) Look.eq (Sub.nil _)) ?_
        refine KA.seq ?_
        refine KA.region rfl ?_
        refine KOps.move ?_
        refine KOps.assign ?_
        refine KOps.done ?_
        refine sqQ.normal ?_
        refine KA.sub (Sub.cons (t := 4) Look.eq (Sub.nil _)) ?_
        refine KA.ret ?_
        refine fnQ.ret1 ?_
        rw [provE, if_pos c10, if_pos g20, if_neg (by simpa using c25)]
        exact ⟨rfl, hS.keeps⟩
      · intro c25
        refine KA.skip ?_
        refine sqQ.normal ?_
        refine KA.sub (Sub.cons (t := 5) Look.eq (Sub.nil _)) ?_
        refine KA.seq ?_
        refine KA.region rfl ?_
        refine KOps.move ?_
        refine KOps.assign ?_
        refine KOps.done ?_
        refine sqQ.normal ?_
        refine KA.sub (Sub.cons (t := 4) Look.eq (Sub.nil _)) ?_
        refine KA.ret ?_
        refine fnQ.ret1 ?_
        rw [provE, if_pos c10, if_pos g20, if_pos (by simpa using c25), g20]
        exact ⟨rfl, hS.keeps⟩
    · intro g20
      have g20 := of_decide_eq_false g20
      refine KOps.guardNo (dj := 20) rfl rfl rfl ?_
      refine KOps.guardNo (dj := 20) rfl rfl rfl ?_
      refine KOps.guardNo (dj := 20) rfl rfl rfl ?_
      refine KOps.pickF ?_
      refine KOps.done ?_
      refine sqQ.normal ?_
      refine KA.sub (Sub.cons (t := 5) Look.eq (Sub.cons (t := 25) Look.eq (Sub.nil _))) ?_
      refine KA.condF ?_
      refine KA.skip ?_
      refine sqQ.normal ?_
      refine KA.sub (Sub.cons (t := 5) Look.eq (Sub.nil _)) ?_
      refine KA.seq ?_
      refine KA.region rfl ?_
      refine KOps.move ?_
      refine KOps.assign ?_
      refine KOps.done ?_
      refine sqQ.normal ?_
      refine KA.sub (Sub.cons (t := 4) Look.eq (Sub.nil _)) ?_
      refine KA.ret ?_
      refine fnQ.ret1 ?_
      rw [provE, if_pos c10, if_neg g20]
      exact ⟨rfl, hS.keeps⟩

end Go.Am

namespace Go.Am
def crosses (ws : List W) (s i : Nat) : Bool := lvs (ws.getD i default) s || ens (ws.getD i default) s
theorem cross_no {ws : List W} {s i : Nat} : (inS s (ws.getD i default).f == inS s (ws.getD i default).t) = !crosses ws s i := by
  rw [lvs_ens, crosses, Bool.not_or]
def sayE (rm : Int) (ws : List W) (l : List Int) (i : Int) : Int := if askR rm ws i = 0 then (if roomsE rm l l.length = 0 then (if crosses ws (setE rm l) i.toNat = true then 0 else 12) else roomsE rm l l.length) else askR rm ws i
def sayV (rm : Int) (ws : List W) (l : List Int) (i : Int) : Int := if sayE rm ws l i = 0 then saysV ws (setE rm l) i.toNat else 0
theorem askR_B {rm : Int} {ws : List W} {i : Int} (h : askR rm ws i = 0) : BOk rm ws ∧ chkB rm ws = 0 := by
  unfold askR at h
  by_cases h1 : chkB rm ws = 0
  · exact ⟨BOk.of h1, h1⟩
  · rw [if_neg h1] at h; exact absurd h h1

theorem says_c {h : AHeap} {rm : Int} {vW : AV} {ws : List W} {s i : Nat} (hv : Rd h vW 4 (flr wc ws)) (hB : BOk rm ws) (hs : s < 64) (hi : i < ws.length) : ACalls Go.Proofs.Tryd.prog 82 [.agg [.int .i64 rm, vW], .int .u8 (s : Int), .int .i64 (i : Int)] h (fun q h' => q = .tup [.int .i64 (if crosses ws s i = true then saysV ws s i else 0), .bool (crosses ws s i)] ∧ Keeps h h') := by
  refine KA.fn 44 [.tmp 6, .tmp 7] Go.Proofs.Tryd.func82 rfl (by decide) rfl rfl (Nat.le_of_ble_eq_true rfl) ?_
  have hS := St.refl h
  have hvo : vW.one = true := hv.one
  have hwl := hB.len
  have hr6 := hB.r6
  have hsb := sums_bound hB s (i : Int) ws.length (Nat.le_refl _)
  have hwi := hB.way i (by omega)
  have hwf0 := hwi.f0
  have hwf1 := hwi.f1
  have hwt0 := hwi.t0
  have hwt1 := hwi.t1
  have hwl0 := hwi.l0
  have hwm1 := hwi.m1
  have hwlm := hwi.lm
  have hcr := cross_no (ws := ws) (s := s) (i := i)
  show KA _ 44 _ _ [(0, .agg [.int .i64 rm, vW]), (1, .int .u8 (s : Int)), (2, .int .i64 (i : Int))] _
  refine KA.seq ?_
  refine KA.region rfl ?_
  refine KOps.boxAll hS (by first | rfl | (simp [AV.one]; done) | (simp [AV.one]; assumption) | (simp [AV.one, *]; done)) ?_
  intro p3 h' hp3 hS
  refine KOps.assign ?_
  refine KOps.assign ?_
  refine KOps.done ?_
  refine sqQ.normal ?_
  refine KA.sub (Sub.cons (t := 1) Look.eq (Sub.cons (t := 2) Look.eq (Sub.cons (t := 3) Look.eq (Sub.nil _)))) ?_
  refine KA.seq ?_
  refine KA.region rfl ?_
  refine KOps.loadAll hS (i := 0) rfl hp3 (by rfl) (by decide) ?_
  refine KOps.move ?_
  refine KOps.move ?_
  refine KOps.call rfl (sums_c (Rd.ext hS.keeps hv) hB hs) ?_
  rintro _ h5 ⟨rfl, hK⟩
  have hS0 : St _ _ (_ :: _) := St.trans hS (St.ofK hK)
  clear hS
  have hS := hS0
  clear hS0
  refine KOps.move ?_
  refine KOps.extract ?_
  refine KOps.extract ?_
  refine KOps.assign ?_
  refine KOps.assign ?_
  refine KOps.done ?_
  refine sqQ.normal ?_
  refine KA.sub (Sub.cons (t := 1) Look.eq (Sub.cons (t := 2) Look.eq (Sub.cons (t := 3) Look.eq (Sub.cons (t := 8) Look.eq (Sub.cons (t := 9) Look.eq (Sub.nil _)))))) ?_
  refine KA.seq ?_
  refine KA.seq ?_
  refine KA.region rfl ?_
  refine KOps.fieldAddr hp3 ?_
  intro p18 hp18
  refine KOps.load hp18 (hS.rd 0 rfl) rfl ?_
  refine KOps.move ?_
  refine KOps.indexF wc_len (Rd.ext hS.keeps hv) (j := i) (by first | omega | (simp; omega)) (by first | omega | (simp; omega)) ?_
  intro p21 hp21
  refine KOps.loadFl wc_len (by decide) hp21 (Rd.ext hS.keeps hv) (by first | omega | (simp; omega)) ?_
  refine KOps.alloc hS ?_
  intro p10 h' hp10 hS
  refine KOps.storeAll hS rfl (i := 0) rfl hp10 (by first | rfl | (simp [AV.one]; done) | (simp [AV.one]; assumption) | (simp [AV.one, *]; done)) (by rfl) (by rfl) (by decide) ?_
  intro h' hS
  simp only [List.set_cons_zero, List.set_cons_succ, Nat.zero_add] at hS
  refine KOps.done ?_
  refine sqQ.normal ?_
  refine KA.sub (Sub.cons (t := 1) Look.eq (Sub.cons (t := 8) Look.eq (Sub.cons (t := 9) Look.eq (Sub.cons (t := 10) Look.eq (Sub.nil _))))) ?_
  refine KA.block ?_
  refine KA.seq ?_
  refine KA.draw [3, 7] mixed rfl (by kernel_rfl) ?_
  refine KOps.move ?_
  refine KOps.fieldAddr hp10 ?_
  intro p25 hp25
  refine KOps.load hp25 (hS.rd 0 rfl) rfl ?_
  refine KOps.callK (by intro _ _ hr; exact hr.2 ▸ Keeps.refl _) (has8_c (by first | omega | (simp; omega)) (by first | omega | (simp; omega)) (by first | omega | (simp; omega))) ?_
  rintro _ _ ⟨rfl, rfl⟩
  refine KOps.move ?_
  refine KOps.fieldAddr hp10 ?_
  intro p29 hp29
  refine KOps.load hp29 (hS.rd 0 rfl) rfl ?_
  refine KOps.callK (by intro _ _ hr; exact hr.2 ▸ Keeps.refl _) (has8_c (by first | omega | (simp; omega)) (by first | omega | (simp; omega)) (by first | omega | (simp; omega))) ?_
  rintro _ _ ⟨rfl, rfl⟩
  refine KOps.eqlB (by kernel_rfl) ?_
  rw [hcr]
  refine KOps.assign ?_
  refine KOps.done ?_
  refine sqQ.normal ?_
  refine KA.sub (Sub.cons (t := 1) Look.eq (Sub.cons (t := 8) Look.eq (Sub.cons (t := 9) Look.eq (Sub.cons (t := 10) Look.eq (Sub.cons (t := 23) Look.eq (Sub.nil _)))))) ?_
  refine KA.condB ?_ ?_
  · intro c23
    refine KA.seq ?_
    refine KA.region rfl ?_
    refine KOps.assign ?_
    refine KOps.assign ?_
    refine KOps.done ?_
    refine sqQ.normal ?_
    refine KA.sub (Sub.cons (t := 6) Look.eq (Sub.cons (t := 7) Look.eq (Sub.nil _))) ?_
    refine KA.ret ?_
    refine blQ.ret ?_
    refine sqQ.ret ?_
    refine fnQ.retN ?_
    rw [show crosses ws s i = false by simpa using c23]
    exact ⟨rfl, hS.keeps⟩
  · intro c23
    refine KA.seq ?_
    refine KA.region rfl ?_
    refine KOps.move ?_
    refine KOps.fieldAddr hp10 ?_
    intro p35 hp35
    refine KOps.load hp35 (hS.rd 0 rfl) rfl ?_
    refine KOps.call rfl (has8_c (by first | omega | (simp; omega)) (by first | omega | (simp; omega)) (by first | omega | (simp; omega))) ?_
    rintro _ _ ⟨rfl, rfl⟩
    refine KOps.assign ?_
    refine KOps.done ?_
    refine sqQ.normal ?_
    refine KA.sub (Sub.cons (t := 8) Look.eq (Sub.cons (t := 9) Look.eq (Sub.cons (t := 33) Look.eq (Sub.nil _)))) ?_
    refine KA.condB ?_ ?_
    · intro c33
      refine KA.seq ?_
      refine KA.region rfl ?_
      refine KOps.move ?_
      refine KOps.move ?_
      refine KOps.sub (by first | omega | (simp; omega)) (by first | omega | (simp; omega)) ?_
      refine KOps.assign ?_
      refine KOps.assign ?_
      refine KOps.done ?_
      refine sqQ.normal ?_
      refine KA.sub (Sub.cons (t := 6) Look.eq (Sub.cons (t := 7) Look.eq (Sub.nil _))) ?_
      refine KA.ret ?_
      refine blQ.ret ?_
      refine sqQ.ret ?_
      refine fnQ.retN ?_
      have hc : crosses ws s i = true := by simpa using c23
      have hl : lvs (ws.getD i default) s = true := by
        unfold crosses lvs ens at hc
        unfold lvs
        rw [c33] at hc ⊢
        simpa using hc
      rw [hc, if_pos rfl, saysV, if_pos hl]
      exact ⟨rfl, hS.keeps⟩
    · intro c33
      refine KA.skip ?_
      refine blQ.normal ?_
      refine sqQ.normal ?_
      refine KA.sub (Sub.cons (t := 8) Look.eq (Sub.cons (t := 9) Look.eq (Sub.nil _))) ?_
      refine KA.seq ?_
      refine KA.region rfl ?_
      refine KOps.move ?_
      refine KOps.move ?_
      refine KOps.sub (by first | omega | (simp; omega)) (by first | omega | (simp; omega)) ?_
      refine KOps.assign ?_
      refine KOps.assign ?_
      refine KOps.done ?_
      refine sqQ.normal ?_
      refine KA.sub (Sub.cons (t := 6) Look.eq (Sub.cons (t := 7) Look.eq (Sub.nil _))) ?_
      refine KA.ret ?_
      refine fnQ.retN ?_
      have hc : crosses ws s i = true := by simpa using c23
      have hl : lvs (ws.getD i default) s = false := by
        unfold lvs
        rw [c33]; rfl
      rw [hc, if_pos rfl, saysV, if_neg (by rw [hl]; decide)]
      exact ⟨rfl, hS.keeps⟩

end Go.Am

namespace Go.Am
theorem say_ask {rm : Int} {ws : List W} {l : List Int} {i : Int} (h : askR rm ws i ≠ 0) : sayE rm ws l i = askR rm ws i ∧ sayV rm ws l i = 0 := by
  have e : sayE rm ws l i = askR rm ws i := by rw [sayE, if_neg h]
  exact ⟨e, by rw [sayV, if_neg (by rw [e]; exact h)]⟩
theorem say_rooms {rm : Int} {ws : List W} {l : List Int} {i : Int} (h : askR rm ws i = 0) (h2 : roomsE rm l l.length ≠ 0) : sayE rm ws l i = roomsE rm l l.length ∧ sayV rm ws l i = 0 := by
  have e : sayE rm ws l i = roomsE rm l l.length := by rw [sayE, if_pos h, if_neg h2]
  exact ⟨e, by rw [sayV, if_neg (by rw [e]; exact h2)]⟩
theorem say_lost {rm : Int} {ws : List W} {l : List Int} {i : Int} (h : askR rm ws i = 0) (h2 : roomsE rm l l.length = 0) (h3 : crosses ws (setE rm l) i.toNat = false) : sayE rm ws l i = 12 ∧ sayV rm ws l i = 0 := by
  have e : sayE rm ws l i = 12 := by rw [sayE, if_pos h, if_pos h2, if_neg (by rw [h3]; decide)]
  exact ⟨e, by rw [sayV, if_neg (by rw [e]; decide)]⟩
theorem say_ok {rm : Int} {ws : List W} {l : List Int} {i : Int} (h : askR rm ws i = 0) (h2 : roomsE rm l l.length = 0) (h3 : crosses ws (setE rm l) i.toNat = true) : sayE rm ws l i = 0 ∧ sayV rm ws l i = saysV ws (setE rm l) i.toNat := by
  have e : sayE rm ws l i = 0 := by rw [sayE, if_pos h, if_pos h2, if_pos h3]
  exact ⟨e, by rw [sayV, if_pos e]⟩

theorem stSays_c {h : AHeap} {rm i : Int} {vW vn : AV} {ws : List W} {l : List Int} (hv : Rd h vW 4 (flr wc ws)) (hn : Row h vn l) (hll : l.length ≤ 1000000) : ACalls Go.Proofs.Tryd.prog 40 [.agg [.int .i64 rm, vW], vn, .int .i64 i] h (fun q h' => q = .tup [.int .i64 (sayV rm ws l i), .int .i64 (sayE rm ws l i)] ∧ Keeps h h') := by
  refine KA.fn 45 [.tmp 6, .tmp 7] Go.Proofs.Tryd.func40 rfl (by decide) rfl rfl (Nat.le_of_ble_eq_true rfl) ?_
  have hS := St.refl h
  have hvo : vW.one = true := hv.one
  show KA _ 45 _ _ [(0, .agg [.int .i64 rm, vW]), (1, vn), (2, .int .i64 i)] _
  refine KA.seq ?_
  refine KA.region rfl ?_
  refine KOps.boxAll hS (by first | rfl | (simp [AV.one]; done) | (simp [AV.one]; assumption) | (simp [AV.one, *]; done)) ?_
  intro p3 h' hp3 hS
  refine KOps.assign ?_
  refine KOps.assign ?_
  refine KOps.done ?_
  refine sqQ.normal ?_
  refine KA.sub (Sub.cons (t := 1) Look.eq (Sub.cons (t := 2) Look.eq (Sub.cons (t := 3) Look.eq (Sub.nil _)))) ?_
  refine KA.seq ?_
  refine KA.region rfl ?_
  refine KOps.loadAll hS (i := 0) rfl hp3 (by rfl) (by decide) ?_
  refine KOps.call rfl (check_c (Rd.ext hS.keeps hv)) ?_
  rintro _ h5 ⟨rfl, hK⟩
  have hS0 : St _ _ (_ :: _) := St.trans hS (St.ofK hK)
  clear hS
  have hS := hS0
  clear hS0
  refine KOps.assign ?_
  refine KOps.done ?_
  refine sqQ.normal ?_
  refine KA.sub (Sub.cons (t := 1) Look.eq (Sub.cons (t := 2) Look.eq (Sub.cons (t := 3) Look.eq (Sub.cons (t := 8) Look.eq (Sub.nil _))))) ?_
  refine KA.seq ?_
  refine KA.block ?_
  refine KA.seq ?_
  refine KA.region rfl ?_
  refine KOps.move ?_
  refine KOps.neq ?_
  refine KOps.assign ?_
  refine KOps.done ?_
  refine sqQ.normal ?_
  refine KA.sub (Sub.cons (t := 1) Look.eq (Sub.cons (t := 2) Look.eq (Sub.cons (t := 3) Look.eq (Sub.cons (t := 8) Look.eq (Sub.cons (t := 14) Look.eq (Sub.nil _)))))) ?_
  refine KA.condN ?_ ?_
  · intro c14
    refine KA.seq ?_
    refine KA.region rfl ?_
    refine KOps.move ?_
    refine KOps.assign ?_
    refine KOps.assign ?_
    refine KOps.done ?_
    refine sqQ.normal ?_
    refine KA.sub (Sub.cons (t := 6) Look.eq (Sub.cons (t := 7) Look.eq (Sub.nil _))) ?_
    refine KA.ret ?_
    refine blQ.ret ?_
    refine sqQ.ret ?_
    refine fnQ.retN ?_
    have e8 : askR rm ws i = chkB rm ws := by rw [askR, if_neg c14]
    have e9 := say_ask (l := l) (by rw [e8]; exact c14)
    rw [e9.1, e9.2, e8]
    exact ⟨rfl, hS.keeps⟩
  · intro c14
    have hwl := (BOk.of c14).len
    refine KA.seq ?_
    refine KA.region rfl ?_
    refine KOps.move ?_
    refine KOps.fieldAddr hp3 ?_
    intro p20 hp20
    refine KOps.load hp20 (hS.rd 0 rfl) rfl ?_
    refine KOps.lenF wc_len (Rd.ext hS.keeps hv) ?_
    refine KOps.sub (by first | omega | (simp; omega)) (by first | omega | (simp; omega)) ?_
    refine KOps.call rfl (between_c) ?_
    rintro _ _ ⟨rfl, rfl⟩
    refine KOps.not ?_
    refine KOps.assign ?_
    refine KOps.done ?_
    refine sqQ.normal ?_
    refine KA.sub (Sub.cons (t := 1) Look.eq (Sub.cons (t := 2) Look.eq (Sub.cons (t := 3) Look.eq (Sub.cons (t := 18) Look.eq (Sub.nil _))))) ?_
    refine KA.condN ?_ ?_
    · intro c18
      refine KA.seq ?_
      refine KA.region rfl ?_
      refine KOps.assign ?_
      refine KOps.assign ?_
      refine KOps.done ?_
      refine sqQ.normal ?_
      refine KA.sub (Sub.cons (t := 6) Look.eq (Sub.cons (t := 7) Look.eq (Sub.nil _))) ?_
      refine KA.ret ?_
      refine blQ.ret ?_
      refine sqQ.ret ?_
      refine fnQ.retN ?_
      have e8 : askR rm ws i = 2 := by rw [askR, if_pos c14, if_neg c18]
      have e9 := say_ask (l := l) (by rw [e8]; decide)
      rw [e9.1, e9.2, e8]
      exact ⟨rfl, hS.keeps⟩
    · intro c18
      have h0 : askR rm ws i = 0 := by rw [askR, if_pos c14, if_pos c18]
      obtain ⟨hB, hc0⟩ := askR_B h0
      have hii := (askR_yes h0).2
      have hwl := hB.len
      have hr6 := hB.r6
      obtain ⟨j, rfl⟩ : ∃ j : Nat, i = (j : Int) := ⟨i.toNat, by omega⟩
      have hse := setE_lt (rm := rm) (l := l) hr6

      refine KA.skip ?_
      refine blQ.normal ?_
      refine sqQ.normal ?_
      refine KA.sub (Sub.cons (t := 1) Look.eq (Sub.cons (t := 2) Look.eq (Sub.cons (t := 3) Look.eq (Sub.nil _)))) ?_
      refine KA.seq ?_
      refine KA.region rfl ?_
      refine KOps.loadAll hS (i := 0) rfl hp3 (by rfl) (by decide) ?_
      refine KOps.move ?_
      refine KOps.call rfl (rooms_c (Rd.ext hS.keeps hv) (Row.ext hS.keeps hn) hB hll) ?_
      rintro _ h6 ⟨rfl, hK⟩
      have hS0 : St _ _ (_ :: _) := St.trans hS (St.ofK hK)
      clear hS
      have hS := hS0
      clear hS0
      refine KOps.move ?_
      refine KOps.extract ?_
      refine KOps.extract ?_
      refine KOps.assign ?_
      refine KOps.assign ?_
      refine KOps.done ?_
      refine sqQ.normal ?_
      refine KA.sub (Sub.cons (t := 2) Look.eq (Sub.cons (t := 3) Look.eq (Sub.cons (t := 8) Look.eq (Sub.cons (t := 9) Look.eq (Sub.nil _))))) ?_
      refine KA.seq ?_
      refine KA.seq ?_
      refine KA.region rfl ?_
      refine KOps.move ?_
      refine KOps.neq ?_
      refine KOps.done ?_
      refine sqQ.normal ?_
      refine KA.sub (Sub.cons (t := 2) Look.eq (Sub.cons (t := 3) Look.eq (Sub.cons (t := 8) Look.eq (Sub.cons (t := 9) Look.eq (Sub.cons (t := 33) Look.eq (Sub.nil _)))))) ?_
      refine KA.condN ?_ ?_
      · intro c33
        refine KA.seq ?_
        refine KA.region rfl ?_
        refine KOps.move ?_
        refine KOps.assign ?_
        refine KOps.assign ?_
        refine KOps.done ?_
        refine sqQ.normal ?_
        refine KA.sub (Sub.cons (t := 6) Look.eq (Sub.cons (t := 7) Look.eq (Sub.nil _))) ?_
        refine KA.ret ?_
        refine sqQ.ret ?_
        refine fnQ.retN ?_
        have e9 := say_rooms h0 c33
        rw [e9.1, e9.2]
        exact ⟨rfl, hS.keeps⟩
      · intro c33
        refine KA.skip ?_
        refine sqQ.normal ?_
        refine KA.sub (Sub.cons (t := 2) Look.eq (Sub.cons (t := 3) Look.eq (Sub.cons (t := 9) Look.eq (Sub.nil _)))) ?_
        refine KA.seq ?_
        refine KA.region rfl ?_
        refine KOps.loadAll hS (i := 0) rfl hp3 (by rfl) (by decide) ?_
        refine KOps.move ?_
        refine KOps.move ?_
        refine KOps.call rfl (says_c (i := j) (Rd.ext hS.keeps hv) hB hse (by omega)) ?_
        rintro _ h7 ⟨rfl, hK⟩
        have hS0 : St _ _ (_ :: _) := St.trans hS (St.ofK hK)
        clear hS
        have hS := hS0
        clear hS0
        refine KOps.move ?_
        refine KOps.extract ?_
        refine KOps.extract ?_
        refine KOps.assign ?_
        refine KOps.assign ?_
        refine KOps.done ?_
        refine sqQ.normal ?_
        refine KA.sub (Sub.cons (t := 10) Look.eq (Sub.cons (t := 11) Look.eq (Sub.nil _))) ?_
        refine KA.seq ?_
        refine KA.seq ?_
        refine KA.region rfl ?_
        refine KOps.move ?_
        refine KOps.not ?_
        refine KOps.done ?_
        refine sqQ.normal ?_
        refine KA.sub (Sub.cons (t := 10) Look.eq (Sub.cons (t := 43) Look.eq (Sub.nil _))) ?_
        refine KA.condB ?_ ?_
        · intro c43
          refine KA.seq ?_
          refine KA.region rfl ?_
          refine KOps.assign ?_
          refine KOps.assign ?_
          refine KOps.done ?_
          refine sqQ.normal ?_
          refine KA.sub (Sub.cons (t := 6) Look.eq (Sub.cons (t := 7) Look.eq (Sub.nil _))) ?_
          refine KA.ret ?_
          refine sqQ.ret ?_
          refine fnQ.retN ?_
          have e9 := say_lost h0 c33 (by simpa using c43)
          rw [e9.1, e9.2]
          exact ⟨rfl, hS.keeps⟩
        · intro c43
          refine KA.skip ?_
          refine sqQ.normal ?_
          refine KA.sub (Sub.cons (t := 10) Look.eq (Sub.nil _)) ?_
          refine KA.seq ?_
          refine KA.region rfl ?_
          refine KOps.move ?_
          refine KOps.assign ?_
          refine KOps.assign ?_
          refine KOps.done ?_
          refine sqQ.normal ?_
          refine KA.sub (Sub.cons (t := 6) Look.eq (Sub.cons (t := 7) Look.eq (Sub.nil _))) ?_
          refine KA.ret ?_
          refine fnQ.retN ?_
          have hc : crosses ws (setE rm l) ((j : Int)).toNat = true := by simpa using c43
          have e9 := say_ok h0 c33 hc
          rw [Int.toNat_natCast] at hc e9
          rw [e9.1, e9.2, if_pos hc]
          exact ⟨rfl, hS.keeps⟩

end Go.Am

namespace Go.Am
theorem AW.region_drawS2 {P : Program} {id c r t a d : Nat} {ops : Array Oper} {l1 l2 : List Oper} {oc : Oper} {ex : List Nat} {sz : Nat} {o : Oper} {Q : Ex → List AV → AHeap → Prop} {fr : List AV} {h : AHeap} (hm : P.follows .mixedOrders = true) (hl : ops.toList = l1 ++ oc :: l2) (hc : l1.length = c + 1)
    (hok : RgOk sz ops ex [(c, r), (c + 1, r)]) (hsz : fr.length = sz) (hrc : r < c) (ho : ops[r]? = some o) (hop : o.op = .load t (.tmp a)) (hod : o.dst = some d) (hdz : d < sz) (hno : ∀ j (oj : Oper), r ≤ j → j ≤ c + 1 → ops[j]? = some oj → oj.dst ≠ some a ∧ (r < j → oj.dst ≠ some d))
    (hw : AOps P ops ex (fun fr1 h1 => aload P h1 t (fr1.getD a .bot) = some (fr1.getD d .bot) ∧ AOps P ops ex (fun fr2 h2 => aload P h2 t (fr2.getD a .bot) = some (fr2.getD d .bot) ∧ AOps P ops ex (Q .normal) (c + 2) l2 fr2 h2) (c + 1) [oc] fr1 h1) 0 l1 fr h) : AW P (.region id ops true) Q fr h := by
  have hsize : ops.size = l1.length + (l2.length + 1) := by rw [← Array.length_toList, hl, List.length_append, List.length_cons]
  have g1 : ∀ i, i < l1.length → l1[i]? = ops[0 + i]? := by
    intro i hi
    rw [Nat.zero_add, ← Array.getElem?_toList, hl, List.getElem?_append_left hi]
  have g3 : ∀ i, i < [oc].length → [oc][i]? = ops[c + 1 + i]? := by
    intro i hi
    simp only [List.length_singleton] at hi
    rw [← Array.getElem?_toList, hl, List.getElem?_append_right (by omega), hc, Nat.add_sub_cancel_left, show i = 0 by omega]
    rfl
  have g2 : ∀ i, l2[i]? = ops[c + 2 + i]? := by
    intro i
    rw [← Array.getElem?_toList, hl, List.getElem?_append_right (by omega), hc, show c + 2 + i - (c + 1) = i + 1 by omega]
    rfl
  obtain ⟨ws1, fs1, ks1, a1, a2, ⟨hchkA, hKA⟩, hallA⟩ := aops_textP hok.ntx l1 0 fr h g1 hw
  simp only [Nat.zero_add, hc] at hchkA hKA hallA
  obtain ⟨ws2, fs2, ks2, b1, b2, ⟨hchkB, hKB⟩, hallB⟩ := aops_textP hok.ntx [oc] (c + 1) _ _ g3 hKA
  simp only [List.length_singleton] at hchkB hKB hallB
  obtain ⟨vs1, frs1, hs1, e1, e2, hchk1, hchk, hK1, hall1⟩ : ∃ (vs : Nat → AV) (frs : Nat → List AV) (hs : Nat → AHeap), frs 0 = fr ∧ hs 0 = h ∧ aload P (hs (c + 1)) t ((frs (c + 1)).getD a .bot) = some ((frs (c + 1)).getD d .bot) ∧ aload P (hs (c + 2)) t ((frs (c + 2)).getD a .bot) = some ((frs (c + 2)).getD d .bot) ∧ AOps P ops ex (Q .normal) (c + 2) l2 (frs (c + 2)) (hs (c + 2)) ∧ ∀ i o, 0 ≤ i → i < c + 2 → ops[i]? = some o → TS P ops ex i o (frs i) (hs i) (vs i) (frs (i + 1)) (hs (i + 1)) := by
    refine ⟨fun i => if i ≤ c then ws1 i else ws2 i, fun i => if i ≤ c then fs1 i else fs2 i, fun i => if i ≤ c then ks1 i else ks2 i, by simp [a1], by simp [a2], ?_, ?_, ?_, ?_⟩
    · simp only [if_neg (show ¬ c + 1 ≤ c by omega), b1, b2]; exact hchkA
    · simp only [if_neg (show ¬ c + 2 ≤ c by omega)]; exact hchkB
    · simp only [if_neg (show ¬ c + 2 ≤ c by omega)]; exact hKB
    · intro i oi _ hi hoi
      by_cases h1 : i ≤ c
      · have ht := hallA i oi (Nat.zero_le _) (by omega) hoi
        by_cases h2 : i + 1 ≤ c
        · simp only [if_pos h1, if_pos h2]; exact ht
        · have h3 : i = c := by omega
          subst h3
          simp only [if_pos h1, if_neg h2, b1, b2]
          exact ht
      · simp only [if_neg h1, if_neg (show ¬ i + 1 ≤ c by omega)]
        exact hallB i oi (by omega) (by omega) hoi
  obtain ⟨vs2, frs2, hs2, e3, e4, hK2, hall2⟩ := aops_text hok.ntx l2 (c + 2) _ _ g2 hK1
  have hlen : ∀ i, i ≤ c + 2 → (frs1 i).length = sz := by
    intro i
    induction i with
    | zero => intro _; rw [e1]; exact hsz
    | succ i ih =>
      intro hi
      have ht := hall1 i _ (Nat.zero_le _) (by omega) (Array.getElem?_eq_getElem (by omega))
      rw [ht.1]
      unfold setF
      split
      · rw [List.length_set]; exact ih (by omega)
      · exact ih (by omega)
  have hget : ∀ (l : List AV) (dst : Option Tmp) (v : AV) (x : Nat), dst ≠ some x → (setF l dst v).getD x .bot = l.getD x .bot := by
    intro l dst v x hx
    unfold setF
    split
    · rename_i y
      rw [List.getD_eq_getElem?_getD, List.getD_eq_getElem?_getD, List.getElem?_set_ne (by rintro rfl; exact hx rfl)]
    · rfl
  have ha : ∀ j, r ≤ j → j ≤ c + 2 → (frs1 j).getD a .bot = (frs1 r).getD a .bot := by
    intro j h1
    induction j with
    | zero => intro _; rw [show r = 0 by omega]
    | succ j ih =>
      intro h2
      rcases Nat.lt_or_eq_of_le h1 with h3 | h3
      · have ho2 := Array.getElem?_eq_getElem (xs := ops) (i := j) (by omega)
        have ht := hall1 j _ (Nat.zero_le _) (by omega) ho2
        rw [ht.1, hget _ _ _ _ (hno j _ (by omega) (by omega) ho2).1, ih (by omega) (by omega)]
      · rw [← h3]
  have hd : ∀ j, r < j → j ≤ c + 2 → (frs1 j).getD d .bot = vs1 r := by
    intro j h1
    induction j with
    | zero => omega
    | succ j ih =>
      intro h2
      have ho2 := Array.getElem?_eq_getElem (xs := ops) (i := j) (by omega)
      have ht := hall1 j _ (Nat.zero_le _) (by omega) ho2
      rw [ht.1]
      by_cases hj : j = r
      · subst hj
        rw [ho2] at ho
        cases ho
        rw [hod]
        simp only [setF]
        rw [List.getD_eq_getElem?_getD, List.getElem?_set_self (by rw [hlen j (by omega)]; exact hdz)]
        rfl
      · rw [hget _ _ _ _ ((hno j _ (by omega) (by omega) ho2).2 (by omega))]
        exact ih (by omega) (by omega)
  refine AW.region_run hm hok hsz (vs := fun i => if i ≤ c + 1 then vs1 i else vs2 i) (frs := fun i => if i ≤ c + 1 then frs1 i else frs2 i) (hs := fun i => if i ≤ c + 1 then hs1 i else hs2 i) (by simp [e1]) (by simp [e2]) ?_ ?_ ?_
  · simp only [if_neg (show ¬ ops.size ≤ c + 1 by omega)]
    rw [show ops.size = c + 2 + l2.length by omega]
    exact hK2
  · intro i oi hi hoi
    by_cases h1 : i ≤ c + 1
    · have ht := hall1 i oi (Nat.zero_le _) (by omega) hoi
      by_cases h2 : i + 1 ≤ c + 1
      · simp only [if_pos h1, if_pos h2]; exact ht
      · have h3 : i = c + 1 := by omega
        subst h3
        simp only [if_pos h1, if_neg h2, e3, e4]
        exact ht
    · simp only [if_neg h1, if_neg (show ¬ i + 1 ≤ c + 1 by omega)]
      exact hall2 i oi (by omega) (by omega) hoi
  · intro c' r' o' hcr _ ho'
    have hcr' : (c' = c ∧ r' = r) ∨ (c' = c + 1 ∧ r' = r) := by simpa using hcr
    rcases hcr' with ⟨rfl, rfl⟩ | ⟨rfl, rfl⟩
    · rw [ho] at ho'
      cases ho'
      simp only [if_pos (show c' + 1 ≤ c' + 1 by omega), if_pos (show r' ≤ c' + 1 by omega)]
      rw [hop]
      show aload P _ t ((frs1 r').getD a .bot) = _
      rw [← ha (c' + 1) (by omega) (by omega), ← hd (c' + 1) (by omega) (by omega)]
      exact hchk1
    · rw [ho] at ho'
      cases ho'
      simp only [if_neg (show ¬ c + 1 + 1 ≤ c + 1 by omega), if_pos (show r' ≤ c + 1 by omega), e4]
      rw [hop]
      show aload P _ t ((frs1 r').getD a .bot) = _
      rw [← ha (c + 2) (by omega) (Nat.le_refl _), ← hd (c + 2) (by omega) (Nat.le_refl _)]
      exact hchk

section drawS
variable {P : Program} {n : Nat} {Q : Ex → KF → AHeap → Prop} {K : KF} {h : AHeap}
theorem KA.drawS2 {id c r t a d : Nat} {ops : Array Oper} {l1 l2 : List Oper} {oc o : Oper} (ex : List Nat) (hm : P.follows .mixedOrders = true) (hl1 : ops.toList.take (c + 1) = l1) (hl2 : ops.toList.drop (c + 1) = oc :: l2) (hc : l1.length = c + 1) (hok : rgOk n ops.toList ex [(c, r), (c + 1, r)] = true) (ho : ops[r]? = some o) (hop : o.op = .load t (.tmp a)) (hod : o.dst = some d) (hdz : d < n) (hrc : r < c)
    (hno : ((List.range' r (c + 2 - r)).all fun j => match ops[j]? with | some oj => oj.dst != some a && (j == r || oj.dst != some d) | none => true) = true)
    (hw : KOps P n ops ex (fun K1 h1 => aload P h1 t ((toFr n K1).getD a .bot) = some ((toFr n K1).getD d .bot) ∧ KOps P n ops ex (fun K2 h2 => aload P h2 t ((toFr n K2).getD a .bot) = some ((toFr n K2).getD d .bot) ∧ KOps P n ops ex (Q .normal) (c + 2) l2 K2 h2) (c + 1) [oc] K1 h1) 0 l1 K h) : KA P n (.region id ops true) Q K h := by
  refine AW.region_drawS2 (c := c) (r := r) (t := t) (a := a) (d := d) (l1 := l1) (oc := oc) (l2 := l2) hm (by rw [← hl1, ← hl2, List.take_append_drop]) hc (rgOk_sound rfl hok) (toFr_length n K) hrc ho hop hod hdz ?_ ?_
  · intro j oj h1 h2 hj
    have := List.all_eq_true.1 hno j (List.mem_range'_1.2 ⟨h1, by omega⟩)
    simp only [hj, Bool.and_eq_true, bne_iff_ne, Bool.or_eq_true, beq_iff_eq] at this
    exact ⟨this.1, fun h3 => this.2.resolve_left (by omega)⟩
  · refine aops_mono ?_ _ _ _ _ hw
    rintro fr1 h1 ⟨K1, rfl, hchk, hrest⟩
    refine ⟨hchk, aops_mono ?_ _ _ _ _ hrest⟩
    rintro fr2 h2 ⟨K2, rfl, hchk2, hrest2⟩
    exact ⟨hchk2, hrest2⟩
end drawS
section drawS2
variable {P : Program} {n : Nat} {ops : Array Oper} {ex : List Nat} {k : Nat} {K : KF} {h : AHeap}
theorem KOps.doneS2 {t a d s j : Nat} {R : KF → AHeap → Prop} {p v y : AV} {xs : List AV} [hla : Look K a p] [hld : Look K d y] [ht : ScT P t] (hna : Nat.ble n a = false) (hnd : Nat.ble n d = false) (ha : AddrOf p v s j) (hr : Rd h v s xs) (hy : xs[j]? = some y) (hrest : R K h) :
    KOps P n ops ex (fun K1 h1 => aload P h1 t ((toFr n K1).getD a .bot) = some ((toFr n K1).getD d .bot) ∧ R K1 h1) k [] K h := by
  refine KOps.done ⟨?_, hrest⟩
  rw [toFr_getD, toFr_getD, hna, hnd, cond_false, cond_false, hla.eq, hld.eq]
  exact hr.load ha hy
end drawS2
end Go.Am

namespace Go.Am
/-- Rooms that say an end of a span. -/
noncomputable def pB (ws : List W) (i : Nat) (g : Bool) (s : Nat) : Bool := if g then lvs (ws.getD i default) s && decide (saysV ws s i = hiOf ws i) else ens (ws.getD i default) s && decide (saysV ws s i = loOf ws i)
noncomputable def endI (ws : List W) (i : Nat) (g : Bool) : Int := if g then hiOf ws i else loOf ws i
def insI (ws : List W) (i : Nat) (g : Bool) : Int := if g then (ws.getD i default).f else (ws.getD i default).t
def ownI (ws : List W) (i : Nat) (g : Bool) : Int := if g then (ws.getD i default).m else (ws.getD i default).l
theorem cross_in (ws : List W) (s i : Nat) (g : Bool) : (crosses ws s i && inS s (insI ws i g)) = if g then lvs (ws.getD i default) s else ens (ws.getD i default) s := by
  unfold crosses insI lvs ens
  cases g <;> simp only [if_true, if_false, Bool.false_eq_true] <;> cases inS s (ws.getD i default).f <;> cases inS s (ws.getD i default).t <;> rfl
theorem pB_is {ws : List W} {s i : Nat} {g : Bool} : pB ws i g s = (crosses ws s i && inS s (insI ws i g) && decide (saysV ws s i = endI ws i g)) := by
  rw [cross_in]
  unfold pB endI
  cases g <;> rfl
noncomputable def boundL (rm : Int) (ws : List W) (i : Int) (g : Bool) : List Int := if askE rm ws i = 0 then (if endI ws i.toNat g = ownI ws i.toNat g then [] else fewL (pB ws i.toNat g) (2 ^ rm.toNat)) else []
end Go.Am

namespace Go.Am

theorem bound1_c {h : AHeap} {rm : Int} {vW p3 p4 p12 p13 : AV} {ws : List W} {s i : Nat} {g : Bool} (hv : Rd h vW 4 (flr wc ws)) (hB : BOk rm ws) (hs : s < 64) (hi : i < ws.length) (hp3 : AddrOf p3 p3 0 0) (hp4 : AddrOf p4 p4 0 0) (hp12 : AddrOf p12 p12 0 0) (hp13 : AddrOf p13 p13 0 0) (h3 : Rd h p3 0 [.int .i64 rm, vW]) (h4 : Rd h p4 0 [.int .i64 (i : Int)]) (h12 : Rd h p12 0 [.int .i64 (insI ws i g)]) (h13 : Rd h p13 0 [.int .i64 (endI ws i g)]) : ACalls Go.Proofs.Tryd.prog 86 [.int .u8 (s : Int), p3, p4, p12, p13] h (fun q h' => q = .bool (pB ws i g s) ∧ Keeps h h') := by
  refine KA.fn 27 [.tmp 6] Go.Proofs.Tryd.func86 rfl (by decide) rfl rfl (Nat.le_of_ble_eq_true rfl) ?_
  have hS := St.refl h
  have hr6 := hB.r6
  have hwi := hB.way i hi
  have hwf0 := hwi.f0
  have hwf1 := hwi.f1
  have hwt0 := hwi.t0
  have hwt1 := hwi.t1
  have hin : 0 ≤ insI ws i g ∧ insI ws i g < 6 := by
    unfold insI; cases g <;> simp only [if_true, if_false, Bool.false_eq_true] <;> omega
  show KA _ 27 _ _ [(0, .int .u8 (s : Int)), (1, p3), (2, p4), (3, p12), (4, p13)] _
  refine KA.seq ?_
  refine KA.region rfl ?_
  refine KOps.assign ?_
  refine KOps.done ?_
  refine sqQ.normal ?_
  refine KA.sub (Sub.cons (t := 0) Look.eq (Sub.cons (t := 1) Look.eq (Sub.cons (t := 2) Look.eq (Sub.cons (t := 3) Look.eq (Sub.cons (t := 4) Look.eq (Sub.nil _)))))) ?_
  refine KA.seq ?_
  refine KA.region rfl ?_
  refine KOps.loadAgg (z := 2) hp3 (Rd.ext hS.keeps h3) (by decide) (by simp) ?_
  refine KOps.move ?_
  refine KOps.load hp4 (Rd.ext hS.keeps h4) rfl ?_
  refine KOps.call rfl (says_c (i := i) (Rd.ext hS.keeps hv) hB hs hi) ?_
  rintro _ h5 ⟨rfl, hK⟩
  have hS0 := St.trans hS (St.ofK hK)
  clear hS
  have hS := hS0
  clear hS0
  refine KOps.move ?_
  refine KOps.extract ?_
  refine KOps.extract ?_
  refine KOps.assign ?_
  refine KOps.assign ?_
  refine KOps.done ?_
  refine sqQ.normal ?_
  refine KA.sub (Sub.cons (t := 0) Look.eq (Sub.cons (t := 3) Look.eq (Sub.cons (t := 4) Look.eq (Sub.cons (t := 7) Look.eq (Sub.cons (t := 8) Look.eq (Sub.nil _)))))) ?_
  refine KA.seq ?_
  refine KA.region rfl ?_
  refine KOps.move ?_
  refine KOps.move ?_
  refine KOps.guardB (dj := 17) rfl rfl true false rfl ?_ ?_
  · intro g17
    refine KOps.move ?_
    refine KOps.guardYes (dj := 17) rfl rfl ?_
    refine KOps.load hp12 (Rd.ext hS.keeps h12) rfl ?_
    refine KOps.guardYes (dj := 17) rfl rfl ?_
    refine KOps.call rfl (has8_c (by first | omega | (simp; omega)) (by first | omega | (simp; omega)) (by first | omega | (simp; omega))) ?_
    rintro _ _ ⟨rfl, rfl⟩
    refine KOps.pickT ?_
    refine KOps.move ?_
    refine KOps.guardB (dj := 22) rfl rfl true false rfl ?_ ?_
    · intro g22
      refine KOps.move ?_
      refine KOps.guardYes (dj := 22) rfl rfl ?_
      refine KOps.load hp13 (Rd.ext hS.keeps h13) rfl ?_
      refine KOps.guardYes (dj := 22) rfl rfl ?_
      refine KOps.eql ?_
      refine KOps.pickT ?_
      refine KOps.assign ?_
      refine KOps.done ?_
      refine sqQ.normal ?_
      refine KA.sub (Sub.cons (t := 6) Look.eq (Sub.nil _)) ?_
      refine KA.ret ?_
      refine fnQ.ret1 ?_
      refine ⟨congrArg AV.bool ?_, hS.keeps⟩
      rw [pB_is, g17, g22, if_pos rfl]; rfl
    · intro g22
      refine KOps.guardNo (dj := 22) rfl rfl rfl ?_
      refine KOps.guardNo (dj := 22) rfl rfl rfl ?_
      refine KOps.pickF ?_
      refine KOps.assign ?_
      refine KOps.done ?_
      refine sqQ.normal ?_
      refine KA.sub (Sub.cons (t := 6) Look.eq (Sub.nil _)) ?_
      refine KA.ret ?_
      refine fnQ.ret1 ?_
      refine ⟨congrArg AV.bool ?_, hS.keeps⟩
      rw [pB_is, g17, g22]; rfl
  · intro g17
    refine KOps.guardNo (dj := 17) rfl rfl rfl ?_
    refine KOps.guardNo (dj := 17) rfl rfl rfl ?_
    refine KOps.pickF ?_
    refine KOps.move ?_
    refine KOps.guardNo (dj := 22) rfl rfl rfl ?_
    refine KOps.guardNo (dj := 22) rfl rfl rfl ?_
    refine KOps.guardNo (dj := 22) rfl rfl rfl ?_
    refine KOps.pickF ?_
    refine KOps.assign ?_
    refine KOps.done ?_
    refine sqQ.normal ?_
    refine KA.sub (Sub.cons (t := 6) Look.eq (Sub.nil _)) ?_
    refine KA.ret ?_
    refine fnQ.ret1 ?_
    refine ⟨congrArg AV.bool ?_, hS.keeps⟩
    rw [pB_is, g17]; rfl

theorem bound_true_c {h : AHeap} {rm i : Int} {vW : AV} {ws : List W} (hv : Rd h vW 4 (flr wc ws)) (hSz : Sizes h) : ACalls Go.Proofs.Tryd.prog 42 [.agg [.int .i64 rm, vW], .int .i64 i, .bool true] h (fun q h' => ∃ vo, q = .tup [vo, .int .i64 (askE rm ws i)] ∧ St h h' [⟨vo, 1, ints (boundL rm ws i true), true⟩]) := by
  refine KA.fn 47 [.tmp 6, .tmp 7] Go.Proofs.Tryd.func42 rfl (by decide) rfl rfl (Nat.le_of_ble_eq_true rfl) ?_
  have hS := St.refl h
  have hvo : vW.one = true := hv.one
  show KA _ 47 _ _ [(0, .agg [.int .i64 rm, vW]), (1, .int .i64 i), (2, .bool true)] _
  refine KA.seq ?_
  refine KA.region rfl ?_
  refine KOps.boxAll hS (by first | rfl | (simp [AV.one]; done) | (simp [AV.one]; assumption) | (simp [AV.one, *]; done)) ?_
  intro p3 h' hp3 hS
  refine KOps.box hS (l := [_]) rfl ?_
  intro p4 h' hp4 hS
  refine KOps.assign ?_
  refine KOps.assign ?_
  refine KOps.done ?_
  refine sqQ.normal ?_
  refine KA.sub (Sub.cons (t := 2) Look.eq (Sub.cons (t := 3) Look.eq (Sub.cons (t := 4) Look.eq (Sub.nil _)))) ?_
  refine KA.seq ?_
  refine KA.region rfl ?_
  refine KOps.loadAll hS (i := 1) rfl hp3 (by rfl) (by decide) ?_
  refine KOps.loadBox hS (i := 0) rfl hp4 ?_
  refine KOps.call rfl (stSpan_c (Rd.ext hS.keeps hv)) ?_
  rintro _ h5 ⟨rfl, hK⟩
  have hS0 : St _ _ (_ :: _ :: _) := St.trans hS (St.ofK hK)
  clear hS
  have hS := hS0
  clear hS0
  refine KOps.move ?_
  refine KOps.extract ?_
  refine KOps.extract ?_
  refine KOps.extract ?_
  refine KOps.assign ?_
  refine KOps.assign ?_
  refine KOps.assign ?_
  refine KOps.done ?_
  refine sqQ.normal ?_
  refine KA.sub (Sub.cons (t := 2) Look.eq (Sub.cons (t := 3) Look.eq (Sub.cons (t := 4) Look.eq (Sub.cons (t := 8) Look.eq (Sub.cons (t := 9) Look.eq (Sub.cons (t := 10) Look.eq (Sub.nil _))))))) ?_
  refine KA.seq ?_
  refine KA.seq ?_
  refine KA.region rfl ?_
  refine KOps.move ?_
  refine KOps.neq ?_
  refine KOps.done ?_
  refine sqQ.normal ?_
  refine KA.sub (Sub.cons (t := 2) Look.eq (Sub.cons (t := 3) Look.eq (Sub.cons (t := 4) Look.eq (Sub.cons (t := 8) Look.eq (Sub.cons (t := 9) Look.eq (Sub.cons (t := 10) Look.eq (Sub.cons (t := 23) Look.eq (Sub.nil _)))))))) ?_
  refine KA.condN ?_ ?_
  · intro c23
    refine KA.seq ?_
    refine KA.region rfl ?_
    refine KOps.move ?_
    refine KOps.assign ?_
    refine KOps.assign ?_
    refine KOps.done ?_
    refine sqQ.normal ?_
    refine KA.sub (Sub.cons (t := 6) Look.eq (Sub.cons (t := 7) Look.eq (Sub.nil _))) ?_
    refine KA.ret ?_
    refine sqQ.ret ?_
    refine fnQ.retN ?_
    rw [boundL, if_neg c23]
    exact ⟨_, rfl, St.pick [2] (by decide) rfl (St.addNil 1 true hS)⟩
  · intro c23
    obtain ⟨he, hi0, hi1⟩ := ask_ok c23
    have hB := (agree_ok he).1
    have hx := (agree_ok he).2
    obtain ⟨r, rfl⟩ : ∃ r : Nat, rm = (r : Int) := ⟨rm.toNat, by have := hB.r2; omega⟩
    obtain ⟨j, rfl⟩ : ∃ j : Nat, i = (j : Int) := ⟨i.toNat, by omega⟩
    rw [if_pos c23, if_pos c23, Int.toNat_natCast]
    have hr6 := hB.r6
    have hwl := hB.len
    have hpw : 2 ^ r ≤ 2 ^ 6 := Nat.pow_le_pow_right (by decide) (by omega)
    have h1p : 1 ≤ 2 ^ r := Nat.one_le_two_pow
    have hsh := shl64 r (by omega)
    have hj : j < ws.length := by omega
    refine KA.skip ?_
    refine sqQ.normal ?_
    refine KA.sub (Sub.cons (t := 2) Look.eq (Sub.cons (t := 3) Look.eq (Sub.cons (t := 4) Look.eq (Sub.cons (t := 8) Look.eq (Sub.cons (t := 9) Look.eq (Sub.nil _)))))) ?_
    refine KA.seq ?_
    refine KA.region rfl ?_
    refine KOps.fieldAddr hp3 ?_
    intro p25 hp25
    refine KOps.load hp25 (hS.rd 1 rfl) rfl ?_
    refine KOps.loadBox hS (i := 0) rfl hp4 ?_
    refine KOps.indexF wc_len (Rd.ext hS.keeps hv) (j := j) (by first | omega | (simp; omega)) (by first | omega | (simp; omega)) ?_
    intro p28 hp28
    refine KOps.loadFl wc_len (by decide) hp28 (Rd.ext hS.keeps hv) (by first | omega | (simp; omega)) ?_
    refine KOps.alloc hS ?_
    intro p11 h' hp11 hS
    refine KOps.storeAll hS rfl (i := 0) rfl hp11 (by first | rfl | (simp [AV.one]; done) | (simp [AV.one]; assumption) | (simp [AV.one, *]; done)) (by rfl) (by rfl) (by decide) ?_
    intro h' hS
    simp only [List.set_cons_zero, List.set_cons_succ, Nat.zero_add] at hS
    refine KOps.done ?_
    refine sqQ.normal ?_
    refine KA.sub (Sub.cons (t := 2) Look.eq (Sub.cons (t := 3) Look.eq (Sub.cons (t := 4) Look.eq (Sub.cons (t := 8) Look.eq (Sub.cons (t := 9) Look.eq (Sub.cons (t := 11) Look.eq (Sub.nil _))))))) ?_
    refine KA.seq ?_
    refine KA.drawS2 (c := 7) (r := 4) (t := 3) (a := 33) (d := 34) [] mixed rfl rfl rfl (by kernel_rfl) rfl rfl rfl (by decide) (by decide) (by kernel_rfl) ?_
    refine KOps.fieldAddr hp11 ?_
    intro p30 hp30
    refine KOps.load hp30 (hS.rd 0 rfl) rfl ?_
    refine KOps.move ?_
    refine KOps.fieldAddr hp11 ?_
    intro p33 hp33
    refine KOps.load hp33 (hS.rd 0 rfl) rfl ?_
    refine KOps.alloc hS ?_
    intro p12 h' hp12 hS
    refine KOps.alloc hS ?_
    intro p13 h' hp13 hS
    refine KOps.storeBox hS rfl (i := 1) rfl hp12 (by first | rfl | assumption) ?_
    intro h' hS
    simp only [List.set_cons_zero, List.set_cons_succ, Nat.zero_add] at hS
    refine KOps.doneS2 rfl rfl hp33 (hS.rd 2 rfl) rfl ?_
    refine KOps.storeBox hS rfl (i := 0) rfl hp13 (by first | rfl | assumption) ?_
    intro h' hS
    simp only [List.set_cons_zero, List.set_cons_succ, Nat.zero_add] at hS
    refine KOps.doneS2 rfl rfl hp33 (hS.rd 2 rfl) rfl ?_
    refine KOps.assign ?_
    refine KOps.done ?_
    refine sqQ.normal ?_
    refine KA.sub (Sub.cons (t := 2) Look.eq (Sub.cons (t := 3) Look.eq (Sub.cons (t := 4) Look.eq (Sub.cons (t := 9) Look.eq (Sub.cons (t := 11) Look.eq (Sub.cons (t := 12) Look.eq (Sub.cons (t := 13) Look.eq (Sub.cons (t := 14) Look.eq (Sub.nil _))))))))) ?_
    refine KA.seq ?_
    refine KA.seq ?_
    refine KA.region rfl ?_
    refine KOps.move ?_
    refine KOps.done ?_
    refine sqQ.normal ?_
    refine KA.sub (Sub.cons (t := 3) Look.eq (Sub.cons (t := 4) Look.eq (Sub.cons (t := 9) Look.eq (Sub.cons (t := 11) Look.eq (Sub.cons (t := 12) Look.eq (Sub.cons (t := 13) Look.eq (Sub.cons (t := 14) Look.eq (Sub.cons (t := 35) Look.eq (Sub.nil _))))))))) ?_
    refine KA.condT ?_
    refine KA.drawS2 (c := 5) (r := 4) (t := 3) (a := 39) (d := 40) [] mixed rfl rfl rfl (by kernel_rfl) rfl rfl rfl (by decide) (by decide) (by kernel_rfl) ?_
    refine KOps.fieldAddr hp11 ?_
    intro p36 hp36
    refine KOps.load hp36 (hS.rd 2 rfl) rfl ?_
    refine KOps.move ?_
    refine KOps.fieldAddr hp11 ?_
    intro p39 hp39
    refine KOps.load hp39 (hS.rd 2 rfl) rfl ?_
    refine KOps.storeBox hS rfl (i := 1) rfl hp12 (by first | rfl | assumption) ?_
    intro h' hS
    simp only [List.set_cons_zero, List.set_cons_succ, Nat.zero_add] at hS
    refine KOps.doneS2 rfl rfl hp39 (hS.rd 2 rfl) rfl ?_
    refine KOps.storeBox hS rfl (i := 0) rfl hp13 (by first | rfl | assumption) ?_
    intro h' hS
    simp only [List.set_cons_zero, List.set_cons_succ, Nat.zero_add] at hS
    refine KOps.doneS2 rfl rfl hp39 (hS.rd 2 rfl) rfl ?_
    refine KOps.assign ?_
    refine KOps.done ?_
    refine sqQ.normal ?_
    refine KA.sub (Sub.cons (t := 3) Look.eq (Sub.cons (t := 4) Look.eq (Sub.cons (t := 12) Look.eq (Sub.cons (t := 13) Look.eq (Sub.cons (t := 14) Look.eq (Sub.nil _)))))) ?_
    refine KA.seq ?_
    refine KA.seq ?_
    refine KA.region rfl ?_
    refine KOps.loadBox hS (i := 0) rfl hp13 ?_
    refine KOps.move ?_
    refine KOps.eql ?_
    refine KOps.done ?_
    refine sqQ.normal ?_
    refine KA.sub (Sub.cons (t := 3) Look.eq (Sub.cons (t := 4) Look.eq (Sub.cons (t := 12) Look.eq (Sub.cons (t := 13) Look.eq (Sub.cons (t := 43) Look.eq (Sub.nil _)))))) ?_
    refine KA.condD ?_ ?_
    · intro c43
      have hend : endI ws j true = ownI ws j true := c43
      refine KA.seq ?_
      refine KA.region rfl ?_
      refine KOps.assign ?_
      refine KOps.assign ?_
      refine KOps.done ?_
      refine sqQ.normal ?_
      refine KA.sub (Sub.cons (t := 6) Look.eq (Sub.cons (t := 7) Look.eq (Sub.nil _))) ?_
      refine KA.ret ?_
      refine sqQ.ret ?_
      refine fnQ.retN ?_
      rw [boundL, if_pos c23, Int.toNat_natCast, if_pos hend, c23]
      exact ⟨_, rfl, St.pick [5] (by decide) rfl (St.addNil 1 true hS)⟩
    · intro c43
      have hend : ¬ endI ws j true = ownI ws j true := c43
      refine KA.skip ?_
      refine sqQ.normal ?_
      refine KA.sub (Sub.cons (t := 3) Look.eq (Sub.cons (t := 4) Look.eq (Sub.cons (t := 12) Look.eq (Sub.cons (t := 13) Look.eq (Sub.nil _))))) ?_
      refine KA.seq ?_
      refine KA.region rfl ?_
      refine KOps.loadAll hS (i := 4) rfl hp3 (by rfl) (by decide) ?_
      refine KOps.makeFunc ?_
      refine KOps.call rfl (fewest_c (r := r) (p := pB ws j true) (vi := .fn 86 [p3, p4, p12, p13]) (Rd.ext hS.keeps hv) (by omega) (hSz.ext hS.keeps) rfl (fun h' s hK hs => ACalls.mono (bound1_c (s := s) (i := j) (g := true) (Rd.ext (hS.keeps.trans hK) hv) hB (by omega) hj hp3 hp4 hp12 hp13 (Rd.ext hK (hS.rd 4 rfl)) (Rd.ext hK (hS.rd 3 rfl)) (Rd.ext hK (hS.rd 1 rfl)) (Rd.ext hK (hS.rd 0 rfl))) (fun _ _ hx => hx))) ?_
      rintro vo h6 hF
      refine KOps.assign ?_
      refine KOps.assign ?_
      refine KOps.done ?_
      refine sqQ.normal ?_
      refine KA.sub (Sub.cons (t := 6) Look.eq (Sub.cons (t := 7) Look.eq (Sub.nil _))) ?_
      refine KA.ret ?_
      refine fnQ.retN ?_
      rw [boundL, if_pos c23, Int.toNat_natCast, if_neg hend, c23, Int.toNat_natCast]
      exact ⟨_, rfl, St.pick [0] (by decide) rfl (St.trans hS hF)⟩

end Go.Am

namespace Go.Am
theorem build_s12 {P : Program} {t : TypeId} {z0 z1 x : AV} (hz : zeroA P t = some (.agg [z0, z1])) (hz1 : [z0, z1].all AV.one = true) (hok : abuildOk P t = true) (hp0 : aplaces P t 0 = some (0, 1)) (hx : x.one = true) : abuild P t [(0, x)] = some (.agg [x, z1]) := by
  have h0 : (AV.agg [z0, z1]).cells? = some [z0, z1] := by simp only [AV.cells?]; rw [if_pos hz1]
  simp only [abuild, hz, h0, hok, if_true, Option.bind_eq_bind, Option.bind_some, afill, hp0, AV.cells_one hx]
  simp [putL, afill]
section
variable {P : Program} {n : Nat} {ops : Array Oper} {ex : List Nat} {Q : KF → AHeap → Prop} {k : Nat} {os : List Oper} {K : KF} {h : AHeap} {d : Nat} {ty : TypeId} {pos : String} {after : Array Edge}
theorem KOps.buildS12 {t : TypeId} {x0 : Operand} {v0 : AV} [hx0 : EvK h.globs n K x0 v0] {z0 z1 : AV} (hz : zeroA P t = some (.agg [z0, z1])) (hz1 : [z0, z1].all AV.one = true) (hok : abuildOk P t = true) (hp0 : aplaces P t 0 = some (0, 1)) (hov0 : v0.one = true) (hk : KOps P n ops ex Q (k + 1) os ((d, .agg [v0, z1]) :: K) h) :
    KOps P n ops ex Q k (⟨some d, .build t (List.toArray [(0, x0)]), ty, pos, after, none⟩ :: os) K h :=
  KOps.build (vs := [v0]) (build_s12 hz hz1 hok hp0 hov0) hk
theorem pc_aarr (p q : Int × Int) : aarr Go.Proofs.Tryd.prog 72 (pc p) (pc q) = some (decide (p = q)) := by
  have h1 : arrA Go.Proofs.Tryd.prog 72 = some (2, 3) := by kernel_rfl
  have h2 : intA Go.Proofs.Tryd.prog 3 = some .i64 := by kernel_rfl
  have h3 : (Go.Proofs.Tryd.prog).eqGuardType (Go.Proofs.Tryd.prog).depth 72 = false := by kernel_rfl
  have h4 : szA Go.Proofs.Tryd.prog 3 = some 1 := by kernel_rfl
  obtain ⟨a, b⟩ := p
  obtain ⟨c, e⟩ := q
  simp only [aarr, h1, h2, h3, h4, pc, ints, List.map_cons, List.map_nil, alits, if_true, Option.map_some, List.length_cons, List.length_nil, true_and, Prod.mk.injEq, and_self, Option.some.injEq]
  rw [Bool.eq_iff_iff, beq_iff_eq, decide_eq_true_iff]
  simp
theorem KOps.neqPc {x y : Operand} {p q : Int × Int} {t' : TypeId} [hx : EvK h.globs n K x (.agg (pc p))] [hy : EvK h.globs n K y (.agg (pc q))] (hk : KOps Go.Proofs.Tryd.prog n ops ex Q (k + 1) os ((d, .bool (!decide (p = q))) :: K) h) :
    KOps Go.Proofs.Tryd.prog n ops ex Q k (⟨some d, .binOp .neq 72 x y t', ty, pos, after, none⟩ :: os) K h :=
  KOps.pure rfl (by simp only [apure, hx.eq, hy.eq, abin, pc_aarr, Option.map_some]) hk
end
theorem takeW_next {ws : List W} {i : Nat} (hi : i < ws.length) : flr wc (ws.take i) ++ wc (ws.getD i default) = flr wc (ws.take (i + 1)) := by
  rw [flr_snoc]
  congr 1
  rw [List.take_add_one, List.getD_eq_getElem?_getD, List.getElem?_eq_getElem hi]; rfl
def wayAt (l : List Int) (i : Nat) : W := ⟨l.getD (4 * i) 0, l.getD (4 * i + 1) 0, l.getD (4 * i + 2) 0, l.getD (4 * i + 3) 0⟩
def waysTo (l : List Int) (k : Nat) : List W := (List.range k).map (wayAt l)
theorem waysTo_len (l : List Int) (k : Nat) : (waysTo l k).length = k := by simp [waysTo]
theorem waysTo_next (l : List Int) (k : Nat) : flr wc (waysTo l k) ++ wc (wayAt l k) = flr wc (waysTo l (k + 1)) := by
  rw [flr_snoc]; simp [waysTo, List.range_succ]

theorem large_c {h : AHeap} {rm : Int} {vW : AV} {ws : List W} (hv : Rd h vW 4 (flr wc ws)) {vn : AV} {l : List Int} (hn : Row h vn l) : ACalls Go.Proofs.Tryd.prog 15 [.agg [.int .i64 rm, vW], vn] h (fun q h' => q = .bool (decide (40 < ws.length ∨ 40 < l.length)) ∧ Keeps h h') := by
  refine KA.fn 14 [.tmp 4] Go.Proofs.Tryd.func15 rfl (by decide) rfl rfl (Nat.le_of_ble_eq_true rfl) ?_
  have hS := St.refl h
  have hvo : vW.one = true := hv.one
  show KA _ 14 _ _ [(0, .agg [.int .i64 rm, vW]), (1, vn)] _
  refine KA.seq ?_
  refine KA.region rfl ?_
  refine KOps.boxAll hS (by first | rfl | (simp [AV.one]; done) | (simp [AV.one]; assumption) | (simp [AV.one, *]; done)) ?_
  intro p2 h' hp2 hS
  refine KOps.assign ?_
  refine KOps.done ?_
  refine sqQ.normal ?_
  refine KA.sub (Sub.cons (t := 1) Look.eq (Sub.cons (t := 2) Look.eq (Sub.nil _))) ?_
  refine KA.seq ?_
  refine KA.region rfl ?_
  refine KOps.fieldAddr hp2 ?_
  intro p5 hp5
  refine KOps.load hp5 (hS.rd 0 rfl) rfl ?_
  refine KOps.lenF wc_len (Rd.ext hS.keeps hv) ?_
  refine KOps.gtr ?_
  refine KOps.move ?_
  refine KOps.guardB (dj := 9) rfl rfl false true rfl ?_ ?_
  · intro g9
    have g9 := of_decide_eq_false g9
    refine KOps.move ?_
    refine KOps.guardYes (dj := 9) rfl rfl ?_
    refine KOps.lenI (Row.ext hS.keeps hn) ?_
    refine KOps.guardYes (dj := 9) rfl rfl ?_
    refine KOps.gtr ?_
    refine KOps.pickF ?_
    refine KOps.assign ?_
    refine KOps.done ?_
    refine sqQ.normal ?_
    refine KA.sub (Sub.cons (t := 4) Look.eq (Sub.nil _)) ?_
    refine KA.ret ?_
    refine fnQ.ret1 ?_
    exact ⟨congrArg AV.bool (decide_eq_decide.2 (by omega)), hS.keeps⟩
  · intro g9
    have g9 := of_decide_eq_true g9
    refine KOps.guardNo (dj := 9) rfl rfl rfl ?_
    refine KOps.guardNo (dj := 9) rfl rfl rfl ?_
    refine KOps.pickT ?_
    refine KOps.assign ?_
    refine KOps.done ?_
    refine sqQ.normal ?_
    refine KA.sub (Sub.cons (t := 4) Look.eq (Sub.nil _)) ?_
    refine KA.ret ?_
    refine fnQ.ret1 ?_
    exact ⟨congrArg AV.bool (decide_eq_true (by omega)).symm, hS.keeps⟩

theorem given_c {h : AHeap} {rm : Int} {vW : AV} {ws : List W} (hv : Rd h vW 4 (flr wc ws)) (hl : ws.length ≤ 1000000) : ACalls Go.Proofs.Tryd.prog 17 [.agg [.int .i64 rm, vW]] h (fun q h' => ∃ v, q = .agg [.int .i64 rm, v] ∧ St h h' [⟨v, 4, flr wc ws, true⟩]) := by
  refine KA.fnH 26 [.cell 2 30] Go.Proofs.Tryd.func17 rfl (by decide) rfl rfl (Nat.le_of_ble_eq_true rfl) ?_
  have hS := St.refl h
  have hvo : vW.one = true := hv.one
  show KA _ 26 _ _ [(0, .agg [.int .i64 rm, vW])] _
  refine KA.seq ?_
  refine KA.region rfl ?_
  refine KOps.boxAll hS (by first | rfl | (simp [AV.one]; done) | (simp [AV.one]; assumption) | (simp [AV.one, *]; done)) ?_
  intro p1 h' hp1 hS
  refine KOps.alloc hS ?_
  intro p2 h' hp2 hS
  refine KOps.done ?_
  refine sqQ.normal ?_
  refine KA.sub (Sub.cons (t := 1) Look.eq (Sub.cons (t := 2) Look.eq (Sub.nil _))) ?_
  refine KA.seq ?_
  refine KA.region rfl ?_
  refine KOps.fieldAddr hp1 ?_
  intro p5 hp5
  refine KOps.load hp5 (hS.rd 1 rfl) rfl ?_
  refine KOps.buildS12 (z0 := .int .i64 0) (z1 := .nils) (by kernel_rfl) (by rfl) (by kernel_rfl) (by kernel_rfl) (by first | rfl | assumption) ?_
  refine KOps.alloc hS ?_
  intro p3 h' hp3 hS
  refine KOps.storeAll hS rfl (i := 0) rfl hp3 (by first | rfl | (simp [AV.one]; done) | (simp [AV.one]; assumption) | (simp [AV.one, *]; done)) (by rfl) (by rfl) (by decide) ?_
  intro h' hS
  simp only [List.set_cons_zero, List.set_cons_succ, Nat.zero_add] at hS
  refine KOps.done ?_
  refine sqQ.normal ?_
  refine KA.sub (Sub.cons (t := 1) Look.eq (Sub.cons (t := 2) Look.eq (Sub.cons (t := 3) Look.eq (Sub.nil _)))) ?_
  refine KA.seq ?_
  refine KA.seq ?_
  refine KA.region rfl ?_
  refine KOps.assign ?_
  refine KOps.done ?_
  refine sqQ.normal ?_
  refine KA.block ?_
  refine KA.loop (X := Nat × AV) (fun x => [(1, p1), (2, p2), (3, p3), (4, .int .i64 (x.1 : Int))]) (fun x h' => x.1 ≤ ws.length ∧ St h h' [⟨p3, 0, [.int .i64 rm, x.2], true⟩, ⟨p2, 0, [.int .i64 0, .nils], true⟩, ⟨p1, 0, [.int .i64 rm, vW], true⟩, ⟨x.2, 4, flr wc (ws.take x.1), true⟩]) (fun x => ws.length - x.1) (0, .nils) (by repeat (first | exact Sub.nil _ | refine Sub.cons Look.eq ?_ | refine Sub.cons (Eq.trans Look.eq (congrArg (AV.int _) (by first | omega | (dsimp only; omega)))) ?_)) ?_ ?_
  · exact ⟨Nat.zero_le _, St.addNil 4 true hS⟩
  rintro ⟨i, vo⟩ h3 ⟨hi, hS⟩
  dsimp only at hi hS ⊢
  refine KA.seq ?_
  refine KA.seq ?_
  refine KA.region rfl ?_
  refine KOps.move ?_
  refine KOps.fieldAddr hp1 ?_
  intro p9 hp9
  refine KOps.load hp9 (hS.rd 2 rfl) rfl ?_
  refine KOps.lenF wc_len (Rd.ext hS.keeps hv) ?_
  refine KOps.lss ?_
  refine KOps.done ?_
  refine sqQ.normal ?_
  refine KA.sub (Sub.cons (t := 1) Look.eq (Sub.cons (t := 2) Look.eq (Sub.cons (t := 3) Look.eq (Sub.cons (t := 4) Look.eq (Sub.cons (t := 12) Look.eq (Sub.nil _)))))) ?_
  refine KA.condD ?_ ?_
  · intro c12
    refine KA.skip ?_
    refine sqQ.normal ?_
    refine KA.sub (Sub.cons (t := 1) Look.eq (Sub.cons (t := 2) Look.eq (Sub.cons (t := 3) Look.eq (Sub.cons (t := 4) Look.eq (Sub.nil _))))) ?_
    refine KA.seq ?_
    refine KA.block ?_
    refine KA.draw [8] mixed rfl (by kernel_rfl) ?_
    refine KOps.fieldAddr hp3 ?_
    intro p15 hp15
    refine KOps.load hp15 (hS.rd 0 rfl) rfl ?_
    refine KOps.fieldAddr hp1 ?_
    intro p17 hp17
    refine KOps.load hp17 (hS.rd 2 rfl) rfl ?_
    refine KOps.move ?_
    refine KOps.indexF wc_len (Rd.ext hS.keeps hv) (j := i) rfl (by first | omega | (simp; omega)) ?_
    intro p20 hp20
    refine KOps.loadFl wc_len (by decide) hp20 (Rd.ext hS.keeps hv) (by first | omega | (simp; omega)) ?_
    refine KOps.buildSliceS (cs := (wc (ws.getD i default))) hS rfl rfl rfl (by decide) ?_
    intro v22 h' hS
    refine KOps.append hS (fun _ => rfl) (i := 4) rfl (a := i) (by rw [flr_len wc_len, List.length_take]; omega) (hS.rd 0 rfl) (b := 1) rfl rfl (by omega) ?_
    intro r23 h' hS
    simp only [List.set_cons_zero, List.set_cons_succ, Nat.zero_add] at hS
    have hr23 : r23.one = true := St.one hS (k := 4) rfl
    have hS0 := St.tail hS
    clear hS
    have hS := hS0
    clear hS0
    refine KOps.fieldAddr hp3 ?_
    intro p24 hp24
    refine KOps.store hS rfl (i := 0) rfl hp24 (by first | rfl | assumption) (by first | decide | simp) ?_
    intro h' hS
    simp only [List.set_cons_zero, List.set_cons_succ, Nat.zero_add] at hS
    refine KOps.done ?_
    refine blQ.normal ?_
    refine sqQ.normal ?_
    refine KA.sub (Sub.cons (t := 1) Look.eq (Sub.cons (t := 2) Look.eq (Sub.cons (t := 3) Look.eq (Sub.cons (t := 4) Look.eq (Sub.nil _))))) ?_
    refine KA.region rfl ?_
    refine KOps.move ?_
    refine KOps.add (by first | omega | (simp; omega)) (by first | omega | (simp; omega)) ?_
    refine KOps.assign ?_
    refine KOps.done ?_
    rw [takeW_next (by omega)] at hS
    exact lpQ.normal (i + 1, r23) (by repeat (first | exact Sub.nil _ | refine Sub.cons Look.eq ?_ | refine Sub.cons (Eq.trans Look.eq (congrArg (AV.int _) (by first | omega | (dsimp only; omega)))) ?_)) ⟨by dsimp only; omega, hS⟩ (by dsimp only; omega)
  · intro c12
    refine KA.exit ?_
    refine sqQ.exit ?_
    refine lpQ.exit ?_
    refine blQ.here ?_
    refine sqQ.normal ?_
    refine KA.sub (Sub.cons (t := 2) Look.eq (Sub.cons (t := 3) Look.eq (Sub.nil _))) ?_
    refine KA.seq ?_
    refine KA.region rfl ?_
    refine KOps.loadAll hS (i := 0) rfl hp3 (by rfl) (by decide) ?_
    refine KOps.storeAll hS rfl (i := 1) rfl hp2 (by show (true && (vo.one && true)) = true; rw [St.one hS (k := 3) rfl]; rfl) (by rfl) (by rfl) (by decide) ?_
    intro h' hS
    simp only [List.set_cons_zero, List.set_cons_succ, Nat.zero_add] at hS
    refine KOps.done ?_
    refine sqQ.normal ?_
    refine KA.sub (Sub.cons (t := 2) Look.eq (Sub.nil _)) ?_
    refine KA.ret ?_
    refine fnC.retC hS (i := 1) rfl hp2 (by rfl) (by simp) ?_
    have hie : i = ws.length := by omega
    subst hie
    rw [List.take_length] at hS
    exact ⟨_, rfl, St.pick [3] (by decide) rfl hS⟩

theorem books_c {h : AHeap} {rm : Int} {vn : AV} {l : List Int} {m : Nat} (hn : Row h vn l) (hl : l.length = 4 * m) (hm : m ≤ 1000) : ACalls Go.Proofs.Tryd.prog 52 [.int .i64 rm, vn] h (fun q h' => ∃ v, q = .agg [.int .i64 rm, v] ∧ St h h' [⟨v, 4, flr wc (waysTo l m), true⟩]) := by
  refine KA.fnH 42 [.cell 4 24] Go.Proofs.Tryd.func52 rfl (by decide) rfl rfl (Nat.le_of_ble_eq_true rfl) ?_
  have hS := St.refl h
  show KA _ 42 _ _ [(0, .int .i64 rm), (1, vn)] _
  refine KA.seq ?_
  refine KA.region rfl ?_
  refine KOps.alloc hS ?_
  intro p4 h' hp4 hS
  refine KOps.done ?_
  refine sqQ.normal ?_
  refine KA.seq ?_
  refine KA.region rfl ?_
  refine KOps.move ?_
  refine KOps.buildS12 (z0 := .int .i64 0) (z1 := .nils) (by kernel_rfl) (by rfl) (by kernel_rfl) (by kernel_rfl) (by first | rfl | assumption) ?_
  refine KOps.alloc hS ?_
  intro p5 h' hp5 hS
  refine KOps.storeAll hS rfl (i := 0) rfl hp5 (by first | rfl | (simp [AV.one]; done) | (simp [AV.one]; assumption) | (simp [AV.one, *]; done)) (by rfl) (by rfl) (by decide) ?_
  intro h' hS
  simp only [List.set_cons_zero, List.set_cons_succ, Nat.zero_add] at hS
  refine KOps.done ?_
  refine sqQ.normal ?_
  refine KA.sub (Sub.cons (t := 1) Look.eq (Sub.cons (t := 4) Look.eq (Sub.cons (t := 5) Look.eq (Sub.nil _)))) ?_
  refine KA.seq ?_
  refine KA.seq ?_
  refine KA.region rfl ?_
  refine KOps.assign ?_
  refine KOps.done ?_
  refine sqQ.normal ?_
  refine KA.block ?_
  refine KA.loop (X := Nat × AV) (fun x => [(1, vn), (4, p4), (5, p5), (6, .int .i64 ((4 * x.1 : Nat) : Int))]) (fun x h' => x.1 ≤ m ∧ St h h' [⟨p5, 0, [.int .i64 rm, x.2], true⟩, ⟨p4, 0, [.int .i64 0, .nils], true⟩, ⟨x.2, 4, flr wc (waysTo l x.1), true⟩]) (fun x => m - x.1) (0, .nils) (by repeat (first | exact Sub.nil _ | refine Sub.cons Look.eq ?_ | refine Sub.cons (Eq.trans Look.eq (congrArg (AV.int _) (by first | omega | (dsimp only; omega)))) ?_)) ?_ ?_
  · exact ⟨Nat.zero_le _, St.addNil 4 true hS⟩
  rintro ⟨i, vo⟩ h3 ⟨hi, hS⟩
  dsimp only at hi hS ⊢
  refine KA.seq ?_
  refine KA.seq ?_
  refine KA.region rfl ?_
  refine KOps.move ?_
  refine KOps.add (by first | omega | (simp; omega)) (by first | omega | (simp; omega)) ?_
  refine KOps.move ?_
  refine KOps.lenI (Row.ext hS.keeps hn) ?_
  refine KOps.lss ?_
  refine KOps.done ?_
  refine sqQ.normal ?_
  refine KA.sub (Sub.cons (t := 1) Look.eq (Sub.cons (t := 4) Look.eq (Sub.cons (t := 5) Look.eq (Sub.cons (t := 6) Look.eq (Sub.cons (t := 13) Look.eq (Sub.nil _)))))) ?_
  refine KA.condD ?_ ?_
  · intro c13
    refine KA.skip ?_
    refine sqQ.normal ?_
    refine KA.sub (Sub.cons (t := 1) Look.eq (Sub.cons (t := 4) Look.eq (Sub.cons (t := 5) Look.eq (Sub.cons (t := 6) Look.eq (Sub.nil _))))) ?_
    refine KA.seq ?_
    refine KA.block ?_
    refine KA.draw [23] mixed rfl (by kernel_rfl) ?_
    refine KOps.fieldAddr hp5 ?_
    intro p16 hp16
    refine KOps.load hp16 (hS.rd 0 rfl) rfl ?_
    refine KOps.move ?_
    refine KOps.move ?_
    refine KOps.indexIJ (Row.ext hS.keeps hn) (j := (4 * i)) (by first | omega | (simp; omega)) (by first | omega | (simp; omega)) ?_
    intro p20 hp20
    refine KOps.loadI hp20 (Row.ext hS.keeps hn) (by first | omega | (simp; omega)) ?_
    refine KOps.move ?_
    refine KOps.move ?_
    refine KOps.add (by first | omega | (simp; omega)) (by first | omega | (simp; omega)) ?_
    refine KOps.indexIJ (Row.ext hS.keeps hn) (j := (4 * i + 1)) (by first | omega | (simp; omega)) (by first | omega | (simp; omega)) ?_
    intro p25 hp25
    refine KOps.loadI hp25 (Row.ext hS.keeps hn) (by first | omega | (simp; omega)) ?_
    refine KOps.move ?_
    refine KOps.move ?_
    refine KOps.add (by first | omega | (simp; omega)) (by first | omega | (simp; omega)) ?_
    refine KOps.indexIJ (Row.ext hS.keeps hn) (j := (4 * i + 2)) (by first | omega | (simp; omega)) (by first | omega | (simp; omega)) ?_
    intro p30 hp30
    refine KOps.loadI hp30 (Row.ext hS.keeps hn) (by first | omega | (simp; omega)) ?_
    refine KOps.move ?_
    refine KOps.move ?_
    refine KOps.add (by first | omega | (simp; omega)) (by first | omega | (simp; omega)) ?_
    refine KOps.indexIJ (Row.ext hS.keeps hn) (j := (4 * i + 3)) (by first | omega | (simp; omega)) (by first | omega | (simp; omega)) ?_
    intro p35 hp35
    refine KOps.loadI hp35 (Row.ext hS.keeps hn) (by first | omega | (simp; omega)) ?_
    refine KOps.buildS4 (z0 := .int .i64 0) (z1 := .int .i64 0) (z2 := .int .i64 0) (z3 := .int .i64 0) (by kernel_rfl) (by rfl) (by kernel_rfl) (by kernel_rfl) (by kernel_rfl) (by kernel_rfl) (by kernel_rfl) (by first | rfl | assumption) (by first | rfl | assumption) (by first | rfl | assumption) (by first | rfl | assumption) ?_
    refine KOps.buildSliceS (cs := (wc (wayAt l i))) hS rfl rfl rfl (by decide) ?_
    intro v38 h' hS
    refine KOps.append hS (fun _ => rfl) (i := 3) rfl (a := i) (by rw [flr_len wc_len, waysTo_len]) (hS.rd 0 rfl) (b := 1) rfl rfl (by omega) ?_
    intro r39 h' hS
    simp only [List.set_cons_zero, List.set_cons_succ, Nat.zero_add] at hS
    have hr39 : r39.one = true := St.one hS (k := 3) rfl
    have hS0 := St.tail hS
    clear hS
    have hS := hS0
    clear hS0
    refine KOps.fieldAddr hp5 ?_
    intro p40 hp40
    refine KOps.store hS rfl (i := 0) rfl hp40 (by first | rfl | assumption) (by first | decide | simp) ?_
    intro h' hS
    simp only [List.set_cons_zero, List.set_cons_succ, Nat.zero_add] at hS
    refine KOps.done ?_
    refine blQ.normal ?_
    refine sqQ.normal ?_
    refine KA.sub (Sub.cons (t := 1) Look.eq (Sub.cons (t := 4) Look.eq (Sub.cons (t := 5) Look.eq (Sub.cons (t := 6) Look.eq (Sub.nil _))))) ?_
    refine KA.region rfl ?_
    refine KOps.move ?_
    refine KOps.add (by first | omega | (simp; omega)) (by first | omega | (simp; omega)) ?_
    refine KOps.assign ?_
    refine KOps.done ?_
    rw [waysTo_next] at hS
    exact lpQ.normal (i + 1, r39) (by repeat (first | exact Sub.nil _ | refine Sub.cons Look.eq ?_ | refine Sub.cons (Eq.trans Look.eq (congrArg (AV.int _) (by first | omega | (dsimp only; omega)))) ?_)) ⟨by dsimp only; omega, hS⟩ (by dsimp only; omega)
  · intro c13
    refine KA.exit ?_
    refine sqQ.exit ?_
    refine lpQ.exit ?_
    refine blQ.here ?_
    refine sqQ.normal ?_
    refine KA.sub (Sub.cons (t := 4) Look.eq (Sub.cons (t := 5) Look.eq (Sub.nil _))) ?_
    refine KA.seq ?_
    refine KA.region rfl ?_
    refine KOps.loadAll hS (i := 0) rfl hp5 (by rfl) (by decide) ?_
    refine KOps.storeAll hS rfl (i := 1) rfl hp4 (by show (true && (vo.one && true)) = true; rw [St.one hS (k := 2) rfl]; rfl) (by rfl) (by rfl) (by decide) ?_
    intro h' hS
    simp only [List.set_cons_zero, List.set_cons_succ, Nat.zero_add] at hS
    refine KOps.done ?_
    refine sqQ.normal ?_
    refine KA.sub (Sub.cons (t := 4) Look.eq (Sub.nil _)) ?_
    refine KA.ret ?_
    refine fnC.retC hS (i := 1) rfl hp4 (by rfl) (by simp) ?_
    have hie : i = m := by omega
    subst hie
    exact ⟨_, rfl, St.pick [2] (by decide) rfl hS⟩

theorem lst_c {h : AHeap} {v : AV} : ACalls Go.Proofs.Tryd.prog 51 [v] h (fun q h' => q = v ∧ h = h') := by
  refine KA.fn 4 [.tmp 2] Go.Proofs.Tryd.func51 rfl (by decide) rfl rfl (Nat.le_of_ble_eq_true rfl) ?_
  show KA _ 4 _ _ [(0, v)] _
  refine KA.seq ?_
  refine KA.region rfl ?_
  refine KOps.assign ?_
  refine KOps.done ?_
  refine sqQ.normal ?_
  refine KA.sub (Sub.cons (t := 0) Look.eq (Sub.nil _)) ?_
  refine KA.seq ?_
  refine KA.region rfl ?_
  refine KOps.move ?_
  refine KOps.assign ?_
  refine KOps.done ?_
  refine sqQ.normal ?_
  refine KA.sub (Sub.cons (t := 2) Look.eq (Sub.nil _)) ?_
  refine KA.ret ?_
  refine fnQ.ret1 ?_
  exact ⟨rfl, rfl⟩

def wB : List W := [⟨0, 1, 5, 9⟩, ⟨1, 2, 0, 7⟩, ⟨2, 0, 4, 6⟩]
def wC : List W := [⟨0, 1, 5, 9⟩, ⟨1, 2, 0, 3⟩, ⟨2, 0, 0, 9⟩, ⟨1, 0, 0, 1⟩]

theorem B_c {h : AHeap} : ACalls Go.Proofs.Tryd.prog 50 [] h (fun q h' => ∃ v, q = .agg [.int .i64 3, v] ∧ St h h' [⟨v, 4, flr wc wB, true⟩]) := by
  refine KA.fnH 3 [.cell 0 24] Go.Proofs.Tryd.func50 rfl (by decide) rfl rfl (Nat.le_of_ble_eq_true rfl) ?_
  have hS := St.refl h
  show KA _ 3 _ _ [] _
  refine KA.seq ?_
  refine KA.region rfl ?_
  refine KOps.alloc hS ?_
  intro p0 h' hp0 hS
  refine KOps.done ?_
  refine sqQ.normal ?_
  refine KA.seq ?_
  refine KA.region rfl ?_
  refine KOps.buildSlice hS rfl (by decide) rfl ?_
  intro v1 h' hS
  refine KOps.call rfl (books_c (l := [0, 1, 5, 9, 1, 2, 0, 7, 2, 0, 4, 6]) (m := 3) (hS.rd 0 rfl) rfl (by decide)) ?_
  rintro _ h5 ⟨vb, rfl, hSB⟩
  have hS0 : St _ _ (_ :: _) := St.trans hS hSB
  clear hS
  have hS := hS0
  clear hS0
  have hvb : vb.one = true := St.one hS (k := 0) rfl
  refine KOps.storeAll hS rfl (i := 2) rfl hp0 (by show (true && (vb.one && true)) = true; rw [hvb]; rfl) (by rfl) (by rfl) (by decide) ?_
  intro h' hS
  simp only [List.set_cons_zero, List.set_cons_succ, Nat.zero_add] at hS
  refine KOps.done ?_
  refine sqQ.normal ?_
  refine KA.sub (Sub.cons (t := 0) Look.eq (Sub.nil _)) ?_
  refine KA.ret ?_
  refine fnC.retC hS (i := 2) rfl hp0 (by rfl) (by simp) ?_
  exact ⟨_, rfl, St.pick [0] (by decide) rfl hS⟩

theorem C_c {h : AHeap} : ACalls Go.Proofs.Tryd.prog 53 [] h (fun q h' => ∃ v, q = .agg [.int .i64 3, v] ∧ St h h' [⟨v, 4, flr wc wC, true⟩]) := by
  refine KA.fnH 3 [.cell 0 24] Go.Proofs.Tryd.func53 rfl (by decide) rfl rfl (Nat.le_of_ble_eq_true rfl) ?_
  have hS := St.refl h
  show KA _ 3 _ _ [] _
  refine KA.seq ?_
  refine KA.region rfl ?_
  refine KOps.alloc hS ?_
  intro p0 h' hp0 hS
  refine KOps.done ?_
  refine sqQ.normal ?_
  refine KA.seq ?_
  refine KA.region rfl ?_
  refine KOps.buildSlice hS rfl (by decide) rfl ?_
  intro v1 h' hS
  refine KOps.call rfl (books_c (l := [0, 1, 5, 9, 1, 2, 0, 3, 2, 0, 0, 9, 1, 0, 0, 1]) (m := 4) (hS.rd 0 rfl) rfl (by decide)) ?_
  rintro _ h5 ⟨vb, rfl, hSB⟩
  have hS0 : St _ _ (_ :: _) := St.trans hS hSB
  clear hS
  have hS := hS0
  clear hS0
  have hvb : vb.one = true := St.one hS (k := 0) rfl
  refine KOps.storeAll hS rfl (i := 2) rfl hp0 (by show (true && (vb.one && true)) = true; rw [hvb]; rfl) (by rfl) (by rfl) (by decide) ?_
  intro h' hS
  simp only [List.set_cons_zero, List.set_cons_succ, Nat.zero_add] at hS
  refine KOps.done ?_
  refine sqQ.normal ?_
  refine KA.sub (Sub.cons (t := 0) Look.eq (Sub.nil _)) ?_
  refine KA.ret ?_
  refine fnC.retC hS (i := 2) rfl hp0 (by rfl) (by simp) ?_
  exact ⟨_, rfl, St.pick [0] (by decide) rfl hS⟩

theorem spans_c {h : AHeap} {v u : AV} {a b : List (Int × Int)} (hv : Rd h v 2 (flr pc a)) (hu : Rd h u 2 (flr pc b)) (hla : a.length ≤ 1000000) : ACalls Go.Proofs.Tryd.prog 39 [v, u] h (fun q h' => q = .bool (decide (a = b)) ∧ h = h') := by
  refine KA.fn 26 [.tmp 4] Go.Proofs.Tryd.func39 rfl (by decide) rfl rfl (Nat.le_of_ble_eq_true rfl) ?_
  show KA _ 26 _ _ [(0, v), (1, u)] _
  refine KA.seq ?_
  refine KA.region rfl ?_
  refine KOps.assign ?_
  refine KOps.done ?_
  refine sqQ.normal ?_
  refine KA.sub (Sub.cons (t := 0) Look.eq (Sub.cons (t := 1) Look.eq (Sub.nil _))) ?_
  refine KA.seq ?_
  refine KA.seq ?_
  refine KA.region rfl ?_
  refine KOps.move ?_
  refine KOps.lenF pc_len hv ?_
  refine KOps.move ?_
  refine KOps.lenF pc_len hu ?_
  refine KOps.neq ?_
  refine KOps.done ?_
  refine sqQ.normal ?_
  refine KA.sub (Sub.cons (t := 0) Look.eq (Sub.cons (t := 1) Look.eq (Sub.cons (t := 10) Look.eq (Sub.nil _)))) ?_
  refine KA.condN ?_ ?_
  · intro c10
    refine KA.seq ?_
    refine KA.region rfl ?_
    refine KOps.assign ?_
    refine KOps.done ?_
    refine sqQ.normal ?_
    refine KA.sub (Sub.cons (t := 4) Look.eq (Sub.nil _)) ?_
    refine KA.ret ?_
    refine sqQ.ret ?_
    refine fnQ.ret1 ?_
    refine ⟨congrArg AV.bool (decide_eq_false fun e => ?_).symm, rfl⟩
    subst e
    omega
  · intro c10
    have hlab : a.length = b.length := by omega
    refine KA.skip ?_
    refine sqQ.normal ?_
    refine KA.sub (Sub.cons (t := 0) Look.eq (Sub.cons (t := 1) Look.eq (Sub.nil _))) ?_
    refine KA.seq ?_
    refine KA.seq ?_
    refine KA.region rfl ?_
    refine KOps.assign ?_
    refine KOps.done ?_
    refine sqQ.normal ?_
    refine KA.block ?_
    refine KA.loop (X := Nat) (fun i => [(0, v), (1, u), (5, .int .i64 (i : Int))]) (fun i h' => h = h' ∧ i ≤ a.length ∧ ∀ j, j < i → a.getD j default = b.getD j default) (fun i => a.length - i) 0 (by repeat (first | exact Sub.nil _ | refine Sub.cons Look.eq ?_ | refine Sub.cons (Eq.trans Look.eq (congrArg (AV.int _) (by first | omega | (dsimp only; omega)))) ?_)) ?_ ?_
    · exact ⟨rfl, Nat.zero_le _, fun j hj => by omega⟩
    rintro i _ ⟨rfl, hi, hj⟩
    refine KA.seq ?_
    refine KA.seq ?_
    refine KA.region rfl ?_
    refine KOps.move ?_
    refine KOps.move ?_
    refine KOps.lenF pc_len hv ?_
    refine KOps.lss ?_
    refine KOps.done ?_
    refine sqQ.normal ?_
    refine KA.sub (Sub.cons (t := 0) Look.eq (Sub.cons (t := 1) Look.eq (Sub.cons (t := 5) Look.eq (Sub.cons (t := 14) Look.eq (Sub.nil _))))) ?_
    refine KA.condD ?_ ?_
    · intro c14
      refine KA.skip ?_
      refine sqQ.normal ?_
      refine KA.sub (Sub.cons (t := 0) Look.eq (Sub.cons (t := 1) Look.eq (Sub.cons (t := 5) Look.eq (Sub.nil _)))) ?_
      refine KA.seq ?_
      refine KA.block ?_
      refine KA.seq ?_
      refine KA.draw [] mixed rfl (by kernel_rfl) ?_
      refine KOps.move ?_
      refine KOps.move ?_
      refine KOps.indexF pc_len hv (j := i) rfl (by first | omega | (simp; omega)) ?_
      intro p19 hp19
      refine KOps.loadFl pc_len (by decide) hp19 hv (by first | omega | (simp; omega)) ?_
      refine KOps.move ?_
      refine KOps.move ?_
      refine KOps.indexF pc_len hu (j := i) rfl (by first | omega | (simp; omega)) ?_
      intro p23 hp23
      refine KOps.loadFl pc_len (by decide) hp23 hu (by first | omega | (simp; omega)) ?_
      refine KOps.neqPc ?_
      refine KOps.done ?_
      refine sqQ.normal ?_
      refine KA.sub (Sub.cons (t := 0) Look.eq (Sub.cons (t := 1) Look.eq (Sub.cons (t := 5) Look.eq (Sub.cons (t := 25) Look.eq (Sub.nil _))))) ?_
      refine KA.condN ?_ ?_
      · intro c25
        refine KA.seq ?_
        refine KA.region rfl ?_
        refine KOps.assign ?_
        refine KOps.done ?_
        refine sqQ.normal ?_
        refine KA.sub (Sub.cons (t := 4) Look.eq (Sub.nil _)) ?_
        refine KA.ret ?_
        refine blQ.ret ?_
        refine sqQ.ret ?_
        refine lpQ.ret ?_
        refine blQ.ret ?_
        refine sqQ.ret ?_
        refine fnQ.ret1 ?_
        exact ⟨congrArg AV.bool (decide_eq_false fun e => c25 (by rw [e])).symm, rfl⟩
      · intro c25
        refine KA.skip ?_
        refine blQ.normal ?_
        refine sqQ.normal ?_
        refine KA.sub (Sub.cons (t := 0) Look.eq (Sub.cons (t := 1) Look.eq (Sub.cons (t := 5) Look.eq (Sub.nil _)))) ?_
        refine KA.region rfl ?_
        refine KOps.move ?_
        refine KOps.add (by first | omega | (simp; omega)) (by first | omega | (simp; omega)) ?_
        refine KOps.assign ?_
        refine KOps.done ?_
        refine lpQ.normal (i + 1) (by repeat (first | exact Sub.nil _ | refine Sub.cons Look.eq ?_ | refine Sub.cons (Eq.trans Look.eq (congrArg (AV.int _) (by first | omega | (dsimp only; omega)))) ?_)) ⟨rfl, by omega, ?_⟩ (by omega)
        intro j hj2
        rcases Nat.lt_succ_iff_lt_or_eq.1 hj2 with h3 | rfl
        · exact hj j h3
        · exact c25
    · intro c14
      refine KA.exit ?_
      refine sqQ.exit ?_
      refine lpQ.exit ?_
      refine blQ.here ?_
      refine sqQ.normal ?_
      refine KA.sub (Sub.nil _) ?_
      refine KA.seq ?_
      refine KA.region rfl ?_
      refine KOps.assign ?_
      refine KOps.done ?_
      refine sqQ.normal ?_
      refine KA.ret ?_
      refine fnQ.ret1 ?_
      refine ⟨congrArg AV.bool (decide_eq_true ?_).symm, rfl⟩
      refine List.ext_getElem (by omega) fun k h1 h2 => ?_
      have := hj k (by omega)
      rw [List.getD_eq_getElem?_getD, List.getD_eq_getElem?_getD, List.getElem?_eq_getElem h1, List.getElem?_eq_getElem h2] at this
      exact this

end Go.Am

namespace Go.Am
theorem chkWB : chkB 3 wB = 0 := by decide +kernel
theorem chkWC : chkB 3 wC = 0 := by decide +kernel
theorem canWB : canP 3 wB = true := by decide +kernel
theorem canWC : canP 3 wC = false := by decide +kernel
theorem agrWB : agreeE 3 wB = 0 := by decide +kernel
theorem agaWC : againE 3 wC = 0 := by decide +kernel
theorem agaWB : againE 3 wB = 13 := by decide +kernel
theorem fewWC : fewL (proofB wC) (2 ^ (3 : Int).toNat) = [0, 2] := by decide +kernel
theorem verWB : verE 3 wB [5, 5, 5] = 0 := by decide +kernel
theorem verWB2 : verE 3 wB [5, 6, 6] = 17 := by decide +kernel
theorem verWB3 : verE 3 wB [6, 6, 6] = 0 := by decide +kernel
theorem provWC : provE 3 wC [0, 2] = 0 := by decide +kernel
theorem provWC1 : provE 3 wC [1] = 14 := by decide +kernel
theorem sayWB : sayE 3 wB [0, 1] 1 = 0 ∧ sayV 3 wB [0, 1] 1 = 6 := by decide +kernel
theorem sayWB2 : sayE 3 wB [2] 0 = 12 := by decide +kernel
theorem askWB (i : Nat) (h : i < 3) : askE 3 wB (i : Int) = 0 := by
  have : ∀ i : Nat, i < 3 → askE 3 wB (i : Int) = 0 := by decide +kernel
  exact this i h
/-- All flows of B: each way has the same number, 5 or 6. -/
theorem flowWB {n : List Int} (h : Flow wB n) : ∃ v, n = [v, v, v] ∧ 5 ≤ v ∧ v ≤ 6 := by
  have hl : n.length = 3 := h.len
  match n, hl with
  | [a, b, c], _ =>
    have l0 : (5 : Int) ≤ a := h.lo 0 (by decide)
    have m0 : a ≤ 9 := h.hi 0 (by decide)
    have l2 : (4 : Int) ≤ c := h.lo 2 (by decide)
    have m2 : c ≤ 6 := h.hi 2 (by decide)
    have k0 := h.kp 0
    have k1 := h.kp 1
    have e0 : kept wB [a, b, c] 0 = 0 + a * (0 - 1) + b * (0 - 0) + c * (1 - 0) := rfl
    have e1 : kept wB [a, b, c] 1 = 0 + a * (1 - 0) + b * (0 - 1) + c * (0 - 0) := rfl
    rw [e0] at k0
    rw [e1] at k1
    have h1 : b = a := by omega
    have h2 : c = a := by omega
    subst h1 h2
    exact ⟨_, rfl, l0, m2⟩
theorem flowWB5 : Flow wB [5, 5, 5] := (verE_flow verWB).2
theorem flowWB6 : Flow wB [6, 6, 6] := (verE_flow verWB3).2
theorem exWB : ∃ n, Flow wB n := ⟨_, flowWB5⟩
theorem lexWB : firstOf wB = [5, 5, 5] := by
  refine (firstOf_is exWB).uniq ⟨flowWB5, fun m hm i hi _ => ?_⟩
  obtain ⟨v, rfl, h1, h2⟩ := flowWB hm
  have hi : i < 3 := hi
  match i, hi with
  | 0, _ => exact h1
  | 1, _ => exact h1
  | 2, _ => exact h1
theorem nextWB : nextOf wB [5, 5, 5] = some [6, 6, 6] := by
  refine nextOf_some (i := 0) ⟨by decide, flowWB6, fun k hk => by omega, rfl, ?_, ?_⟩
  · intro m hm k h1 h2 h3
    obtain ⟨v, rfl, h4, h5⟩ := flowWB hm
    have h6 : v = 6 := h3 0 h1
    subst h6
    exact Int.le_refl _
  · intro k h1 h2
    rintro ⟨m, hm, h3, h4⟩
    obtain ⟨v, rfl, h5, h6⟩ := flowWB hm
    have h7 : v = 5 := h3 0 h1
    subst h7
    exact Int.lt_irrefl _ h4
theorem otherWB : otherE 3 wB [5, 5, 5] = 0 ∧ otherL 3 wB [5, 5, 5] = [6, 6, 6] := by
  constructor
  · rw [otherE, if_pos verWB, if_pos lexWB, nextWB]; rfl
  · rw [otherL, if_pos verWB, if_pos lexWB, nextWB]; rfl
theorem getWB (v : Int) {i : Nat} (h : i < 3) : ([v, v, v] : List Int).getD i 0 = v := by
  match i, h with
  | 0, _ => rfl
  | 1, _ => rfl
  | 2, _ => rfl
theorem loWB {i : Nat} (h : i < 3) : loOf wB i = 5 := by
  refine (loOf_is exWB h).uniq ⟨⟨_, flowWB5, getWB 5 h⟩, fun n hn => ?_⟩
  obtain ⟨v, rfl, h1, h2⟩ := flowWB hn
  rw [getWB v h]; exact h1
theorem hiWB {i : Nat} (h : i < 3) : hiOf wB i = 6 := by
  refine (hiOf_is exWB h).uniq ⟨⟨_, flowWB6, getWB 6 h⟩, fun n hn => ?_⟩
  obtain ⟨v, rfl, h1, h2⟩ := flowWB hn
  rw [getWB v h]; exact h2
theorem spansWB : spansTo wB wB.length = [(5, 6), (5, 6), (5, 6)] := by
  show [(loOf wB 0, hiOf wB 0), (loOf wB 1, hiOf wB 1), (loOf wB 2, hiOf wB 2)] = _
  rw [loWB (by decide), loWB (by decide), loWB (by decide), hiWB (by decide), hiWB (by decide), hiWB (by decide)]
theorem openWB : openTo wB wB.length = [0, 1, 2] := by
  have h : ∀ i, i < 3 → loOf wB i < hiOf wB i := fun i hi => by rw [loWB hi, hiWB hi]; decide
  show openTo wB 3 = _
  rw [openTo_succ, if_pos (h 2 (by decide)), openTo_succ, if_pos (h 1 (by decide)), openTo_succ, if_pos (h 0 (by decide))]
  rfl
theorem boundWB {i : Nat} (h : i < 3) (g : Bool) : boundL 3 wB (i : Int) g = if (if g then 6 else 5) = ownI wB i g then [] else fewL (fun s => if g then lvs (wB.getD i default) s && decide (saysV wB s i = 6) else ens (wB.getD i default) s && decide (saysV wB s i = 5)) 8 := by
  have h1 : endI wB i g = if g then 6 else 5 := by unfold endI; rw [loWB h, hiWB h]
  have h2 : pB wB i g = fun s => if g then lvs (wB.getD i default) s && decide (saysV wB s i = 6) else ens (wB.getD i default) s && decide (saysV wB s i = 5) := by
    funext s; unfold pB; rw [loWB h, hiWB h]
  rw [boundL, if_pos (askWB i h), Int.toNat_natCast, h1, h2]
  rfl
theorem boundWB1 : boundL 3 wB 1 true = [0, 1] := (boundWB (i := 1) (by decide) true).trans (by decide +kernel)
end Go.Am
