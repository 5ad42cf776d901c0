/-
  Layer 01: what rooms say of a way, and the rooms that prove the ends of its span.
  Conditions: none.
-/
import Derived.Test.YtildfacbjdhbnaaDoorPq
namespace Go.Am
theorem St.rep1 {h0 h : AHeap} {a b : Obj} {M : List Obj} (st : St h0 h (a :: b :: M)) : St h0 h (a :: M) := St.tail (St.swap (A := [a]) (B := [b]) (C := M) st)
theorem St.rep2 {h0 h : AHeap} {a b c : Obj} {M : List Obj} (st : St h0 h (a :: b :: c :: M)) : St h0 h (b :: a :: M) := St.tail (St.swap (A := [b, a]) (B := [c]) (C := M) (St.swap (A := [a]) (B := [b]) (C := c :: M) st))
theorem ask_all {r : Nat} {ws : List W} (hB : BOk (r : Int) ws) {i : Nat} (hi : i < ws.length) : askE (r : Int) ws (i : Int) = if 0 < (allF ws).length then 0 else 12 := by
  rw [askE, if_pos (chk_of_B hB), if_pos (by omega), agree_all hB, can_all hB]
  by_cases h : 0 < (allF ws).length
  · rw [decide_eq_true h, if_pos rfl, if_pos h]
  · rw [decide_eq_false h, if_neg (by decide), if_neg h]
theorem cross_not {ws : List W} {s i : Nat} (h : crosses ws s i = false) : ¬ lvs (ws.getD i default) s = true ∧ ¬ ens (ws.getD i default) s = true := by
  unfold crosses at h
  revert h
  cases lvs (ws.getD i default) s <;> cases ens (ws.getD i default) s <;> simp
theorem say_none (r : Nat) {ws : List W} (hB : BOk (r : Int) ws) (h0 : ws.length = 0) : sayE (r : Int) ws [] 0 = 2 := by
  have hk : askR (r : Int) ws 0 = 2 := by rw [askR, if_pos (chk_of_B hB), if_neg (by omega)]
  rw [sayE, if_neg (by rw [hk]; decide), hk]

theorem law_said {h : AHeap} {a : Int} {vH : AV} {hs : List H4} (hv : Rd h vH 4 (flr hc hs)) (ha0 : 0 ≤ a) (ha1 : a ≤ 255) (hx : ∀ i, i < hs.length → (hs.getD i default).Ok) (hSz : Sizes h) {kk : Int} (hk0 : 0 ≤ kk) (hk1 : kk ≤ 255) : ACalls Go.Proofs.Tryd.prog 10 [.agg [.int .u8 a, vH], .int .u8 kk] h (fun q h' => q = .bool true) := by
  refine KA.fn 277 [.tmp 4] Go.Proofs.Tryd.func10 rfl (by decide) rfl rfl (Nat.le_of_ble_eq_true rfl) ?_
  have hS := St.refl h
  have hvo : vH.one = true := hv.one
  show KA _ 277 _ _ [(0, .agg [.int .u8 a, vH]), (1, .int .u8 kk)] _
  refine KA.seq ?_
  refine KA.region rfl ?_
  refine KOps.boxAll hS (by first | rfl | (simp [AV.one]; done) | (simp [AV.one]; assumption) | (simp [AV.one, *]; done)) ?_
  intro p2 h' hp2 hS
  refine KOps.assign ?_
  refine KOps.done ?_
  refine sqQ.normal ?_
  refine KA.sub (Sub.cons (t := 1) Look.eq (Sub.cons (t := 2) Look.eq (Sub.nil _))) ?_
  refine KA.seq ?_
  refine KA.region rfl ?_
  refine KOps.loadAll hS (i := 0) rfl hp2 (by rfl) (by decide) ?_
  refine KOps.call rfl (made_c (m := 5) (Rd.ext hS.keeps hv) ha0 ha1 hx (by decide)) ?_
  rintro _ h2 ⟨vB, rfl, hSM⟩
  have hS0 : St _ _ (_ :: _) := St.trans hS hSM
  clear hS
  have hS := hS0
  clear hS0
  have hvB : vB.one = true := St.one hS (k := 0) rfl
  have hrb := roomsOf_b ha0
  have hB := made_ok (hs := hs) (k := 5) hrb.1 (by omega) (by decide) hx
  have hT := made_thin (roomsOf a) hs 5 hx
  have hwl5 : (madeW (roomsOf a) hs 5).length ≤ 5 := by rw [madeW_len]; omega
  generalize madeW (roomsOf a) hs 5 = ws at hB hT hS hwl5 ⊢
  obtain ⟨r, hr⟩ : ∃ r : Nat, roomsOf a = (r : Int) := ⟨(roomsOf a).toNat, by omega⟩
  rw [hr] at hB hrb ⊢
  have hpw : 2 ^ r ≤ 2 ^ 6 := Nat.pow_le_pow_right (by decide) (by omega)
  have hsh := shl64 r (by omega)
  have hc0 := chk_of_B hB
  have hwl := hB.len
  refine KOps.alloc hS ?_
  intro p5 h' hp5 hS
  refine KOps.storeAll hS rfl (i := 0) rfl hp5 (by show (true && (vB.one && true)) = true; rw [hvB]; rfl) (by rfl) (by rfl) (by decide) ?_
  intro h' hS
  simp only [List.set_cons_zero, List.set_cons_succ, Nat.zero_add] at hS
  refine KOps.done ?_
  refine sqQ.normal ?_
  refine KA.sub (Sub.cons (t := 1) Look.eq (Sub.cons (t := 5) Look.eq (Sub.nil _))) ?_
  refine KA.seq ?_
  refine KA.seq ?_
  refine KA.region rfl ?_
  refine KOps.fieldAddr hp5 ?_
  intro p32 hp32
  refine KOps.load hp32 (hS.rd 0 rfl) rfl ?_
  refine KOps.lenF wc_len (hS.rd 1 rfl) ?_
  refine KOps.eql ?_
  refine KOps.done ?_
  refine sqQ.normal ?_
  refine KA.sub (Sub.cons (t := 1) Look.eq (Sub.cons (t := 5) Look.eq (Sub.cons (t := 35) Look.eq (Sub.nil _)))) ?_
  refine KA.condD ?_ ?_
  · intro c35
    refine KA.seq ?_
    refine KA.region rfl ?_
    refine KOps.loadAll hS (i := 0) rfl hp5 (by rfl) (by decide) ?_
    refine KOps.call rfl (stSays_c (hS.rd 1 rfl) (Row.nil _) (by simp)) ?_
    rintro _ h3 ⟨rfl, hK⟩
    have hS0 : St _ _ (_ :: _) := St.trans hS (St.ofK hK)
    clear hS
    have hS := hS0
    clear hS0

    refine KOps.move ?_
    refine KOps.extract ?_
    refine KOps.extract ?_
    refine KOps.assign ?_
    refine KOps.assign ?_
    refine KOps.done ?_
    refine sqQ.normal ?_
    refine KA.sub (Sub.cons (t := 7) Look.eq (Sub.nil _)) ?_
    refine KA.seq ?_
    refine KA.region rfl ?_
    refine KOps.move ?_
    refine KOps.eqlT (say_none r hB (by omega)) ?_
    refine KOps.move ?_
    refine KOps.guardYes (dj := 43) rfl rfl ?_
    refine KOps.call rfl (works_c (hSz.ext hS.keeps)) ?_
    rintro _ hwk ⟨rfl, hK⟩
    refine KOps.pickT ?_
    refine KOps.assign ?_
    refine KOps.done ?_
    refine sqQ.normal ?_
    refine KA.sub (Sub.cons (t := 4) Look.eq (Sub.nil _)) ?_
    refine KA.ret ?_
    refine sqQ.ret ?_
    refine fnQ.ret1 ?_
    exact rfl
  · intro c35
    obtain ⟨j, hj, hjl⟩ := at_mod hk0 (show 0 < ws.length by omega)
    have hwj := hB.way j hjl
    have hwf0 := hwj.f0
    have hwt0 := hwj.t0
    refine KA.skip ?_
    refine sqQ.normal ?_
    refine KA.sub (Sub.cons (t := 1) Look.eq (Sub.cons (t := 5) Look.eq (Sub.nil _))) ?_
    refine KA.seq ?_
    refine KA.region rfl ?_
    refine KOps.move ?_
    refine KOps.convU hk0 hk1 ?_
    refine KOps.fieldAddr hp5 ?_
    intro p48 hp48
    refine KOps.load hp48 (hS.rd 0 rfl) rfl ?_
    refine KOps.lenF wc_len (hS.rd 1 rfl) ?_
    refine KOps.rem (by omega) (by omega) (by omega) ?_
    rw [hj]
    refine KOps.assign ?_
    refine KOps.done ?_
    refine sqQ.normal ?_
    refine KA.sub (Sub.cons (t := 5) Look.eq (Sub.cons (t := 8) Look.eq (Sub.nil _))) ?_
    refine KA.seq ?_
    refine KA.region rfl ?_
    refine KOps.fieldAddr hp5 ?_
    intro p52 hp52
    refine KOps.load hp52 (hS.rd 0 rfl) rfl ?_
    refine KOps.move ?_
    refine KOps.indexF wc_len (hS.rd 1 rfl) (j := j) (by first | omega | (simp; omega)) (by first | omega | (simp; omega)) ?_
    intro p55 hp55
    refine KOps.loadFl wc_len (by decide) hp55 (hS.rd 1 rfl) (by first | omega | (simp; omega)) ?_
    refine KOps.alloc hS ?_
    intro p9 h' hp9 hS
    refine KOps.storeAll hS rfl (i := 0) rfl hp9 (by first | rfl | (simp [AV.one]; done) | (simp [AV.one]; assumption) | (simp [AV.one, *]; done)) (by rfl) (by rfl) (by decide) ?_
    intro h' hS
    simp only [List.set_cons_zero, List.set_cons_succ, Nat.zero_add] at hS
    refine KOps.done ?_
    refine sqQ.normal ?_
    refine KA.sub (Sub.cons (t := 5) Look.eq (Sub.cons (t := 8) Look.eq (Sub.cons (t := 9) Look.eq (Sub.nil _)))) ?_
    refine KA.seq ?_
    refine KA.region rfl ?_
    refine KOps.loadAll hS (i := 1) rfl hp5 (by rfl) (by decide) ?_
    refine KOps.call rfl (flows_c (hS.rd 2 rfl) hB hT) ?_
    rintro vA h3 ⟨vs, hvl, hF⟩
    have hS0 := St.rot (A := matObjs true vA vs (allF ws) ++ []) (St.trans hS hF)
    clear hS
    have hS := hS0
    clear hS0
    have hal := allF_len hT hwl
    refine KOps.assign ?_
    refine KOps.done ?_
    refine sqQ.normal ?_
    refine KA.sub (Sub.cons (t := 5) Look.eq (Sub.cons (t := 8) Look.eq (Sub.cons (t := 9) Look.eq (Sub.cons (t := 10) Look.eq (Sub.nil _))))) ?_
    refine KA.seq ?_
    refine KA.region rfl ?_
    refine KOps.loadAll hS (i := 1) rfl hp5 (by rfl) (by decide) ?_
    refine KOps.move ?_
    refine KOps.call rfl (stSpan_c (hS.rd 2 rfl)) ?_
    rintro _ h5 ⟨rfl, hK⟩
    have hS0 : St _ _ (_ :: _) := St.trans hS (St.ofK hK)
    clear hS
    have hS := hS0
    clear hS0
    have hask := ask_all hB hjl
    rw [Int.toNat_natCast]
    generalize he : askE (r : Int) ws (j : Int) = e at hask ⊢
    generalize hlo : (if e = 0 then loOf ws j else 0) = lo
    generalize hhi : (if e = 0 then hiOf ws j else 0) = hi
    refine KOps.move ?_
    refine KOps.extract ?_
    refine KOps.extract ?_
    refine KOps.extract ?_
    refine KOps.assign ?_
    refine KOps.assign ?_
    refine KOps.assign ?_
    refine KOps.done ?_
    refine sqQ.normal ?_
    refine KA.sub (Sub.cons (t := 5) Look.eq (Sub.cons (t := 8) Look.eq (Sub.cons (t := 9) Look.eq (Sub.cons (t := 10) Look.eq (Sub.cons (t := 11) Look.eq (Sub.cons (t := 12) Look.eq (Sub.cons (t := 13) Look.eq (Sub.nil _)))))))) ?_
    refine KA.seq ?_
    refine KA.seq ?_
    refine KA.region rfl ?_
    refine KOps.move ?_
    refine KOps.eql ?_
    refine KOps.move ?_
    refine KOps.lenV (St.outer (pre := [_, _, _, _]) hS) ?_
    refine KOps.gtr ?_
    refine KOps.neqBF (by kernel_rfl) (decide_eq_decide.2 (by rw [hask]; split <;> omega)) ?_
    refine KOps.done ?_
    refine sqQ.normal ?_
    refine KA.sub (Sub.cons (t := 5) Look.eq (Sub.cons (t := 8) Look.eq (Sub.cons (t := 9) Look.eq (Sub.cons (t := 10) Look.eq (Sub.cons (t := 11) Look.eq (Sub.cons (t := 12) Look.eq (Sub.cons (t := 13) Look.eq (Sub.cons (t := 71) Look.eq (Sub.nil _))))))))) ?_
    refine KA.condF ?_
    refine KA.skip ?_
    refine sqQ.normal ?_
    refine KA.sub (Sub.cons (t := 5) Look.eq (Sub.cons (t := 8) Look.eq (Sub.cons (t := 9) Look.eq (Sub.cons (t := 10) Look.eq (Sub.cons (t := 11) Look.eq (Sub.cons (t := 12) Look.eq (Sub.cons (t := 13) Look.eq (Sub.nil _)))))))) ?_
    refine KA.seq ?_
    refine KA.region rfl ?_
    refine KOps.assign ?_
    refine KOps.assign ?_
    refine KOps.done ?_
    refine sqQ.normal ?_
    refine KA.seq ?_
    refine KA.seq ?_
    refine KA.region rfl ?_
    refine KOps.assign ?_
    refine KOps.done ?_
    refine sqQ.normal ?_
    refine KA.block ?_
    refine KA.loop (X := Nat × AV × AV) (fun x => [(5, p5), (8, .int .i64 (j : Int)), (9, p9), (10, vA), (11, .int .i64 lo), (12, .int .i64 hi), (13, .int .i64 e), (14, x.2.2), (15, x.2.1), (16, .int .i64 (x.1 : Int))]) (fun x h' => x.1 ≤ 2 ^ r ∧ (rowO (bestTo (pE e ws j true) x.1) = [] → x.2.1 = .nils) ∧ (rowO (bestTo (pE e ws j false) x.1) = [] → x.2.2 = .nils) ∧ St h h' ([⟨x.2.1, 1, ints (rowO (bestTo (pE e ws j true) x.1)), true⟩, ⟨x.2.2, 1, ints (rowO (bestTo (pE e ws j false) x.1)), true⟩, ⟨p9, 0, wc (ws.getD j default), true⟩, ⟨p5, 0, [.int .i64 (r : Int), vB], true⟩, ⟨vB, 4, flr wc ws, true⟩, ⟨p2, 0, [.int .u8 a, vH], true⟩] ++ (matObjs true vA vs (allF ws) ++ []))) (fun x => 2 ^ r - x.1) (0, .nils, .nils) (by repeat (first | exact Sub.nil _ | refine Sub.cons Look.eq ?_ | refine Sub.cons (Eq.trans Look.eq (congrArg (AV.int _) (by first | omega | (dsimp only; omega)))) ?_)) ?_ ?_
    · exact ⟨Nat.zero_le _, fun _ => rfl, fun _ => rfl, St.nil (St.nil hS 1) 1⟩
    rintro ⟨k, v15, v14⟩ h6 ⟨hk, hnn15, hnn14, hS⟩
    dsimp only at hk hnn15 hnn14 hS ⊢
    refine KA.seq ?_
    refine KA.seq ?_
    refine KA.region rfl ?_
    refine KOps.move ?_
    refine KOps.fieldAddr hp5 ?_
    intro p73 hp73
    refine KOps.load hp73 (hS.rd 3 rfl) rfl ?_
    refine KOps.shl (by omega) ?_
    rw [hsh]
    refine KOps.lss ?_
    refine KOps.done ?_
    refine sqQ.normal ?_
    refine KA.sub (Sub.cons (t := 5) Look.eq (Sub.cons (t := 8) Look.eq (Sub.cons (t := 9) Look.eq (Sub.cons (t := 10) Look.eq (Sub.cons (t := 11) Look.eq (Sub.cons (t := 12) Look.eq (Sub.cons (t := 13) Look.eq (Sub.cons (t := 14) Look.eq (Sub.cons (t := 15) Look.eq (Sub.cons (t := 16) Look.eq (Sub.cons (t := 76) Look.eq (Sub.nil _)))))))))))) ?_
    refine KA.condD ?_ ?_
    · intro c76
      have hsay := rooms_say hB hjl (s := k) (by omega)
      have hrl := roomsTo_len k 6
      have hsb := sums_bound hB k (j : Int) ws.length (Nat.le_refl _)
      refine KA.skip ?_
      refine sqQ.normal ?_
      refine KA.sub (Sub.cons (t := 5) Look.eq (Sub.cons (t := 8) Look.eq (Sub.cons (t := 9) Look.eq (Sub.cons (t := 10) Look.eq (Sub.cons (t := 11) Look.eq (Sub.cons (t := 12) Look.eq (Sub.cons (t := 13) Look.eq (Sub.cons (t := 14) Look.eq (Sub.cons (t := 15) Look.eq (Sub.cons (t := 16) Look.eq (Sub.nil _))))))))))) ?_
      refine KA.seq ?_
      refine KA.block ?_
      refine KA.seq ?_
      refine KA.region rfl ?_
      refine KOps.move ?_
      refine KOps.call rfl (rooms47_c (s := k) (by omega)) ?_
      rintro vl hl1 ⟨hn1, hSN⟩
      have hS0 : St _ _ (_ :: _) := St.trans hS hSN
      clear hS
      have hS := hS0
      clear hS0

      refine KOps.assign ?_
      refine KOps.done ?_
      refine sqQ.normal ?_
      refine KA.sub (Sub.cons (t := 5) Look.eq (Sub.cons (t := 8) Look.eq (Sub.cons (t := 9) Look.eq (Sub.cons (t := 10) Look.eq (Sub.cons (t := 11) Look.eq (Sub.cons (t := 12) Look.eq (Sub.cons (t := 13) Look.eq (Sub.cons (t := 14) Look.eq (Sub.cons (t := 15) Look.eq (Sub.cons (t := 16) Look.eq (Sub.cons (t := 17) Look.eq (Sub.nil _)))))))))))) ?_
      refine KA.seq ?_
      refine KA.region rfl ?_
      refine KOps.loadAll hS (i := 4) rfl hp5 (by rfl) (by decide) ?_
      refine KOps.move ?_
      refine KOps.move ?_
      refine KOps.call rfl (stSays_c (hS.rd 5 rfl) (hS.rd 0 rfl) (by omega)) ?_
      rintro _ h7 ⟨rfl, hK⟩
      have hS0 : St _ _ (_ :: _) := St.trans hS (St.ofK hK)
      clear hS
      have hS := hS0
      clear hS0
      rw [hsay.1, hsay.2]
      refine KOps.move ?_
      refine KOps.extract ?_
      refine KOps.extract ?_
      refine KOps.assign ?_
      refine KOps.assign ?_
      refine KOps.done ?_
      refine sqQ.normal ?_
      refine KA.sub (Sub.cons (t := 5) Look.eq (Sub.cons (t := 8) Look.eq (Sub.cons (t := 9) Look.eq (Sub.cons (t := 10) Look.eq (Sub.cons (t := 11) Look.eq (Sub.cons (t := 12) Look.eq (Sub.cons (t := 13) Look.eq (Sub.cons (t := 14) Look.eq (Sub.cons (t := 15) Look.eq (Sub.cons (t := 16) Look.eq (Sub.cons (t := 17) Look.eq (Sub.cons (t := 18) Look.eq (Sub.cons (t := 19) Look.eq (Sub.nil _)))))))))))))) ?_
      refine KA.seq ?_
      refine KA.region rfl ?_
      refine KOps.loadAll hS (i := 4) rfl hp5 (by rfl) (by decide) ?_
      refine KOps.move ?_
      refine KOps.move ?_
      refine KOps.call rfl (sums46_c (s := k) (w := (j : Int)) (hS.rd 5 rfl) hB (by omega)) ?_
      rintro _ h8 ⟨rfl, hK⟩
      have hS0 : St _ _ (_ :: _) := St.trans hS (St.ofK hK)
      clear hS
      have hS := hS0
      clear hS0

      refine KOps.move ?_
      refine KOps.extract ?_
      refine KOps.extract ?_
      refine KOps.assign ?_
      refine KOps.assign ?_
      refine KOps.done ?_
      refine sqQ.normal ?_
      refine KA.sub (Sub.cons (t := 5) Look.eq (Sub.cons (t := 8) Look.eq (Sub.cons (t := 9) Look.eq (Sub.cons (t := 10) Look.eq (Sub.cons (t := 11) Look.eq (Sub.cons (t := 12) Look.eq (Sub.cons (t := 13) Look.eq (Sub.cons (t := 14) Look.eq (Sub.cons (t := 15) Look.eq (Sub.cons (t := 16) Look.eq (Sub.cons (t := 17) Look.eq (Sub.cons (t := 18) Look.eq (Sub.cons (t := 19) Look.eq (Sub.cons (t := 20) Look.eq (Sub.cons (t := 21) Look.eq (Sub.nil _)))))))))))))))) ?_
      refine KA.seq ?_
      refine KA.draw [] mixed rfl (by kernel_rfl) ?_
      refine KOps.move ?_
      refine KOps.fieldAddr hp9 ?_
      intro p96 hp96
      refine KOps.load hp96 (hS.rd 3 rfl) rfl ?_
      refine KOps.shr (by first | omega | (simp; omega)) ?_
      refine KOps.bits (by simp) ?_
      rw [and_bi (by omega) hwj.f0 (by have := hwj.f1; omega)]
      refine KOps.move ?_
      refine KOps.fieldAddr hp9 ?_
      intro p101 hp101
      refine KOps.load hp101 (hS.rd 3 rfl) rfl ?_
      refine KOps.shr (by first | omega | (simp; omega)) ?_
      refine KOps.bits (by simp) ?_
      rw [and_bi (by omega) hwj.t0 (by have := hwj.t1; omega)]
      refine KOps.assign ?_
      refine KOps.assign ?_
      refine KOps.done ?_
      refine sqQ.normal ?_
      refine KA.sub (Sub.cons (t := 5) Look.eq (Sub.cons (t := 8) Look.eq (Sub.cons (t := 9) Look.eq (Sub.cons (t := 10) Look.eq (Sub.cons (t := 11) Look.eq (Sub.cons (t := 12) Look.eq (Sub.cons (t := 13) Look.eq (Sub.cons (t := 14) Look.eq (Sub.cons (t := 15) Look.eq (Sub.cons (t := 16) Look.eq (Sub.cons (t := 17) Look.eq (Sub.cons (t := 18) Look.eq (Sub.cons (t := 19) Look.eq (Sub.cons (t := 20) Look.eq (Sub.cons (t := 21) Look.eq (Sub.cons (t := 22) Look.eq (Sub.cons (t := 23) Look.eq (Sub.nil _)))))))))))))))))) ?_
      refine KA.meet (X := Unit) (fun _ => [(5, p5), (8, .int .i64 (j : Int)), (9, p9), (10, vA), (11, .int .i64 lo), (12, .int .i64 hi), (13, .int .i64 e), (14, v14), (15, v15), (16, .int .i64 (k : Int)), (17, vl), (18, .int .i64 (saysV ws k j)), (22, .int .i64 (bi (inS k (ws.getD j default).f))), (23, .int .i64 (bi (inS k (ws.getD j default).t)))]) (fun _ h' => crosses ws k j = true ∧ St h h' ([⟨vl, 1, ints (roomsTo k 6), true⟩, ⟨v15, 1, ints (rowO (bestTo (pE e ws j true) k)), true⟩, ⟨v14, 1, ints (rowO (bestTo (pE e ws j false) k)), true⟩, ⟨p9, 0, wc (ws.getD j default), true⟩, ⟨p5, 0, [.int .i64 (r : Int), vB], true⟩, ⟨vB, 4, flr wc ws, true⟩, ⟨p2, 0, [.int .u8 a, vH], true⟩] ++ (matObjs true vA vs (allF ws) ++ []))) ?_ ?_
      ·
        refine KA.block ?_
        refine KA.seq ?_
        refine KA.region rfl ?_
        refine KOps.move ?_
        refine KOps.move ?_
        refine KOps.eql ?_
        refine KOps.assign ?_
        refine KOps.done ?_
        refine sqQ.normal ?_
        refine KA.sub (Sub.cons (t := 5) Look.eq (Sub.cons (t := 8) Look.eq (Sub.cons (t := 9) Look.eq (Sub.cons (t := 10) Look.eq (Sub.cons (t := 11) Look.eq (Sub.cons (t := 12) Look.eq (Sub.cons (t := 13) Look.eq (Sub.cons (t := 14) Look.eq (Sub.cons (t := 15) Look.eq (Sub.cons (t := 16) Look.eq (Sub.cons (t := 17) Look.eq (Sub.cons (t := 18) Look.eq (Sub.cons (t := 19) Look.eq (Sub.cons (t := 20) Look.eq (Sub.cons (t := 21) Look.eq (Sub.cons (t := 22) Look.eq (Sub.cons (t := 23) Look.eq (Sub.cons (t := 105) Look.eq (Sub.nil _))))))))))))))))))) ?_
        refine KA.condD ?_ ?_
        · intro c105
          have hcr : crosses ws k j = false := Bool.eq_false_iff.2 (fun h => cross_bi.1 h c105)
          refine KA.seq ?_
          refine KA.seq ?_
          refine KA.region rfl ?_
          refine KOps.move ?_
          refine KOps.neqF (by rw [hcr]; rfl) ?_
          refine KOps.move ?_
          refine KOps.guardYes (dj := 111) rfl rfl ?_
          refine KOps.move ?_
          refine KOps.guardYes (dj := 111) rfl rfl ?_
          refine KOps.neqF (by rw [hcr]; rfl) ?_
          refine KOps.pickF ?_
          refine KOps.done ?_
          refine sqQ.normal ?_
          refine KA.sub (Sub.cons (t := 5) Look.eq (Sub.cons (t := 8) Look.eq (Sub.cons (t := 9) Look.eq (Sub.cons (t := 10) Look.eq (Sub.cons (t := 11) Look.eq (Sub.cons (t := 12) Look.eq (Sub.cons (t := 13) Look.eq (Sub.cons (t := 14) Look.eq (Sub.cons (t := 15) Look.eq (Sub.cons (t := 16) Look.eq (Sub.cons (t := 112) Look.eq (Sub.cons (t := 113) Look.eq (Sub.cons (t := 114) Look.eq (Sub.nil _)))))))))))))) ?_
          refine KA.condF ?_
          refine KA.skip ?_
          refine sqQ.normal ?_
          refine KA.sub (Sub.cons (t := 5) Look.eq (Sub.cons (t := 8) Look.eq (Sub.cons (t := 9) Look.eq (Sub.cons (t := 10) Look.eq (Sub.cons (t := 11) Look.eq (Sub.cons (t := 12) Look.eq (Sub.cons (t := 13) Look.eq (Sub.cons (t := 14) Look.eq (Sub.cons (t := 15) Look.eq (Sub.cons (t := 16) Look.eq (Sub.cons (t := 112) Look.eq (Sub.cons (t := 113) Look.eq (Sub.nil _))))))))))))) ?_
          refine KA.exit ?_
          refine blQ.exit rfl ?_
          refine mtQ.exit ?_
          refine blQ.here ?_
          refine sqQ.normal ?_
          refine KA.region rfl ?_
          refine KOps.move ?_
          refine KOps.add (by first | omega | (simp; omega)) (by first | omega | (simp; omega)) ?_
          refine KOps.assign ?_
          refine KOps.done ?_
          have hb15 := keep_hi (e := e) (ws := ws) (i := j) (s := k) (.inr (.inl (cross_not hcr).1))
          have hb14 := keep_lo (e := e) (ws := ws) (i := j) (s := k) (.inr (.inl (cross_not hcr).2))
          refine lpQ.normal (k + 1, v15, v14) (by repeat (first | exact Sub.nil _ | refine Sub.cons Look.eq ?_ | refine Sub.cons (Eq.trans Look.eq (congrArg (AV.int _) (by first | omega | (dsimp only; omega)))) ?_)) ⟨by dsimp only; omega, ?_, ?_, ?_⟩ (by dsimp only; omega)
          · dsimp only; rw [hb15]; exact hnn15
          · dsimp only; rw [hb14]; exact hnn14
          · dsimp only; rw [hb15, hb14]; exact St.tail hS
        · intro c105
          have hcr : crosses ws k j = true := cross_bi.2 c105
          rw [if_pos hcr, if_pos hcr]
          refine KA.seq ?_
          refine KA.region rfl ?_
          refine KOps.move ?_
          refine KOps.neqF rfl ?_
          refine KOps.move ?_
          refine KOps.guardYes (dj := 118) rfl rfl ?_
          refine KOps.move ?_
          refine KOps.guardYes (dj := 118) rfl rfl ?_
          refine KOps.eql ?_
          refine KOps.guardYes (dj := 118) rfl rfl ?_
          refine KOps.move ?_
          refine KOps.guardB (dj := 121) rfl rfl true false rfl ?_ ?_
          · intro g121
            have g121 := of_decide_eq_true g121
            refine KOps.move ?_
            refine KOps.guardYes (dj := 121) rfl rfl ?_
            refine KOps.move ?_
            refine KOps.guardYes (dj := 121) rfl rfl ?_
            refine KOps.move ?_
            refine KOps.guardYes (dj := 121) rfl rfl ?_
            refine KOps.sub (by first | omega | (simp; omega)) (by first | omega | (simp; omega)) ?_
            refine KOps.guardYes (dj := 121) rfl rfl ?_
            refine KOps.neqF (says_lv (lvs_bi hcr g121)) ?_
            refine KOps.guardYes (dj := 118) rfl rfl ?_
            refine KOps.pickT ?_
            refine KOps.pickF ?_
            refine KOps.move ?_
            refine KOps.guardYes (dj := 129) rfl rfl ?_
            refine KOps.move ?_
            refine KOps.guardYes (dj := 129) rfl rfl ?_
            refine KOps.eql ?_
            refine KOps.guardYes (dj := 129) rfl rfl ?_
            refine KOps.move ?_
            refine KOps.guardB (dj := 132) rfl rfl true false rfl ?_ ?_
            · intro g132
              have g132 := of_decide_eq_true g132
              refine KOps.move ?_
              refine KOps.guardYes (dj := 132) rfl rfl ?_
              refine KOps.move ?_
              refine KOps.guardYes (dj := 132) rfl rfl ?_
              refine KOps.move ?_
              refine KOps.guardYes (dj := 132) rfl rfl ?_
              refine KOps.sub (by first | omega | (simp; omega)) (by first | omega | (simp; omega)) ?_
              refine KOps.guardYes (dj := 132) rfl rfl ?_
              refine KOps.neqF (says_en (ens_bi hcr g132)) ?_
              refine KOps.guardYes (dj := 129) rfl rfl ?_
              refine KOps.pickT ?_
              refine KOps.pickF ?_
              refine KOps.assign ?_
              refine KOps.done ?_
              refine sqQ.normal ?_
              refine KA.sub (Sub.cons (t := 5) Look.eq (Sub.cons (t := 8) Look.eq (Sub.cons (t := 9) Look.eq (Sub.cons (t := 10) Look.eq (Sub.cons (t := 11) Look.eq (Sub.cons (t := 12) Look.eq (Sub.cons (t := 13) Look.eq (Sub.cons (t := 14) Look.eq (Sub.cons (t := 15) Look.eq (Sub.cons (t := 16) Look.eq (Sub.cons (t := 17) Look.eq (Sub.cons (t := 18) Look.eq (Sub.cons (t := 22) Look.eq (Sub.cons (t := 23) Look.eq (Sub.cons (t := 115) Look.eq (Sub.cons (t := 119) Look.eq (Sub.cons (t := 120) Look.eq (Sub.cons (t := 121) Look.eq (Sub.cons (t := 122) Look.eq (Sub.cons (t := 123) Look.eq (Sub.cons (t := 124) Look.eq (Sub.cons (t := 125) Look.eq (Sub.cons (t := 126) Look.eq (Sub.cons (t := 127) Look.eq (Sub.cons (t := 130) Look.eq (Sub.cons (t := 131) Look.eq (Sub.cons (t := 132) Look.eq (Sub.cons (t := 133) Look.eq (Sub.cons (t := 134) Look.eq (Sub.cons (t := 135) Look.eq (Sub.cons (t := 136) Look.eq (Sub.cons (t := 137) Look.eq (Sub.cons (t := 138) Look.eq (Sub.nil _)))))))))))))))))))))))))))))))))) ?_
              refine KA.condF ?_
              refine KA.skip ?_
              refine blQ.normal ?_
              exact mtQ.normal () (by repeat (first | exact Sub.nil _ | refine Sub.cons Look.eq ?_ | refine Sub.cons (Eq.trans Look.eq (congrArg (AV.int _) (by first | omega | (dsimp only; omega)))) ?_)) ⟨hcr, hS⟩
            · intro g132
              have g132 := of_decide_eq_false g132
              refine KOps.guardNo (dj := 132) rfl rfl rfl ?_
              refine KOps.guardNo (dj := 132) rfl rfl rfl ?_
              refine KOps.guardNo (dj := 132) rfl rfl rfl ?_
              refine KOps.guardNo (dj := 132) rfl rfl rfl ?_
              refine KOps.guardYes (dj := 129) rfl rfl ?_
              refine KOps.pickF ?_
              refine KOps.pickF ?_
              refine KOps.assign ?_
              refine KOps.done ?_
              refine sqQ.normal ?_
              refine KA.sub (Sub.cons (t := 5) Look.eq (Sub.cons (t := 8) Look.eq (Sub.cons (t := 9) Look.eq (Sub.cons (t := 10) Look.eq (Sub.cons (t := 11) Look.eq (Sub.cons (t := 12) Look.eq (Sub.cons (t := 13) Look.eq (Sub.cons (t := 14) Look.eq (Sub.cons (t := 15) Look.eq (Sub.cons (t := 16) Look.eq (Sub.cons (t := 17) Look.eq (Sub.cons (t := 18) Look.eq (Sub.cons (t := 22) Look.eq (Sub.cons (t := 23) Look.eq (Sub.cons (t := 115) Look.eq (Sub.cons (t := 119) Look.eq (Sub.cons (t := 120) Look.eq (Sub.cons (t := 121) Look.eq (Sub.cons (t := 122) Look.eq (Sub.cons (t := 123) Look.eq (Sub.cons (t := 124) Look.eq (Sub.cons (t := 125) Look.eq (Sub.cons (t := 126) Look.eq (Sub.cons (t := 127) Look.eq (Sub.cons (t := 130) Look.eq (Sub.cons (t := 131) Look.eq (Sub.cons (t := 132) Look.eq (Sub.cons (t := 133) Look.eq (Sub.cons (t := 134) Look.eq (Sub.cons (t := 135) Look.eq (Sub.cons (t := 136) Look.eq (Sub.cons (t := 137) Look.eq (Sub.cons (t := 138) Look.eq (Sub.nil _)))))))))))))))))))))))))))))))))) ?_
              refine KA.condF ?_
              refine KA.skip ?_
              refine blQ.normal ?_
              exact mtQ.normal () (by repeat (first | exact Sub.nil _ | refine Sub.cons Look.eq ?_ | refine Sub.cons (Eq.trans Look.eq (congrArg (AV.int _) (by first | omega | (dsimp only; omega)))) ?_)) ⟨hcr, hS⟩
          · intro g121
            have g121 := of_decide_eq_false g121
            refine KOps.guardNo (dj := 121) rfl rfl rfl ?_
            refine KOps.guardNo (dj := 121) rfl rfl rfl ?_
            refine KOps.guardNo (dj := 121) rfl rfl rfl ?_
            refine KOps.guardNo (dj := 121) rfl rfl rfl ?_
            refine KOps.guardYes (dj := 118) rfl rfl ?_
            refine KOps.pickF ?_
            refine KOps.pickF ?_
            refine KOps.move ?_
            refine KOps.guardYes (dj := 129) rfl rfl ?_
            refine KOps.move ?_
            refine KOps.guardYes (dj := 129) rfl rfl ?_
            refine KOps.eql ?_
            refine KOps.guardYes (dj := 129) rfl rfl ?_
            refine KOps.move ?_
            refine KOps.guardB (dj := 132) rfl rfl true false rfl ?_ ?_
            · intro g132
              have g132 := of_decide_eq_true g132
              refine KOps.move ?_
              refine KOps.guardYes (dj := 132) rfl rfl ?_
              refine KOps.move ?_
              refine KOps.guardYes (dj := 132) rfl rfl ?_
              refine KOps.move ?_
              refine KOps.guardYes (dj := 132) rfl rfl ?_
              refine KOps.sub (by first | omega | (simp; omega)) (by first | omega | (simp; omega)) ?_
              refine KOps.guardYes (dj := 132) rfl rfl ?_
              refine KOps.neqF (says_en (ens_bi hcr g132)) ?_
              refine KOps.guardYes (dj := 129) rfl rfl ?_
              refine KOps.pickT ?_
              refine KOps.pickF ?_
              refine KOps.assign ?_
              refine KOps.done ?_
              refine sqQ.normal ?_
              refine KA.sub (Sub.cons (t := 5) Look.eq (Sub.cons (t := 8) Look.eq (Sub.cons (t := 9) Look.eq (Sub.cons (t := 10) Look.eq (Sub.cons (t := 11) Look.eq (Sub.cons (t := 12) Look.eq (Sub.cons (t := 13) Look.eq (Sub.cons (t := 14) Look.eq (Sub.cons (t := 15) Look.eq (Sub.cons (t := 16) Look.eq (Sub.cons (t := 17) Look.eq (Sub.cons (t := 18) Look.eq (Sub.cons (t := 22) Look.eq (Sub.cons (t := 23) Look.eq (Sub.cons (t := 115) Look.eq (Sub.cons (t := 119) Look.eq (Sub.cons (t := 120) Look.eq (Sub.cons (t := 121) Look.eq (Sub.cons (t := 122) Look.eq (Sub.cons (t := 123) Look.eq (Sub.cons (t := 124) Look.eq (Sub.cons (t := 125) Look.eq (Sub.cons (t := 126) Look.eq (Sub.cons (t := 127) Look.eq (Sub.cons (t := 130) Look.eq (Sub.cons (t := 131) Look.eq (Sub.cons (t := 132) Look.eq (Sub.cons (t := 133) Look.eq (Sub.cons (t := 134) Look.eq (Sub.cons (t := 135) Look.eq (Sub.cons (t := 136) Look.eq (Sub.cons (t := 137) Look.eq (Sub.cons (t := 138) Look.eq (Sub.nil _)))))))))))))))))))))))))))))))))) ?_
              refine KA.condF ?_
              refine KA.skip ?_
              refine blQ.normal ?_
              exact mtQ.normal () (by repeat (first | exact Sub.nil _ | refine Sub.cons Look.eq ?_ | refine Sub.cons (Eq.trans Look.eq (congrArg (AV.int _) (by first | omega | (dsimp only; omega)))) ?_)) ⟨hcr, hS⟩
            · intro g132
              have g132 := of_decide_eq_false g132
              refine KOps.guardNo (dj := 132) rfl rfl rfl ?_
              refine KOps.guardNo (dj := 132) rfl rfl rfl ?_
              refine KOps.guardNo (dj := 132) rfl rfl rfl ?_
              refine KOps.guardNo (dj := 132) rfl rfl rfl ?_
              refine KOps.guardYes (dj := 129) rfl rfl ?_
              refine KOps.pickF ?_
              refine KOps.pickF ?_
              refine KOps.assign ?_
              refine KOps.done ?_
              refine sqQ.normal ?_
              refine KA.sub (Sub.cons (t := 5) Look.eq (Sub.cons (t := 8) Look.eq (Sub.cons (t := 9) Look.eq (Sub.cons (t := 10) Look.eq (Sub.cons (t := 11) Look.eq (Sub.cons (t := 12) Look.eq (Sub.cons (t := 13) Look.eq (Sub.cons (t := 14) Look.eq (Sub.cons (t := 15) Look.eq (Sub.cons (t := 16) Look.eq (Sub.cons (t := 17) Look.eq (Sub.cons (t := 18) Look.eq (Sub.cons (t := 22) Look.eq (Sub.cons (t := 23) Look.eq (Sub.cons (t := 115) Look.eq (Sub.cons (t := 119) Look.eq (Sub.cons (t := 120) Look.eq (Sub.cons (t := 121) Look.eq (Sub.cons (t := 122) Look.eq (Sub.cons (t := 123) Look.eq (Sub.cons (t := 124) Look.eq (Sub.cons (t := 125) Look.eq (Sub.cons (t := 126) Look.eq (Sub.cons (t := 127) Look.eq (Sub.cons (t := 130) Look.eq (Sub.cons (t := 131) Look.eq (Sub.cons (t := 132) Look.eq (Sub.cons (t := 133) Look.eq (Sub.cons (t := 134) Look.eq (Sub.cons (t := 135) Look.eq (Sub.cons (t := 136) Look.eq (Sub.cons (t := 137) Look.eq (Sub.cons (t := 138) Look.eq (Sub.nil _)))))))))))))))))))))))))))))))))) ?_
              refine KA.condF ?_
              refine KA.skip ?_
              refine blQ.normal ?_
              exact mtQ.normal () (by repeat (first | exact Sub.nil _ | refine Sub.cons Look.eq ?_ | refine Sub.cons (Eq.trans Look.eq (congrArg (AV.int _) (by first | omega | (dsimp only; omega)))) ?_)) ⟨hcr, hS⟩
      ·
        rintro _ h10 ⟨hcr, hS⟩
        refine KA.seq ?_
        refine KA.seq ?_
        refine KA.region rfl ?_
        refine KOps.move ?_
        refine KOps.lenV (St.outer (pre := [_, _, _, _, _, _, _]) hS) ?_
        refine KOps.move ?_
        refine KOps.done ?_
        refine sqQ.normal ?_
        refine KA.block ?_
        refine KA.loop (X := Nat) (fun m => [(5, p5), (8, .int .i64 (j : Int)), (9, p9), (10, vA), (11, .int .i64 lo), (12, .int .i64 hi), (13, .int .i64 e), (14, v14), (15, v15), (16, .int .i64 (k : Int)), (17, vl), (18, .int .i64 (saysV ws k j)), (22, .int .i64 (bi (inS k (ws.getD j default).f))), (23, .int .i64 (bi (inS k (ws.getD j default).t))), (140, vA), (141, .int .i64 (vs.length : Int)), (142, .int .i64 (m : Int))]) (fun m h' => m ≤ vs.length ∧ St h h' ([⟨vl, 1, ints (roomsTo k 6), true⟩, ⟨v15, 1, ints (rowO (bestTo (pE e ws j true) k)), true⟩, ⟨v14, 1, ints (rowO (bestTo (pE e ws j false) k)), true⟩, ⟨p9, 0, wc (ws.getD j default), true⟩, ⟨p5, 0, [.int .i64 (r : Int), vB], true⟩, ⟨vB, 4, flr wc ws, true⟩, ⟨p2, 0, [.int .u8 a, vH], true⟩] ++ (matObjs true vA vs (allF ws) ++ []))) (fun m => vs.length - m) 0 (by repeat (first | exact Sub.nil _ | refine Sub.cons Look.eq ?_ | refine Sub.cons (Eq.trans Look.eq (congrArg (AV.int _) (by first | omega | (dsimp only; omega)))) ?_)) ?_ ?_
        · exact ⟨Nat.zero_le _, hS⟩
        rintro m h11 ⟨hm, hS⟩
        refine KA.seq ?_
        refine KA.region rfl ?_
        refine KOps.lss ?_
        refine KOps.done ?_
        refine sqQ.normal ?_
        refine KA.seq ?_
        refine KA.condD ?_ ?_
        · intro c143
          have hfm := all_get hB (j := m) (by omega)
          have hfml := hfm.len
          refine KA.skip ?_
          refine sqQ.normal ?_
          refine KA.sub (Sub.cons (t := 5) Look.eq (Sub.cons (t := 8) Look.eq (Sub.cons (t := 9) Look.eq (Sub.cons (t := 10) Look.eq (Sub.cons (t := 11) Look.eq (Sub.cons (t := 12) Look.eq (Sub.cons (t := 13) Look.eq (Sub.cons (t := 14) Look.eq (Sub.cons (t := 15) Look.eq (Sub.cons (t := 16) Look.eq (Sub.cons (t := 17) Look.eq (Sub.cons (t := 18) Look.eq (Sub.cons (t := 22) Look.eq (Sub.cons (t := 23) Look.eq (Sub.cons (t := 140) Look.eq (Sub.cons (t := 141) Look.eq (Sub.cons (t := 142) Look.eq (Sub.nil _)))))))))))))))))) ?_
          refine KA.seq ?_
          refine KA.block ?_
          refine KA.seq ?_
          refine KA.region rfl ?_
          refine KOps.indexVJ (St.outer (pre := [_, _, _, _, _, _, _]) hS) (j := m) (by first | omega | (simp; omega)) (by first | omega | (simp; omega)) ?_
          intro p144 hp144
          refine KOps.loadV hp144 (St.outer (pre := [_, _, _, _, _, _, _]) hS) (by first | omega | (simp; omega)) ?_
          refine KOps.assign ?_
          refine KOps.done ?_
          refine sqQ.normal ?_
          refine KA.sub (Sub.cons (t := 5) Look.eq (Sub.cons (t := 8) Look.eq (Sub.cons (t := 9) Look.eq (Sub.cons (t := 10) Look.eq (Sub.cons (t := 11) Look.eq (Sub.cons (t := 12) Look.eq (Sub.cons (t := 13) Look.eq (Sub.cons (t := 14) Look.eq (Sub.cons (t := 15) Look.eq (Sub.cons (t := 16) Look.eq (Sub.cons (t := 17) Look.eq (Sub.cons (t := 18) Look.eq (Sub.cons (t := 22) Look.eq (Sub.cons (t := 23) Look.eq (Sub.cons (t := 25) Look.eq (Sub.cons (t := 140) Look.eq (Sub.cons (t := 141) Look.eq (Sub.cons (t := 142) Look.eq (Sub.nil _))))))))))))))))))) ?_
          refine KA.seq ?_
          refine KA.region rfl ?_
          refine KOps.move ?_
          refine KOps.eql ?_
          refine KOps.move ?_
          refine KOps.guardB (dj := 148) rfl rfl true false rfl ?_ ?_
          · intro g148
            have g148 := of_decide_eq_true g148
            refine KOps.move ?_
            refine KOps.guardYes (dj := 148) rfl rfl ?_
            refine KOps.move ?_
            refine KOps.guardYes (dj := 148) rfl rfl ?_
            refine KOps.indexIJ (St.rowAt (pre := [_, _, _, _, _, _, _]) hS (by first | assumption | omega | (simp only [List.length_set, List.length_append, List.length_singleton, List.length_replicate, List.length_take]; omega)) (by first | omega | (simp; omega))) (j := j) (by first | omega | (simp; omega)) (by first | omega | (simp; omega)) ?_
            intro p151 hp151
            refine KOps.guardYes (dj := 148) rfl rfl ?_
            refine KOps.loadI hp151 (St.rowAt (pre := [_, _, _, _, _, _, _]) hS (by first | assumption | omega | (simp only [List.length_set, List.length_append, List.length_singleton, List.length_replicate, List.length_take]; omega)) (by first | omega | (simp; omega))) (by first | omega | (simp; omega)) ?_
            refine KOps.guardYes (dj := 148) rfl rfl ?_
            refine KOps.move ?_
            refine KOps.guardYes (dj := 148) rfl rfl ?_
            refine KOps.gtr ?_
            rw [decide_eq_false (by have := says_most hB hfm hjl (lvs_bi hcr g148); omega)]
            refine KOps.pickT ?_
            refine KOps.move ?_
            refine KOps.guardYes (dj := 156) rfl rfl ?_
            refine KOps.move ?_
            refine KOps.guardYes (dj := 156) rfl rfl ?_
            refine KOps.eql ?_
            refine KOps.guardYes (dj := 156) rfl rfl ?_
            refine KOps.move ?_
            refine KOps.guardB (dj := 159) rfl rfl true false rfl ?_ ?_
            · intro g159
              have g159 := of_decide_eq_true g159
              refine KOps.move ?_
              refine KOps.guardYes (dj := 159) rfl rfl ?_
              refine KOps.move ?_
              refine KOps.guardYes (dj := 159) rfl rfl ?_
              refine KOps.indexIJ (St.rowAt (pre := [_, _, _, _, _, _, _]) hS (by first | assumption | omega | (simp only [List.length_set, List.length_append, List.length_singleton, List.length_replicate, List.length_take]; omega)) (by first | omega | (simp; omega))) (j := j) (by first | omega | (simp; omega)) (by first | omega | (simp; omega)) ?_
              intro p162 hp162
              refine KOps.guardYes (dj := 159) rfl rfl ?_
              refine KOps.loadI hp162 (St.rowAt (pre := [_, _, _, _, _, _, _]) hS (by first | assumption | omega | (simp only [List.length_set, List.length_append, List.length_singleton, List.length_replicate, List.length_take]; omega)) (by first | omega | (simp; omega))) (by first | omega | (simp; omega)) ?_
              refine KOps.guardYes (dj := 159) rfl rfl ?_
              refine KOps.move ?_
              refine KOps.guardYes (dj := 159) rfl rfl ?_
              refine KOps.lss ?_
              rw [decide_eq_false (by have := says_least hB hfm hjl (ens_bi hcr g159); omega)]
              refine KOps.guardYes (dj := 156) rfl rfl ?_
              refine KOps.pickT ?_
              refine KOps.pickF ?_
              refine KOps.done ?_
              refine sqQ.normal ?_
              refine KA.sub (Sub.cons (t := 5) Look.eq (Sub.cons (t := 8) Look.eq (Sub.cons (t := 9) Look.eq (Sub.cons (t := 10) Look.eq (Sub.cons (t := 11) Look.eq (Sub.cons (t := 12) Look.eq (Sub.cons (t := 13) Look.eq (Sub.cons (t := 14) Look.eq (Sub.cons (t := 15) Look.eq (Sub.cons (t := 16) Look.eq (Sub.cons (t := 17) Look.eq (Sub.cons (t := 18) Look.eq (Sub.cons (t := 22) Look.eq (Sub.cons (t := 23) Look.eq (Sub.cons (t := 140) Look.eq (Sub.cons (t := 141) Look.eq (Sub.cons (t := 142) Look.eq (Sub.cons (t := 149) Look.eq (Sub.cons (t := 150) Look.eq (Sub.cons (t := 151) Look.eq (Sub.cons (t := 152) Look.eq (Sub.cons (t := 153) Look.eq (Sub.cons (t := 154) Look.eq (Sub.cons (t := 157) Look.eq (Sub.cons (t := 158) Look.eq (Sub.cons (t := 159) Look.eq (Sub.cons (t := 160) Look.eq (Sub.cons (t := 161) Look.eq (Sub.cons (t := 162) Look.eq (Sub.cons (t := 163) Look.eq (Sub.cons (t := 164) Look.eq (Sub.cons (t := 165) Look.eq (Sub.cons (t := 166) Look.eq (Sub.cons (t := 167) Look.eq (Sub.nil _))))))))))))))))))))))))))))))))))) ?_
              refine KA.condF ?_
              refine KA.skip ?_
              refine blQ.normal ?_
              refine sqQ.normal ?_
              refine KA.sub (Sub.cons (t := 5) Look.eq (Sub.cons (t := 8) Look.eq (Sub.cons (t := 9) Look.eq (Sub.cons (t := 10) Look.eq (Sub.cons (t := 11) Look.eq (Sub.cons (t := 12) Look.eq (Sub.cons (t := 13) Look.eq (Sub.cons (t := 14) Look.eq (Sub.cons (t := 15) Look.eq (Sub.cons (t := 16) Look.eq (Sub.cons (t := 17) Look.eq (Sub.cons (t := 18) Look.eq (Sub.cons (t := 22) Look.eq (Sub.cons (t := 23) Look.eq (Sub.cons (t := 140) Look.eq (Sub.cons (t := 141) Look.eq (Sub.cons (t := 142) Look.eq (Sub.cons (t := 149) Look.eq (Sub.cons (t := 150) Look.eq (Sub.cons (t := 151) Look.eq (Sub.cons (t := 152) Look.eq (Sub.cons (t := 153) Look.eq (Sub.cons (t := 154) Look.eq (Sub.cons (t := 157) Look.eq (Sub.cons (t := 158) Look.eq (Sub.cons (t := 159) Look.eq (Sub.cons (t := 160) Look.eq (Sub.cons (t := 161) Look.eq (Sub.cons (t := 162) Look.eq (Sub.cons (t := 163) Look.eq (Sub.cons (t := 164) Look.eq (Sub.cons (t := 165) Look.eq (Sub.cons (t := 166) Look.eq (Sub.nil _)))))))))))))))))))))))))))))))))) ?_
              refine KA.region rfl ?_
              refine KOps.add (by first | omega | (simp; omega)) (by first | omega | (simp; omega)) ?_
              refine KOps.move ?_
              refine KOps.done ?_
              refine lpQ.normal (m + 1) (by repeat (first | exact Sub.nil _ | refine Sub.cons Look.eq ?_ | refine Sub.cons (Eq.trans Look.eq (congrArg (AV.int _) (by first | omega | (dsimp only; omega)))) ?_)) ⟨by omega, hS⟩ (by omega)
            · intro g159
              have g159 := of_decide_eq_false g159
              refine KOps.guardNo (dj := 159) rfl rfl rfl ?_
              refine KOps.guardNo (dj := 159) rfl rfl rfl ?_
              refine KOps.guardNo (dj := 159) rfl rfl rfl ?_
              refine KOps.guardNo (dj := 159) rfl rfl rfl ?_
              refine KOps.guardNo (dj := 159) rfl rfl rfl ?_
              refine KOps.guardYes (dj := 156) rfl rfl ?_
              refine KOps.pickF ?_
              refine KOps.pickF ?_
              refine KOps.done ?_
              refine sqQ.normal ?_
              refine KA.sub (Sub.cons (t := 5) Look.eq (Sub.cons (t := 8) Look.eq (Sub.cons (t := 9) Look.eq (Sub.cons (t := 10) Look.eq (Sub.cons (t := 11) Look.eq (Sub.cons (t := 12) Look.eq (Sub.cons (t := 13) Look.eq (Sub.cons (t := 14) Look.eq (Sub.cons (t := 15) Look.eq (Sub.cons (t := 16) Look.eq (Sub.cons (t := 17) Look.eq (Sub.cons (t := 18) Look.eq (Sub.cons (t := 22) Look.eq (Sub.cons (t := 23) Look.eq (Sub.cons (t := 140) Look.eq (Sub.cons (t := 141) Look.eq (Sub.cons (t := 142) Look.eq (Sub.cons (t := 149) Look.eq (Sub.cons (t := 150) Look.eq (Sub.cons (t := 151) Look.eq (Sub.cons (t := 152) Look.eq (Sub.cons (t := 153) Look.eq (Sub.cons (t := 154) Look.eq (Sub.cons (t := 157) Look.eq (Sub.cons (t := 158) Look.eq (Sub.cons (t := 159) Look.eq (Sub.cons (t := 160) Look.eq (Sub.cons (t := 161) Look.eq (Sub.cons (t := 162) Look.eq (Sub.cons (t := 163) Look.eq (Sub.cons (t := 164) Look.eq (Sub.cons (t := 165) Look.eq (Sub.cons (t := 166) Look.eq (Sub.cons (t := 167) Look.eq (Sub.nil _))))))))))))))))))))))))))))))))))) ?_
              refine KA.condF ?_
              refine KA.skip ?_
              refine blQ.normal ?_
              refine sqQ.normal ?_
              refine KA.sub (Sub.cons (t := 5) Look.eq (Sub.cons (t := 8) Look.eq (Sub.cons (t := 9) Look.eq (Sub.cons (t := 10) Look.eq (Sub.cons (t := 11) Look.eq (Sub.cons (t := 12) Look.eq (Sub.cons (t := 13) Look.eq (Sub.cons (t := 14) Look.eq (Sub.cons (t := 15) Look.eq (Sub.cons (t := 16) Look.eq (Sub.cons (t := 17) Look.eq (Sub.cons (t := 18) Look.eq (Sub.cons (t := 22) Look.eq (Sub.cons (t := 23) Look.eq (Sub.cons (t := 140) Look.eq (Sub.cons (t := 141) Look.eq (Sub.cons (t := 142) Look.eq (Sub.cons (t := 149) Look.eq (Sub.cons (t := 150) Look.eq (Sub.cons (t := 151) Look.eq (Sub.cons (t := 152) Look.eq (Sub.cons (t := 153) Look.eq (Sub.cons (t := 154) Look.eq (Sub.cons (t := 157) Look.eq (Sub.cons (t := 158) Look.eq (Sub.cons (t := 159) Look.eq (Sub.cons (t := 160) Look.eq (Sub.cons (t := 161) Look.eq (Sub.cons (t := 162) Look.eq (Sub.cons (t := 163) Look.eq (Sub.cons (t := 164) Look.eq (Sub.cons (t := 165) Look.eq (Sub.cons (t := 166) Look.eq (Sub.nil _)))))))))))))))))))))))))))))))))) ?_
              refine KA.region rfl ?_
              refine KOps.add (by first | omega | (simp; omega)) (by first | omega | (simp; omega)) ?_
              refine KOps.move ?_
              refine KOps.done ?_
              refine lpQ.normal (m + 1) (by repeat (first | exact Sub.nil _ | refine Sub.cons Look.eq ?_ | refine Sub.cons (Eq.trans Look.eq (congrArg (AV.int _) (by first | omega | (dsimp only; omega)))) ?_)) ⟨by omega, hS⟩ (by omega)
          · intro g148
            have g148 := of_decide_eq_false g148
            refine KOps.guardNo (dj := 148) rfl rfl rfl ?_
            refine KOps.guardNo (dj := 148) rfl rfl rfl ?_
            refine KOps.guardNo (dj := 148) rfl rfl rfl ?_
            refine KOps.guardNo (dj := 148) rfl rfl rfl ?_
            refine KOps.guardNo (dj := 148) rfl rfl rfl ?_
            refine KOps.pickF ?_
            refine KOps.move ?_
            refine KOps.guardYes (dj := 156) rfl rfl ?_
            refine KOps.move ?_
            refine KOps.guardYes (dj := 156) rfl rfl ?_
            refine KOps.eql ?_
            refine KOps.guardYes (dj := 156) rfl rfl ?_
            refine KOps.move ?_
            refine KOps.guardB (dj := 159) rfl rfl true false rfl ?_ ?_
            · intro g159
              have g159 := of_decide_eq_true g159
              refine KOps.move ?_
              refine KOps.guardYes (dj := 159) rfl rfl ?_
              refine KOps.move ?_
              refine KOps.guardYes (dj := 159) rfl rfl ?_
              refine KOps.indexIJ (St.rowAt (pre := [_, _, _, _, _, _, _]) hS (by first | assumption | omega | (simp only [List.length_set, List.length_append, List.length_singleton, List.length_replicate, List.length_take]; omega)) (by first | omega | (simp; omega))) (j := j) (by first | omega | (simp; omega)) (by first | omega | (simp; omega)) ?_
              intro p162 hp162
              refine KOps.guardYes (dj := 159) rfl rfl ?_
              refine KOps.loadI hp162 (St.rowAt (pre := [_, _, _, _, _, _, _]) hS (by first | assumption | omega | (simp only [List.length_set, List.length_append, List.length_singleton, List.length_replicate, List.length_take]; omega)) (by first | omega | (simp; omega))) (by first | omega | (simp; omega)) ?_
              refine KOps.guardYes (dj := 159) rfl rfl ?_
              refine KOps.move ?_
              refine KOps.guardYes (dj := 159) rfl rfl ?_
              refine KOps.lss ?_
              rw [decide_eq_false (by have := says_least hB hfm hjl (ens_bi hcr g159); omega)]
              refine KOps.guardYes (dj := 156) rfl rfl ?_
              refine KOps.pickT ?_
              refine KOps.pickF ?_
              refine KOps.done ?_
              refine sqQ.normal ?_
              refine KA.sub (Sub.cons (t := 5) Look.eq (Sub.cons (t := 8) Look.eq (Sub.cons (t := 9) Look.eq (Sub.cons (t := 10) Look.eq (Sub.cons (t := 11) Look.eq (Sub.cons (t := 12) Look.eq (Sub.cons (t := 13) Look.eq (Sub.cons (t := 14) Look.eq (Sub.cons (t := 15) Look.eq (Sub.cons (t := 16) Look.eq (Sub.cons (t := 17) Look.eq (Sub.cons (t := 18) Look.eq (Sub.cons (t := 22) Look.eq (Sub.cons (t := 23) Look.eq (Sub.cons (t := 140) Look.eq (Sub.cons (t := 141) Look.eq (Sub.cons (t := 142) Look.eq (Sub.cons (t := 149) Look.eq (Sub.cons (t := 150) Look.eq (Sub.cons (t := 151) Look.eq (Sub.cons (t := 152) Look.eq (Sub.cons (t := 153) Look.eq (Sub.cons (t := 154) Look.eq (Sub.cons (t := 157) Look.eq (Sub.cons (t := 158) Look.eq (Sub.cons (t := 159) Look.eq (Sub.cons (t := 160) Look.eq (Sub.cons (t := 161) Look.eq (Sub.cons (t := 162) Look.eq (Sub.cons (t := 163) Look.eq (Sub.cons (t := 164) Look.eq (Sub.cons (t := 165) Look.eq (Sub.cons (t := 166) Look.eq (Sub.cons (t := 167) Look.eq (Sub.nil _))))))))))))))))))))))))))))))))))) ?_
              refine KA.condF ?_
              refine KA.skip ?_
              refine blQ.normal ?_
              refine sqQ.normal ?_
              refine KA.sub (Sub.cons (t := 5) Look.eq (Sub.cons (t := 8) Look.eq (Sub.cons (t := 9) Look.eq (Sub.cons (t := 10) Look.eq (Sub.cons (t := 11) Look.eq (Sub.cons (t := 12) Look.eq (Sub.cons (t := 13) Look.eq (Sub.cons (t := 14) Look.eq (Sub.cons (t := 15) Look.eq (Sub.cons (t := 16) Look.eq (Sub.cons (t := 17) Look.eq (Sub.cons (t := 18) Look.eq (Sub.cons (t := 22) Look.eq (Sub.cons (t := 23) Look.eq (Sub.cons (t := 140) Look.eq (Sub.cons (t := 141) Look.eq (Sub.cons (t := 142) Look.eq (Sub.cons (t := 149) Look.eq (Sub.cons (t := 150) Look.eq (Sub.cons (t := 151) Look.eq (Sub.cons (t := 152) Look.eq (Sub.cons (t := 153) Look.eq (Sub.cons (t := 154) Look.eq (Sub.cons (t := 157) Look.eq (Sub.cons (t := 158) Look.eq (Sub.cons (t := 159) Look.eq (Sub.cons (t := 160) Look.eq (Sub.cons (t := 161) Look.eq (Sub.cons (t := 162) Look.eq (Sub.cons (t := 163) Look.eq (Sub.cons (t := 164) Look.eq (Sub.cons (t := 165) Look.eq (Sub.cons (t := 166) Look.eq (Sub.nil _)))))))))))))))))))))))))))))))))) ?_
              refine KA.region rfl ?_
              refine KOps.add (by first | omega | (simp; omega)) (by first | omega | (simp; omega)) ?_
              refine KOps.move ?_
              refine KOps.done ?_
              refine lpQ.normal (m + 1) (by repeat (first | exact Sub.nil _ | refine Sub.cons Look.eq ?_ | refine Sub.cons (Eq.trans Look.eq (congrArg (AV.int _) (by first | omega | (dsimp only; omega)))) ?_)) ⟨by omega, hS⟩ (by omega)
            · intro g159
              have g159 := of_decide_eq_false g159
              refine KOps.guardNo (dj := 159) rfl rfl rfl ?_
              refine KOps.guardNo (dj := 159) rfl rfl rfl ?_
              refine KOps.guardNo (dj := 159) rfl rfl rfl ?_
              refine KOps.guardNo (dj := 159) rfl rfl rfl ?_
              refine KOps.guardNo (dj := 159) rfl rfl rfl ?_
              refine KOps.guardYes (dj := 156) rfl rfl ?_
              refine KOps.pickF ?_
              refine KOps.pickF ?_
              refine KOps.done ?_
              refine sqQ.normal ?_
              refine KA.sub (Sub.cons (t := 5) Look.eq (Sub.cons (t := 8) Look.eq (Sub.cons (t := 9) Look.eq (Sub.cons (t := 10) Look.eq (Sub.cons (t := 11) Look.eq (Sub.cons (t := 12) Look.eq (Sub.cons (t := 13) Look.eq (Sub.cons (t := 14) Look.eq (Sub.cons (t := 15) Look.eq (Sub.cons (t := 16) Look.eq (Sub.cons (t := 17) Look.eq (Sub.cons (t := 18) Look.eq (Sub.cons (t := 22) Look.eq (Sub.cons (t := 23) Look.eq (Sub.cons (t := 140) Look.eq (Sub.cons (t := 141) Look.eq (Sub.cons (t := 142) Look.eq (Sub.cons (t := 149) Look.eq (Sub.cons (t := 150) Look.eq (Sub.cons (t := 151) Look.eq (Sub.cons (t := 152) Look.eq (Sub.cons (t := 153) Look.eq (Sub.cons (t := 154) Look.eq (Sub.cons (t := 157) Look.eq (Sub.cons (t := 158) Look.eq (Sub.cons (t := 159) Look.eq (Sub.cons (t := 160) Look.eq (Sub.cons (t := 161) Look.eq (Sub.cons (t := 162) Look.eq (Sub.cons (t := 163) Look.eq (Sub.cons (t := 164) Look.eq (Sub.cons (t := 165) Look.eq (Sub.cons (t := 166) Look.eq (Sub.cons (t := 167) Look.eq (Sub.nil _))))))))))))))))))))))))))))))))))) ?_
              refine KA.condF ?_
              refine KA.skip ?_
              refine blQ.normal ?_
              refine sqQ.normal ?_
              refine KA.sub (Sub.cons (t := 5) Look.eq (Sub.cons (t := 8) Look.eq (Sub.cons (t := 9) Look.eq (Sub.cons (t := 10) Look.eq (Sub.cons (t := 11) Look.eq (Sub.cons (t := 12) Look.eq (Sub.cons (t := 13) Look.eq (Sub.cons (t := 14) Look.eq (Sub.cons (t := 15) Look.eq (Sub.cons (t := 16) Look.eq (Sub.cons (t := 17) Look.eq (Sub.cons (t := 18) Look.eq (Sub.cons (t := 22) Look.eq (Sub.cons (t := 23) Look.eq (Sub.cons (t := 140) Look.eq (Sub.cons (t := 141) Look.eq (Sub.cons (t := 142) Look.eq (Sub.cons (t := 149) Look.eq (Sub.cons (t := 150) Look.eq (Sub.cons (t := 151) Look.eq (Sub.cons (t := 152) Look.eq (Sub.cons (t := 153) Look.eq (Sub.cons (t := 154) Look.eq (Sub.cons (t := 157) Look.eq (Sub.cons (t := 158) Look.eq (Sub.cons (t := 159) Look.eq (Sub.cons (t := 160) Look.eq (Sub.cons (t := 161) Look.eq (Sub.cons (t := 162) Look.eq (Sub.cons (t := 163) Look.eq (Sub.cons (t := 164) Look.eq (Sub.cons (t := 165) Look.eq (Sub.cons (t := 166) Look.eq (Sub.nil _)))))))))))))))))))))))))))))))))) ?_
              refine KA.region rfl ?_
              refine KOps.add (by first | omega | (simp; omega)) (by first | omega | (simp; omega)) ?_
              refine KOps.move ?_
              refine KOps.done ?_
              refine lpQ.normal (m + 1) (by repeat (first | exact Sub.nil _ | refine Sub.cons Look.eq ?_ | refine Sub.cons (Eq.trans Look.eq (congrArg (AV.int _) (by first | omega | (dsimp only; omega)))) ?_)) ⟨by omega, hS⟩ (by omega)
        · intro c143
          refine KA.exit ?_
          refine sqQ.exit ?_
          refine lpQ.exit ?_
          refine blQ.here ?_
          refine sqQ.normal ?_
          refine KA.sub (Sub.cons (t := 5) Look.eq (Sub.cons (t := 8) Look.eq (Sub.cons (t := 9) Look.eq (Sub.cons (t := 10) Look.eq (Sub.cons (t := 11) Look.eq (Sub.cons (t := 12) Look.eq (Sub.cons (t := 13) Look.eq (Sub.cons (t := 14) Look.eq (Sub.cons (t := 15) Look.eq (Sub.cons (t := 16) Look.eq (Sub.cons (t := 17) Look.eq (Sub.cons (t := 18) Look.eq (Sub.cons (t := 22) Look.eq (Sub.cons (t := 23) Look.eq (Sub.nil _))))))))))))))) ?_
          refine KA.meet (X := AV) (fun w15 => [(5, p5), (8, .int .i64 (j : Int)), (9, p9), (10, vA), (11, .int .i64 lo), (12, .int .i64 hi), (13, .int .i64 e), (14, v14), (15, w15), (16, .int .i64 (k : Int)), (17, vl), (18, .int .i64 (saysV ws k j)), (23, .int .i64 (bi (inS k (ws.getD j default).t)))]) (fun w15 h' => ((w15 = vl ∧ lvs (ws.getD j default) k = true ∧ bestTo (pE e ws j true) (k + 1) = some k) ∨ (w15 = v15 ∧ bestTo (pE e ws j true) (k + 1) = bestTo (pE e ws j true) k)) ∧ St h h' ([⟨vl, 1, ints (roomsTo k 6), true⟩, ⟨v15, 1, ints (rowO (bestTo (pE e ws j true) k)), true⟩, ⟨v14, 1, ints (rowO (bestTo (pE e ws j false) k)), true⟩, ⟨p9, 0, wc (ws.getD j default), true⟩, ⟨p5, 0, [.int .i64 (r : Int), vB], true⟩, ⟨vB, 4, flr wc ws, true⟩, ⟨p2, 0, [.int .u8 a, vH], true⟩] ++ (matObjs true vA vs (allF ws) ++ []))) ?_ ?_
          ·
            refine KA.seq ?_
            refine KA.region rfl ?_
            refine KOps.move ?_
            refine KOps.eql ?_
            refine KOps.move ?_
            refine KOps.guardB (dj := 171) rfl rfl true false rfl ?_ ?_
            · intro g171
              have g171 := of_decide_eq_true g171
              refine KOps.move ?_
              refine KOps.guardYes (dj := 171) rfl rfl ?_
              refine KOps.eql ?_
              refine KOps.pickT ?_
              refine KOps.move ?_
              refine KOps.guardB (dj := 175) rfl rfl true false rfl ?_ ?_
              · intro g175
                have g175 := of_decide_eq_true g175
                refine KOps.move ?_
                refine KOps.guardYes (dj := 175) rfl rfl ?_
                refine KOps.move ?_
                refine KOps.guardYes (dj := 175) rfl rfl ?_
                refine KOps.eql ?_
                refine KOps.pickT ?_
                refine KOps.move ?_
                refine KOps.guardB (dj := 180) rfl rfl true false rfl ?_ ?_
                · intro g180
                  have g180 := of_decide_eq_true g180
                  refine KOps.move ?_
                  refine KOps.guardYes (dj := 180) rfl rfl ?_
                  refine KOps.eqNilR (hS.rd 1 rfl) hnn15 ?_
                  refine KOps.guardYes (dj := 180) rfl rfl ?_
                  refine KOps.move ?_
                  refine KOps.guardB (dj := 183) rfl rfl false true rfl ?_ ?_
                  · intro g183
                    have g183 := of_decide_eq_false g183
                    refine KOps.move ?_
                    refine KOps.guardYes (dj := 183) rfl rfl ?_
                    refine KOps.move ?_
                    refine KOps.guardYes (dj := 183) rfl rfl ?_
                    refine KOps.call rfl (better48_c (hS.rd 0 rfl) (hS.rd 1 rfl) (by omega)) ?_
                    rintro _ _ ⟨rfl, rfl⟩
                    refine KOps.guardYes (dj := 180) rfl rfl ?_
                    refine KOps.pickF ?_
                    refine KOps.pickT ?_
                    refine KOps.done ?_
                    refine sqQ.normal ?_
                    refine KA.sub (Sub.cons (t := 5) Look.eq (Sub.cons (t := 8) Look.eq (Sub.cons (t := 9) Look.eq (Sub.cons (t := 10) Look.eq (Sub.cons (t := 11) Look.eq (Sub.cons (t := 12) Look.eq (Sub.cons (t := 13) Look.eq (Sub.cons (t := 14) Look.eq (Sub.cons (t := 15) Look.eq (Sub.cons (t := 16) Look.eq (Sub.cons (t := 17) Look.eq (Sub.cons (t := 18) Look.eq (Sub.cons (t := 23) Look.eq (Sub.cons (t := 172) Look.eq (Sub.cons (t := 173) Look.eq (Sub.cons (t := 176) Look.eq (Sub.cons (t := 177) Look.eq (Sub.cons (t := 178) Look.eq (Sub.cons (t := 181) Look.eq (Sub.cons (t := 182) Look.eq (Sub.cons (t := 183) Look.eq (Sub.cons (t := 184) Look.eq (Sub.cons (t := 185) Look.eq (Sub.cons (t := 186) Look.eq (Sub.cons (t := 187) Look.eq (Sub.cons (t := 188) Look.eq (Sub.nil _))))))))))))))))))))))))))) ?_
                    refine KA.condB ?_ ?_
                    · intro c188
                      refine KA.region rfl ?_
                      refine KOps.move ?_
                      refine KOps.assign ?_
                      refine KOps.done ?_
                      exact mtQ.normal vl (by repeat (first | exact Sub.nil _ | refine Sub.cons Look.eq ?_ | refine Sub.cons (Eq.trans Look.eq (congrArg (AV.int _) (by first | omega | (dsimp only; omega)))) ?_)) ⟨.inl ⟨rfl, lvs_bi hcr g175, put_hi g171 (lvs_bi hcr g175) (by rw [g180, ← hhi, if_pos g171]) (by rw [bet_ne g183]; exact c188)⟩, hS⟩
                    · intro c188
                      refine KA.skip ?_
                      exact mtQ.normal v15 (by repeat (first | exact Sub.nil _ | refine Sub.cons Look.eq ?_ | refine Sub.cons (Eq.trans Look.eq (congrArg (AV.int _) (by first | omega | (dsimp only; omega)))) ?_)) ⟨.inr ⟨rfl, keep_hi ((.inr (.inr (.inr (by rw [bet_ne g183, c188])))))⟩, hS⟩
                  · intro g183
                    have g183 := of_decide_eq_true g183
                    refine KOps.guardNo (dj := 183) rfl rfl rfl ?_
                    refine KOps.guardNo (dj := 183) rfl rfl rfl ?_
                    refine KOps.guardYes (dj := 180) rfl rfl ?_
                    refine KOps.pickT ?_
                    refine KOps.pickT ?_
                    refine KOps.done ?_
                    refine sqQ.normal ?_
                    refine KA.sub (Sub.cons (t := 5) Look.eq (Sub.cons (t := 8) Look.eq (Sub.cons (t := 9) Look.eq (Sub.cons (t := 10) Look.eq (Sub.cons (t := 11) Look.eq (Sub.cons (t := 12) Look.eq (Sub.cons (t := 13) Look.eq (Sub.cons (t := 14) Look.eq (Sub.cons (t := 15) Look.eq (Sub.cons (t := 16) Look.eq (Sub.cons (t := 17) Look.eq (Sub.cons (t := 18) Look.eq (Sub.cons (t := 23) Look.eq (Sub.cons (t := 172) Look.eq (Sub.cons (t := 173) Look.eq (Sub.cons (t := 176) Look.eq (Sub.cons (t := 177) Look.eq (Sub.cons (t := 178) Look.eq (Sub.cons (t := 181) Look.eq (Sub.cons (t := 182) Look.eq (Sub.cons (t := 183) Look.eq (Sub.cons (t := 184) Look.eq (Sub.cons (t := 185) Look.eq (Sub.cons (t := 186) Look.eq (Sub.cons (t := 187) Look.eq (Sub.cons (t := 188) Look.eq (Sub.nil _))))))))))))))))))))))))))) ?_
                    refine KA.condT ?_
                    refine KA.region rfl ?_
                    refine KOps.move ?_
                    refine KOps.assign ?_
                    refine KOps.done ?_
                    exact mtQ.normal vl (by repeat (first | exact Sub.nil _ | refine Sub.cons Look.eq ?_ | refine Sub.cons (Eq.trans Look.eq (congrArg (AV.int _) (by first | omega | (dsimp only; omega)))) ?_)) ⟨.inl ⟨rfl, lvs_bi hcr g175, put_hi g171 (lvs_bi hcr g175) (by rw [g180, ← hhi, if_pos g171]) (bet_nil (pE_zero _ _ _ _) (by omega) g183)⟩, hS⟩
                · intro g180
                  have g180 := of_decide_eq_false g180
                  refine KOps.guardNo (dj := 180) rfl rfl rfl ?_
                  refine KOps.guardNo (dj := 180) rfl rfl rfl ?_
                  refine KOps.guardTup (dj := 183) rfl rfl ?_
                  refine KOps.guardTup (dj := 183) rfl rfl ?_
                  refine KOps.guardTup (dj := 183) rfl rfl ?_
                  refine KOps.guardNo (dj := 180) rfl rfl rfl ?_
                  refine KOps.pickF ?_
                  refine KOps.done ?_
                  refine sqQ.normal ?_
                  refine KA.sub (Sub.cons (t := 5) Look.eq (Sub.cons (t := 8) Look.eq (Sub.cons (t := 9) Look.eq (Sub.cons (t := 10) Look.eq (Sub.cons (t := 11) Look.eq (Sub.cons (t := 12) Look.eq (Sub.cons (t := 13) Look.eq (Sub.cons (t := 14) Look.eq (Sub.cons (t := 15) Look.eq (Sub.cons (t := 16) Look.eq (Sub.cons (t := 17) Look.eq (Sub.cons (t := 18) Look.eq (Sub.cons (t := 23) Look.eq (Sub.cons (t := 172) Look.eq (Sub.cons (t := 173) Look.eq (Sub.cons (t := 176) Look.eq (Sub.cons (t := 177) Look.eq (Sub.cons (t := 178) Look.eq (Sub.cons (t := 181) Look.eq (Sub.cons (t := 182) Look.eq (Sub.cons (t := 183) Look.eq (Sub.cons (t := 184) Look.eq (Sub.cons (t := 185) Look.eq (Sub.cons (t := 186) Look.eq (Sub.cons (t := 187) Look.eq (Sub.cons (t := 188) Look.eq (Sub.nil _))))))))))))))))))))))))))) ?_
                  refine KA.condF ?_
                  refine KA.skip ?_
                  exact mtQ.normal v15 (by repeat (first | exact Sub.nil _ | refine Sub.cons Look.eq ?_ | refine Sub.cons (Eq.trans Look.eq (congrArg (AV.int _) (by first | omega | (dsimp only; omega)))) ?_)) ⟨.inr ⟨rfl, keep_hi (.inr (.inr (.inl (fun h0 => g180 (by rw [h0, ← hhi, if_pos g171])))))⟩, hS⟩
              · intro g175
                have g175 := of_decide_eq_false g175
                refine KOps.guardNo (dj := 175) rfl rfl rfl ?_
                refine KOps.guardNo (dj := 175) rfl rfl rfl ?_
                refine KOps.pickF ?_
                refine KOps.move ?_
                refine KOps.guardNo (dj := 180) rfl rfl rfl ?_
                refine KOps.guardNo (dj := 180) rfl rfl rfl ?_
                refine KOps.guardNo (dj := 180) rfl rfl rfl ?_
                refine KOps.guardTup (dj := 183) rfl rfl ?_
                refine KOps.guardTup (dj := 183) rfl rfl ?_
                refine KOps.guardTup (dj := 183) rfl rfl ?_
                refine KOps.guardNo (dj := 180) rfl rfl rfl ?_
                refine KOps.pickF ?_
                refine KOps.done ?_
                refine sqQ.normal ?_
                refine KA.sub (Sub.cons (t := 5) Look.eq (Sub.cons (t := 8) Look.eq (Sub.cons (t := 9) Look.eq (Sub.cons (t := 10) Look.eq (Sub.cons (t := 11) Look.eq (Sub.cons (t := 12) Look.eq (Sub.cons (t := 13) Look.eq (Sub.cons (t := 14) Look.eq (Sub.cons (t := 15) Look.eq (Sub.cons (t := 16) Look.eq (Sub.cons (t := 17) Look.eq (Sub.cons (t := 18) Look.eq (Sub.cons (t := 23) Look.eq (Sub.cons (t := 172) Look.eq (Sub.cons (t := 173) Look.eq (Sub.cons (t := 176) Look.eq (Sub.cons (t := 177) Look.eq (Sub.cons (t := 178) Look.eq (Sub.cons (t := 181) Look.eq (Sub.cons (t := 182) Look.eq (Sub.cons (t := 183) Look.eq (Sub.cons (t := 184) Look.eq (Sub.cons (t := 185) Look.eq (Sub.cons (t := 186) Look.eq (Sub.cons (t := 187) Look.eq (Sub.cons (t := 188) Look.eq (Sub.nil _))))))))))))))))))))))))))) ?_
                refine KA.condF ?_
                refine KA.skip ?_
                exact mtQ.normal v15 (by repeat (first | exact Sub.nil _ | refine Sub.cons Look.eq ?_ | refine Sub.cons (Eq.trans Look.eq (congrArg (AV.int _) (by first | omega | (dsimp only; omega)))) ?_)) ⟨.inr ⟨rfl, keep_hi (.inr (.inl (fun h0 => g175 (lvs_to h0))))⟩, hS⟩
            · intro g171
              have g171 := of_decide_eq_false g171
              refine KOps.guardNo (dj := 171) rfl rfl rfl ?_
              refine KOps.pickF ?_
              refine KOps.move ?_
              refine KOps.guardNo (dj := 175) rfl rfl rfl ?_
              refine KOps.guardNo (dj := 175) rfl rfl rfl ?_
              refine KOps.guardNo (dj := 175) rfl rfl rfl ?_
              refine KOps.pickF ?_
              refine KOps.move ?_
              refine KOps.guardNo (dj := 180) rfl rfl rfl ?_
              refine KOps.guardNo (dj := 180) rfl rfl rfl ?_
              refine KOps.guardNo (dj := 180) rfl rfl rfl ?_
              refine KOps.guardTup (dj := 183) rfl rfl ?_
              refine KOps.guardTup (dj := 183) rfl rfl ?_
              refine KOps.guardTup (dj := 183) rfl rfl ?_
              refine KOps.guardNo (dj := 180) rfl rfl rfl ?_
              refine KOps.pickF ?_
              refine KOps.done ?_
              refine sqQ.normal ?_
              refine KA.sub (Sub.cons (t := 5) Look.eq (Sub.cons (t := 8) Look.eq (Sub.cons (t := 9) Look.eq (Sub.cons (t := 10) Look.eq (Sub.cons (t := 11) Look.eq (Sub.cons (t := 12) Look.eq (Sub.cons (t := 13) Look.eq (Sub.cons (t := 14) Look.eq (Sub.cons (t := 15) Look.eq (Sub.cons (t := 16) Look.eq (Sub.cons (t := 17) Look.eq (Sub.cons (t := 18) Look.eq (Sub.cons (t := 23) Look.eq (Sub.cons (t := 172) Look.eq (Sub.cons (t := 173) Look.eq (Sub.cons (t := 176) Look.eq (Sub.cons (t := 177) Look.eq (Sub.cons (t := 178) Look.eq (Sub.cons (t := 181) Look.eq (Sub.cons (t := 182) Look.eq (Sub.cons (t := 183) Look.eq (Sub.cons (t := 184) Look.eq (Sub.cons (t := 185) Look.eq (Sub.cons (t := 186) Look.eq (Sub.cons (t := 187) Look.eq (Sub.cons (t := 188) Look.eq (Sub.nil _))))))))))))))))))))))))))) ?_
              refine KA.condF ?_
              refine KA.skip ?_
              exact mtQ.normal v15 (by repeat (first | exact Sub.nil _ | refine Sub.cons Look.eq ?_ | refine Sub.cons (Eq.trans Look.eq (congrArg (AV.int _) (by first | omega | (dsimp only; omega)))) ?_)) ⟨.inr ⟨rfl, keep_hi (.inl g171)⟩, hS⟩
          ·
            rintro w15 h14 ⟨h15, hS⟩
            refine KA.seq ?_
            refine KA.region rfl ?_
            refine KOps.move ?_
            refine KOps.eql ?_
            refine KOps.move ?_
            refine KOps.guardB (dj := 192) rfl rfl true false rfl ?_ ?_
            · intro g192
              have g192 := of_decide_eq_true g192
              refine KOps.move ?_
              refine KOps.guardYes (dj := 192) rfl rfl ?_
              refine KOps.eql ?_
              refine KOps.pickT ?_
              refine KOps.move ?_
              refine KOps.guardB (dj := 196) rfl rfl true false rfl ?_ ?_
              · intro g196
                have g196 := of_decide_eq_true g196
                refine KOps.move ?_
                refine KOps.guardYes (dj := 196) rfl rfl ?_
                refine KOps.move ?_
                refine KOps.guardYes (dj := 196) rfl rfl ?_
                refine KOps.eql ?_
                refine KOps.pickT ?_
                refine KOps.move ?_
                refine KOps.guardB (dj := 201) rfl rfl true false rfl ?_ ?_
                · intro g201
                  have g201 := of_decide_eq_true g201
                  refine KOps.move ?_
                  refine KOps.guardYes (dj := 201) rfl rfl ?_
                  refine KOps.eqNilR (hS.rd 2 rfl) hnn14 ?_
                  refine KOps.guardYes (dj := 201) rfl rfl ?_
                  refine KOps.move ?_
                  refine KOps.guardB (dj := 204) rfl rfl false true rfl ?_ ?_
                  · intro g204
                    have g204 := of_decide_eq_false g204
                    refine KOps.move ?_
                    refine KOps.guardYes (dj := 204) rfl rfl ?_
                    refine KOps.move ?_
                    refine KOps.guardYes (dj := 204) rfl rfl ?_
                    refine KOps.call rfl (better48_c (hS.rd 0 rfl) (hS.rd 2 rfl) (by omega)) ?_
                    rintro _ _ ⟨rfl, rfl⟩
                    refine KOps.guardYes (dj := 201) rfl rfl ?_
                    refine KOps.pickF ?_
                    refine KOps.pickT ?_
                    refine KOps.done ?_
                    refine sqQ.normal ?_
                    refine KA.sub (Sub.cons (t := 5) Look.eq (Sub.cons (t := 8) Look.eq (Sub.cons (t := 9) Look.eq (Sub.cons (t := 10) Look.eq (Sub.cons (t := 11) Look.eq (Sub.cons (t := 12) Look.eq (Sub.cons (t := 13) Look.eq (Sub.cons (t := 14) Look.eq (Sub.cons (t := 15) Look.eq (Sub.cons (t := 16) Look.eq (Sub.cons (t := 17) Look.eq (Sub.cons (t := 193) Look.eq (Sub.cons (t := 194) Look.eq (Sub.cons (t := 197) Look.eq (Sub.cons (t := 198) Look.eq (Sub.cons (t := 199) Look.eq (Sub.cons (t := 202) Look.eq (Sub.cons (t := 203) Look.eq (Sub.cons (t := 204) Look.eq (Sub.cons (t := 205) Look.eq (Sub.cons (t := 206) Look.eq (Sub.cons (t := 207) Look.eq (Sub.cons (t := 208) Look.eq (Sub.cons (t := 209) Look.eq (Sub.nil _))))))))))))))))))))))))) ?_
                    refine KA.condB ?_ ?_
                    · intro c209
                      refine KA.region rfl ?_
                      refine KOps.move ?_
                      refine KOps.assign ?_
                      refine KOps.done ?_
                      refine blQ.normal ?_
                      refine sqQ.normal ?_
                      refine KA.sub (Sub.cons (t := 5) Look.eq (Sub.cons (t := 8) Look.eq (Sub.cons (t := 9) Look.eq (Sub.cons (t := 10) Look.eq (Sub.cons (t := 11) Look.eq (Sub.cons (t := 12) Look.eq (Sub.cons (t := 13) Look.eq (Sub.cons (t := 14) Look.eq (Sub.cons (t := 15) Look.eq (Sub.cons (t := 16) Look.eq (Sub.cons (t := 193) Look.eq (Sub.cons (t := 194) Look.eq (Sub.cons (t := 197) Look.eq (Sub.cons (t := 198) Look.eq (Sub.cons (t := 199) Look.eq (Sub.cons (t := 202) Look.eq (Sub.cons (t := 203) Look.eq (Sub.cons (t := 204) Look.eq (Sub.cons (t := 205) Look.eq (Sub.cons (t := 206) Look.eq (Sub.cons (t := 207) Look.eq (Sub.cons (t := 208) Look.eq (Sub.nil _))))))))))))))))))))))) ?_
                      refine KA.region rfl ?_
                      refine KOps.move ?_
                      refine KOps.add (by first | omega | (simp; omega)) (by first | omega | (simp; omega)) ?_
                      refine KOps.assign ?_
                      refine KOps.done ?_
                      have hen := ens_bi hcr g196
                      have hb14 := put_lo (e := e) (ws := ws) (i := j) (s := k) g192 hen (by rw [g201, ← hlo, if_pos g192]) (by rw [bet_ne g204]; exact c209)
                      rcases h15 with ⟨hw, hl, hb15⟩ | ⟨hw, hb15⟩
                      · exact (lvs_ens_no hl hen).elim
                      · refine lpQ.normal (k + 1, w15, vl) (by repeat (first | exact Sub.nil _ | refine Sub.cons Look.eq ?_ | refine Sub.cons (Eq.trans Look.eq (congrArg (AV.int _) (by first | omega | (dsimp only; omega)))) ?_)) ⟨by dsimp only; omega, ?_, ?_, ?_⟩ (by dsimp only; omega)
                        · dsimp only; rw [hb15, hw]; exact hnn15
                        · dsimp only; rw [hb14]; exact hn1
                        · dsimp only; rw [hw, hb15, hb14]; exact St.rep2 hS
                    · intro c209
                      refine KA.skip ?_
                      refine blQ.normal ?_
                      refine sqQ.normal ?_
                      refine KA.sub (Sub.cons (t := 5) Look.eq (Sub.cons (t := 8) Look.eq (Sub.cons (t := 9) Look.eq (Sub.cons (t := 10) Look.eq (Sub.cons (t := 11) Look.eq (Sub.cons (t := 12) Look.eq (Sub.cons (t := 13) Look.eq (Sub.cons (t := 14) Look.eq (Sub.cons (t := 15) Look.eq (Sub.cons (t := 16) Look.eq (Sub.cons (t := 193) Look.eq (Sub.cons (t := 194) Look.eq (Sub.cons (t := 197) Look.eq (Sub.cons (t := 198) Look.eq (Sub.cons (t := 199) Look.eq (Sub.cons (t := 202) Look.eq (Sub.cons (t := 203) Look.eq (Sub.cons (t := 204) Look.eq (Sub.cons (t := 205) Look.eq (Sub.cons (t := 206) Look.eq (Sub.cons (t := 207) Look.eq (Sub.cons (t := 208) Look.eq (Sub.nil _))))))))))))))))))))))) ?_
                      refine KA.region rfl ?_
                      refine KOps.move ?_
                      refine KOps.add (by first | omega | (simp; omega)) (by first | omega | (simp; omega)) ?_
                      refine KOps.assign ?_
                      refine KOps.done ?_
                      have hb14 := keep_lo (e := e) (ws := ws) (i := j) (s := k) ((.inr (.inr (.inr (by rw [bet_ne g204, c209])))))
                      rcases h15 with ⟨hw, hl, hb15⟩ | ⟨hw, hb15⟩
                      · refine lpQ.normal (k + 1, w15, v14) (by repeat (first | exact Sub.nil _ | refine Sub.cons Look.eq ?_ | refine Sub.cons (Eq.trans Look.eq (congrArg (AV.int _) (by first | omega | (dsimp only; omega)))) ?_)) ⟨by dsimp only; omega, ?_, ?_, ?_⟩ (by dsimp only; omega)
                        · dsimp only; rw [hb15]; exact fun h0 => hw.trans (hn1 h0)
                        · dsimp only; rw [hb14]; exact hnn14
                        · dsimp only; rw [hw, hb15, hb14]; exact St.rep1 hS
                      · refine lpQ.normal (k + 1, w15, v14) (by repeat (first | exact Sub.nil _ | refine Sub.cons Look.eq ?_ | refine Sub.cons (Eq.trans Look.eq (congrArg (AV.int _) (by first | omega | (dsimp only; omega)))) ?_)) ⟨by dsimp only; omega, ?_, ?_, ?_⟩ (by dsimp only; omega)
                        · dsimp only; rw [hb15, hw]; exact hnn15
                        · dsimp only; rw [hb14]; exact hnn14
                        · dsimp only; rw [hw, hb15, hb14]; exact St.tail hS
                  · intro g204
                    have g204 := of_decide_eq_true g204
                    refine KOps.guardNo (dj := 204) rfl rfl rfl ?_
                    refine KOps.guardNo (dj := 204) rfl rfl rfl ?_
                    refine KOps.guardYes (dj := 201) rfl rfl ?_
                    refine KOps.pickT ?_
                    refine KOps.pickT ?_
                    refine KOps.done ?_
                    refine sqQ.normal ?_
                    refine KA.sub (Sub.cons (t := 5) Look.eq (Sub.cons (t := 8) Look.eq (Sub.cons (t := 9) Look.eq (Sub.cons (t := 10) Look.eq (Sub.cons (t := 11) Look.eq (Sub.cons (t := 12) Look.eq (Sub.cons (t := 13) Look.eq (Sub.cons (t := 14) Look.eq (Sub.cons (t := 15) Look.eq (Sub.cons (t := 16) Look.eq (Sub.cons (t := 17) Look.eq (Sub.cons (t := 193) Look.eq (Sub.cons (t := 194) Look.eq (Sub.cons (t := 197) Look.eq (Sub.cons (t := 198) Look.eq (Sub.cons (t := 199) Look.eq (Sub.cons (t := 202) Look.eq (Sub.cons (t := 203) Look.eq (Sub.cons (t := 204) Look.eq (Sub.cons (t := 205) Look.eq (Sub.cons (t := 206) Look.eq (Sub.cons (t := 207) Look.eq (Sub.cons (t := 208) Look.eq (Sub.cons (t := 209) Look.eq (Sub.nil _))))))))))))))))))))))))) ?_
                    refine KA.condT ?_
                    refine KA.region rfl ?_
                    refine KOps.move ?_
                    refine KOps.assign ?_
                    refine KOps.done ?_
                    refine blQ.normal ?_
                    refine sqQ.normal ?_
                    refine KA.sub (Sub.cons (t := 5) Look.eq (Sub.cons (t := 8) Look.eq (Sub.cons (t := 9) Look.eq (Sub.cons (t := 10) Look.eq (Sub.cons (t := 11) Look.eq (Sub.cons (t := 12) Look.eq (Sub.cons (t := 13) Look.eq (Sub.cons (t := 14) Look.eq (Sub.cons (t := 15) Look.eq (Sub.cons (t := 16) Look.eq (Sub.cons (t := 193) Look.eq (Sub.cons (t := 194) Look.eq (Sub.cons (t := 197) Look.eq (Sub.cons (t := 198) Look.eq (Sub.cons (t := 199) Look.eq (Sub.cons (t := 202) Look.eq (Sub.cons (t := 203) Look.eq (Sub.cons (t := 204) Look.eq (Sub.cons (t := 205) Look.eq (Sub.cons (t := 206) Look.eq (Sub.cons (t := 207) Look.eq (Sub.cons (t := 208) Look.eq (Sub.nil _))))))))))))))))))))))) ?_
                    refine KA.region rfl ?_
                    refine KOps.move ?_
                    refine KOps.add (by first | omega | (simp; omega)) (by first | omega | (simp; omega)) ?_
                    refine KOps.assign ?_
                    refine KOps.done ?_
                    have hen := ens_bi hcr g196
                    have hb14 := put_lo (e := e) (ws := ws) (i := j) (s := k) g192 hen (by rw [g201, ← hlo, if_pos g192]) (bet_nil (pE_zero _ _ _ _) (by omega) g204)
                    rcases h15 with ⟨hw, hl, hb15⟩ | ⟨hw, hb15⟩
                    · exact (lvs_ens_no hl hen).elim
                    · refine lpQ.normal (k + 1, w15, vl) (by repeat (first | exact Sub.nil _ | refine Sub.cons Look.eq ?_ | refine Sub.cons (Eq.trans Look.eq (congrArg (AV.int _) (by first | omega | (dsimp only; omega)))) ?_)) ⟨by dsimp only; omega, ?_, ?_, ?_⟩ (by dsimp only; omega)
                      · dsimp only; rw [hb15, hw]; exact hnn15
                      · dsimp only; rw [hb14]; exact hn1
                      · dsimp only; rw [hw, hb15, hb14]; exact St.rep2 hS
                · intro g201
                  have g201 := of_decide_eq_false g201
                  refine KOps.guardNo (dj := 201) rfl rfl rfl ?_
                  refine KOps.guardNo (dj := 201) rfl rfl rfl ?_
                  refine KOps.guardTup (dj := 204) rfl rfl ?_
                  refine KOps.guardTup (dj := 204) rfl rfl ?_
                  refine KOps.guardTup (dj := 204) rfl rfl ?_
                  refine KOps.guardNo (dj := 201) rfl rfl rfl ?_
                  refine KOps.pickF ?_
                  refine KOps.done ?_
                  refine sqQ.normal ?_
                  refine KA.sub (Sub.cons (t := 5) Look.eq (Sub.cons (t := 8) Look.eq (Sub.cons (t := 9) Look.eq (Sub.cons (t := 10) Look.eq (Sub.cons (t := 11) Look.eq (Sub.cons (t := 12) Look.eq (Sub.cons (t := 13) Look.eq (Sub.cons (t := 14) Look.eq (Sub.cons (t := 15) Look.eq (Sub.cons (t := 16) Look.eq (Sub.cons (t := 17) Look.eq (Sub.cons (t := 193) Look.eq (Sub.cons (t := 194) Look.eq (Sub.cons (t := 197) Look.eq (Sub.cons (t := 198) Look.eq (Sub.cons (t := 199) Look.eq (Sub.cons (t := 202) Look.eq (Sub.cons (t := 203) Look.eq (Sub.cons (t := 204) Look.eq (Sub.cons (t := 205) Look.eq (Sub.cons (t := 206) Look.eq (Sub.cons (t := 207) Look.eq (Sub.cons (t := 208) Look.eq (Sub.cons (t := 209) Look.eq (Sub.nil _))))))))))))))))))))))))) ?_
                  refine KA.condF ?_
                  refine KA.skip ?_
                  refine blQ.normal ?_
                  refine sqQ.normal ?_
                  refine KA.sub (Sub.cons (t := 5) Look.eq (Sub.cons (t := 8) Look.eq (Sub.cons (t := 9) Look.eq (Sub.cons (t := 10) Look.eq (Sub.cons (t := 11) Look.eq (Sub.cons (t := 12) Look.eq (Sub.cons (t := 13) Look.eq (Sub.cons (t := 14) Look.eq (Sub.cons (t := 15) Look.eq (Sub.cons (t := 16) Look.eq (Sub.cons (t := 193) Look.eq (Sub.cons (t := 194) Look.eq (Sub.cons (t := 197) Look.eq (Sub.cons (t := 198) Look.eq (Sub.cons (t := 199) Look.eq (Sub.cons (t := 202) Look.eq (Sub.cons (t := 203) Look.eq (Sub.cons (t := 204) Look.eq (Sub.cons (t := 205) Look.eq (Sub.cons (t := 206) Look.eq (Sub.cons (t := 207) Look.eq (Sub.cons (t := 208) Look.eq (Sub.nil _))))))))))))))))))))))) ?_
                  refine KA.region rfl ?_
                  refine KOps.move ?_
                  refine KOps.add (by first | omega | (simp; omega)) (by first | omega | (simp; omega)) ?_
                  refine KOps.assign ?_
                  refine KOps.done ?_
                  have hb14 := keep_lo (e := e) (ws := ws) (i := j) (s := k) (.inr (.inr (.inl (fun h0 => g201 (by rw [h0, ← hlo, if_pos g192])))))
                  rcases h15 with ⟨hw, hl, hb15⟩ | ⟨hw, hb15⟩
                  · refine lpQ.normal (k + 1, w15, v14) (by repeat (first | exact Sub.nil _ | refine Sub.cons Look.eq ?_ | refine Sub.cons (Eq.trans Look.eq (congrArg (AV.int _) (by first | omega | (dsimp only; omega)))) ?_)) ⟨by dsimp only; omega, ?_, ?_, ?_⟩ (by dsimp only; omega)
                    · dsimp only; rw [hb15]; exact fun h0 => hw.trans (hn1 h0)
                    · dsimp only; rw [hb14]; exact hnn14
                    · dsimp only; rw [hw, hb15, hb14]; exact St.rep1 hS
                  · refine lpQ.normal (k + 1, w15, v14) (by repeat (first | exact Sub.nil _ | refine Sub.cons Look.eq ?_ | refine Sub.cons (Eq.trans Look.eq (congrArg (AV.int _) (by first | omega | (dsimp only; omega)))) ?_)) ⟨by dsimp only; omega, ?_, ?_, ?_⟩ (by dsimp only; omega)
                    · dsimp only; rw [hb15, hw]; exact hnn15
                    · dsimp only; rw [hb14]; exact hnn14
                    · dsimp only; rw [hw, hb15, hb14]; exact St.tail hS
              · intro g196
                have g196 := of_decide_eq_false g196
                refine KOps.guardNo (dj := 196) rfl rfl rfl ?_
                refine KOps.guardNo (dj := 196) rfl rfl rfl ?_
                refine KOps.pickF ?_
                refine KOps.move ?_
                refine KOps.guardNo (dj := 201) rfl rfl rfl ?_
                refine KOps.guardNo (dj := 201) rfl rfl rfl ?_
                refine KOps.guardNo (dj := 201) rfl rfl rfl ?_
                refine KOps.guardTup (dj := 204) rfl rfl ?_
                refine KOps.guardTup (dj := 204) rfl rfl ?_
                refine KOps.guardTup (dj := 204) rfl rfl ?_
                refine KOps.guardNo (dj := 201) rfl rfl rfl ?_
                refine KOps.pickF ?_
                refine KOps.done ?_
                refine sqQ.normal ?_
                refine KA.sub (Sub.cons (t := 5) Look.eq (Sub.cons (t := 8) Look.eq (Sub.cons (t := 9) Look.eq (Sub.cons (t := 10) Look.eq (Sub.cons (t := 11) Look.eq (Sub.cons (t := 12) Look.eq (Sub.cons (t := 13) Look.eq (Sub.cons (t := 14) Look.eq (Sub.cons (t := 15) Look.eq (Sub.cons (t := 16) Look.eq (Sub.cons (t := 17) Look.eq (Sub.cons (t := 193) Look.eq (Sub.cons (t := 194) Look.eq (Sub.cons (t := 197) Look.eq (Sub.cons (t := 198) Look.eq (Sub.cons (t := 199) Look.eq (Sub.cons (t := 202) Look.eq (Sub.cons (t := 203) Look.eq (Sub.cons (t := 204) Look.eq (Sub.cons (t := 205) Look.eq (Sub.cons (t := 206) Look.eq (Sub.cons (t := 207) Look.eq (Sub.cons (t := 208) Look.eq (Sub.cons (t := 209) Look.eq (Sub.nil _))))))))))))))))))))))))) ?_
                refine KA.condF ?_
                refine KA.skip ?_
                refine blQ.normal ?_
                refine sqQ.normal ?_
                refine KA.sub (Sub.cons (t := 5) Look.eq (Sub.cons (t := 8) Look.eq (Sub.cons (t := 9) Look.eq (Sub.cons (t := 10) Look.eq (Sub.cons (t := 11) Look.eq (Sub.cons (t := 12) Look.eq (Sub.cons (t := 13) Look.eq (Sub.cons (t := 14) Look.eq (Sub.cons (t := 15) Look.eq (Sub.cons (t := 16) Look.eq (Sub.cons (t := 193) Look.eq (Sub.cons (t := 194) Look.eq (Sub.cons (t := 197) Look.eq (Sub.cons (t := 198) Look.eq (Sub.cons (t := 199) Look.eq (Sub.cons (t := 202) Look.eq (Sub.cons (t := 203) Look.eq (Sub.cons (t := 204) Look.eq (Sub.cons (t := 205) Look.eq (Sub.cons (t := 206) Look.eq (Sub.cons (t := 207) Look.eq (Sub.cons (t := 208) Look.eq (Sub.nil _))))))))))))))))))))))) ?_
                refine KA.region rfl ?_
                refine KOps.move ?_
                refine KOps.add (by first | omega | (simp; omega)) (by first | omega | (simp; omega)) ?_
                refine KOps.assign ?_
                refine KOps.done ?_
                have hb14 := keep_lo (e := e) (ws := ws) (i := j) (s := k) (.inr (.inl (fun h0 => g196 (ens_to h0))))
                rcases h15 with ⟨hw, hl, hb15⟩ | ⟨hw, hb15⟩
                · refine lpQ.normal (k + 1, w15, v14) (by repeat (first | exact Sub.nil _ | refine Sub.cons Look.eq ?_ | refine Sub.cons (Eq.trans Look.eq (congrArg (AV.int _) (by first | omega | (dsimp only; omega)))) ?_)) ⟨by dsimp only; omega, ?_, ?_, ?_⟩ (by dsimp only; omega)
                  · dsimp only; rw [hb15]; exact fun h0 => hw.trans (hn1 h0)
                  · dsimp only; rw [hb14]; exact hnn14
                  · dsimp only; rw [hw, hb15, hb14]; exact St.rep1 hS
                · refine lpQ.normal (k + 1, w15, v14) (by repeat (first | exact Sub.nil _ | refine Sub.cons Look.eq ?_ | refine Sub.cons (Eq.trans Look.eq (congrArg (AV.int _) (by first | omega | (dsimp only; omega)))) ?_)) ⟨by dsimp only; omega, ?_, ?_, ?_⟩ (by dsimp only; omega)
                  · dsimp only; rw [hb15, hw]; exact hnn15
                  · dsimp only; rw [hb14]; exact hnn14
                  · dsimp only; rw [hw, hb15, hb14]; exact St.tail hS
            · intro g192
              have g192 := of_decide_eq_false g192
              refine KOps.guardNo (dj := 192) rfl rfl rfl ?_
              refine KOps.pickF ?_
              refine KOps.move ?_
              refine KOps.guardNo (dj := 196) rfl rfl rfl ?_
              refine KOps.guardNo (dj := 196) rfl rfl rfl ?_
              refine KOps.guardNo (dj := 196) rfl rfl rfl ?_
              refine KOps.pickF ?_
              refine KOps.move ?_
              refine KOps.guardNo (dj := 201) rfl rfl rfl ?_
              refine KOps.guardNo (dj := 201) rfl rfl rfl ?_
              refine KOps.guardNo (dj := 201) rfl rfl rfl ?_
              refine KOps.guardTup (dj := 204) rfl rfl ?_
              refine KOps.guardTup (dj := 204) rfl rfl ?_
              refine KOps.guardTup (dj := 204) rfl rfl ?_
              refine KOps.guardNo (dj := 201) rfl rfl rfl ?_
              refine KOps.pickF ?_
              refine KOps.done ?_
              refine sqQ.normal ?_
              refine KA.sub (Sub.cons (t := 5) Look.eq (Sub.cons (t := 8) Look.eq (Sub.cons (t := 9) Look.eq (Sub.cons (t := 10) Look.eq (Sub.cons (t := 11) Look.eq (Sub.cons (t := 12) Look.eq (Sub.cons (t := 13) Look.eq (Sub.cons (t := 14) Look.eq (Sub.cons (t := 15) Look.eq (Sub.cons (t := 16) Look.eq (Sub.cons (t := 17) Look.eq (Sub.cons (t := 193) Look.eq (Sub.cons (t := 194) Look.eq (Sub.cons (t := 197) Look.eq (Sub.cons (t := 198) Look.eq (Sub.cons (t := 199) Look.eq (Sub.cons (t := 202) Look.eq (Sub.cons (t := 203) Look.eq (Sub.cons (t := 204) Look.eq (Sub.cons (t := 205) Look.eq (Sub.cons (t := 206) Look.eq (Sub.cons (t := 207) Look.eq (Sub.cons (t := 208) Look.eq (Sub.cons (t := 209) Look.eq (Sub.nil _))))))))))))))))))))))))) ?_
              refine KA.condF ?_
              refine KA.skip ?_
              refine blQ.normal ?_
              refine sqQ.normal ?_
              refine KA.sub (Sub.cons (t := 5) Look.eq (Sub.cons (t := 8) Look.eq (Sub.cons (t := 9) Look.eq (Sub.cons (t := 10) Look.eq (Sub.cons (t := 11) Look.eq (Sub.cons (t := 12) Look.eq (Sub.cons (t := 13) Look.eq (Sub.cons (t := 14) Look.eq (Sub.cons (t := 15) Look.eq (Sub.cons (t := 16) Look.eq (Sub.cons (t := 193) Look.eq (Sub.cons (t := 194) Look.eq (Sub.cons (t := 197) Look.eq (Sub.cons (t := 198) Look.eq (Sub.cons (t := 199) Look.eq (Sub.cons (t := 202) Look.eq (Sub.cons (t := 203) Look.eq (Sub.cons (t := 204) Look.eq (Sub.cons (t := 205) Look.eq (Sub.cons (t := 206) Look.eq (Sub.cons (t := 207) Look.eq (Sub.cons (t := 208) Look.eq (Sub.nil _))))))))))))))))))))))) ?_
              refine KA.region rfl ?_
              refine KOps.move ?_
              refine KOps.add (by first | omega | (simp; omega)) (by first | omega | (simp; omega)) ?_
              refine KOps.assign ?_
              refine KOps.done ?_
              have hb14 := keep_lo (e := e) (ws := ws) (i := j) (s := k) (.inl g192)
              rcases h15 with ⟨hw, hl, hb15⟩ | ⟨hw, hb15⟩
              · refine lpQ.normal (k + 1, w15, v14) (by repeat (first | exact Sub.nil _ | refine Sub.cons Look.eq ?_ | refine Sub.cons (Eq.trans Look.eq (congrArg (AV.int _) (by first | omega | (dsimp only; omega)))) ?_)) ⟨by dsimp only; omega, ?_, ?_, ?_⟩ (by dsimp only; omega)
                · dsimp only; rw [hb15]; exact fun h0 => hw.trans (hn1 h0)
                · dsimp only; rw [hb14]; exact hnn14
                · dsimp only; rw [hw, hb15, hb14]; exact St.rep1 hS
              · refine lpQ.normal (k + 1, w15, v14) (by repeat (first | exact Sub.nil _ | refine Sub.cons Look.eq ?_ | refine Sub.cons (Eq.trans Look.eq (congrArg (AV.int _) (by first | omega | (dsimp only; omega)))) ?_)) ⟨by dsimp only; omega, ?_, ?_, ?_⟩ (by dsimp only; omega)
                · dsimp only; rw [hb15, hw]; exact hnn15
                · dsimp only; rw [hb14]; exact hnn14
                · dsimp only; rw [hw, hb15, hb14]; exact St.tail hS
    · intro c76
      obtain rfl : k = 2 ^ r := by omega
      have hbl1 := bound_short (r : Int) ws (j : Int) true
      have hbl2 := bound_short (r : Int) ws (j : Int) false
      refine KA.exit ?_
      refine sqQ.exit ?_
      refine lpQ.exit ?_
      refine blQ.here ?_
      refine sqQ.normal ?_
      refine KA.sub (Sub.cons (t := 5) Look.eq (Sub.cons (t := 8) Look.eq (Sub.cons (t := 9) Look.eq (Sub.cons (t := 11) Look.eq (Sub.cons (t := 12) Look.eq (Sub.cons (t := 13) Look.eq (Sub.cons (t := 14) Look.eq (Sub.cons (t := 15) Look.eq (Sub.nil _))))))))) ?_
      refine KA.seq ?_
      refine KA.region rfl ?_
      refine KOps.loadAll hS (i := 3) rfl hp5 (by rfl) (by decide) ?_
      refine KOps.move ?_
      refine KOps.call rfl (bound_c (hS.rd 4 rfl) (hSz.ext hS.keeps) true) ?_
      rintro _ hrT ⟨vT, rfl, hSN⟩
      have hS0 : St _ _ (_ :: _) := St.trans hS hSN
      clear hS
      have hS := hS0
      clear hS0
      rw [he]
      refine KOps.move ?_
      refine KOps.extract ?_
      refine KOps.extract ?_
      refine KOps.assign ?_
      refine KOps.assign ?_
      refine KOps.done ?_
      refine sqQ.normal ?_
      refine KA.sub (Sub.cons (t := 5) Look.eq (Sub.cons (t := 8) Look.eq (Sub.cons (t := 9) Look.eq (Sub.cons (t := 11) Look.eq (Sub.cons (t := 12) Look.eq (Sub.cons (t := 13) Look.eq (Sub.cons (t := 14) Look.eq (Sub.cons (t := 15) Look.eq (Sub.cons (t := 26) Look.eq (Sub.cons (t := 27) Look.eq (Sub.nil _))))))))))) ?_
      refine KA.seq ?_
      refine KA.region rfl ?_
      refine KOps.loadAll hS (i := 4) rfl hp5 (by rfl) (by decide) ?_
      refine KOps.move ?_
      refine KOps.call rfl (bound_c (hS.rd 5 rfl) (hSz.ext hS.keeps) false) ?_
      rintro _ hrF ⟨vF, rfl, hSN⟩
      have hS0 : St _ _ (_ :: _) := St.trans hS hSN
      clear hS
      have hS := hS0
      clear hS0
      rw [he]
      refine KOps.move ?_
      refine KOps.extract ?_
      refine KOps.extract ?_
      refine KOps.assign ?_
      refine KOps.assign ?_
      refine KOps.done ?_
      refine sqQ.normal ?_
      refine KA.sub (Sub.cons (t := 9) Look.eq (Sub.cons (t := 11) Look.eq (Sub.cons (t := 12) Look.eq (Sub.cons (t := 13) Look.eq (Sub.cons (t := 14) Look.eq (Sub.cons (t := 15) Look.eq (Sub.cons (t := 26) Look.eq (Sub.cons (t := 27) Look.eq (Sub.cons (t := 28) Look.eq (Sub.cons (t := 29) Look.eq (Sub.nil _))))))))))) ?_
      refine KA.seq ?_
      refine KA.seq ?_
      refine KA.region rfl ?_
      refine KOps.move ?_
      refine KOps.neq ?_
      refine KOps.done ?_
      refine sqQ.normal ?_
      refine KA.sub (Sub.cons (t := 9) Look.eq (Sub.cons (t := 11) Look.eq (Sub.cons (t := 12) Look.eq (Sub.cons (t := 13) Look.eq (Sub.cons (t := 14) Look.eq (Sub.cons (t := 15) Look.eq (Sub.cons (t := 26) Look.eq (Sub.cons (t := 27) Look.eq (Sub.cons (t := 28) Look.eq (Sub.cons (t := 29) Look.eq (Sub.cons (t := 224) Look.eq (Sub.nil _)))))))))))) ?_
      refine KA.condN ?_ ?_
      · intro c224
        have he12 : e = 12 := by
          by_cases h0 : 0 < (allF ws).length
          · rw [if_pos h0] at hask; exact absurd hask c224
          · rw [if_neg h0] at hask; exact hask
        have hb1 : boundL (r : Int) ws (j : Int) true = [] := by rw [boundL, if_neg (by omega)]
        have hb2 : boundL (r : Int) ws (j : Int) false = [] := by rw [boundL, if_neg (by omega)]
        rw [hb1, hb2] at hS
        refine KA.seq ?_
        refine KA.region rfl ?_
        refine KOps.move ?_
        refine KOps.eqlT he12 ?_
        refine KOps.move ?_
        refine KOps.guardYes (dj := 227) rfl rfl ?_
        refine KOps.move ?_
        refine KOps.guardYes (dj := 227) rfl rfl ?_
        refine KOps.eqlT he12 ?_
        refine KOps.pickT ?_
        refine KOps.move ?_
        refine KOps.guardYes (dj := 231) rfl rfl ?_
        refine KOps.move ?_
        refine KOps.guardYes (dj := 231) rfl rfl ?_
        refine KOps.eqlT he12 ?_
        refine KOps.pickT ?_
        refine KOps.move ?_
        refine KOps.guardYes (dj := 235) rfl rfl ?_
        refine KOps.move ?_
        refine KOps.guardYes (dj := 235) rfl rfl ?_
        refine KOps.lenI (hS.rd 1 rfl) ?_
        refine KOps.guardYes (dj := 235) rfl rfl ?_
        refine KOps.move ?_
        refine KOps.guardYes (dj := 235) rfl rfl ?_
        refine KOps.lenI (hS.rd 0 rfl) ?_
        refine KOps.guardYes (dj := 235) rfl rfl ?_
        refine KOps.add (by simp) (by simp) ?_
        refine KOps.guardYes (dj := 235) rfl rfl ?_
        refine KOps.eqlT rfl ?_
        refine KOps.pickT ?_
        refine KOps.move ?_
        refine KOps.guardYes (dj := 243) rfl rfl ?_
        refine KOps.call rfl (works_c (hSz.ext hS.keeps)) ?_
        rintro _ hwk ⟨rfl, hK⟩
        refine KOps.pickT ?_
        refine KOps.assign ?_
        refine KOps.done ?_
        refine sqQ.normal ?_
        refine KA.sub (Sub.cons (t := 4) Look.eq (Sub.nil _)) ?_
        refine KA.ret ?_
        refine sqQ.ret ?_
        refine fnQ.ret1 ?_
        exact rfl
      · intro c224
        have he0 : e = 0 := c224
        subst he0
        rw [if_pos rfl] at hlo hhi
        have hal0 : 0 < (allF ws).length := by
          refine Classical.byContradiction fun h0 => ?_
          rw [if_neg h0] at hask; exact absurd hask (by decide)
        have hex : ∃ n, Flow ws n := ⟨_, all_get hB hal0⟩
        refine KA.skip ?_
        refine sqQ.normal ?_
        refine KA.sub (Sub.cons (t := 9) Look.eq (Sub.cons (t := 11) Look.eq (Sub.cons (t := 12) Look.eq (Sub.cons (t := 14) Look.eq (Sub.cons (t := 15) Look.eq (Sub.cons (t := 26) Look.eq (Sub.cons (t := 27) Look.eq (Sub.cons (t := 28) Look.eq (Sub.cons (t := 29) Look.eq (Sub.nil _)))))))))) ?_
        refine KA.seq ?_
        refine KA.seq ?_
        refine KA.region rfl ?_
        refine KOps.move ?_
        refine KOps.fieldAddr hp9 ?_
        intro p247 hp247
        refine KOps.load hp247 (hS.rd 4 rfl) rfl ?_
        refine KOps.eql ?_
        refine KOps.done ?_
        refine sqQ.normal ?_
        refine KA.sub (Sub.cons (t := 9) Look.eq (Sub.cons (t := 11) Look.eq (Sub.cons (t := 14) Look.eq (Sub.cons (t := 15) Look.eq (Sub.cons (t := 26) Look.eq (Sub.cons (t := 27) Look.eq (Sub.cons (t := 28) Look.eq (Sub.cons (t := 29) Look.eq (Sub.cons (t := 249) Look.eq (Sub.nil _)))))))))) ?_
        refine KA.condD ?_ ?_
        · intro c249
          have hbt : boundL (r : Int) ws (j : Int) true = [] := bound_nil he (show hiOf ws j = (ws.getD j default).m by omega)
          refine KA.region rfl ?_
          refine KOps.assign ?_
          refine KOps.done ?_
          refine sqQ.normal ?_
          refine KA.sub (Sub.cons (t := 9) Look.eq (Sub.cons (t := 11) Look.eq (Sub.cons (t := 14) Look.eq (Sub.cons (t := 15) Look.eq (Sub.cons (t := 26) Look.eq (Sub.cons (t := 27) Look.eq (Sub.cons (t := 28) Look.eq (Sub.cons (t := 29) Look.eq (Sub.nil _))))))))) ?_
          refine KA.seq ?_
          refine KA.seq ?_
          refine KA.region rfl ?_
          refine KOps.move ?_
          refine KOps.fieldAddr hp9 ?_
          intro p253 hp253
          refine KOps.load hp253 (hS.rd 4 rfl) rfl ?_
          refine KOps.eql ?_
          refine KOps.done ?_
          refine sqQ.normal ?_
          refine KA.sub (Sub.cons (t := 14) Look.eq (Sub.cons (t := 15) Look.eq (Sub.cons (t := 26) Look.eq (Sub.cons (t := 27) Look.eq (Sub.cons (t := 28) Look.eq (Sub.cons (t := 29) Look.eq (Sub.cons (t := 255) Look.eq (Sub.nil _)))))))) ?_
          refine KA.condD ?_ ?_
          · intro c255
            have hbf : boundL (r : Int) ws (j : Int) false = [] := bound_nil he (show loOf ws j = (ws.getD j default).l by omega)
            refine KA.region rfl ?_
            refine KOps.assign ?_
            refine KOps.done ?_
            refine sqQ.normal ?_
            refine KA.sub (Sub.cons (t := 14) Look.eq (Sub.cons (t := 15) Look.eq (Sub.cons (t := 26) Look.eq (Sub.cons (t := 27) Look.eq (Sub.cons (t := 28) Look.eq (Sub.cons (t := 29) Look.eq (Sub.nil _))))))) ?_
            refine KA.seq ?_
            refine KA.region rfl ?_
            refine KOps.move ?_
            refine KOps.eqlT rfl ?_
            refine KOps.move ?_
            refine KOps.guardYes (dj := 260) rfl rfl ?_
            refine KOps.move ?_
            refine KOps.guardYes (dj := 260) rfl rfl ?_
            refine KOps.eqlT rfl ?_
            refine KOps.pickT ?_
            refine KOps.move ?_
            refine KOps.guardYes (dj := 264) rfl rfl ?_
            refine KOps.move ?_
            refine KOps.guardYes (dj := 264) rfl rfl ?_
            refine KOps.move ?_
            refine KOps.guardYes (dj := 264) rfl rfl ?_
            refine KOps.call rfl (same_c (hS.rd 1 rfl) (Row.nil _) (by omega)) ?_
            rintro _ _ ⟨rfl, rfl⟩
            rw [decide_eq_true hbt]
            refine KOps.pickT ?_
            refine KOps.move ?_
            refine KOps.guardYes (dj := 269) rfl rfl ?_
            refine KOps.move ?_
            refine KOps.guardYes (dj := 269) rfl rfl ?_
            refine KOps.move ?_
            refine KOps.guardYes (dj := 269) rfl rfl ?_
            refine KOps.call rfl (same_c (hS.rd 0 rfl) (Row.nil _) (by omega)) ?_
            rintro _ _ ⟨rfl, rfl⟩
            rw [decide_eq_true hbf]
            refine KOps.pickT ?_
            refine KOps.move ?_
            refine KOps.guardYes (dj := 274) rfl rfl ?_
            refine KOps.call rfl (works_c (hSz.ext hS.keeps)) ?_
            rintro _ hwk ⟨rfl, hK⟩
            refine KOps.pickT ?_
            refine KOps.assign ?_
            refine KOps.done ?_
            refine sqQ.normal ?_
            refine KA.sub (Sub.cons (t := 4) Look.eq (Sub.nil _)) ?_
            refine KA.ret ?_
            refine fnQ.ret1 ?_
            exact rfl
          · intro c255
            have hne2 : endI ws j false ≠ ownI ws j false := fun h0 => c255 (hlo.symm.trans h0)
            have hbf := bound_is he hne2
            refine KA.seq ?_
            refine KA.region rfl ?_
            refine KOps.move ?_
            refine KOps.eqNilR (hS.rd 3 rfl) hnn14 ?_
            rw [decide_eq_false (bound_has hB hex hjl hne2)]
            refine KOps.done ?_
            refine sqQ.normal ?_
            refine KA.sub (Sub.cons (t := 14) Look.eq (Sub.cons (t := 15) Look.eq (Sub.cons (t := 26) Look.eq (Sub.cons (t := 27) Look.eq (Sub.cons (t := 28) Look.eq (Sub.cons (t := 29) Look.eq (Sub.cons (t := 257) Look.eq (Sub.nil _)))))))) ?_
            refine KA.condF ?_
            refine KA.skip ?_
            refine sqQ.normal ?_
            refine KA.sub (Sub.cons (t := 14) Look.eq (Sub.cons (t := 15) Look.eq (Sub.cons (t := 26) Look.eq (Sub.cons (t := 27) Look.eq (Sub.cons (t := 28) Look.eq (Sub.cons (t := 29) Look.eq (Sub.nil _))))))) ?_
            refine KA.seq ?_
            refine KA.region rfl ?_
            refine KOps.move ?_
            refine KOps.eqlT rfl ?_
            refine KOps.move ?_
            refine KOps.guardYes (dj := 260) rfl rfl ?_
            refine KOps.move ?_
            refine KOps.guardYes (dj := 260) rfl rfl ?_
            refine KOps.eqlT rfl ?_
            refine KOps.pickT ?_
            refine KOps.move ?_
            refine KOps.guardYes (dj := 264) rfl rfl ?_
            refine KOps.move ?_
            refine KOps.guardYes (dj := 264) rfl rfl ?_
            refine KOps.move ?_
            refine KOps.guardYes (dj := 264) rfl rfl ?_
            refine KOps.call rfl (same_c (hS.rd 1 rfl) (Row.nil _) (by omega)) ?_
            rintro _ _ ⟨rfl, rfl⟩
            rw [decide_eq_true hbt]
            refine KOps.pickT ?_
            refine KOps.move ?_
            refine KOps.guardYes (dj := 269) rfl rfl ?_
            refine KOps.move ?_
            refine KOps.guardYes (dj := 269) rfl rfl ?_
            refine KOps.move ?_
            refine KOps.guardYes (dj := 269) rfl rfl ?_
            refine KOps.call rfl (same_c (hS.rd 0 rfl) (hS.rd 3 rfl) (by omega)) ?_
            rintro _ _ ⟨rfl, rfl⟩
            rw [decide_eq_true hbf]
            refine KOps.pickT ?_
            refine KOps.move ?_
            refine KOps.guardYes (dj := 274) rfl rfl ?_
            refine KOps.call rfl (works_c (hSz.ext hS.keeps)) ?_
            rintro _ hwk ⟨rfl, hK⟩
            refine KOps.pickT ?_
            refine KOps.assign ?_
            refine KOps.done ?_
            refine sqQ.normal ?_
            refine KA.sub (Sub.cons (t := 4) Look.eq (Sub.nil _)) ?_
            refine KA.ret ?_
            refine fnQ.ret1 ?_
            exact rfl
        · intro c249
          have hne : endI ws j true ≠ ownI ws j true := fun h0 => c249 (hhi.symm.trans h0)
          have hbt := bound_is he hne
          refine KA.seq ?_
          refine KA.region rfl ?_
          refine KOps.move ?_
          refine KOps.eqNilR (hS.rd 2 rfl) hnn15 ?_
          rw [decide_eq_false (bound_has hB hex hjl hne)]
          refine KOps.done ?_
          refine sqQ.normal ?_
          refine KA.sub (Sub.cons (t := 9) Look.eq (Sub.cons (t := 11) Look.eq (Sub.cons (t := 14) Look.eq (Sub.cons (t := 15) Look.eq (Sub.cons (t := 26) Look.eq (Sub.cons (t := 27) Look.eq (Sub.cons (t := 28) Look.eq (Sub.cons (t := 29) Look.eq (Sub.cons (t := 251) Look.eq (Sub.nil _)))))))))) ?_
          refine KA.condF ?_
          refine KA.skip ?_
          refine sqQ.normal ?_
          refine KA.sub (Sub.cons (t := 9) Look.eq (Sub.cons (t := 11) Look.eq (Sub.cons (t := 14) Look.eq (Sub.cons (t := 15) Look.eq (Sub.cons (t := 26) Look.eq (Sub.cons (t := 27) Look.eq (Sub.cons (t := 28) Look.eq (Sub.cons (t := 29) Look.eq (Sub.nil _))))))))) ?_
          refine KA.seq ?_
          refine KA.seq ?_
          refine KA.region rfl ?_
          refine KOps.move ?_
          refine KOps.fieldAddr hp9 ?_
          intro p253 hp253
          refine KOps.load hp253 (hS.rd 4 rfl) rfl ?_
          refine KOps.eql ?_
          refine KOps.done ?_
          refine sqQ.normal ?_
          refine KA.sub (Sub.cons (t := 14) Look.eq (Sub.cons (t := 15) Look.eq (Sub.cons (t := 26) Look.eq (Sub.cons (t := 27) Look.eq (Sub.cons (t := 28) Look.eq (Sub.cons (t := 29) Look.eq (Sub.cons (t := 255) Look.eq (Sub.nil _)))))))) ?_
          refine KA.condD ?_ ?_
          · intro c255
            have hbf : boundL (r : Int) ws (j : Int) false = [] := bound_nil he (show loOf ws j = (ws.getD j default).l by omega)
            refine KA.region rfl ?_
            refine KOps.assign ?_
            refine KOps.done ?_
            refine sqQ.normal ?_
            refine KA.sub (Sub.cons (t := 14) Look.eq (Sub.cons (t := 15) Look.eq (Sub.cons (t := 26) Look.eq (Sub.cons (t := 27) Look.eq (Sub.cons (t := 28) Look.eq (Sub.cons (t := 29) Look.eq (Sub.nil _))))))) ?_
            refine KA.seq ?_
            refine KA.region rfl ?_
            refine KOps.move ?_
            refine KOps.eqlT rfl ?_
            refine KOps.move ?_
            refine KOps.guardYes (dj := 260) rfl rfl ?_
            refine KOps.move ?_
            refine KOps.guardYes (dj := 260) rfl rfl ?_
            refine KOps.eqlT rfl ?_
            refine KOps.pickT ?_
            refine KOps.move ?_
            refine KOps.guardYes (dj := 264) rfl rfl ?_
            refine KOps.move ?_
            refine KOps.guardYes (dj := 264) rfl rfl ?_
            refine KOps.move ?_
            refine KOps.guardYes (dj := 264) rfl rfl ?_
            refine KOps.call rfl (same_c (hS.rd 1 rfl) (hS.rd 2 rfl) (by omega)) ?_
            rintro _ _ ⟨rfl, rfl⟩
            rw [decide_eq_true hbt]
            refine KOps.pickT ?_
            refine KOps.move ?_
            refine KOps.guardYes (dj := 269) rfl rfl ?_
            refine KOps.move ?_
            refine KOps.guardYes (dj := 269) rfl rfl ?_
            refine KOps.move ?_
            refine KOps.guardYes (dj := 269) rfl rfl ?_
            refine KOps.call rfl (same_c (hS.rd 0 rfl) (Row.nil _) (by omega)) ?_
            rintro _ _ ⟨rfl, rfl⟩
            rw [decide_eq_true hbf]
            refine KOps.pickT ?_
            refine KOps.move ?_
            refine KOps.guardYes (dj := 274) rfl rfl ?_
            refine KOps.call rfl (works_c (hSz.ext hS.keeps)) ?_
            rintro _ hwk ⟨rfl, hK⟩
            refine KOps.pickT ?_
            refine KOps.assign ?_
            refine KOps.done ?_
            refine sqQ.normal ?_
            refine KA.sub (Sub.cons (t := 4) Look.eq (Sub.nil _)) ?_
            refine KA.ret ?_
            refine fnQ.ret1 ?_
            exact rfl
          · intro c255
            have hne2 : endI ws j false ≠ ownI ws j false := fun h0 => c255 (hlo.symm.trans h0)
            have hbf := bound_is he hne2
            refine KA.seq ?_
            refine KA.region rfl ?_
            refine KOps.move ?_
            refine KOps.eqNilR (hS.rd 3 rfl) hnn14 ?_
            rw [decide_eq_false (bound_has hB hex hjl hne2)]
            refine KOps.done ?_
            refine sqQ.normal ?_
            refine KA.sub (Sub.cons (t := 14) Look.eq (Sub.cons (t := 15) Look.eq (Sub.cons (t := 26) Look.eq (Sub.cons (t := 27) Look.eq (Sub.cons (t := 28) Look.eq (Sub.cons (t := 29) Look.eq (Sub.cons (t := 257) Look.eq (Sub.nil _)))))))) ?_
            refine KA.condF ?_
            refine KA.skip ?_
            refine sqQ.normal ?_
            refine KA.sub (Sub.cons (t := 14) Look.eq (Sub.cons (t := 15) Look.eq (Sub.cons (t := 26) Look.eq (Sub.cons (t := 27) Look.eq (Sub.cons (t := 28) Look.eq (Sub.cons (t := 29) Look.eq (Sub.nil _))))))) ?_
            refine KA.seq ?_
            refine KA.region rfl ?_
            refine KOps.move ?_
            refine KOps.eqlT rfl ?_
            refine KOps.move ?_
            refine KOps.guardYes (dj := 260) rfl rfl ?_
            refine KOps.move ?_
            refine KOps.guardYes (dj := 260) rfl rfl ?_
            refine KOps.eqlT rfl ?_
            refine KOps.pickT ?_
            refine KOps.move ?_
            refine KOps.guardYes (dj := 264) rfl rfl ?_
            refine KOps.move ?_
            refine KOps.guardYes (dj := 264) rfl rfl ?_
            refine KOps.move ?_
            refine KOps.guardYes (dj := 264) rfl rfl ?_
            refine KOps.call rfl (same_c (hS.rd 1 rfl) (hS.rd 2 rfl) (by omega)) ?_
            rintro _ _ ⟨rfl, rfl⟩
            rw [decide_eq_true hbt]
            refine KOps.pickT ?_
            refine KOps.move ?_
            refine KOps.guardYes (dj := 269) rfl rfl ?_
            refine KOps.move ?_
            refine KOps.guardYes (dj := 269) rfl rfl ?_
            refine KOps.move ?_
            refine KOps.guardYes (dj := 269) rfl rfl ?_
            refine KOps.call rfl (same_c (hS.rd 0 rfl) (hS.rd 3 rfl) (by omega)) ?_
            rintro _ _ ⟨rfl, rfl⟩
            rw [decide_eq_true hbf]
            refine KOps.pickT ?_
            refine KOps.move ?_
            refine KOps.guardYes (dj := 274) rfl rfl ?_
            refine KOps.call rfl (works_c (hSz.ext hS.keeps)) ?_
            rintro _ hwk ⟨rfl, hK⟩
            refine KOps.pickT ?_
            refine KOps.assign ?_
            refine KOps.done ?_
            refine sqQ.normal ?_
            refine KA.sub (Sub.cons (t := 4) Look.eq (Sub.nil _)) ?_
            refine KA.ret ?_
            refine fnQ.ret1 ?_
            exact rfl

end Go.Am
