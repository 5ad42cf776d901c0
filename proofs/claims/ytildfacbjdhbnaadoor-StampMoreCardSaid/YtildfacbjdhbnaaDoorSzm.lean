/-
  Layer 01: a way more makes spans wider; narrower bounds make them narrower.
  Conditions: none.
-/
import Derived.Test.YtildfacbjdhbnaaDoorPr
namespace Go.Am
def way0 (rm : Int) (x : H4) : W := { hway rm x with l := 0 }
theorem way0_ok {rm : Int} {x : H4} (h2 : 2 ≤ rm) (hx : x.Ok) : WOk rm (way0 rm x) := by
  have h := hway_ok h2 hx
  have := h.l0
  have := h.lm
  exact ⟨h.f0, h.f1, h.t0, h.t1, h.ne, Int.le_refl _, by show 0 ≤ (hway rm x).m; omega, h.m1⟩

theorem law_more {h : AHeap} {a : Int} {vH : AV} {hs : List H4} (hv : Rd h vH 4 (flr hc hs)) (ha0 : 0 ≤ a) (ha1 : a ≤ 255) (hx : ∀ i, i < hs.length → (hs.getD i default).Ok) (hSz : Sizes h) {kk : Int} (hk0 : 0 ≤ kk) (hk1 : kk ≤ 255) {bb : Int} (hb0 : 0 ≤ bb) (hb1 : bb ≤ 255) {x : H4} (hxx : x.Ok) : ACalls Go.Proofs.Tryd.prog 12 [.agg [.int .u8 a, vH], .int .u8 kk, .int .u8 bb, .agg (hc x)] h (fun q h' => q = .bool true) := by
  refine KA.fn 215 [.tmp 8] Go.Proofs.Tryd.func12 rfl (by decide) rfl rfl (Nat.le_of_ble_eq_true rfl) ?_
  have hS := St.refl h
  have hvo : vH.one = true := hv.one
  have hx1 : ∀ i, i < [x].length → ([x].getD i default).Ok := by
    intro i hi
    obtain rfl : i = 0 := by simpa using hi
    exact hxx
  show KA _ 215 _ _ [(0, .agg [.int .u8 a, vH]), (1, .int .u8 kk), (2, .int .u8 bb), (3, .agg (hc x))] _
  refine KA.seq ?_
  refine KA.region rfl ?_
  refine KOps.boxAll hS (by first | rfl | (simp [AV.one]; done) | (simp [AV.one]; assumption) | (simp [AV.one, *]; done)) ?_
  intro p4 h' hp4 hS
  refine KOps.boxAll hS (by first | rfl | (simp [AV.one]; done) | (simp [AV.one]; assumption) | (simp [AV.one, *]; done)) ?_
  intro p7 h' hp7 hS
  refine KOps.assign ?_
  refine KOps.done ?_
  refine sqQ.normal ?_
  refine KA.sub (Sub.cons (t := 1) Look.eq (Sub.cons (t := 2) Look.eq (Sub.cons (t := 4) Look.eq (Sub.cons (t := 7) Look.eq (Sub.nil _))))) ?_
  refine KA.seq ?_
  refine KA.region rfl ?_
  refine KOps.loadAll hS (i := 1) rfl hp4 (by rfl) (by decide) ?_
  refine KOps.call rfl (made_c (m := 11) (Rd.ext hS.keeps hv) ha0 ha1 hx (by decide)) ?_
  rintro _ h2 ⟨vB, rfl, hSM⟩
  have hS0 : St _ _ (_ :: _) := St.trans hS hSM
  clear hS
  have hS := hS0
  clear hS0
  have hvB : vB.one = true := St.one hS (k := 0) rfl
  have hrb := roomsOf_b ha0
  have hB := made_ok (hs := hs) (k := 11) hrb.1 (by omega) (by decide) hx
  have hT := made_thin (roomsOf a) hs 11 hx
  have hwl5 : (madeW (roomsOf a) hs 11).length ≤ 11 := by rw [madeW_len]; omega
  generalize madeW (roomsOf a) hs 11 = ws at hB hT hS hwl5 ⊢
  obtain ⟨r, hr⟩ : ∃ r : Nat, roomsOf a = (r : Int) := ⟨(roomsOf a).toNat, by omega⟩
  rw [hr] at hB hrb ⊢
  have hpw : 2 ^ r ≤ 2 ^ 6 := Nat.pow_le_pow_right (by decide) (by omega)
  have hsh := shl64 r (by omega)
  have hc0 := chk_of_B hB
  have hwl := hB.len
  refine KOps.alloc hS ?_
  intro p9 h' hp9 hS
  refine KOps.storeAll hS rfl (i := 0) rfl hp9 (by show (true && (vB.one && true)) = true; rw [hvB]; rfl) (by rfl) (by rfl) (by decide) ?_
  intro h' hS
  simp only [List.set_cons_zero, List.set_cons_succ, Nat.zero_add] at hS
  refine KOps.done ?_
  refine sqQ.normal ?_
  refine KA.sub (Sub.cons (t := 1) Look.eq (Sub.cons (t := 2) Look.eq (Sub.cons (t := 4) Look.eq (Sub.cons (t := 7) Look.eq (Sub.cons (t := 9) Look.eq (Sub.nil _)))))) ?_
  refine KA.seq ?_
  refine KA.region rfl ?_
  refine KOps.loadAll hS (i := 0) rfl hp9 (by rfl) (by decide) ?_
  refine KOps.call rfl (stSpans_c (hS.rd 1 rfl)) ?_
  rintro _ hsp ⟨vR, rfl, hSN⟩
  have hS0 : St _ _ (_ :: _) := St.trans hS hSN
  clear hS
  have hS := hS0
  clear hS0

  refine KOps.move ?_
  refine KOps.extract ?_
  refine KOps.extract ?_
  refine KOps.assign ?_
  refine KOps.assign ?_
  refine KOps.done ?_
  refine sqQ.normal ?_
  refine KA.sub (Sub.cons (t := 1) Look.eq (Sub.cons (t := 2) Look.eq (Sub.cons (t := 4) Look.eq (Sub.cons (t := 7) Look.eq (Sub.cons (t := 9) Look.eq (Sub.cons (t := 10) Look.eq (Sub.cons (t := 11) Look.eq (Sub.nil _)))))))) ?_
  refine KA.seq ?_
  refine KA.seq ?_
  refine KA.region rfl ?_
  refine KOps.move ?_
  refine KOps.neq ?_
  refine KOps.done ?_
  refine sqQ.normal ?_
  refine KA.sub (Sub.cons (t := 1) Look.eq (Sub.cons (t := 2) Look.eq (Sub.cons (t := 4) Look.eq (Sub.cons (t := 7) Look.eq (Sub.cons (t := 9) Look.eq (Sub.cons (t := 10) Look.eq (Sub.cons (t := 11) Look.eq (Sub.cons (t := 28) Look.eq (Sub.nil _))))))))) ?_
  refine KA.condN ?_ ?_
  · intro c28
    refine KA.seq ?_
    refine KA.region rfl ?_
    refine KOps.move ?_
    refine KOps.eqlT ((agree_01 hB).resolve_left c28) ?_
    refine KOps.move ?_
    refine KOps.guardYes (dj := 31) rfl rfl ?_
    refine KOps.call rfl (works_c (hSz.ext hS.keeps)) ?_
    rintro _ hwk ⟨rfl, hK⟩
    refine KOps.pickT ?_
    refine KOps.assign ?_
    refine KOps.done ?_
    refine sqQ.normal ?_
    refine KA.sub (Sub.cons (t := 8) Look.eq (Sub.nil _)) ?_
    refine KA.ret ?_
    refine sqQ.ret ?_
    refine fnQ.ret1 ?_
    exact rfl
  · intro c28
    have e28 : agreeE (r : Int) ws = 0 := c28
    rw [e28] at hS ⊢
    rw [if_pos rfl] at hS
    have hex := (agree_ok e28).2
    have hsl := spansTo_len ws ws.length
    refine KA.skip ?_
    refine sqQ.normal ?_
    refine KA.sub (Sub.cons (t := 1) Look.eq (Sub.cons (t := 2) Look.eq (Sub.cons (t := 4) Look.eq (Sub.cons (t := 7) Look.eq (Sub.cons (t := 9) Look.eq (Sub.cons (t := 10) Look.eq (Sub.nil _))))))) ?_
    refine KA.seq ?_
    refine KA.seq ?_
    refine KA.region rfl ?_
    refine KOps.move ?_
    refine KOps.lenF pc_len (hS.rd 0 rfl) ?_
    refine KOps.fieldAddr hp9 ?_
    intro p36 hp36
    refine KOps.load hp36 (hS.rd 1 rfl) rfl ?_
    refine KOps.lenF wc_len (hS.rd 2 rfl) ?_
    refine KOps.neqF (by rw [spansTo_len]) ?_
    refine KOps.done ?_
    refine sqQ.normal ?_
    refine KA.sub (Sub.cons (t := 1) Look.eq (Sub.cons (t := 2) Look.eq (Sub.cons (t := 4) Look.eq (Sub.cons (t := 7) Look.eq (Sub.cons (t := 9) Look.eq (Sub.cons (t := 10) Look.eq (Sub.cons (t := 39) Look.eq (Sub.nil _)))))))) ?_
    refine KA.condF ?_
    refine KA.skip ?_
    refine sqQ.normal ?_
    refine KA.sub (Sub.cons (t := 1) Look.eq (Sub.cons (t := 2) Look.eq (Sub.cons (t := 4) Look.eq (Sub.cons (t := 7) Look.eq (Sub.cons (t := 9) Look.eq (Sub.cons (t := 10) Look.eq (Sub.nil _))))))) ?_
    refine KA.seq ?_
    refine KA.region rfl ?_
    refine KOps.fieldAddr hp4 ?_
    intro p40 hp40
    refine KOps.load hp40 (hS.rd 4 rfl) rfl ?_
    refine KOps.loadAll hS (i := 3) rfl hp7 (by rfl) (by decide) ?_
    refine KOps.buildSliceS (cs := (hc x)) hS rfl rfl rfl (by decide) ?_
    intro v43 h' hS
    have hv43 : v43.one = true := St.one hS (k := 0) rfl
    refine KOps.buildS2 (z0 := .int .u8 0) (z1 := .nils) (by kernel_rfl) (by rfl) (by kernel_rfl) (by kernel_rfl) (by kernel_rfl) (by first | rfl | assumption) (by first | rfl | assumption) ?_
    refine KOps.call rfl (made_c (m := 1) (hs := [x]) (hS.rd 0 rfl) ha0 ha1 hx1 (by decide)) ?_
    rintro _ hm2 ⟨vC, rfl, hSM2⟩
    have hS0 : St _ _ (_ :: _) := St.trans hS hSM2
    clear hS
    have hS := hS0
    clear hS0
    rw [hr] at hS ⊢
    rw [show madeW (r : Int) [x] 1 = [hway (r : Int) x] from rfl] at hS
    have hvC : vC.one = true := St.one hS (k := 0) rfl
    refine KOps.fieldG (off := 1) (by kernel_rfl) rfl ?_
    refine KOps.assign ?_
    refine KOps.done ?_
    refine sqQ.normal ?_
    refine KA.sub (Sub.cons (t := 1) Look.eq (Sub.cons (t := 2) Look.eq (Sub.cons (t := 9) Look.eq (Sub.cons (t := 10) Look.eq (Sub.cons (t := 12) Look.eq (Sub.nil _)))))) ?_
    refine KA.seq ?_
    refine KA.region rfl ?_
    refine KOps.move ?_
    refine KOps.indexF wc_len (hS.rd 0 rfl) (j := 0) rfl (by simp) ?_
    intro p48 hp48
    refine KOps.fieldAddr hp48 ?_
    intro p49 hp49
    refine KOps.store hS rfl (i := 0) rfl hp49 rfl (by dsimp only; rw [flr_len wc_len]; simp) ?_
    intro h6 hS
    simp only [List.set_cons_zero, List.set_cons_succ] at hS
    rw [set_l (by simp), show ([hway (r : Int) x].set 0 { ([hway (r : Int) x].getD 0 default) with l := 0 }) = [way0 (r : Int) x] from rfl] at hS
    refine KOps.done ?_
    refine sqQ.normal ?_
    refine KA.sub (Sub.cons (t := 1) Look.eq (Sub.cons (t := 2) Look.eq (Sub.cons (t := 9) Look.eq (Sub.cons (t := 10) Look.eq (Sub.cons (t := 12) Look.eq (Sub.nil _)))))) ?_
    refine KA.seq ?_
    refine KA.draw [5, 7] mixed rfl (by kernel_rfl) ?_
    refine KOps.fieldAddr hp9 ?_
    intro p50 hp50
    refine KOps.load hp50 (hS.rd 3 rfl) rfl ?_
    refine KOps.buildSliceS (cs := []) hS rfl rfl rfl (by decide) ?_
    intro v52 h52 hS
    refine KOps.fieldAddr hp9 ?_
    intro p53 hp53
    refine KOps.load hp53 (hS.rd 4 rfl) rfl ?_
    refine KOps.append hS (fun _ => rfl) (i := 0) rfl (a := 0) rfl (hS.rd 5 rfl) (b := ws.length) (flr_len wc_len ws) (wc_all ws) (by omega) ?_
    intro v55 h55 hS
    simp only [List.set_cons_zero, List.nil_append] at hS
    have hv55 : v55.one = true := St.one hS (k := 0) rfl
    refine KOps.move ?_
    refine KOps.append hS (fun _ => rfl) (i := 0) rfl (a := ws.length) (flr_len wc_len ws) (hS.rd 1 rfl) (b := 1) rfl rfl (by omega) ?_
    intro v57 h57 hS
    simp only [List.set_cons_zero, List.set_cons_succ] at hS
    rw [show flr wc [way0 (r : Int) x] = wc (way0 (r : Int) x) ++ [] from rfl, List.append_nil, flr_snoc] at hS
    have hv57 : v57.one = true := St.one hS (k := 0) rfl
    have hw0 := way0_ok hB.r2 hxx
    have hB2 := wide_ok hB hwl5 hw0
    have hw0m : 0 ≤ (way0 (r : Int) x).m := Int.le_trans hw0.l0 hw0.lm
    have hag2 := flow_agree hB2 (by obtain ⟨n, hn⟩ := hex; exact ⟨_, wide_flow hn (Int.le_refl _) hw0m⟩)
    have hwid : ∀ i, i < ws.length → loOf (ws ++ [way0 (r : Int) x]) i ≤ loOf ws i ∧ hiOf ws i ≤ hiOf (ws ++ [way0 (r : Int) x]) i := fun i hi => wide_span hex (Int.le_refl _) hw0m hi
    have hl2 : (ws ++ [way0 (r : Int) x]).length = ws.length + 1 := by rw [List.length_append, List.length_singleton]
    generalize ws ++ [way0 (r : Int) x] = ws2 at hS hB2 hag2 hwid hl2
    refine KOps.buildS2 (z0 := .int .i64 0) (z1 := .nils) (by kernel_rfl) (by rfl) (by kernel_rfl) (by kernel_rfl) (by kernel_rfl) (by first | rfl | assumption) (by first | rfl | assumption) ?_
    refine KOps.alloc hS ?_
    intro p13 h' hp13 hS
    refine KOps.storeAll hS rfl (i := 0) rfl hp13 (by show (true && (v57.one && true)) = true; rw [hv57]; rfl) (by rfl) (by rfl) (by decide) ?_
    intro h' hS
    simp only [List.set_cons_zero, List.set_cons_succ, Nat.zero_add] at hS
    refine KOps.done ?_
    refine sqQ.normal ?_
    refine KA.sub (Sub.cons (t := 1) Look.eq (Sub.cons (t := 2) Look.eq (Sub.cons (t := 9) Look.eq (Sub.cons (t := 10) Look.eq (Sub.cons (t := 13) Look.eq (Sub.nil _)))))) ?_
    refine KA.seq ?_
    refine KA.region rfl ?_
    refine KOps.loadAll hS (i := 0) rfl hp13 (by rfl) (by decide) ?_
    refine KOps.call rfl (stSpans_c (hS.rd 1 rfl)) ?_
    rintro _ hsp2 ⟨vR2, rfl, hSN⟩
    have hS0 : St _ _ (_ :: _) := St.trans hS hSN
    clear hS
    have hS := hS0
    clear hS0
    rw [hag2] at hS ⊢
    rw [if_pos rfl] at hS
    refine KOps.move ?_
    refine KOps.extract ?_
    refine KOps.extract ?_
    refine KOps.assign ?_
    refine KOps.assign ?_
    refine KOps.done ?_
    refine sqQ.normal ?_
    refine KA.sub (Sub.cons (t := 1) Look.eq (Sub.cons (t := 2) Look.eq (Sub.cons (t := 9) Look.eq (Sub.cons (t := 10) Look.eq (Sub.cons (t := 14) Look.eq (Sub.cons (t := 15) Look.eq (Sub.nil _))))))) ?_
    refine KA.seq ?_
    refine KA.seq ?_
    refine KA.region rfl ?_
    refine KOps.move ?_
    refine KOps.neqF rfl ?_
    refine KOps.move ?_
    refine KOps.guardYes (dj := 66) rfl rfl ?_
    refine KOps.move ?_
    refine KOps.guardYes (dj := 66) rfl rfl ?_
    refine KOps.lenF pc_len (hS.rd 0 rfl) ?_
    refine KOps.guardYes (dj := 66) rfl rfl ?_
    refine KOps.move ?_
    refine KOps.guardYes (dj := 66) rfl rfl ?_
    refine KOps.lenF pc_len (hS.rd 5 rfl) ?_
    refine KOps.guardYes (dj := 66) rfl rfl ?_
    refine KOps.add (by rw [spansTo_len]; omega) (by rw [spansTo_len]; omega) ?_
    refine KOps.guardYes (dj := 66) rfl rfl ?_
    refine KOps.neqF (by rw [spansTo_len, spansTo_len]; omega) ?_
    refine KOps.pickF ?_
    refine KOps.done ?_
    refine sqQ.normal ?_
    refine KA.sub (Sub.cons (t := 1) Look.eq (Sub.cons (t := 2) Look.eq (Sub.cons (t := 9) Look.eq (Sub.cons (t := 10) Look.eq (Sub.cons (t := 14) Look.eq (Sub.cons (t := 73) Look.eq (Sub.nil _))))))) ?_
    refine KA.condF ?_
    refine KA.skip ?_
    refine sqQ.normal ?_
    refine KA.sub (Sub.cons (t := 1) Look.eq (Sub.cons (t := 2) Look.eq (Sub.cons (t := 9) Look.eq (Sub.cons (t := 10) Look.eq (Sub.cons (t := 14) Look.eq (Sub.nil _)))))) ?_
    refine KA.seq ?_
    refine KA.seq ?_
    refine KA.region rfl ?_
    refine KOps.move ?_
    refine KOps.lenF pc_len (hS.rd 5 rfl) ?_
    rw [hsl]
    refine KOps.move ?_
    refine KOps.done ?_
    refine sqQ.normal ?_
    refine KA.sub (Sub.cons (t := 1) Look.eq (Sub.cons (t := 2) Look.eq (Sub.cons (t := 9) Look.eq (Sub.cons (t := 10) Look.eq (Sub.cons (t := 14) Look.eq (Sub.cons (t := 75) Look.eq (Sub.cons (t := 76) Look.eq (Sub.nil _)))))))) ?_
    refine KA.block ?_
    refine KA.loop (X := Nat) (fun i => [(1, .int .u8 kk), (2, .int .u8 bb), (9, p9), (10, vR), (14, vR2), (75, .int .i64 (ws.length : Int)), (76, .int .i64 (i : Int))]) (fun i h' => i ≤ ws.length ∧ St h h' [⟨vR2, 2, flr pc (spansTo ws2 ws2.length), true⟩, ⟨vR, 2, flr pc (spansTo ws ws.length), true⟩, ⟨p9, 0, [.int .i64 (r : Int), vB], true⟩, ⟨vB, 4, flr wc ws, true⟩]) (fun i => ws.length - i) 0 (by repeat (first | exact Sub.nil _ | refine Sub.cons Look.eq ?_ | refine Sub.cons (Eq.trans Look.eq (congrArg (AV.int _) (by first | omega | (dsimp only; omega)))) ?_)) ?_ ?_
    · exact ⟨Nat.zero_le _, St.pick [0, 5, 6, 7] (by decide) rfl hS⟩
    rintro i h70 ⟨hi, hS⟩
    refine KA.seq ?_
    refine KA.region rfl ?_
    refine KOps.lss ?_
    refine KOps.done ?_
    refine sqQ.normal ?_
    refine KA.seq ?_
    refine KA.condD ?_ ?_
    · intro c77
      have hsl2 := spansTo_len ws2 ws2.length
      have hw := hwid i (by omega)
      have hg := spansTo_get (ws := ws) (k := ws.length) (i := i) (by omega)
      have hg2 := spansTo_get (ws := ws2) (k := ws2.length) (i := i) (by omega)
      refine KA.skip ?_
      refine sqQ.normal ?_
      refine KA.sub (Sub.cons (t := 1) Look.eq (Sub.cons (t := 2) Look.eq (Sub.cons (t := 9) Look.eq (Sub.cons (t := 10) Look.eq (Sub.cons (t := 14) Look.eq (Sub.cons (t := 75) Look.eq (Sub.cons (t := 76) Look.eq (Sub.nil _)))))))) ?_
      refine KA.seq ?_
      refine KA.block ?_
      refine KA.seq ?_
      refine KA.region rfl ?_
      refine KOps.move ?_
      refine KOps.assign ?_
      refine KOps.done ?_
      refine sqQ.normal ?_
      refine KA.sub (Sub.cons (t := 1) Look.eq (Sub.cons (t := 2) Look.eq (Sub.cons (t := 9) Look.eq (Sub.cons (t := 10) Look.eq (Sub.cons (t := 14) Look.eq (Sub.cons (t := 16) Look.eq (Sub.cons (t := 75) Look.eq (Sub.cons (t := 76) Look.eq (Sub.nil _))))))))) ?_
      refine KA.seq ?_
      refine KA.draw [] mixed rfl (by kernel_rfl) ?_
      refine KOps.move ?_
      refine KOps.move ?_
      refine KOps.indexF pc_len (hS.rd 0 rfl) (j := i) (by first | omega | (simp; omega)) (by first | omega | (simp; omega)) ?_
      intro p81 hp81
      refine KOps.indexAt hp81 (j := 0) rfl (by decide) ?_
      intro p82 hp82
      refine KOps.loadFc pc_len (by decide) hp82 (hS.rd 0 rfl) (by first | omega | (simp; omega)) rfl ?_
      refine KOps.move ?_
      refine KOps.move ?_
      refine KOps.indexF pc_len (hS.rd 1 rfl) (j := i) (by first | omega | (simp; omega)) (by first | omega | (simp; omega)) ?_
      intro p86 hp86
      refine KOps.indexAt hp86 (j := 0) rfl (by decide) ?_
      intro p87 hp87
      refine KOps.loadFc pc_len (by decide) hp87 (hS.rd 1 rfl) (by first | omega | (simp; omega)) rfl ?_
      refine KOps.gtr ?_
      rw [hg2, hg, decide_eq_false (by dsimp only; omega)]
      refine KOps.move ?_
      refine KOps.guardYes (dj := 90) rfl rfl ?_
      refine KOps.move ?_
      refine KOps.guardYes (dj := 90) rfl rfl ?_
      refine KOps.move ?_
      refine KOps.guardYes (dj := 90) rfl rfl ?_
      refine KOps.indexF pc_len (hS.rd 0 rfl) (j := i) (by first | omega | (simp; omega)) (by first | omega | (simp; omega)) ?_
      intro p93 hp93
      refine KOps.guardYes (dj := 90) rfl rfl ?_
      refine KOps.indexAt hp93 (j := 1) rfl (by decide) ?_
      intro p94 hp94
      refine KOps.guardYes (dj := 90) rfl rfl ?_
      refine KOps.loadFc pc_len (by decide) hp94 (hS.rd 0 rfl) (by first | omega | (simp; omega)) rfl ?_
      refine KOps.guardYes (dj := 90) rfl rfl ?_
      refine KOps.move ?_
      refine KOps.guardYes (dj := 90) rfl rfl ?_
      refine KOps.move ?_
      refine KOps.guardYes (dj := 90) rfl rfl ?_
      refine KOps.indexF pc_len (hS.rd 1 rfl) (j := i) (by first | omega | (simp; omega)) (by first | omega | (simp; omega)) ?_
      intro p98 hp98
      refine KOps.guardYes (dj := 90) rfl rfl ?_
      refine KOps.indexAt hp98 (j := 1) rfl (by decide) ?_
      intro p99 hp99
      refine KOps.guardYes (dj := 90) rfl rfl ?_
      refine KOps.loadFc pc_len (by decide) hp99 (hS.rd 1 rfl) (by first | omega | (simp; omega)) rfl ?_
      refine KOps.guardYes (dj := 90) rfl rfl ?_
      refine KOps.lss ?_
      rw [hg2, hg, decide_eq_false (by dsimp only; omega)]
      refine KOps.pickF ?_
      refine KOps.done ?_
      refine sqQ.normal ?_
      refine KA.sub (Sub.cons (t := 1) Look.eq (Sub.cons (t := 2) Look.eq (Sub.cons (t := 9) Look.eq (Sub.cons (t := 10) Look.eq (Sub.cons (t := 14) Look.eq (Sub.cons (t := 75) Look.eq (Sub.cons (t := 76) Look.eq (Sub.cons (t := 91) Look.eq (Sub.cons (t := 92) Look.eq (Sub.cons (t := 93) Look.eq (Sub.cons (t := 94) Look.eq (Sub.cons (t := 95) Look.eq (Sub.cons (t := 96) Look.eq (Sub.cons (t := 97) Look.eq (Sub.cons (t := 98) Look.eq (Sub.cons (t := 99) Look.eq (Sub.cons (t := 100) Look.eq (Sub.cons (t := 101) Look.eq (Sub.cons (t := 102) Look.eq (Sub.nil _)))))))))))))))))))) ?_
      refine KA.condF ?_
      refine KA.skip ?_
      refine blQ.normal ?_
      refine sqQ.normal ?_
      refine KA.sub (Sub.cons (t := 1) Look.eq (Sub.cons (t := 2) Look.eq (Sub.cons (t := 9) Look.eq (Sub.cons (t := 10) Look.eq (Sub.cons (t := 14) Look.eq (Sub.cons (t := 75) Look.eq (Sub.cons (t := 76) Look.eq (Sub.cons (t := 91) Look.eq (Sub.cons (t := 92) Look.eq (Sub.cons (t := 93) Look.eq (Sub.cons (t := 94) Look.eq (Sub.cons (t := 95) Look.eq (Sub.cons (t := 96) Look.eq (Sub.cons (t := 97) Look.eq (Sub.cons (t := 98) Look.eq (Sub.cons (t := 99) Look.eq (Sub.cons (t := 100) Look.eq (Sub.cons (t := 101) Look.eq (Sub.nil _))))))))))))))))))) ?_
      refine KA.region rfl ?_
      refine KOps.add (by first | omega | (simp; omega)) (by first | omega | (simp; omega)) ?_
      refine KOps.move ?_
      refine KOps.done ?_
      exact lpQ.normal (i + 1) (by repeat (first | exact Sub.nil _ | refine Sub.cons Look.eq ?_ | refine Sub.cons (Eq.trans Look.eq (congrArg (AV.int _) (by first | omega | (dsimp only; omega)))) ?_)) ⟨by omega, hS⟩ (by omega)
    · intro c77
      refine KA.exit ?_
      refine sqQ.exit ?_
      refine lpQ.exit ?_
      refine blQ.here ?_
      refine sqQ.normal ?_
      refine KA.sub (Sub.cons (t := 1) Look.eq (Sub.cons (t := 2) Look.eq (Sub.cons (t := 9) Look.eq (Sub.cons (t := 10) Look.eq (Sub.nil _))))) ?_
      refine KA.seq ?_
      refine KA.seq ?_
      refine KA.region rfl ?_
      refine KOps.fieldAddr hp9 ?_
      intro p104 hp104
      refine KOps.load hp104 (hS.rd 2 rfl) rfl ?_
      refine KOps.lenF wc_len (hS.rd 3 rfl) ?_
      refine KOps.eql ?_
      refine KOps.done ?_
      refine sqQ.normal ?_
      refine KA.sub (Sub.cons (t := 1) Look.eq (Sub.cons (t := 2) Look.eq (Sub.cons (t := 9) Look.eq (Sub.cons (t := 10) Look.eq (Sub.cons (t := 107) Look.eq (Sub.nil _)))))) ?_
      refine KA.condD ?_ ?_
      · intro c107
        refine KA.seq ?_
        refine KA.region rfl ?_
        refine KOps.call rfl (works_c (hSz.ext hS.keeps)) ?_
        rintro _ hwk ⟨rfl, hK⟩
        refine KOps.assign ?_
        refine KOps.done ?_
        refine sqQ.normal ?_
        refine KA.sub (Sub.cons (t := 8) Look.eq (Sub.nil _)) ?_
        refine KA.ret ?_
        refine sqQ.ret ?_
        refine fnQ.ret1 ?_
        exact rfl
      · intro c107
        obtain ⟨j, hj, hjl⟩ := at_mod hk0 (show 0 < ws.length by omega)
        have hwj := hB.way j hjl
        have hwjl := hwj.l0
        have hwjm := hwj.m1
        have hwjlm := hwj.lm
        have htm := tmod_b hb0 (show (0 : Int) < 2 by decide)
        have htd : 0 ≤ bb.tdiv 2 ∧ bb.tdiv 2 ≤ 255 := ⟨Int.tdiv_nonneg hb0 (by decide), Int.le_trans (Int.tdiv_le_self 2 hb0) hb1⟩
        have htm2 := tmod_b htd.1 (show (0 : Int) < 2 by decide)
        refine KA.skip ?_
        refine sqQ.normal ?_
        refine KA.sub (Sub.cons (t := 1) Look.eq (Sub.cons (t := 2) Look.eq (Sub.cons (t := 9) Look.eq (Sub.cons (t := 10) Look.eq (Sub.nil _))))) ?_
        refine KA.seq ?_
        refine KA.region rfl ?_
        refine KOps.move ?_
        refine KOps.convU hk0 hk1 ?_
        refine KOps.fieldAddr hp9 ?_
        intro p111 hp111
        refine KOps.load hp111 (hS.rd 2 rfl) rfl ?_
        refine KOps.lenF wc_len (hS.rd 3 rfl) ?_
        refine KOps.rem (by omega) (by omega) (by omega) ?_
        rw [hj]
        refine KOps.assign ?_
        refine KOps.done ?_
        refine sqQ.normal ?_
        refine KA.sub (Sub.cons (t := 2) Look.eq (Sub.cons (t := 9) Look.eq (Sub.cons (t := 10) Look.eq (Sub.cons (t := 17) Look.eq (Sub.nil _))))) ?_
        refine KA.seq ?_
        refine KA.draw [5] mixed rfl (by kernel_rfl) ?_
        refine KOps.fieldAddr hp9 ?_
        intro p115 hp115
        refine KOps.load hp115 (hS.rd 2 rfl) rfl ?_
        refine KOps.buildSliceS (cs := []) hS rfl rfl rfl (by decide) ?_
        intro v117 h117 hS
        refine KOps.fieldAddr hp9 ?_
        intro p118 hp118
        refine KOps.load hp118 (hS.rd 3 rfl) rfl ?_
        refine KOps.append hS (fun _ => rfl) (i := 0) rfl (a := 0) rfl (hS.rd 4 rfl) (b := ws.length) (flr_len wc_len ws) (wc_all ws) (by omega) ?_
        intro v120 h120 hS
        simp only [List.set_cons_zero, List.nil_append] at hS
        have hv120 : v120.one = true := St.one hS (k := 0) rfl
        refine KOps.buildS2 (z0 := .int .i64 0) (z1 := .nils) (by kernel_rfl) (by rfl) (by kernel_rfl) (by kernel_rfl) (by kernel_rfl) (by first | rfl | assumption) (by first | rfl | assumption) ?_
        refine KOps.alloc hS ?_
        intro p18 h' hp18 hS
        refine KOps.storeAll hS rfl (i := 0) rfl hp18 (by show (true && (v120.one && true)) = true; rw [hv120]; rfl) (by rfl) (by rfl) (by decide) ?_
        intro h' hS
        simp only [List.set_cons_zero, List.set_cons_succ, Nat.zero_add] at hS
        refine KOps.done ?_
        refine sqQ.normal ?_
        refine KA.sub (Sub.cons (t := 2) Look.eq (Sub.cons (t := 10) Look.eq (Sub.cons (t := 17) Look.eq (Sub.cons (t := 18) Look.eq (Sub.nil _))))) ?_
        refine KA.seq ?_
        refine KA.draw [] mixed rfl (by kernel_rfl) ?_
        refine KOps.fieldAddr hp18 ?_
        intro p122 hp122
        refine KOps.load hp122 (hS.rd 0 rfl) rfl ?_
        refine KOps.move ?_
        refine KOps.fieldAddr hp18 ?_
        intro p125 hp125
        refine KOps.load hp125 (hS.rd 0 rfl) rfl ?_
        refine KOps.move ?_
        refine KOps.indexF wc_len (hS.rd 1 rfl) (j := j) rfl (by first | omega | (simp; omega)) ?_
        intro p128 hp128
        refine KOps.fieldAddr hp128 ?_
        intro p129 hp129
        refine KOps.loadFc wc_len (by decide) hp129 (hS.rd 1 rfl) (by first | omega | (simp; omega)) rfl ?_
        refine KOps.fieldAddr hp18 ?_
        intro p131 hp131
        refine KOps.load hp131 (hS.rd 0 rfl) rfl ?_
        refine KOps.move ?_
        refine KOps.indexF wc_len (hS.rd 1 rfl) (j := j) rfl (by first | omega | (simp; omega)) ?_
        intro p134 hp134
        refine KOps.fieldAddr hp134 ?_
        intro p135 hp135
        refine KOps.loadFc wc_len (by decide) hp135 (hS.rd 1 rfl) (by first | omega | (simp; omega)) rfl ?_
        refine KOps.move ?_
        refine KOps.convU hb0 hb1 ?_
        refine KOps.rem (by decide) (by omega) (by omega) ?_
        refine KOps.add (by first | omega | (simp; omega)) (by first | omega | (simp; omega)) ?_
        refine KOps.min ?_
        refine KOps.indexF wc_len (hS.rd 1 rfl) (j := j) rfl (by first | omega | (simp; omega)) ?_
        intro p142 hp142
        refine KOps.fieldAddr hp142 ?_
        intro p143 hp143
        refine KOps.store hS rfl (i := 1) rfl hp143 rfl (by dsimp only; rw [flr_len wc_len]; omega) ?_
        intro h143 hS
        simp only [List.set_cons_zero, List.set_cons_succ] at hS
        rw [set_l hjl] at hS
        refine KOps.done ?_
        refine sqQ.normal ?_
        refine KA.sub (Sub.cons (t := 2) Look.eq (Sub.cons (t := 10) Look.eq (Sub.cons (t := 17) Look.eq (Sub.cons (t := 18) Look.eq (Sub.nil _))))) ?_
        refine KA.seq ?_
        refine KA.draw [] mixed rfl (by kernel_rfl) ?_
        refine KOps.fieldAddr hp18 ?_
        intro p144 hp144
        refine KOps.load hp144 (hS.rd 0 rfl) rfl ?_
        refine KOps.move ?_
        refine KOps.fieldAddr hp18 ?_
        intro p147 hp147
        refine KOps.load hp147 (hS.rd 0 rfl) rfl ?_
        refine KOps.move ?_
        refine KOps.indexF wc_len (hS.rd 1 rfl) (j := j) rfl (by first | omega | (simp; omega)) ?_
        intro p150 hp150
        refine KOps.fieldAddr hp150 ?_
        intro p151 hp151
        refine KOps.loadFc wc_len (by decide) hp151 (hS.rd 1 rfl) (by first | omega | (simp; omega)) rfl ?_
        refine KOps.fieldAddr hp18 ?_
        intro p153 hp153
        refine KOps.load hp153 (hS.rd 0 rfl) rfl ?_
        refine KOps.move ?_
        refine KOps.indexF wc_len (hS.rd 1 rfl) (j := j) rfl (by first | omega | (simp; omega)) ?_
        intro p156 hp156
        refine KOps.fieldAddr hp156 ?_
        intro p157 hp157
        refine KOps.loadFc wc_len (by decide) hp157 (hS.rd 1 rfl) (by first | omega | (simp; omega)) rfl ?_
        refine KOps.move ?_
        refine KOps.convU hb0 hb1 ?_
        refine KOps.quo (by decide) (by omega) (by omega) ?_
        refine KOps.rem (by decide) (by omega) (by omega) ?_
        rw [setW_get hjl]
        dsimp only
        refine KOps.sub (by omega) (by omega) ?_
        refine KOps.max ?_
        refine KOps.indexF wc_len (hS.rd 1 rfl) (j := j) rfl (by first | omega | (simp; omega)) ?_
        intro p165 hp165
        refine KOps.fieldAddr hp165 ?_
        intro p166 hp166
        refine KOps.store hS rfl (i := 1) rfl hp166 rfl (by dsimp only; rw [flr_len wc_len, List.length_set]; omega) ?_
        intro h166 hS
        simp only [List.set_cons_zero, List.set_cons_succ] at hS
        rw [set_m (by rw [List.length_set]; exact hjl), set_lm2 hjl] at hS
        obtain ⟨l2, hl2e⟩ : ∃ q, q = Min.min (ws.getD j default).m ((ws.getD j default).l + bb.tmod 2) := ⟨_, rfl⟩
        obtain ⟨m2, hm2e⟩ : ∃ q, q = Max.max l2 ((ws.getD j default).m - (bb.tdiv 2).tmod 2) := ⟨_, rfl⟩
        rw [← hl2e, ← hm2e] at hS
        have hn0 : (ws.getD j default).l ≤ l2 := by omega
        have hn1 : l2 ≤ m2 := by omega
        have hn2 : m2 ≤ (ws.getD j default).m := by omega
        have hB3 := nrw_ok hB hjl hn0 hn1 hn2
        have hl3 := nrw_len ws j l2 m2
        refine KOps.done ?_
        refine sqQ.normal ?_
        refine KA.sub (Sub.cons (t := 10) Look.eq (Sub.cons (t := 18) Look.eq (Sub.nil _))) ?_
        refine KA.seq ?_
        refine KA.region rfl ?_
        refine KOps.loadAll hS (i := 0) rfl hp18 (by rfl) (by decide) ?_
        refine KOps.call rfl (stSpans_c (hS.rd 1 rfl)) ?_
        rintro _ hsp3 ⟨vR3, rfl, hSN⟩
        have hS0 : St _ _ (_ :: _) := St.trans hS hSN
        clear hS
        have hS := hS0
        clear hS0

        refine KOps.move ?_
        refine KOps.extract ?_
        refine KOps.extract ?_
        refine KOps.assign ?_
        refine KOps.assign ?_
        refine KOps.done ?_
        refine sqQ.normal ?_
        refine KA.sub (Sub.cons (t := 10) Look.eq (Sub.cons (t := 14) Look.eq (Sub.cons (t := 15) Look.eq (Sub.nil _)))) ?_
        refine KA.seq ?_
        refine KA.seq ?_
        refine KA.region rfl ?_
        refine KOps.move ?_
        refine KOps.neq ?_
        refine KOps.done ?_
        refine sqQ.normal ?_
        refine KA.sub (Sub.cons (t := 10) Look.eq (Sub.cons (t := 14) Look.eq (Sub.cons (t := 15) Look.eq (Sub.cons (t := 173) Look.eq (Sub.nil _))))) ?_
        refine KA.condN ?_ ?_
        · intro c173
          refine KA.seq ?_
          refine KA.region rfl ?_
          refine KOps.move ?_
          refine KOps.eqlT ((agree_01 hB3).resolve_left c173) ?_
          refine KOps.move ?_
          refine KOps.guardYes (dj := 176) rfl rfl ?_
          refine KOps.call rfl (works_c (hSz.ext hS.keeps)) ?_
          rintro _ hwk ⟨rfl, hK⟩
          refine KOps.pickT ?_
          refine KOps.assign ?_
          refine KOps.done ?_
          refine sqQ.normal ?_
          refine KA.sub (Sub.cons (t := 8) Look.eq (Sub.nil _)) ?_
          refine KA.ret ?_
          refine sqQ.ret ?_
          refine fnQ.ret1 ?_
          exact rfl
        · intro c173
          have e173 : agreeE (r : Int) (nrw ws j l2 m2) = 0 := c173
          rw [e173] at hS ⊢
          rw [if_pos rfl] at hS
          have hex3 := (agree_ok e173).2
          have hsl3 := spansTo_len (nrw ws j l2 m2) (nrw ws j l2 m2).length
          refine KA.skip ?_
          refine sqQ.normal ?_
          refine KA.sub (Sub.cons (t := 10) Look.eq (Sub.cons (t := 14) Look.eq (Sub.nil _))) ?_
          refine KA.seq ?_
          refine KA.seq ?_
          refine KA.region rfl ?_
          refine KOps.move ?_
          refine KOps.lenF pc_len (hS.rd 0 rfl) ?_
          refine KOps.move ?_
          refine KOps.lenF pc_len (hS.rd 4 rfl) ?_
          refine KOps.neqF (by rw [spansTo_len, spansTo_len, nrw_len]) ?_
          refine KOps.done ?_
          refine sqQ.normal ?_
          refine KA.sub (Sub.cons (t := 10) Look.eq (Sub.cons (t := 14) Look.eq (Sub.cons (t := 183) Look.eq (Sub.nil _)))) ?_
          refine KA.condF ?_
          refine KA.skip ?_
          refine sqQ.normal ?_
          refine KA.sub (Sub.cons (t := 10) Look.eq (Sub.cons (t := 14) Look.eq (Sub.nil _))) ?_
          refine KA.seq ?_
          refine KA.seq ?_
          refine KA.region rfl ?_
          refine KOps.move ?_
          refine KOps.lenF pc_len (hS.rd 4 rfl) ?_
          rw [hsl]
          refine KOps.move ?_
          refine KOps.done ?_
          refine sqQ.normal ?_
          refine KA.sub (Sub.cons (t := 10) Look.eq (Sub.cons (t := 14) Look.eq (Sub.cons (t := 185) Look.eq (Sub.cons (t := 186) Look.eq (Sub.nil _))))) ?_
          refine KA.block ?_
          refine KA.loop (X := Nat) (fun i => [(10, vR), (14, vR3), (185, .int .i64 (ws.length : Int)), (186, .int .i64 (i : Int))]) (fun i h' => i ≤ ws.length ∧ St h h' [⟨vR3, 2, flr pc (spansTo (nrw ws j l2 m2) (nrw ws j l2 m2).length), true⟩, ⟨vR, 2, flr pc (spansTo ws ws.length), true⟩]) (fun i => ws.length - i) 0 (by repeat (first | exact Sub.nil _ | refine Sub.cons Look.eq ?_ | refine Sub.cons (Eq.trans Look.eq (congrArg (AV.int _) (by first | omega | (dsimp only; omega)))) ?_)) ?_ ?_
          · exact ⟨Nat.zero_le _, St.pick [0, 4] (by decide) rfl hS⟩
          rintro i h80 ⟨hi, hS⟩
          refine KA.seq ?_
          refine KA.region rfl ?_
          refine KOps.lss ?_
          refine KOps.done ?_
          refine sqQ.normal ?_
          refine KA.seq ?_
          refine KA.condD ?_ ?_
          · intro c187
            have hw := nrw_span hjl hn0 hn2 hex3 (i := i) (by omega)
            have hg := spansTo_get (ws := ws) (k := ws.length) (i := i) (by omega)
            have hg3 := spansTo_get (ws := (nrw ws j l2 m2)) (k := (nrw ws j l2 m2).length) (i := i) (by omega)
            refine KA.skip ?_
            refine sqQ.normal ?_
            refine KA.sub (Sub.cons (t := 10) Look.eq (Sub.cons (t := 14) Look.eq (Sub.cons (t := 185) Look.eq (Sub.cons (t := 186) Look.eq (Sub.nil _))))) ?_
            refine KA.seq ?_
            refine KA.block ?_
            refine KA.seq ?_
            refine KA.region rfl ?_
            refine KOps.move ?_
            refine KOps.assign ?_
            refine KOps.done ?_
            refine sqQ.normal ?_
            refine KA.sub (Sub.cons (t := 10) Look.eq (Sub.cons (t := 14) Look.eq (Sub.cons (t := 19) Look.eq (Sub.cons (t := 185) Look.eq (Sub.cons (t := 186) Look.eq (Sub.nil _)))))) ?_
            refine KA.seq ?_
            refine KA.draw [] mixed rfl (by kernel_rfl) ?_
            refine KOps.move ?_
            refine KOps.move ?_
            refine KOps.indexF pc_len (hS.rd 0 rfl) (j := i) (by first | omega | (simp; omega)) (by first | omega | (simp; omega)) ?_
            intro p191 hp191
            refine KOps.indexAt hp191 (j := 0) rfl (by decide) ?_
            intro p192 hp192
            refine KOps.loadFc pc_len (by decide) hp192 (hS.rd 0 rfl) (by first | omega | (simp; omega)) rfl ?_
            refine KOps.move ?_
            refine KOps.move ?_
            refine KOps.indexF pc_len (hS.rd 1 rfl) (j := i) (by first | omega | (simp; omega)) (by first | omega | (simp; omega)) ?_
            intro p196 hp196
            refine KOps.indexAt hp196 (j := 0) rfl (by decide) ?_
            intro p197 hp197
            refine KOps.loadFc pc_len (by decide) hp197 (hS.rd 1 rfl) (by first | omega | (simp; omega)) rfl ?_
            refine KOps.lss ?_
            rw [hg3, hg, decide_eq_false (by dsimp only; omega)]
            refine KOps.move ?_
            refine KOps.guardYes (dj := 200) rfl rfl ?_
            refine KOps.move ?_
            refine KOps.guardYes (dj := 200) rfl rfl ?_
            refine KOps.move ?_
            refine KOps.guardYes (dj := 200) rfl rfl ?_
            refine KOps.indexF pc_len (hS.rd 0 rfl) (j := i) (by first | omega | (simp; omega)) (by first | omega | (simp; omega)) ?_
            intro p203 hp203
            refine KOps.guardYes (dj := 200) rfl rfl ?_
            refine KOps.indexAt hp203 (j := 1) rfl (by decide) ?_
            intro p204 hp204
            refine KOps.guardYes (dj := 200) rfl rfl ?_
            refine KOps.loadFc pc_len (by decide) hp204 (hS.rd 0 rfl) (by first | omega | (simp; omega)) rfl ?_
            refine KOps.guardYes (dj := 200) rfl rfl ?_
            refine KOps.move ?_
            refine KOps.guardYes (dj := 200) rfl rfl ?_
            refine KOps.move ?_
            refine KOps.guardYes (dj := 200) rfl rfl ?_
            refine KOps.indexF pc_len (hS.rd 1 rfl) (j := i) (by first | omega | (simp; omega)) (by first | omega | (simp; omega)) ?_
            intro p208 hp208
            refine KOps.guardYes (dj := 200) rfl rfl ?_
            refine KOps.indexAt hp208 (j := 1) rfl (by decide) ?_
            intro p209 hp209
            refine KOps.guardYes (dj := 200) rfl rfl ?_
            refine KOps.loadFc pc_len (by decide) hp209 (hS.rd 1 rfl) (by first | omega | (simp; omega)) rfl ?_
            refine KOps.guardYes (dj := 200) rfl rfl ?_
            refine KOps.gtr ?_
            rw [hg3, hg, decide_eq_false (by dsimp only; omega)]
            refine KOps.pickF ?_
            refine KOps.done ?_
            refine sqQ.normal ?_
            refine KA.sub (Sub.cons (t := 10) Look.eq (Sub.cons (t := 14) Look.eq (Sub.cons (t := 185) Look.eq (Sub.cons (t := 186) Look.eq (Sub.cons (t := 201) Look.eq (Sub.cons (t := 202) Look.eq (Sub.cons (t := 203) Look.eq (Sub.cons (t := 204) Look.eq (Sub.cons (t := 205) Look.eq (Sub.cons (t := 206) Look.eq (Sub.cons (t := 207) Look.eq (Sub.cons (t := 208) Look.eq (Sub.cons (t := 209) Look.eq (Sub.cons (t := 210) Look.eq (Sub.cons (t := 211) Look.eq (Sub.cons (t := 212) Look.eq (Sub.nil _))))))))))))))))) ?_
            refine KA.condF ?_
            refine KA.skip ?_
            refine blQ.normal ?_
            refine sqQ.normal ?_
            refine KA.sub (Sub.cons (t := 10) Look.eq (Sub.cons (t := 14) Look.eq (Sub.cons (t := 185) Look.eq (Sub.cons (t := 186) Look.eq (Sub.cons (t := 201) Look.eq (Sub.cons (t := 202) Look.eq (Sub.cons (t := 203) Look.eq (Sub.cons (t := 204) Look.eq (Sub.cons (t := 205) Look.eq (Sub.cons (t := 206) Look.eq (Sub.cons (t := 207) Look.eq (Sub.cons (t := 208) Look.eq (Sub.cons (t := 209) Look.eq (Sub.cons (t := 210) Look.eq (Sub.cons (t := 211) Look.eq (Sub.nil _)))))))))))))))) ?_
            refine KA.region rfl ?_
            refine KOps.add (by first | omega | (simp; omega)) (by first | omega | (simp; omega)) ?_
            refine KOps.move ?_
            refine KOps.done ?_
            exact lpQ.normal (i + 1) (by repeat (first | exact Sub.nil _ | refine Sub.cons Look.eq ?_ | refine Sub.cons (Eq.trans Look.eq (congrArg (AV.int _) (by first | omega | (dsimp only; omega)))) ?_)) ⟨by omega, hS⟩ (by omega)
          · intro c187
            refine KA.exit ?_
            refine sqQ.exit ?_
            refine lpQ.exit ?_
            refine blQ.here ?_
            refine sqQ.normal ?_
            refine KA.sub (Sub.nil _) ?_
            refine KA.seq ?_
            refine KA.region rfl ?_
            refine KOps.call rfl (works_c (hSz.ext hS.keeps)) ?_
            rintro _ hwk ⟨rfl, hK⟩
            refine KOps.assign ?_
            refine KOps.done ?_
            refine sqQ.normal ?_
            refine KA.sub (Sub.cons (t := 8) Look.eq (Sub.nil _)) ?_
            refine KA.ret ?_
            refine fnQ.ret1 ?_
            exact rfl

end Go.Am

namespace Go.Am
theorem law_more_arr {h : AHeap} {a : Int} {vH : AV} {hs : List H4} (hv : Rd h vH 4 (flr hc hs)) (ha0 : 0 ≤ a) (ha1 : a ≤ 255) (hx : ∀ i, i < hs.length → (hs.getD i default).Ok) (hSz : Sizes h) {kk : Int} (hk0 : 0 ≤ kk) (hk1 : kk ≤ 255) {bb : Int} (hb0 : 0 ≤ bb) (hb1 : bb ≤ 255) {l : List Int} (hl : l.length = 4) (hw : ∀ x ∈ l, (Lit.int .u8 x).wf = true) :
    ACalls Go.Proofs.Tryd.prog 12 [.agg [.int .u8 a, vH], .int .u8 kk, .int .u8 bb, .agg (l.map (AV.int .u8))] h (fun q _ => q = .bool true) := by
  rw [hc_of hl]
  exact law_more hv ha0 ha1 hx hSz hk0 hk1 hb0 hb1 (hOf_ok hl hw)
end Go.Am
