/-
  Layer 01: a flow is found just where there is one: contract.
  Conditions: none.
-/
import Derived.Test.YtdfhmdhjeiipfaaGreatDoorSCm
import Derived.Test.YtdfhmdhjeiipfaaGreatDoorCvb
import Derived.RangeFuncFrom
namespace Go.Am
theorem mins_within {rm : Int} {ws : List W} (hB : BOk rm ws) : Within ws (ws.map (·.l)) := by
  have hg : ∀ i, i < ws.length → (ws.map (·.l)).getD i 0 = (ws.getD i default).l := by
    intro i hi
    rw [List.getD_eq_getElem?_getD, List.getElem?_map, List.getD_eq_getElem?_getD, List.getElem?_eq_getElem hi]
    rfl
  exact ⟨by simp, fun i hi => by rw [hg i hi]; exact Int.le_refl _, fun i hi => by rw [hg i hi]; exact (hB.way i hi).lm⟩
theorem mins_next {ws : List W} {i : Nat} (hi : i < ws.length) : (ws.map (·.l)).take i ++ [(ws.getD i default).l] = (ws.map (·.l)).take (i + 1) := by
  have hl : i < (ws.map (·.l)).length := by simpa using hi
  rw [take_next hl]
  congr 1
  rw [List.getD_eq_getElem?_getD, List.getD_eq_getElem?_getD, List.getElem?_map, List.getElem?_eq_getElem hi]
  rfl
theorem keptL_flow {r : Nat} {ws : List W} {n : List Int} (hB : BOk (r : Int) ws) (hw : Within ws n) (h : ((keptL r ws n ws.length).any fun x => !decide (x = 0)) = false) : Flow ws n := by
  refine ⟨hw, fun x => ?_⟩
  by_cases hx : x < 0 ∨ (r : Int) ≤ x
  · exact kept_out hB.inR n hx _ (Nat.le_refl _)
  · have hg := keptL_get (ws := ws) (n := n) (k := ws.length) (show x.toNat < r by omega)
    rw [show ((x.toNat : Nat) : Int) = x by omega] at hg
    rw [List.any_eq_false] at h
    have hl := keptL_len r ws n ws.length
    have := h ((keptL r ws n ws.length).getD x.toNat 0) (by
      rw [List.getD_eq_getElem?_getD, List.getElem?_eq_getElem (by omega)]
      exact List.getElem_mem _)
    rw [hg] at this
    simpa using this
theorem keptL_dev {r : Nat} {ws : List W} {n : List Int} (h : ((keptL r ws n ws.length).any fun x => !decide (x = 0)) = true) : devTo ws n r ≠ 0 := by
  intro h0
  rw [List.any_eq_true] at h
  obtain ⟨x, hx, hne⟩ := h
  unfold keptL at hx
  obtain ⟨y, hy, rfl⟩ := List.mem_map.1 hx
  have := dev_zero h0 y (List.mem_range.1 hy)
  have h2 : keptTo ws n (y : Int) ws.length = 0 := this
  rw [h2] at hne
  exact absurd hne (by decide)
/-- No path for the first pairs of rooms. -/
def NoTo (ws : List W) (n : List Int) (r i j : Nat) : Prop := ∀ a b : Nat, a < r → b < r → (a < i ∨ (a = i ∧ b < j)) → ¬ (0 < kept ws n a ∧ kept ws n b < 0 ∧ ∃ vs E, Path ws n (fun _ => true) a vs b E)
theorem NoTo.zero (ws : List W) (n : List Int) (r : Nat) : NoTo ws n r 0 0 := fun a b _ _ h => by omega
theorem NoTo.row {ws : List W} {n : List Int} {r i : Nat} (h : NoTo ws n r i r) : NoTo ws n r (i + 1) 0 := fun a b ha hb hc => h a b ha hb (by omega)
theorem NoTo.more {ws : List W} {n : List Int} {r i j : Nat} (h : NoTo ws n r i j) (hn : ¬ (0 < kept ws n i ∧ kept ws n j < 0 ∧ ∃ vs E, Path ws n (fun _ => true) i vs j E)) : NoTo ws n r i (j + 1) := by
  intro a b ha hb hc
  by_cases he : a = i ∧ b = j
  · obtain ⟨rfl, rfl⟩ := he; exact hn
  · exact h a b ha hb (by omega)
theorem agree_flow {rm : Int} {ws : List W} {n : List Int} (h0 : chkB rm ws = 0) (hf : Flow ws n) : agreeE rm ws = 0 := by
  have hB := BOk.of h0
  have hr : InR ((rm.toNat : Nat) : Int) ws := by
    have := hB.r2
    rw [show ((rm.toNat : Nat) : Int) = rm by omega]
    exact hB.inR
  rw [agreeE, if_pos h0, canP, decide_eq_true h0, (hoffman hr hB.LM).2 ⟨n, hf⟩]
  rfl
theorem NoTo.lost {r : Nat} {ws : List W} {n : List Int} (h0 : chkB (r : Int) ws = 0) (hw : Within ws n) (hd : devTo ws n r ≠ 0) (h : NoTo ws n r r 0) : agreeE (r : Int) ws = 12 := by
  have hB := BOk.of h0
  rcases path_or_proof hB.inR hw hd with ⟨u, v, hu, hv, h1, h2, h3⟩ | ⟨s, hs, hp⟩
  · exact absurd ⟨h1, h2, h3⟩ (h u v hu hv (.inl hu))
  · have hc : canB r ws = false := by
      cases hb : canB r ws with
      | false => rfl
      | true => rw [canB_iff.1 hb s hs] at hp; cases hp
    rw [agreeE, if_pos h0, canP, decide_eq_true h0, Int.toNat_natCast, hc]
    rfl

theorem found_c {h : AHeap} {rm : Int} {vW : AV} {ws : List W} (hv : Rd h vW 4 (flr wc ws)) : ACalls Go.Proofs.Tryz.prog 47 [.agg [.int .i64 rm, vW]] h (fun q h' => ∃ qp, q = .tup [qp, .int .i64 (agreeE rm ws)] ∧ Keeps h h' ∧ qp.one = true ∧ (agreeE rm ws = 0 → ∃ n vn, AddrOf qp qp 0 0 ∧ Flow ws n ∧ St h h' [⟨qp, 0, [.int .i64 rm, vW, vn], true⟩, ⟨vn, 1, ints n, true⟩])) := by
  refine KA.fn 80 [.tmp 2, .tmp 3] Go.Proofs.Tryz.func47 rfl (by decide) rfl rfl (Nat.le_of_ble_eq_true rfl) ?_
  have hS := St.refl h
  have hvo : vW.one = true := hv.one
  show KA _ 80 _ _ [(0, .agg [.int .i64 rm, vW])] _
  refine KA.seq ?_
  refine KA.region rfl ?_
  refine KOps.boxAll hS (by first | rfl | (simp [AV.one]; done) | (simp [AV.one]; assumption) | (simp [AV.one, *]; done)) ?_
  intro p1 h' hp1 hS
  refine KOps.assign ?_
  refine KOps.assign ?_
  refine KOps.done ?_
  refine sqQ.normal ?_
  refine KA.sub (Sub.cons (t := 1) Look.eq (Sub.nil _)) ?_
  refine KA.scope ?_
  refine KA.seq ?_
  refine KA.seq ?_
  refine KA.region rfl ?_
  refine KOps.loadAll hS (i := 0) rfl hp1 (by rfl) (by decide) ?_
  refine KOps.call rfl (check_c (Rd.ext hS.keeps hv)) ?_
  rintro _ h5 ⟨rfl, hK⟩
  have hS0 : St _ _ (_ :: _) := St.trans hS (St.ofK hK)
  clear hS
  have hS := hS0
  clear hS0
  refine KOps.assign ?_
  refine KOps.done ?_
  refine sqQ.normal ?_
  refine KA.sub (Sub.cons (t := 1) Look.eq (Sub.cons (t := 4) Look.eq (Sub.nil _))) ?_
  refine KA.seq ?_
  refine KA.region rfl ?_
  refine KOps.move ?_
  refine KOps.neq ?_
  refine KOps.done ?_
  refine sqQ.normal ?_
  refine KA.sub (Sub.cons (t := 1) Look.eq (Sub.cons (t := 4) Look.eq (Sub.cons (t := 18) Look.eq (Sub.nil _)))) ?_
  refine KA.condN ?_ ?_
  · intro c18
    refine KA.seq ?_
    refine KA.region rfl ?_
    refine KOps.move ?_
    refine KOps.assign ?_
    refine KOps.assign ?_
    refine KOps.done ?_
    refine sqQ.normal ?_
    refine KA.sub (Sub.cons (t := 2) Look.eq (Sub.cons (t := 3) Look.eq (Sub.nil _))) ?_
    refine KA.ret ?_
    refine sqQ.ret ?_
    refine fnQ.retN ?_
    have e0 : agreeE rm ws = chkB rm ws := by rw [agreeE, if_neg c18]
    rw [e0]
    exact ⟨_, rfl, hS.keeps, rfl, fun h0 => absurd h0 c18⟩
  · intro c18
    obtain ⟨r, rfl⟩ : ∃ r : Nat, rm = (r : Int) := ⟨rm.toNat, by have := (BOk.of c18).r2; omega⟩
    have hB := BOk.of c18
    have hr6 := hB.r6
    have hwl := hB.len
    refine KA.skip ?_
    refine sqQ.normal ?_
    refine KA.sub (Sub.cons (t := 1) Look.eq (Sub.nil _)) ?_
    refine KA.seq ?_
    refine KA.region rfl ?_
    refine KOps.loadAll hS (i := 0) rfl hp1 (by rfl) (by decide) ?_
    refine KOps.buildA1 (z0 := .int .i64 0) (z1 := .nils) (z2 := .nils) (by kernel_rfl) (by rfl) (by kernel_rfl) (by kernel_rfl) (by first | rfl | assumption) (by first | rfl | assumption) ?_
    refine KOps.boxAll hS (by first | rfl | (simp [AV.one]; done) | (simp [AV.one]; assumption) | (simp [AV.one, *]; done)) ?_
    intro p22 h' hp22 hS
    refine KOps.assign ?_
    refine KOps.done ?_
    refine sqQ.normal ?_
    refine KA.sub (Sub.cons (t := 1) Look.eq (Sub.cons (t := 5) Look.eq (Sub.nil _))) ?_
    refine KA.seq ?_
    refine KA.seq ?_
    refine KA.region rfl ?_
    refine KOps.fieldAddr hp1 ?_
    intro p23 hp23
    refine KOps.load hp23 (hS.rd 1 rfl) rfl ?_
    refine KOps.lenF wc_len (Rd.ext hS.keeps hv) ?_
    refine KOps.move ?_
    refine KOps.done ?_
    refine sqQ.normal ?_
    refine KA.sub (Sub.cons (t := 5) Look.eq (Sub.cons (t := 24) Look.eq (Sub.cons (t := 25) Look.eq (Sub.cons (t := 26) Look.eq (Sub.nil _))))) ?_
    refine KA.block ?_
    refine KA.loop (X := Nat × AV) (fun x => [(5, p22), (24, vW), (25, .int .i64 (ws.length : Int)), (26, .int .i64 (x.1 : Int))]) (fun x h' => x.1 ≤ ws.length ∧ St h h' [⟨p22, 0, [.int .i64 (r : Int), vW, x.2], true⟩, ⟨p1, 0, [.int .i64 (r : Int), vW], true⟩, ⟨x.2, 1, ints ((ws.map (·.l)).take x.1), true⟩]) (fun x => ws.length - x.1) (0, .nils) (by repeat (first | exact Sub.nil _ | refine Sub.cons Look.eq ?_ | refine Sub.cons (Eq.trans Look.eq (congrArg (AV.int _) (by first | omega | (dsimp only; omega)))) ?_)) ?_ ?_
    · exact ⟨Nat.zero_le _, St.addNil 1 true hS⟩
    rintro ⟨i, vn⟩ h6 ⟨hi, hS⟩
    dsimp only at hi hS ⊢
    refine KA.seq ?_
    refine KA.region rfl ?_
    refine KOps.lss ?_
    refine KOps.done ?_
    refine sqQ.normal ?_
    refine KA.seq ?_
    refine KA.condD ?_ ?_
    · intro c27
      refine KA.skip ?_
      refine sqQ.normal ?_
      refine KA.sub (Sub.cons (t := 5) Look.eq (Sub.cons (t := 24) Look.eq (Sub.cons (t := 25) Look.eq (Sub.cons (t := 26) Look.eq (Sub.nil _))))) ?_
      refine KA.seq ?_
      refine KA.block ?_
      refine KA.seq ?_
      refine KA.region rfl ?_
      refine KOps.indexF wc_len (Rd.ext hS.keeps hv) (j := i) rfl (by first | omega | (simp; omega)) ?_
      intro p28 hp28
      refine KOps.loadFl wc_len (by decide) hp28 (Rd.ext hS.keeps hv) (by first | omega | (simp; omega)) ?_
      refine KOps.alloc hS ?_
      intro p7 h' hp7 hS
      refine KOps.storeAll hS rfl (i := 0) rfl hp7 (by first | rfl | (simp [AV.one]; done) | (simp [AV.one]; assumption) | (simp [AV.one, *]; done)) (by rfl) (by rfl) (by decide) ?_
      intro h' hS
      simp only [List.set_cons_zero, List.set_cons_succ, Nat.zero_add] at hS
      refine KOps.done ?_
      refine sqQ.normal ?_
      refine KA.sub (Sub.cons (t := 5) Look.eq (Sub.cons (t := 7) Look.eq (Sub.cons (t := 24) Look.eq (Sub.cons (t := 25) Look.eq (Sub.cons (t := 26) Look.eq (Sub.nil _)))))) ?_
      refine KA.draw [8] mixed rfl (by kernel_rfl) ?_
      refine KOps.move ?_
      refine KOps.move ?_
      refine KOps.nilP hp22 ?_
      refine KOps.fieldAddr hp22 ?_
      intro p33 hp33
      refine KOps.load hp33 (hS.rd 1 rfl) rfl ?_
      refine KOps.fieldAddr hp7 ?_
      intro p35 hp35
      refine KOps.load hp35 (hS.rd 0 rfl) rfl ?_
      refine KOps.buildSlice hS rfl (by decide) rfl ?_
      intro v37 h' hS
      refine KOps.appendI hS (fun _ => rfl) (i := 3) rfl (by first | omega | (simp; omega)) ?_
      intro r38 h' hr38 hS
      refine KOps.nilP hp22 ?_
      refine KOps.fieldAddr hp22 ?_
      intro p40 hp40
      refine KOps.store hS rfl (i := 1) rfl hp40 hr38 (by first | decide | simp) ?_
      intro h' hS
      simp only [List.set_cons_zero, List.set_cons_succ, Nat.zero_add] at hS
      refine KOps.done ?_
      refine blQ.normal ?_
      refine sqQ.normal ?_
      refine KA.sub (Sub.cons (t := 5) Look.eq (Sub.cons (t := 24) Look.eq (Sub.cons (t := 25) Look.eq (Sub.cons (t := 26) Look.eq (Sub.nil _))))) ?_
      refine KA.region rfl ?_
      refine KOps.add (by first | omega | (simp; omega)) (by first | omega | (simp; omega)) ?_
      refine KOps.move ?_
      refine KOps.done ?_
      rw [mins_next (by omega)] at hS
      exact lpQ.normal (i + 1, r38) (by repeat (first | exact Sub.nil _ | refine Sub.cons Look.eq ?_ | refine Sub.cons (Eq.trans Look.eq (congrArg (AV.int _) (by first | omega | (dsimp only; omega)))) ?_)) ⟨by dsimp only; omega, St.tail hS⟩ (by dsimp only; omega)
    · intro c27
      refine KA.exit ?_
      refine sqQ.exit ?_
      refine lpQ.exit ?_
      refine blQ.here ?_
      refine sqQ.normal ?_
      refine KA.sub (Sub.cons (t := 5) Look.eq (Sub.nil _)) ?_
      refine KA.seq ?_
      refine KA.region rfl ?_
      refine KOps.assign ?_
      refine KOps.done ?_
      refine sqQ.normal ?_
      refine KA.seq ?_
      refine KA.label ?_
      refine sqQ.normal ?_
      refine KA.block ?_
      refine KA.loop (X := List Int × AV) (fun x => [(5, p22), (8, .fn 77 [])]) (fun x h' => Within ws x.1 ∧ St h h' [⟨p22, 0, [.int .i64 (r : Int), vW, x.2], true⟩, ⟨x.2, 1, ints x.1, true⟩, ⟨p1, 0, [.int .i64 (r : Int), vW], true⟩]) (fun x => devTo ws x.1 r) (ws.map (·.l), vn) (by repeat (first | exact Sub.nil _ | refine Sub.cons Look.eq ?_ | refine Sub.cons (Eq.trans Look.eq (congrArg (AV.int _) (by first | omega | (dsimp only; omega)))) ?_)) ?_ ?_
      · refine ⟨mins_within hB, ?_⟩
        have e : (ws.map (·.l)).take i = ws.map (·.l) := List.take_of_length_le (by simp; omega)
        rw [e] at hS
        exact St.pick [0, 2, 1] (by decide) rfl hS
      rintro ⟨n, vn⟩ h6 ⟨hw, hS⟩
      dsimp only at hw hS ⊢
      refine KA.block ?_
      refine KA.seq ?_
      refine KA.region rfl ?_
      refine KOps.move ?_
      refine KOps.call rfl (kept_c hp22 (hS.rd 0 rfl) (Rd.ext hS.keeps hv) (hS.rd 1 rfl) hB hw.len (within_bound hB hw)) ?_
      rintro vk h6 hK
      have hS0 : St _ _ (_ :: _) := St.trans hS hK
      clear hS
      have hS := hS0
      clear hS0
      refine KOps.assign ?_
      refine KOps.done ?_
      refine sqQ.normal ?_
      refine KA.sub (Sub.cons (t := 5) Look.eq (Sub.cons (t := 8) Look.eq (Sub.cons (t := 9) Look.eq (Sub.nil _)))) ?_
      refine KA.seq ?_
      refine KA.seq ?_
      refine KA.region rfl ?_
      refine KOps.move ?_
      refine KOps.call rfl (anyNz_c (hS.rd 0 rfl) (by rw [keptL_len]; omega) (fun _ _ => nz90_c)) ?_
      rintro _ h7 ⟨rfl, rfl⟩
      refine KOps.not ?_
      refine KOps.done ?_
      refine sqQ.normal ?_
      refine KA.sub (Sub.cons (t := 5) Look.eq (Sub.cons (t := 8) Look.eq (Sub.cons (t := 9) Look.eq (Sub.cons (t := 46) Look.eq (Sub.nil _))))) ?_
      refine KA.condB ?_ ?_
      · intro c46
        refine KA.seq ?_
        refine KA.region rfl ?_
        refine KOps.move ?_
        refine KOps.assign ?_
        refine KOps.assign ?_
        refine KOps.done ?_
        refine sqQ.normal ?_
        refine KA.sub (Sub.cons (t := 2) Look.eq (Sub.cons (t := 3) Look.eq (Sub.nil _))) ?_
        refine KA.ret ?_
        refine sqQ.ret ?_
        refine blQ.ret ?_
        refine lpQ.ret ?_
        refine blQ.ret ?_
        refine fnQ.retN ?_
        have hfl := keptL_flow hB hw (by simpa using c46)
        have e0 := agree_flow c18 hfl
        rw [e0]
        exact ⟨_, rfl, hS.keeps, St.one hS (k := 1) rfl, fun _ => ⟨n, vn, hp22, hfl, St.pick [1, 2] (by decide) rfl hS⟩⟩
      · intro c46
        refine KA.skip ?_
        refine sqQ.normal ?_
        refine KA.sub (Sub.cons (t := 5) Look.eq (Sub.cons (t := 8) Look.eq (Sub.cons (t := 9) Look.eq (Sub.nil _)))) ?_
        refine KA.seq ?_
        refine KA.seq ?_
        refine KA.region rfl ?_
        refine KOps.move ?_
        refine KOps.lenI (hS.rd 0 rfl) ?_
        refine KOps.move ?_
        refine KOps.done ?_
        refine sqQ.normal ?_
        refine KA.block ?_
        refine KA.loop (X := Nat) (fun i => [(5, p22), (8, .fn 77 []), (9, vk), (48, vk), (49, .int .i64 ((keptL r ws n ws.length).length : Int)), (50, .int .i64 (i : Int))]) (fun i h' => i ≤ r ∧ NoTo ws n r i 0 ∧ St h h' [⟨vk, 1, ints (keptL r ws n ws.length), true⟩, ⟨p22, 0, [.int .i64 (r : Int), vW, vn], true⟩, ⟨vn, 1, ints n, true⟩, ⟨p1, 0, [.int .i64 (r : Int), vW], true⟩]) (fun i => r - i) 0 (by repeat (first | exact Sub.nil _ | refine Sub.cons Look.eq ?_ | refine Sub.cons (Eq.trans Look.eq (congrArg (AV.int _) (by first | omega | (dsimp only; omega)))) ?_)) ?_ ?_
        · exact ⟨Nat.zero_le _, NoTo.zero _ _ _, hS⟩
        rintro i h8 ⟨hi, hno0, hS⟩
        have hkl := keptL_len r ws n ws.length
        refine KA.seq ?_
        refine KA.region rfl ?_
        refine KOps.lss ?_
        refine KOps.done ?_
        refine sqQ.normal ?_
        refine KA.seq ?_
        refine KA.condD ?_ ?_
        · intro c51
          refine KA.skip ?_
          refine sqQ.normal ?_
          refine KA.sub (Sub.cons (t := 5) Look.eq (Sub.cons (t := 8) Look.eq (Sub.cons (t := 9) Look.eq (Sub.cons (t := 48) Look.eq (Sub.cons (t := 49) Look.eq (Sub.cons (t := 50) Look.eq (Sub.nil _))))))) ?_
          refine KA.seq ?_
          refine KA.block ?_
          refine KA.seq ?_
          refine KA.region rfl ?_
          refine KOps.move ?_
          refine KOps.indexIJ (hS.rd 0 rfl) (j := i) rfl (by first | omega | (simp; omega)) ?_
          intro p53 hp53
          refine KOps.loadI hp53 (hS.rd 0 rfl) (by first | omega | (simp; omega)) ?_
          refine KOps.assign ?_
          refine KOps.assign ?_
          refine KOps.done ?_
          refine sqQ.normal ?_
          refine KA.sub (Sub.cons (t := 5) Look.eq (Sub.cons (t := 8) Look.eq (Sub.cons (t := 9) Look.eq (Sub.cons (t := 10) Look.eq (Sub.cons (t := 11) Look.eq (Sub.cons (t := 48) Look.eq (Sub.cons (t := 49) Look.eq (Sub.cons (t := 50) Look.eq (Sub.nil _))))))))) ?_
          refine KA.seq ?_
          refine KA.region rfl ?_
          refine KOps.move ?_
          refine KOps.lenI (hS.rd 0 rfl) ?_
          refine KOps.move ?_
          refine KOps.done ?_
          refine sqQ.normal ?_
          refine KA.block ?_
          refine KA.loop (X := Nat) (fun j => [(5, p22), (8, .fn 77 []), (9, vk), (48, vk), (49, .int .i64 ((keptL r ws n ws.length).length : Int)), (50, .int .i64 (i : Int)), (10, .int .i64 (i : Int)), (11, .int .i64 ((keptL r ws n ws.length).getD i 0)), (55, vk), (56, .int .i64 ((keptL r ws n ws.length).length : Int)), (57, .int .i64 (j : Int))]) (fun j h' => j ≤ r ∧ NoTo ws n r i j ∧ St h h' [⟨vk, 1, ints (keptL r ws n ws.length), true⟩, ⟨p22, 0, [.int .i64 (r : Int), vW, vn], true⟩, ⟨vn, 1, ints n, true⟩, ⟨p1, 0, [.int .i64 (r : Int), vW], true⟩]) (fun j => r - j) 0 (by repeat (first | exact Sub.nil _ | refine Sub.cons Look.eq ?_ | refine Sub.cons (Eq.trans Look.eq (congrArg (AV.int _) (by first | omega | (dsimp only; omega)))) ?_)) ?_ ?_
          · exact ⟨Nat.zero_le _, hno0, hS⟩
          rintro j h9 ⟨hj, hnoj, hS⟩
          have hkl := keptL_len r ws n ws.length
          refine KA.seq ?_
          refine KA.region rfl ?_
          refine KOps.lss ?_
          refine KOps.done ?_
          refine sqQ.normal ?_
          refine KA.seq ?_
          refine KA.condD ?_ ?_
          · intro c58
            refine KA.skip ?_
            refine sqQ.normal ?_
            refine KA.sub (Sub.cons (t := 5) Look.eq (Sub.cons (t := 8) Look.eq (Sub.cons (t := 9) Look.eq (Sub.cons (t := 10) Look.eq (Sub.cons (t := 11) Look.eq (Sub.cons (t := 48) Look.eq (Sub.cons (t := 49) Look.eq (Sub.cons (t := 50) Look.eq (Sub.cons (t := 55) Look.eq (Sub.cons (t := 56) Look.eq (Sub.cons (t := 57) Look.eq (Sub.nil _)))))))))))) ?_
            refine KA.seq ?_
            refine KA.block ?_
            refine KA.seq ?_
            refine KA.region rfl ?_
            refine KOps.move ?_
            refine KOps.indexIJ (hS.rd 0 rfl) (j := j) rfl (by first | omega | (simp; omega)) ?_
            intro p60 hp60
            refine KOps.loadI hp60 (hS.rd 0 rfl) (by first | omega | (simp; omega)) ?_
            refine KOps.assign ?_
            refine KOps.assign ?_
            refine KOps.done ?_
            refine sqQ.normal ?_
            refine KA.sub (Sub.cons (t := 5) Look.eq (Sub.cons (t := 8) Look.eq (Sub.cons (t := 9) Look.eq (Sub.cons (t := 10) Look.eq (Sub.cons (t := 11) Look.eq (Sub.cons (t := 12) Look.eq (Sub.cons (t := 13) Look.eq (Sub.cons (t := 48) Look.eq (Sub.cons (t := 49) Look.eq (Sub.cons (t := 50) Look.eq (Sub.cons (t := 55) Look.eq (Sub.cons (t := 56) Look.eq (Sub.cons (t := 57) Look.eq (Sub.nil _)))))))))))))) ?_
            refine KA.seq ?_
            refine KA.seq ?_
            refine KA.region rfl ?_
            have hgi : (keptL r ws n ws.length).getD i 0 = kept ws n (i : Int) := keptL_get (show i < r by omega)
            have hgj : (keptL r ws n ws.length).getD j 0 = kept ws n (j : Int) := keptL_get (show j < r by omega)
            refine KOps.move ?_
            refine KOps.leq ?_
            refine KOps.move ?_
            refine KOps.guardB (dj := 64) rfl rfl false true rfl ?_ ?_
            · intro g64
              have g64 := of_decide_eq_false g64
              refine KOps.move ?_
              refine KOps.guardYes (dj := 64) rfl rfl ?_
              refine KOps.geq ?_
              refine KOps.pickF ?_
              refine KOps.done ?_
              refine sqQ.normal ?_
              refine KA.sub (Sub.cons (t := 5) Look.eq (Sub.cons (t := 8) Look.eq (Sub.cons (t := 9) Look.eq (Sub.cons (t := 10) Look.eq (Sub.cons (t := 11) Look.eq (Sub.cons (t := 12) Look.eq (Sub.cons (t := 48) Look.eq (Sub.cons (t := 49) Look.eq (Sub.cons (t := 50) Look.eq (Sub.cons (t := 55) Look.eq (Sub.cons (t := 56) Look.eq (Sub.cons (t := 57) Look.eq (Sub.cons (t := 65) Look.eq (Sub.cons (t := 66) Look.eq (Sub.cons (t := 67) Look.eq (Sub.nil _)))))))))))))))) ?_
              refine KA.condD ?_ ?_
              · intro c67
                refine KA.exit ?_
                refine sqQ.exit ?_
                refine blQ.here ?_
                refine sqQ.normal ?_
                refine KA.sub (Sub.cons (t := 5) Look.eq (Sub.cons (t := 8) Look.eq (Sub.cons (t := 9) Look.eq (Sub.cons (t := 10) Look.eq (Sub.cons (t := 11) Look.eq (Sub.cons (t := 48) Look.eq (Sub.cons (t := 49) Look.eq (Sub.cons (t := 50) Look.eq (Sub.cons (t := 55) Look.eq (Sub.cons (t := 56) Look.eq (Sub.cons (t := 57) Look.eq (Sub.cons (t := 65) Look.eq (Sub.cons (t := 66) Look.eq (Sub.nil _)))))))))))))) ?_
                refine KA.region rfl ?_
                refine KOps.add (by first | omega | (simp; omega)) (by first | omega | (simp; omega)) ?_
                refine KOps.move ?_
                refine KOps.done ?_
                exact lpQ.normal (j + 1) (by repeat (first | exact Sub.nil _ | refine Sub.cons Look.eq ?_ | refine Sub.cons (Eq.trans Look.eq (congrArg (AV.int _) (by first | omega | (dsimp only; omega)))) ?_)) ⟨by omega, hnoj.more (fun h0 => by have := h0.2.1; omega), hS⟩ (by omega)
              · intro c67
                refine KA.skip ?_
                refine sqQ.normal ?_
                refine KA.sub (Sub.cons (t := 5) Look.eq (Sub.cons (t := 8) Look.eq (Sub.cons (t := 9) Look.eq (Sub.cons (t := 10) Look.eq (Sub.cons (t := 11) Look.eq (Sub.cons (t := 12) Look.eq (Sub.cons (t := 48) Look.eq (Sub.cons (t := 49) Look.eq (Sub.cons (t := 50) Look.eq (Sub.cons (t := 55) Look.eq (Sub.cons (t := 56) Look.eq (Sub.cons (t := 57) Look.eq (Sub.cons (t := 65) Look.eq (Sub.cons (t := 66) Look.eq (Sub.nil _))))))))))))))) ?_
                refine KA.seq ?_
                refine KA.region rfl ?_
                refine KOps.move ?_
                refine KOps.move ?_
                refine KOps.move ?_
                refine KOps.move ?_
                refine KOps.call rfl (path_c hp22 (hS.rd 1 rfl) (Rd.ext hS.keeps hv) (hS.rd 2 rfl) hB hw.len (by omega) (by omega) (A := fun _ => true) (fun _ _ _ _ => found1_c)) ?_
                rintro q h8 ⟨b, G9, hq, hG, hno, hyes⟩
                have hS9 := St.trans hS hG
                clear hS
                refine KOps.assign ?_
                refine KOps.done ?_
                refine sqQ.normal ?_
                refine KA.sub (Sub.cons (t := 5) Look.eq (Sub.cons (t := 8) Look.eq (Sub.cons (t := 9) Look.eq (Sub.cons (t := 10) Look.eq (Sub.cons (t := 11) Look.eq (Sub.cons (t := 14) Look.eq (Sub.cons (t := 48) Look.eq (Sub.cons (t := 49) Look.eq (Sub.cons (t := 50) Look.eq (Sub.cons (t := 55) Look.eq (Sub.cons (t := 56) Look.eq (Sub.cons (t := 57) Look.eq (Sub.cons (t := 65) Look.eq (Sub.cons (t := 66) Look.eq (Sub.nil _))))))))))))))) ?_
                refine KA.seq ?_
                refine KA.region rfl ?_
                refine KOps.move ?_
                refine KOps.neqNilm (p := (3, 4)) (by kernel_rfl) hq ?_
                refine KOps.done ?_
                refine sqQ.normal ?_
                refine KA.sub (Sub.cons (t := 5) Look.eq (Sub.cons (t := 8) Look.eq (Sub.cons (t := 9) Look.eq (Sub.cons (t := 10) Look.eq (Sub.cons (t := 11) Look.eq (Sub.cons (t := 14) Look.eq (Sub.cons (t := 48) Look.eq (Sub.cons (t := 49) Look.eq (Sub.cons (t := 50) Look.eq (Sub.cons (t := 55) Look.eq (Sub.cons (t := 56) Look.eq (Sub.cons (t := 57) Look.eq (Sub.cons (t := 65) Look.eq (Sub.cons (t := 66) Look.eq (Sub.cons (t := 74) Look.eq (Sub.nil _)))))))))))))))) ?_
                refine KA.condB ?_ ?_
                · intro c74
                  have hb : b = false := by simpa using c74
                  subst hb
                  obtain ⟨vs, E, p, rfl⟩ := hyes rfl
                  have hwp : 0 < ws.length := by
                    rcases Nat.eq_zero_or_pos ws.length with h0 | h0
                    · have h1 : kept ws n (i : Int) = 0 := by
                        show keptTo ws n (i : Int) ws.length = 0
                        rw [h0]; rfl
                      omega
                    · exact h0
                  refine KA.seq ?_
                  refine KA.region rfl ?_
                  refine KOps.move ?_
                  refine KOps.move ?_
                  refine KOps.call rfl (pushP_c hp22 (AV.mapNil_mp hq) hB hw hwp p (St.swap (A := [_, _]) (B := [_, _]) hS9)) ?_
                  rintro _ h10 hS
                  refine KOps.done ?_
                  refine sqQ.normal ?_
                  refine KA.sub (Sub.cons (t := 5) Look.eq (Sub.cons (t := 8) Look.eq (Sub.cons (t := 65) Look.eq (Sub.cons (t := 66) Look.eq (Sub.nil _))))) ?_
                  refine KA.exit ?_
                  refine blQ.exit rfl ?_
                  refine sqQ.exit ?_
                  refine lpQ.exit ?_
                  refine blQ.exit rfl ?_
                  refine blQ.exit rfl ?_
                  refine sqQ.exit ?_
                  refine lpQ.exit ?_
                  refine blQ.exit rfl ?_
                  refine sqQ.exit ?_
                  refine blQ.here ?_
                  have hd := dev_push (p.kept hw.len) (by omega) (by omega) (by omega) (by omega) r
                  rw [if_pos (by omega), if_pos (by omega)] at hd
                  exact lpQ.normal (pushE E n, vn) (by repeat (first | exact Sub.nil _ | refine Sub.cons Look.eq ?_ | refine Sub.cons (Eq.trans Look.eq (congrArg (AV.int _) (by first | omega | (dsimp only; omega)))) ?_)) ⟨p.within hw, St.mid (A := [_, _]) (B := [_]) hS⟩ (by dsimp only; omega)
                · intro c74
                  refine KA.skip ?_
                  refine blQ.normal ?_
                  refine sqQ.normal ?_
                  refine KA.sub (Sub.cons (t := 5) Look.eq (Sub.cons (t := 8) Look.eq (Sub.cons (t := 9) Look.eq (Sub.cons (t := 10) Look.eq (Sub.cons (t := 11) Look.eq (Sub.cons (t := 48) Look.eq (Sub.cons (t := 49) Look.eq (Sub.cons (t := 50) Look.eq (Sub.cons (t := 55) Look.eq (Sub.cons (t := 56) Look.eq (Sub.cons (t := 57) Look.eq (Sub.cons (t := 65) Look.eq (Sub.cons (t := 66) Look.eq (Sub.nil _)))))))))))))) ?_
                  refine KA.region rfl ?_
                  refine KOps.add (by first | omega | (simp; omega)) (by first | omega | (simp; omega)) ?_
                  refine KOps.move ?_
                  refine KOps.done ?_
                  exact lpQ.normal (j + 1) (by repeat (first | exact Sub.nil _ | refine Sub.cons Look.eq ?_ | refine Sub.cons (Eq.trans Look.eq (congrArg (AV.int _) (by first | omega | (dsimp only; omega)))) ?_)) ⟨by omega, hnoj.more (fun h0 => hno (by simpa using c74) h0.2.2), St.drop hS9⟩ (by omega)
            · intro g64
              have g64 := of_decide_eq_true g64
              refine KOps.guardNo (dj := 64) rfl rfl rfl ?_
              refine KOps.pickT ?_
              refine KOps.done ?_
              refine sqQ.normal ?_
              refine KA.sub (Sub.cons (t := 5) Look.eq (Sub.cons (t := 8) Look.eq (Sub.cons (t := 9) Look.eq (Sub.cons (t := 10) Look.eq (Sub.cons (t := 11) Look.eq (Sub.cons (t := 12) Look.eq (Sub.cons (t := 48) Look.eq (Sub.cons (t := 49) Look.eq (Sub.cons (t := 50) Look.eq (Sub.cons (t := 55) Look.eq (Sub.cons (t := 56) Look.eq (Sub.cons (t := 57) Look.eq (Sub.cons (t := 65) Look.eq (Sub.cons (t := 66) Look.eq (Sub.cons (t := 67) Look.eq (Sub.nil _)))))))))))))))) ?_
              refine KA.condT ?_
              refine KA.exit ?_
              refine sqQ.exit ?_
              refine blQ.here ?_
              refine sqQ.normal ?_
              refine KA.sub (Sub.cons (t := 5) Look.eq (Sub.cons (t := 8) Look.eq (Sub.cons (t := 9) Look.eq (Sub.cons (t := 10) Look.eq (Sub.cons (t := 11) Look.eq (Sub.cons (t := 48) Look.eq (Sub.cons (t := 49) Look.eq (Sub.cons (t := 50) Look.eq (Sub.cons (t := 55) Look.eq (Sub.cons (t := 56) Look.eq (Sub.cons (t := 57) Look.eq (Sub.cons (t := 65) Look.eq (Sub.cons (t := 66) Look.eq (Sub.nil _)))))))))))))) ?_
              refine KA.region rfl ?_
              refine KOps.add (by first | omega | (simp; omega)) (by first | omega | (simp; omega)) ?_
              refine KOps.move ?_
              refine KOps.done ?_
              exact lpQ.normal (j + 1) (by repeat (first | exact Sub.nil _ | refine Sub.cons Look.eq ?_ | refine Sub.cons (Eq.trans Look.eq (congrArg (AV.int _) (by first | omega | (dsimp only; omega)))) ?_)) ⟨by omega, hnoj.more (fun h0 => by have := h0.1; omega), hS⟩ (by omega)
          · intro c58
            refine KA.exit ?_
            refine sqQ.exit ?_
            refine lpQ.exit ?_
            refine blQ.here ?_
            refine blQ.normal ?_
            refine sqQ.normal ?_
            refine KA.sub (Sub.cons (t := 5) Look.eq (Sub.cons (t := 8) Look.eq (Sub.cons (t := 9) Look.eq (Sub.cons (t := 48) Look.eq (Sub.cons (t := 49) Look.eq (Sub.cons (t := 50) Look.eq (Sub.nil _))))))) ?_
            refine KA.region rfl ?_
            refine KOps.add (by first | omega | (simp; omega)) (by first | omega | (simp; omega)) ?_
            refine KOps.move ?_
            refine KOps.done ?_
            rw [show j = r by omega] at hnoj
            exact lpQ.normal (i + 1) (by repeat (first | exact Sub.nil _ | refine Sub.cons Look.eq ?_ | refine Sub.cons (Eq.trans Look.eq (congrArg (AV.int _) (by first | omega | (dsimp only; omega)))) ?_)) ⟨by omega, hnoj.row, hS⟩ (by omega)
        · intro c51
          refine KA.exit ?_
          refine sqQ.exit ?_
          refine lpQ.exit ?_
          refine blQ.here ?_
          refine sqQ.normal ?_
          refine KA.sub (Sub.nil _) ?_
          refine KA.seq ?_
          refine KA.region rfl ?_
          refine KOps.assign ?_
          refine KOps.assign ?_
          refine KOps.done ?_
          refine sqQ.normal ?_
          refine KA.ret ?_
          refine blQ.ret ?_
          refine lpQ.ret ?_
          refine blQ.ret ?_
          refine fnQ.retN ?_
          have hir : i = r := by omega
          subst hir
          have e0 := NoTo.lost c18 hw (keptL_dev (by simpa using c46)) hno0
          rw [e0]
          exact ⟨.nilp, rfl, hS.keeps, rfl, fun h0 => absurd h0 (by decide)⟩

end Go.Am


namespace Go.Am
theorem lo_exists {ws : List W} {i : Nat} (h : ∃ n, Flow ws n) (hi : i < ws.length) : ∃ v, IsLo ws i v := by
  obtain ⟨m, hm, hle⟩ := exists_min (P := fun n => Flow ws n) (fun n => (n.getD i 0 - (ws.getD i default).l).toNat) h
  refine ⟨m.getD i 0, ⟨m, hm, rfl⟩, fun n hn => ?_⟩
  have h1 := hle n hn
  have h2 := hm.lo i hi
  have h3 := hn.lo i hi
  omega
theorem hi_exists {ws : List W} {i : Nat} (h : ∃ n, Flow ws n) (hi : i < ws.length) : ∃ v, IsHi ws i v := by
  obtain ⟨m, hm, hle⟩ := exists_min (P := fun n => Flow ws n) (fun n => ((ws.getD i default).m - n.getD i 0).toNat) h
  refine ⟨m.getD i 0, ⟨m, hm, rfl⟩, fun n hn => ?_⟩
  have h1 := hle n hn
  have h2 := hm.hi i hi
  have h3 := hn.hi i hi
  omega
open Classical in
noncomputable def loOf (ws : List W) (i : Nat) : Int := if h : ∃ v, IsLo ws i v then Classical.choose h else 0
open Classical in
noncomputable def hiOf (ws : List W) (i : Nat) : Int := if h : ∃ v, IsHi ws i v then Classical.choose h else 0
theorem loOf_is {ws : List W} {i : Nat} (h : ∃ n, Flow ws n) (hi : i < ws.length) : IsLo ws i (loOf ws i) := by
  have h2 := lo_exists h hi
  unfold loOf
  rw [dif_pos h2]
  exact Classical.choose_spec h2
theorem hiOf_is {ws : List W} {i : Nat} (h : ∃ n, Flow ws n) (hi : i < ws.length) : IsHi ws i (hiOf ws i) := by
  have h2 := hi_exists h hi
  unfold hiOf
  rw [dif_pos h2]
  exact Classical.choose_spec h2
theorem Low.isLo {ws : List W} {i : Nat} {n : List Int} (hf : Flow ws n) (h : Low ws i (fun _ => true) n) : IsLo ws i (n.getD i 0) := ⟨⟨n, hf, rfl⟩, fun m hm => h m hm (fun _ _ hk => by cases hk)⟩
theorem High.isHi {ws : List W} {i : Nat} {n : List Int} (hf : Flow ws n) (h : High ws i (fun _ => true) n) : IsHi ws i (n.getD i 0) := ⟨⟨n, hf, rfl⟩, fun m hm => h m hm (fun _ _ hk => by cases hk)⟩
/-- The error of books and a way. -/
def askE (rm : Int) (ws : List W) (i : Int) : Int := if chkB rm ws = 0 then (if 0 ≤ i ∧ i ≤ (ws.length : Int) - 1 then agreeE rm ws else 2) else chkB rm ws
theorem ask_ok {rm : Int} {ws : List W} {i : Int} (h : askE rm ws i = 0) : agreeE rm ws = 0 ∧ 0 ≤ i ∧ i < ws.length := by
  unfold askE at h
  by_cases h1 : chkB rm ws = 0
  · rw [if_pos h1] at h
    by_cases h2 : 0 ≤ i ∧ i ≤ (ws.length : Int) - 1
    · rw [if_pos h2] at h; exact ⟨h, by omega, by omega⟩
    · rw [if_neg h2] at h; cases h
  · rw [if_neg h1] at h; exact absurd h h1

theorem span_c {h0 h : AHeap} {r : Nat} {i : Nat} {pf vW vn : AV} {ws : List W} {n : List Int} {tn : Bool} {G : List Obj} (hpf : AddrOf pf pf 0 0) (hv : Rd h0 vW 4 (flr wc ws)) (hB : BOk (r : Int) ws) (hfl : Flow ws n) (hi : i < ws.length) (hS : St h0 h (⟨pf, 0, [.int .i64 (r : Int), vW, vn], true⟩ :: ⟨vn, 1, ints n, tn⟩ :: G)) : ACalls Go.Proofs.Tryz.prog 60 [pf, .int .i64 (i : Int)] h (fun q h' => q = .tup [.int .i64 (loOf ws i), .int .i64 (hiOf ws i)] ∧ ∃ n', St h0 h' (⟨pf, 0, [.int .i64 (r : Int), vW, vn], true⟩ :: ⟨vn, 1, ints n', tn⟩ :: G) ∧ Flow ws n') := by
  refine KA.fn 27 [.tmp 4, .tmp 5] Go.Proofs.Tryz.func60 rfl (by decide) rfl rfl (Nat.le_of_ble_eq_true rfl) ?_
  show KA _ 27 _ _ [(0, pf), (1, .int .i64 (i : Int))] _
  refine KA.seq ?_
  refine KA.region rfl ?_
  refine KOps.assign ?_
  refine KOps.assign ?_
  refine KOps.done ?_
  refine sqQ.normal ?_
  refine KA.sub (Sub.cons (t := 0) Look.eq (Sub.cons (t := 1) Look.eq (Sub.nil _))) ?_
  refine KA.seq ?_
  refine KA.region rfl ?_
  refine KOps.move ?_
  refine KOps.move ?_
  refine KOps.call rfl (lower_c (i := i) (A := fun _ => true) hpf hv hB hfl hi (fun _ _ _ _ _ => span1_c) hS) ?_
  rintro _ h4 ⟨c2, hS4, hf2, hn2, hl2⟩
  clear hS
  have hS := hS4
  clear hS4
  have hcl := hf2.len
  have e1 := (hl2.isLo hf2).uniq (loOf_is ⟨_, hf2⟩ hi)
  refine KOps.done ?_
  refine sqQ.normal ?_
  refine KA.sub (Sub.cons (t := 0) Look.eq (Sub.cons (t := 1) Look.eq (Sub.nil _))) ?_
  refine KA.seq ?_
  refine KA.region rfl ?_
  refine KOps.move ?_
  refine KOps.nilP hpf ?_
  refine KOps.fieldAddr hpf ?_
  intro p11 hp11
  refine KOps.load hp11 (hS.rd 0 rfl) rfl ?_
  refine KOps.move ?_
  refine KOps.indexIJ (hS.rd 1 rfl) (j := i) (by first | omega | (simp; omega)) (by first | omega | (simp; omega)) ?_
  intro p14 hp14
  refine KOps.loadI hp14 (hS.rd 1 rfl) (by first | omega | (simp; omega)) ?_
  refine KOps.assign ?_
  refine KOps.done ?_
  refine sqQ.normal ?_
  refine KA.sub (Sub.cons (t := 0) Look.eq (Sub.cons (t := 1) Look.eq (Sub.cons (t := 4) Look.eq (Sub.nil _)))) ?_
  refine KA.seq ?_
  refine KA.region rfl ?_
  refine KOps.move ?_
  refine KOps.move ?_
  refine KOps.call rfl (raise_c (i := i) hpf hv hB hf2 hi hS) ?_
  rintro _ h5 ⟨c3, hS5, hf3, hn3, hl3⟩
  clear hS
  have hS := hS5
  clear hS5
  have hcl3 := hf3.len
  have e2 := (hl3.isHi hf3).uniq (hiOf_is ⟨_, hf3⟩ hi)
  refine KOps.done ?_
  refine sqQ.normal ?_
  refine KA.sub (Sub.cons (t := 0) Look.eq (Sub.cons (t := 1) Look.eq (Sub.cons (t := 4) Look.eq (Sub.nil _)))) ?_
  refine KA.seq ?_
  refine KA.draw [] mixed rfl (by kernel_rfl) ?_
  refine KOps.move ?_
  refine KOps.move ?_
  refine KOps.nilP hpf ?_
  refine KOps.fieldAddr hpf ?_
  intro p22 hp22
  refine KOps.load hp22 (hS.rd 0 rfl) rfl ?_
  refine KOps.move ?_
  refine KOps.indexIJ (hS.rd 1 rfl) (j := i) (by first | omega | (simp; omega)) (by first | omega | (simp; omega)) ?_
  intro p25 hp25
  refine KOps.loadI hp25 (hS.rd 1 rfl) (by first | omega | (simp; omega)) ?_
  refine KOps.assign ?_
  refine KOps.assign ?_
  refine KOps.done ?_
  refine sqQ.normal ?_
  refine KA.sub (Sub.cons (t := 4) Look.eq (Sub.cons (t := 5) Look.eq (Sub.nil _))) ?_
  refine KA.ret ?_
  refine fnQ.retN ?_
  exact ⟨by rw [← e1, ← e2], c3, hS, hf3⟩

end Go.Am


namespace Go.Am
theorem asked_c {h : AHeap} {rm i : Int} {vW : AV} {ws : List W} (hv : Rd h vW 4 (flr wc ws)) : ACalls Go.Proofs.Tryz.prog 96 [.agg [.int .i64 rm, vW], .int .i64 i] h (fun q h' => ∃ qp, q = .tup [qp, .int .i64 (askE rm ws i)] ∧ Keeps h h' ∧ qp.one = true ∧ (askE rm ws i = 0 → ∃ n vn, AddrOf qp qp 0 0 ∧ Flow ws n ∧ St h h' [⟨qp, 0, [.int .i64 rm, vW, vn], true⟩, ⟨vn, 1, ints n, true⟩])) := by
  refine KA.fn 24 [.tmp 4, .tmp 5] Go.Proofs.Tryz.func96 rfl (by decide) rfl rfl (Nat.le_of_ble_eq_true rfl) ?_
  have hS := St.refl h
  have hvo : vW.one = true := hv.one
  show KA _ 24 _ _ [(0, .agg [.int .i64 rm, vW]), (1, .int .i64 i)] _
  refine KA.seq ?_
  refine KA.region rfl ?_
  refine KOps.boxAll hS (by first | rfl | (simp [AV.one]; done) | (simp [AV.one]; assumption) | (simp [AV.one, *]; done)) ?_
  intro p2 h' hp2 hS
  refine KOps.assign ?_
  refine KOps.assign ?_
  refine KOps.done ?_
  refine sqQ.normal ?_
  refine KA.sub (Sub.cons (t := 1) Look.eq (Sub.cons (t := 2) Look.eq (Sub.nil _))) ?_
  refine KA.seq ?_
  refine KA.seq ?_
  refine KA.region rfl ?_
  refine KOps.loadAll hS (i := 0) rfl hp2 (by rfl) (by decide) ?_
  refine KOps.call rfl (check_c (Rd.ext hS.keeps hv)) ?_
  rintro _ h5 ⟨rfl, hK⟩
  have hS0 : St _ _ (_ :: _) := St.trans hS (St.ofK hK)
  clear hS
  have hS := hS0
  clear hS0
  refine KOps.assign ?_
  refine KOps.done ?_
  refine sqQ.normal ?_
  refine KA.sub (Sub.cons (t := 1) Look.eq (Sub.cons (t := 2) Look.eq (Sub.cons (t := 6) Look.eq (Sub.nil _)))) ?_
  refine KA.seq ?_
  refine KA.region rfl ?_
  refine KOps.move ?_
  refine KOps.eql ?_
  refine KOps.move ?_
  refine KOps.guardB (dj := 11) rfl rfl true false rfl ?_ ?_
  · intro g11
    have g11 := of_decide_eq_true g11
    have hwl := (BOk.of g11).len
    refine KOps.move ?_
    refine KOps.guardYes (dj := 11) rfl rfl ?_
    refine KOps.fieldAddr hp2 ?_
    intro p13 hp13
    refine KOps.guardYes (dj := 11) rfl rfl ?_
    refine KOps.load hp13 (hS.rd 0 rfl) rfl ?_
    refine KOps.guardYes (dj := 11) rfl rfl ?_
    refine KOps.lenF wc_len (Rd.ext hS.keeps hv) ?_
    refine KOps.guardYes (dj := 11) rfl rfl ?_
    refine KOps.sub (by first | omega | (simp; omega)) (by first | omega | (simp; omega)) ?_
    refine KOps.guardYes (dj := 11) rfl rfl ?_
    refine KOps.call rfl (between_c) ?_
    rintro _ _ ⟨rfl, rfl⟩
    refine KOps.guardYes (dj := 11) rfl rfl ?_
    refine KOps.not ?_
    refine KOps.pickT ?_
    refine KOps.done ?_
    refine sqQ.normal ?_
    refine KA.sub (Sub.cons (t := 2) Look.eq (Sub.cons (t := 19) Look.eq (Sub.nil _))) ?_
    refine KA.condN ?_ ?_
    · intro c19
      refine KA.seq ?_
      refine KA.region rfl ?_
      refine KOps.assign ?_
      refine KOps.assign ?_
      refine KOps.done ?_
      refine sqQ.normal ?_
      refine KA.sub (Sub.cons (t := 4) Look.eq (Sub.cons (t := 5) Look.eq (Sub.nil _))) ?_
      refine KA.ret ?_
      refine sqQ.ret ?_
      refine fnQ.retN ?_
      have e0 : askE rm ws i = 2 := by rw [askE, if_pos g11, if_neg (by omega)]
      rw [e0]
      exact ⟨_, rfl, hS.keeps, rfl, fun h0 => absurd h0 (by decide)⟩
    · intro c19
      refine KA.skip ?_
      refine sqQ.normal ?_
      refine KA.sub (Sub.cons (t := 2) Look.eq (Sub.nil _)) ?_
      refine KA.seq ?_
      refine KA.region rfl ?_
      refine KOps.loadAll hS (i := 0) rfl hp2 (by rfl) (by decide) ?_
      refine KOps.call rfl (found_c (Rd.ext hS.keeps hv)) ?_
      rintro _ h6 ⟨qp, rfl, hK2, hqp, hyes⟩
      refine KOps.extract ?_
      refine KOps.extract ?_
      refine KOps.assign ?_
      refine KOps.assign ?_
      refine KOps.done ?_
      refine sqQ.normal ?_
      refine KA.sub (Sub.cons (t := 4) Look.eq (Sub.cons (t := 5) Look.eq (Sub.nil _))) ?_
      refine KA.ret ?_
      refine fnQ.retN ?_
      have e0 : askE rm ws i = agreeE rm ws := by rw [askE, if_pos g11, if_pos (by omega)]
      rw [e0]
      refine ⟨_, rfl, hS.keeps.trans hK2, hqp, fun h0 => ?_⟩
      obtain ⟨n, vn, hpf, hf, hSF⟩ := hyes h0
      exact ⟨n, vn, hpf, hf, St.pick [0, 1] (by decide) rfl (St.trans hS hSF : St _ _ (_ :: _ :: _))⟩
  · intro g11
    have g11 := of_decide_eq_false g11
    refine KOps.guardNo (dj := 11) rfl rfl rfl ?_
    refine KOps.guardNo (dj := 11) rfl rfl rfl ?_
    refine KOps.guardNo (dj := 11) rfl rfl rfl ?_
    refine KOps.guardNo (dj := 11) rfl rfl rfl ?_
    refine KOps.guardNo (dj := 11) rfl rfl rfl ?_
    refine KOps.guardNo (dj := 11) rfl rfl rfl ?_
    refine KOps.pickF ?_
    refine KOps.done ?_
    refine sqQ.normal ?_
    refine KA.sub (Sub.cons (t := 2) Look.eq (Sub.cons (t := 19) Look.eq (Sub.nil _))) ?_
    refine KA.condF ?_
    refine KA.skip ?_
    refine sqQ.normal ?_
    refine KA.sub (Sub.cons (t := 2) Look.eq (Sub.nil _)) ?_
    refine KA.seq ?_
    refine KA.region rfl ?_
    refine KOps.loadAll hS (i := 0) rfl hp2 (by rfl) (by decide) ?_
    refine KOps.call rfl (found_c (Rd.ext hS.keeps hv)) ?_
    rintro _ h6 ⟨qp, rfl, hK2, hqp, hyes⟩
    refine KOps.extract ?_
    refine KOps.extract ?_
    refine KOps.assign ?_
    refine KOps.assign ?_
    refine KOps.done ?_
    refine sqQ.normal ?_
    refine KA.sub (Sub.cons (t := 4) Look.eq (Sub.cons (t := 5) Look.eq (Sub.nil _))) ?_
    refine KA.ret ?_
    refine fnQ.retN ?_
    have e0 : askE rm ws i = agreeE rm ws := by rw [askE, if_neg g11, agreeE, if_neg g11]
    rw [e0]
    refine ⟨_, rfl, hS.keeps.trans hK2, hqp, fun h0 => ?_⟩
    obtain ⟨n, vn, hpf, hf, hSF⟩ := hyes h0
    exact ⟨n, vn, hpf, hf, St.pick [0, 1] (by decide) rfl (St.trans hS hSF : St _ _ (_ :: _ :: _))⟩

theorem stSpan_c {h : AHeap} {rm i : Int} {vW : AV} {ws : List W} (hv : Rd h vW 4 (flr wc ws)) : ACalls Go.Proofs.Tryz.prog 61 [.agg [.int .i64 rm, vW], .int .i64 i] h (fun q h' => q = .tup [.int .i64 (if askE rm ws i = 0 then loOf ws i.toNat else 0), .int .i64 (if askE rm ws i = 0 then hiOf ws i.toNat else 0), .int .i64 (askE rm ws i)] ∧ Keeps h h') := by
  refine KA.fn 25 [.tmp 4, .tmp 5, .tmp 6] Go.Proofs.Tryz.func61 rfl (by decide) rfl rfl (Nat.le_of_ble_eq_true rfl) ?_
  have hS := St.refl h
  have hvo : vW.one = true := hv.one
  show KA _ 25 _ _ [(0, .agg [.int .i64 rm, vW]), (1, .int .i64 i)] _
  refine KA.seq ?_
  refine KA.region rfl ?_
  refine KOps.boxAll hS (by first | rfl | (simp [AV.one]; done) | (simp [AV.one]; assumption) | (simp [AV.one, *]; done)) ?_
  intro p2 h' hp2 hS
  refine KOps.assign ?_
  refine KOps.assign ?_
  refine KOps.assign ?_
  refine KOps.done ?_
  refine sqQ.normal ?_
  refine KA.sub (Sub.cons (t := 1) Look.eq (Sub.cons (t := 2) Look.eq (Sub.nil _))) ?_
  refine KA.seq ?_
  refine KA.region rfl ?_
  refine KOps.loadAll hS (i := 0) rfl hp2 (by rfl) (by decide) ?_
  refine KOps.move ?_
  refine KOps.call rfl (asked_c (Rd.ext hS.keeps hv)) ?_
  rintro _ h5 ⟨qp, rfl, hK, hqp, hyes⟩
  refine KOps.move ?_
  refine KOps.extract ?_
  refine KOps.extract ?_
  refine KOps.assign ?_
  refine KOps.assign ?_
  refine KOps.done ?_
  refine sqQ.normal ?_
  refine KA.sub (Sub.cons (t := 1) Look.eq (Sub.cons (t := 6) Look.eq (Sub.cons (t := 7) Look.eq (Sub.nil _)))) ?_
  refine KA.seq ?_
  refine KA.seq ?_
  refine KA.region rfl ?_
  refine KOps.move ?_
  refine KOps.neq ?_
  refine KOps.done ?_
  refine sqQ.normal ?_
  refine KA.sub (Sub.cons (t := 1) Look.eq (Sub.cons (t := 6) Look.eq (Sub.cons (t := 7) Look.eq (Sub.cons (t := 15) Look.eq (Sub.nil _))))) ?_
  refine KA.condN ?_ ?_
  · intro c15
    refine KA.seq ?_
    refine KA.region rfl ?_
    refine KOps.move ?_
    refine KOps.assign ?_
    refine KOps.assign ?_
    refine KOps.assign ?_
    refine KOps.done ?_
    refine sqQ.normal ?_
    refine KA.sub (Sub.cons (t := 4) Look.eq (Sub.cons (t := 5) Look.eq (Sub.cons (t := 6) Look.eq (Sub.nil _)))) ?_
    refine KA.ret ?_
    refine sqQ.ret ?_
    refine fnQ.retN ?_
    rw [if_neg c15, if_neg c15]
    exact ⟨rfl, hS.keeps.trans hK⟩
  · intro c15
    obtain ⟨he, hi0, hi1⟩ := ask_ok c15
    have hB := (agree_ok he).1
    obtain ⟨r, rfl⟩ : ∃ r : Nat, rm = (r : Int) := ⟨rm.toNat, by have := hB.r2; omega⟩
    obtain ⟨j, rfl⟩ : ∃ j : Nat, i = (j : Int) := ⟨i.toNat, by omega⟩
    obtain ⟨n, vn, hpf, hf, hSF⟩ := hyes c15
    have hS0 : St _ _ (_ :: _ :: _) := St.trans hS hSF
    clear hS
    have hS := hS0
    clear hS0
    refine KA.skip ?_
    refine sqQ.normal ?_
    refine KA.sub (Sub.cons (t := 1) Look.eq (Sub.cons (t := 7) Look.eq (Sub.nil _))) ?_
    refine KA.seq ?_
    refine KA.region rfl ?_
    refine KOps.move ?_
    refine KOps.move ?_
    refine KOps.call rfl (span_c (r := r) (i := j) hpf hv hB hf (by omega) hS) ?_
    rintro _ h6 ⟨rfl, c2, hS6, hf6⟩
    refine KOps.move ?_
    refine KOps.extract ?_
    refine KOps.extract ?_
    refine KOps.assign ?_
    refine KOps.assign ?_
    refine KOps.done ?_
    refine sqQ.normal ?_
    refine KA.sub (Sub.cons (t := 4) Look.eq (Sub.cons (t := 5) Look.eq (Sub.nil _))) ?_
    refine KA.seq ?_
    refine KA.region rfl ?_
    refine KOps.move ?_
    refine KOps.move ?_
    refine KOps.assign ?_
    refine KOps.assign ?_
    refine KOps.assign ?_
    refine KOps.done ?_
    refine sqQ.normal ?_
    refine KA.sub (Sub.cons (t := 4) Look.eq (Sub.cons (t := 5) Look.eq (Sub.cons (t := 6) Look.eq (Sub.nil _)))) ?_
    refine KA.ret ?_
    refine fnQ.retN ?_
    rw [if_pos c15, if_pos c15, c15]
    exact ⟨rfl, hS6.keeps⟩

end Go.Am


namespace Go.Am
def wT : List W := [⟨0, 1, 5, 9⟩, ⟨1, 2, 0, 7⟩, ⟨2, 0, 4, 6⟩]
theorem askWT : askE 3 wT 0 = 0 := by decide +kernel
theorem verWT : verE 3 wT [5, 5, 5] = 0 := by decide +kernel
theorem verWT6 : verE 3 wT [6, 6, 6] = 0 := by decide +kernel
theorem flowWT {n : List Int} (h : Flow wT n) : ∃ v, n = [v, v, v] ∧ 5 ≤ v ∧ v ≤ 6 := by
  have hl : n.length = 3 := h.len
  match n, hl with
  | [a, b, c], _ =>
    have l0 : (5 : Int) ≤ a := h.lo 0 (by decide)
    have m0 : a ≤ 9 := h.hi 0 (by decide)
    have l2 : (4 : Int) ≤ c := h.lo 2 (by decide)
    have m2 : c ≤ 6 := h.hi 2 (by decide)
    have k0 := h.kp 0
    have k1 := h.kp 1
    have e0 : kept wT [a, b, c] 0 = 0 + a * (0 - 1) + b * (0 - 0) + c * (1 - 0) := rfl
    have e1 : kept wT [a, b, c] 1 = 0 + a * (1 - 0) + b * (0 - 1) + c * (0 - 0) := rfl
    rw [e0] at k0
    rw [e1] at k1
    have h1 : b = a := by omega
    have h2 : c = a := by omega
    subst h1 h2
    exact ⟨_, rfl, l0, m2⟩
theorem flowWT5 : Flow wT [5, 5, 5] := (verE_flow verWT).2
theorem flowWT6 : Flow wT [6, 6, 6] := (verE_flow verWT6).2
theorem loWT : loOf wT 0 = 5 := (loOf_is ⟨_, flowWT5⟩ (by decide)).uniq ⟨⟨_, flowWT5, rfl⟩, fun m hm => by obtain ⟨v, rfl, h1, h2⟩ := flowWT hm; exact h1⟩
theorem hiWT : hiOf wT 0 = 6 := (hiOf_is ⟨_, flowWT5⟩ (by decide)).uniq ⟨⟨_, flowWT6, rfl⟩, fun m hm => by obtain ⟨v, rfl, h1, h2⟩ := flowWT hm; exact h2⟩
theorem spanWT_c {h : AHeap} {v : AV} (hv : Rd h v 4 (flr wc wT)) : ACalls Go.Proofs.Tryz.prog 61 [.agg [.int .i64 3, v], .int .i64 0] h (fun q h' => q = .tup [.int .i64 5, .int .i64 6, .int .i64 0] ∧ Keeps h h') := by
  refine ACalls.mono (stSpan_c (rm := 3) (i := 0) (ws := wT) hv) ?_
  rintro q h' ⟨rfl, hk⟩
  rw [askWT, if_pos rfl, if_pos rfl, show (0 : Int).toNat = 0 from rfl, loWT, hiWT]
  exact ⟨rfl, hk⟩
def tM : Tray := ⟨3, [0, 1, 2, 0, 1], [1, 2, 0, 1, 0]⟩
theorem okTM : tM.Ok := ⟨by decide, by decide, rfl, by decide, by decide⟩
theorem fewTM : tM.fewS = 3 ∧ tM.chk = 0 := by decide +kernel

theorem lst_c {h : AHeap} {v : AV} : ACalls Go.Proofs.Tryz.prog 10 [v] h (fun q h' => q = v ∧ h = h') := by
  refine KA.fn 4 [.tmp 2] Go.Proofs.Tryz.func10 rfl (by decide) rfl rfl (Nat.le_of_ble_eq_true rfl) ?_
  show KA _ 4 _ _ [(0, v)] _
  refine KA.seq ?_
  refine KA.region rfl ?_
  refine KOps.assign ?_
  refine KOps.done ?_
  refine sqQ.normal ?_
  refine KA.sub (Sub.cons (t := 0) Look.eq (Sub.nil _)) ?_
  refine KA.seq ?_
  refine KA.region rfl ?_
  refine KOps.move ?_
  refine KOps.assign ?_
  refine KOps.done ?_
  refine sqQ.normal ?_
  refine KA.sub (Sub.cons (t := 2) Look.eq (Sub.nil _)) ?_
  refine KA.ret ?_
  refine fnQ.ret1 ?_
  exact ⟨rfl, rfl⟩

theorem turnedWorks_c {h : AHeap} : ACalls Go.Proofs.Tryz.prog 153 [] h (fun q h' => q = .bool true ∧ Keeps h h') := by
  refine KA.fn 56 [.tmp 0] Go.Proofs.Tryz.func153 rfl (by decide) rfl rfl (Nat.le_of_ble_eq_true rfl) ?_
  have hS := St.refl h
  show KA _ 56 _ _ [] _
  refine KA.seq ?_
  refine KA.region rfl ?_
  refine KOps.assign ?_
  refine KOps.done ?_
  refine sqQ.normal ?_
  refine KA.sub (Sub.nil _) ?_
  refine KA.seq ?_
  refine KA.region rfl ?_
  refine KOps.buildSlice hS rfl (by decide) rfl ?_
  intro v9 h' hS
  have hv9 : v9.one = true := St.one hS (k := 0) rfl
  refine KOps.call rfl lst_c ?_
  rintro _ _ ⟨rfl, rfl⟩
  refine KOps.buildG (zs := [.int .i64 0, .int .i64 0, .int .i64 0, .nils]) (cs := [_, _, _, _]) (by kernel_rfl) (by rfl) (by kernel_rfl) (.cons (off := 0) (s := 1) (by kernel_rfl) (AV.cells_one (by first | rfl | assumption)) rfl (by decide) (.cons (off := 1) (s := 1) (by kernel_rfl) (AV.cells_one (by first | rfl | assumption)) rfl (by decide) (.cons (off := 2) (s := 1) (by kernel_rfl) (AV.cells_one (by first | rfl | assumption)) rfl (by decide) (.cons (off := 3) (s := 1) (by kernel_rfl) (AV.cells_one (by first | rfl | assumption)) rfl (by decide) .nil)))) (by rfl) ?_
  refine KOps.call rfl (backCount_c (hS.rd 0 rfl)) ?_
  rintro _ hx ⟨rfl, hK⟩
  have hS0 : St _ _ _ := St.trans hS (St.ofK hK)
  clear hS
  have hS := hS0
  clear hS0
  simp only [List.nil_append] at hS
  refine KOps.move ?_
  refine KOps.extract ?_
  refine KOps.extract ?_
  refine KOps.assign ?_
  refine KOps.assign ?_
  refine KOps.done ?_
  refine sqQ.normal ?_
  refine KA.sub (Sub.cons (t := 1) Look.eq (Sub.cons (t := 2) Look.eq (Sub.nil _))) ?_
  refine KA.seq ?_
  refine KA.region rfl ?_
  refine KOps.buildG (zs := [.int .i64 0, .int .i64 0, .int .i64 0, .int .i64 0]) (cs := [_, _, _, _]) (by kernel_rfl) (by rfl) (by kernel_rfl) (.cons (off := 0) (s := 1) (by kernel_rfl) (AV.cells_one (by first | rfl | assumption)) rfl (by decide) (.cons (off := 1) (s := 1) (by kernel_rfl) (AV.cells_one (by first | rfl | assumption)) rfl (by decide) (.cons (off := 2) (s := 1) (by kernel_rfl) (AV.cells_one (by first | rfl | assumption)) rfl (by decide) (.cons (off := 3) (s := 1) (by kernel_rfl) (AV.cells_one (by first | rfl | assumption)) rfl (by decide) .nil)))) (by rfl) ?_
  refine KOps.call rfl (cut23_c) ?_
  rintro _ hx ⟨rfl, hK⟩
  have hS0 : St _ _ _ := St.trans hS (St.ofK hK)
  clear hS
  have hS := hS0
  clear hS0
  simp only [List.nil_append] at hS
  refine KOps.move ?_
  refine KOps.extract ?_
  refine KOps.extract ?_
  refine KOps.assign ?_
  refine KOps.assign ?_
  refine KOps.done ?_
  refine sqQ.normal ?_
  refine KA.sub (Sub.cons (t := 1) Look.eq (Sub.cons (t := 2) Look.eq (Sub.cons (t := 3) Look.eq (Sub.cons (t := 4) Look.eq (Sub.nil _))))) ?_
  refine KA.seq ?_
  refine KA.region rfl ?_
  refine KOps.buildG (zs := [.int .i64 0, .int .i64 0, .int .i64 0, .int .i64 0]) (cs := [_, _, _, _]) (by kernel_rfl) (by rfl) (by kernel_rfl) (.cons (off := 0) (s := 1) (by kernel_rfl) (AV.cells_one (by first | rfl | assumption)) rfl (by decide) (.cons (off := 1) (s := 1) (by kernel_rfl) (AV.cells_one (by first | rfl | assumption)) rfl (by decide) (.cons (off := 2) (s := 1) (by kernel_rfl) (AV.cells_one (by first | rfl | assumption)) rfl (by decide) (.cons (off := 3) (s := 1) (by kernel_rfl) (AV.cells_one (by first | rfl | assumption)) rfl (by decide) .nil)))) (by rfl) ?_
  refine KOps.buildG (zs := [.int .i64 0, .int .i64 0, .int .i64 0, .int .i64 0]) (cs := [_, _, _, _]) (by kernel_rfl) (by rfl) (by kernel_rfl) (.cons (off := 0) (s := 1) (by kernel_rfl) (AV.cells_one (by first | rfl | assumption)) rfl (by decide) (.cons (off := 1) (s := 1) (by kernel_rfl) (AV.cells_one (by first | rfl | assumption)) rfl (by decide) (.cons (off := 2) (s := 1) (by kernel_rfl) (AV.cells_one (by first | rfl | assumption)) rfl (by decide) (.cons (off := 3) (s := 1) (by kernel_rfl) (AV.cells_one (by first | rfl | assumption)) rfl (by decide) .nil)))) (by rfl) ?_
  refine KOps.buildG (zs := [.int .i64 0, .int .i64 0, .int .i64 0, .int .i64 0]) (cs := [_, _, _, _]) (by kernel_rfl) (by rfl) (by kernel_rfl) (.cons (off := 0) (s := 1) (by kernel_rfl) (AV.cells_one (by first | rfl | assumption)) rfl (by decide) (.cons (off := 1) (s := 1) (by kernel_rfl) (AV.cells_one (by first | rfl | assumption)) rfl (by decide) (.cons (off := 2) (s := 1) (by kernel_rfl) (AV.cells_one (by first | rfl | assumption)) rfl (by decide) (.cons (off := 3) (s := 1) (by kernel_rfl) (AV.cells_one (by first | rfl | assumption)) rfl (by decide) .nil)))) (by rfl) ?_
  refine KOps.buildSliceS (cs := flr wc wT) hS rfl rfl rfl (by decide) ?_
  intro v24 h' hS
  have hv24 : v24.one = true := St.one hS (k := 0) rfl
  refine KOps.buildG (zs := [.int .i64 0, .nils]) (cs := [_, _]) (by kernel_rfl) (by rfl) (by kernel_rfl) (.cons (off := 0) (s := 1) (by kernel_rfl) (AV.cells_one (by first | rfl | assumption)) rfl (by decide) (.cons (off := 1) (s := 1) (by kernel_rfl) (AV.cells_one (by first | rfl | assumption)) rfl (by decide) .nil)) (by rfl) ?_
  refine KOps.call rfl (spanWT_c (hS.rd 0 rfl)) ?_
  rintro _ hx ⟨rfl, hK⟩
  have hS0 : St _ _ _ := St.trans hS (St.ofK hK)
  clear hS
  have hS := hS0
  clear hS0
  simp only [List.nil_append] at hS
  refine KOps.move ?_
  refine KOps.extract ?_
  refine KOps.extract ?_
  refine KOps.extract ?_
  refine KOps.assign ?_
  refine KOps.assign ?_
  refine KOps.assign ?_
  refine KOps.done ?_
  refine sqQ.normal ?_
  refine KA.sub (Sub.cons (t := 1) Look.eq (Sub.cons (t := 2) Look.eq (Sub.cons (t := 3) Look.eq (Sub.cons (t := 4) Look.eq (Sub.cons (t := 5) Look.eq (Sub.cons (t := 6) Look.eq (Sub.cons (t := 7) Look.eq (Sub.nil _)))))))) ?_
  refine KA.seq ?_
  refine KA.region rfl ?_
  refine KOps.move ?_
  refine KOps.eql ?_
  refine KOps.move ?_
  refine KOps.guardB (dj := 32) rfl rfl true false rfl ?_ ?_
  · intro g32
    have g32 := of_decide_eq_true g32
    refine KOps.move ?_
    refine KOps.guardYes (dj := 32) rfl rfl ?_
    refine KOps.eql ?_
    refine KOps.pickT ?_
    refine KOps.move ?_
    refine KOps.guardB (dj := 36) rfl rfl true false rfl ?_ ?_
    · intro g36
      have g36 := of_decide_eq_true g36
      refine KOps.move ?_
      refine KOps.guardYes (dj := 36) rfl rfl ?_
      refine KOps.eql ?_
      refine KOps.pickT ?_
      refine KOps.move ?_
      refine KOps.guardB (dj := 40) rfl rfl true false rfl ?_ ?_
      · intro g40
        have g40 := of_decide_eq_true g40
        refine KOps.move ?_
        refine KOps.guardYes (dj := 40) rfl rfl ?_
        refine KOps.eql ?_
        refine KOps.pickT ?_
        refine KOps.move ?_
        refine KOps.guardB (dj := 44) rfl rfl true false rfl ?_ ?_
        · intro g44
          have g44 := of_decide_eq_true g44
          refine KOps.move ?_
          refine KOps.guardYes (dj := 44) rfl rfl ?_
          refine KOps.eql ?_
          refine KOps.pickT ?_
          refine KOps.move ?_
          refine KOps.guardB (dj := 48) rfl rfl true false rfl ?_ ?_
          · intro g48
            have g48 := of_decide_eq_true g48
            refine KOps.move ?_
            refine KOps.guardYes (dj := 48) rfl rfl ?_
            refine KOps.eql ?_
            refine KOps.pickT ?_
            refine KOps.move ?_
            refine KOps.guardB (dj := 52) rfl rfl true false rfl ?_ ?_
            · intro g52
              have g52 := of_decide_eq_true g52
              refine KOps.move ?_
              refine KOps.guardYes (dj := 52) rfl rfl ?_
              refine KOps.eql ?_
              refine KOps.pickT ?_
              refine KOps.assign ?_
              refine KOps.done ?_
              refine sqQ.normal ?_
              refine KA.sub (Sub.cons (t := 0) Look.eq (Sub.nil _)) ?_
              refine KA.ret ?_
              refine fnQ.ret1 ?_
              exact ⟨rfl, hS.keeps⟩
            · intro g52
              have g52 := of_decide_eq_false g52
              exact absurd rfl g52
          · intro g48
            have g48 := of_decide_eq_false g48
            exact absurd rfl g48
        · intro g44
          have g44 := of_decide_eq_false g44
          exact absurd rfl g44
      · intro g40
        have g40 := of_decide_eq_false g40
        exact absurd rfl g40
    · intro g36
      have g36 := of_decide_eq_false g36
      exact absurd rfl g36
  · intro g32
    have g32 := of_decide_eq_false g32
    exact absurd rfl g32

theorem dealtWorks_c {h : AHeap} : ACalls Go.Proofs.Tryz.prog 104 [] h (fun q h' => q = .bool true ∧ Keeps h h') := by
  refine KA.fn 18 [.tmp 0] Go.Proofs.Tryz.func104 rfl (by decide) rfl rfl (Nat.le_of_ble_eq_true rfl) ?_
  have hS := St.refl h
  show KA _ 18 _ _ [] _
  refine KA.seq ?_
  refine KA.region rfl ?_
  refine KOps.assign ?_
  refine KOps.done ?_
  refine sqQ.normal ?_
  refine KA.sub (Sub.nil _) ?_
  refine KA.seq ?_
  refine KA.region rfl ?_
  refine KOps.buildSlice hS rfl (by decide) rfl ?_
  intro v4 h' hS
  refine KOps.call rfl lst_c ?_
  rintro _ _ ⟨rfl, rfl⟩
  refine KOps.call rfl (ways_c (hS.rd 0 rfl)) ?_
  rintro _ hx ⟨rfl, hK⟩
  have hS0 : St _ _ _ := St.trans hS (St.ofK hK)
  clear hS
  have hS := hS0
  clear hS0
  simp only [List.nil_append] at hS
  refine KOps.move ?_
  refine KOps.extract ?_
  refine KOps.extract ?_
  refine KOps.assign ?_
  refine KOps.assign ?_
  refine KOps.done ?_
  refine sqQ.normal ?_
  refine KA.sub (Sub.cons (t := 1) Look.eq (Sub.cons (t := 2) Look.eq (Sub.nil _))) ?_
  refine KA.seq ?_
  refine KA.region rfl ?_
  refine KOps.move ?_
  refine KOps.eql ?_
  refine KOps.move ?_
  refine KOps.guardB (dj := 11) rfl rfl true false rfl ?_ ?_
  · intro g11
    have g11 := of_decide_eq_true g11
    refine KOps.move ?_
    refine KOps.guardYes (dj := 11) rfl rfl ?_
    refine KOps.eql ?_
    refine KOps.pickT ?_
    refine KOps.move ?_
    refine KOps.guardB (dj := 15) rfl rfl true false rfl ?_ ?_
    · intro g15
      have g15 := of_decide_eq_true g15
      refine KOps.call rfl (turnedWorks_c) ?_
      rintro _ hx ⟨rfl, hK⟩
      have hS0 : St _ _ _ := St.trans hS (St.ofK hK)
      clear hS
      have hS := hS0
      clear hS0
      simp only [List.nil_append] at hS
      refine KOps.pickT ?_
      refine KOps.assign ?_
      refine KOps.done ?_
      refine sqQ.normal ?_
      refine KA.sub (Sub.cons (t := 0) Look.eq (Sub.nil _)) ?_
      refine KA.ret ?_
      refine fnQ.ret1 ?_
      exact ⟨rfl, hS.keeps⟩
    · intro g15
      have g15 := of_decide_eq_false g15
      exact absurd rfl g15
  · intro g11
    have g11 := of_decide_eq_false g11
    exact absurd rfl g11

theorem tableWorks_c {h : AHeap} (hT : Tabs h) : ACalls Go.Proofs.Tryz.prog 69 [] h (fun q h' => q = .bool true ∧ Keeps h h') := by
  refine KA.fn 20 [.tmp 0] Go.Proofs.Tryz.func69 rfl (by decide) rfl rfl (Nat.le_of_ble_eq_true rfl) ?_
  have hS := St.refl h
  show KA _ 20 _ _ [] _
  refine KA.seq ?_
  refine KA.region rfl ?_
  refine KOps.assign ?_
  refine KOps.done ?_
  refine sqQ.normal ?_
  refine KA.sub (Sub.nil _) ?_
  refine KA.seq ?_
  refine KA.region rfl ?_
  refine KOps.buildG (zs := [.int .i64 0, .int .i64 0]) (cs := [_, _]) (by kernel_rfl) (by rfl) (by kernel_rfl) (.cons (off := 0) (s := 1) (by kernel_rfl) (AV.cells_one (by first | rfl | assumption)) rfl (by decide) (.cons (off := 1) (s := 1) (by kernel_rfl) (AV.cells_one (by first | rfl | assumption)) rfl (by decide) .nil)) (by rfl) ?_
  refine KOps.buildG (zs := [.int .i64 0, .int .i64 0]) (cs := [_, _]) (by kernel_rfl) (by rfl) (by kernel_rfl) (.cons (off := 0) (s := 1) (by kernel_rfl) (AV.cells_one (by first | rfl | assumption)) rfl (by decide) (.cons (off := 1) (s := 1) (by kernel_rfl) (AV.cells_one (by first | rfl | assumption)) rfl (by decide) .nil)) (by rfl) ?_
  refine KOps.buildG (zs := [.int .i64 0, .int .i64 0]) (cs := [_, _]) (by kernel_rfl) (by rfl) (by kernel_rfl) (.cons (off := 0) (s := 1) (by kernel_rfl) (AV.cells_one (by first | rfl | assumption)) rfl (by decide) (.cons (off := 1) (s := 1) (by kernel_rfl) (AV.cells_one (by first | rfl | assumption)) rfl (by decide) .nil)) (by rfl) ?_
  refine KOps.buildSliceS (cs := ints [0, 1, 1, 2, 0, 1]) hS rfl rfl rfl (by decide) ?_
  intro v7 h' hS
  have hv7 : v7.one = true := St.one hS (k := 0) rfl
  refine KOps.buildG (zs := [.int .i64 0, .nils]) (cs := [_, _]) (by kernel_rfl) (by rfl) (by kernel_rfl) (.cons (off := 0) (s := 1) (by kernel_rfl) (AV.cells_one (by first | rfl | assumption)) rfl (by decide) (.cons (off := 1) (s := 1) (by kernel_rfl) (AV.cells_one (by first | rfl | assumption)) rfl (by decide) .nil)) (by rfl) ?_
  refine KOps.call rfl (sorts_c (hS.rd 0 rfl) (hT.ext hS.keeps)) ?_
  rintro _ hx ⟨rfl, hK⟩
  have hS0 : St _ _ _ := St.trans hS (St.ofK hK)
  clear hS
  have hS := hS0
  clear hS0
  simp only [List.nil_append] at hS
  refine KOps.move ?_
  refine KOps.extract ?_
  refine KOps.extract ?_
  refine KOps.assign ?_
  refine KOps.assign ?_
  refine KOps.done ?_
  refine sqQ.normal ?_
  refine KA.sub (Sub.cons (t := 1) Look.eq (Sub.cons (t := 2) Look.eq (Sub.nil _))) ?_
  refine KA.seq ?_
  refine KA.region rfl ?_
  refine KOps.move ?_
  refine KOps.eql ?_
  refine KOps.move ?_
  refine KOps.guardB (dj := 14) rfl rfl true false rfl ?_ ?_
  · intro g14
    have g14 := of_decide_eq_true g14
    refine KOps.move ?_
    refine KOps.pickT ?_
    refine KOps.move ?_
    refine KOps.guardYes (dj := 17) rfl rfl ?_
    refine KOps.call rfl (dealtWorks_c) ?_
    rintro _ hx ⟨rfl, hK⟩
    have hS0 : St _ _ _ := St.trans hS (St.ofK hK)
    clear hS
    have hS := hS0
    clear hS0
    simp only [List.nil_append] at hS
    refine KOps.pickT ?_
    refine KOps.assign ?_
    refine KOps.done ?_
    refine sqQ.normal ?_
    refine KA.sub (Sub.cons (t := 0) Look.eq (Sub.nil _)) ?_
    refine KA.ret ?_
    refine fnQ.ret1 ?_
    exact ⟨rfl, hS.keeps⟩
  · intro g14
    have g14 := of_decide_eq_false g14
    exact absurd rfl g14

theorem mendWorks_c {h : AHeap} (hT : Tabs h) : ACalls Go.Proofs.Tryz.prog 37 [] h (fun q h' => q = .bool true ∧ Keeps h h') := by
  refine KA.fn 21 [.tmp 0] Go.Proofs.Tryz.func37 rfl (by decide) rfl rfl (Nat.le_of_ble_eq_true rfl) ?_
  have hS := St.refl h
  show KA _ 21 _ _ [] _
  refine KA.seq ?_
  refine KA.region rfl ?_
  refine KOps.assign ?_
  refine KOps.done ?_
  refine sqQ.normal ?_
  refine KA.sub (Sub.nil _) ?_
  refine KA.seq ?_
  refine KA.region rfl ?_
  refine KOps.buildSlice hS rfl (by decide) rfl ?_
  intro v4 h' hS
  have hv4 : v4.one = true := St.one hS (k := 0) rfl
  refine KOps.call rfl lst_c ?_
  rintro _ _ ⟨rfl, rfl⟩
  refine KOps.buildSlice hS rfl (by decide) rfl ?_
  intro v6 h' hS
  have hv6 : v6.one = true := St.one hS (k := 0) rfl
  refine KOps.call rfl lst_c ?_
  rintro _ _ ⟨rfl, rfl⟩
  refine KOps.buildG (zs := [.int .i64 0, .nils, .nils]) (cs := [_, _, _]) (by kernel_rfl) (by rfl) (by kernel_rfl) (.cons (off := 0) (s := 1) (by kernel_rfl) (AV.cells_one (by first | rfl | assumption)) rfl (by decide) (.cons (off := 1) (s := 1) (by kernel_rfl) (AV.cells_one (by first | rfl | assumption)) rfl (by decide) (.cons (off := 2) (s := 1) (by kernel_rfl) (AV.cells_one (by first | rfl | assumption)) rfl (by decide) .nil))) (by rfl) ?_
  refine KOps.call rfl (fewestP_c (t := tM) okTM (hS.rd 1 rfl) (hS.rd 0 rfl) (hT.1.ext hS.keeps)) ?_
  rintro _ hx ⟨rfl, hK⟩
  have hS0 : St _ _ _ := St.trans hS (St.ofK hK)
  clear hS
  have hS := hS0
  clear hS0
  simp only [List.nil_append] at hS
  rw [fewTM.2, fewTM.1, if_pos rfl]
  refine KOps.move ?_
  refine KOps.extract ?_
  refine KOps.extract ?_
  refine KOps.assign ?_
  refine KOps.assign ?_
  refine KOps.done ?_
  refine sqQ.normal ?_
  refine KA.sub (Sub.cons (t := 1) Look.eq (Sub.cons (t := 2) Look.eq (Sub.nil _))) ?_
  refine KA.seq ?_
  refine KA.region rfl ?_
  refine KOps.move ?_
  refine KOps.eql ?_
  refine KOps.move ?_
  refine KOps.guardB (dj := 14) rfl rfl true false rfl ?_ ?_
  · intro g14
    have g14 := of_decide_eq_true g14
    refine KOps.move ?_
    refine KOps.guardYes (dj := 14) rfl rfl ?_
    refine KOps.eql ?_
    refine KOps.pickT ?_
    refine KOps.move ?_
    refine KOps.guardB (dj := 18) rfl rfl true false rfl ?_ ?_
    · intro g18
      have g18 := of_decide_eq_true g18
      refine KOps.call rfl (tableWorks_c (hT.ext hS.keeps)) ?_
      rintro _ hx ⟨rfl, hK⟩
      have hS0 : St _ _ _ := St.trans hS (St.ofK hK)
      clear hS
      have hS := hS0
      clear hS0
      simp only [List.nil_append] at hS
      refine KOps.pickT ?_
      refine KOps.assign ?_
      refine KOps.done ?_
      refine sqQ.normal ?_
      refine KA.sub (Sub.cons (t := 0) Look.eq (Sub.nil _)) ?_
      refine KA.ret ?_
      refine fnQ.ret1 ?_
      exact ⟨rfl, hS.keeps⟩
    · intro g18
      have g18 := of_decide_eq_false g18
      exact absurd rfl g18
  · intro g14
    have g14 := of_decide_eq_false g14
    exact absurd rfl g14

end Go.Am


namespace Go.Am
/-- All packs. -/
def perms : Nat → List Nat → List (List Nat)
  | 0, _ => [[]]
  | k + 1, l => (List.range l.length).flatMap fun i => (perms k (l.eraseIdx i)).map (l.getD i 0 :: ·)
def packs (n : Nat) : List (List Nat) := perms n (List.range n)
theorem same_no {a b : List Int} {i : Nat} (hi : i < a.length) (h : ¬ a.getD i 0 = b.getD i 0) : decide (a = b) = false := decide_eq_false fun e => h (by rw [e])
theorem same_yes {a b : List Int} (hl : a.length = b.length) (h : ∀ j, j < a.length → a.getD j 0 = b.getD j 0) : decide (a = b) = true := decide_eq_true (List.ext_getElem hl fun i h1 h2 => by
  have := h i h1
  rwa [List.getD_eq_getElem?_getD, List.getD_eq_getElem?_getD, List.getElem?_eq_getElem h1, List.getElem?_eq_getElem h2] at this)
theorem nI_gt {l : List Nat} {k : Nat} (hk : k < l.length) : (nI l).getD k 0 = ((l.getD k 0 : Nat) : Int) := by
  rw [nI, List.getD_eq_getElem?_getD, List.getD_eq_getElem?_getD, List.getElem?_map, List.getElem?_eq_getElem hk]; rfl

theorem same_c {h : AHeap} {v u : AV} {a b : List Int} (hv : Row h v a) (hu : Row h u b) (hla : a.length ≤ 1000000) : ACalls Go.Proofs.Tryz.prog 13 [v, u] h (fun q h' => q = .bool (decide (a = b)) ∧ h = h') := by
  refine KA.fn 26 [.tmp 4] Go.Proofs.Tryz.func13 rfl (by decide) rfl rfl (Nat.le_of_ble_eq_true rfl) ?_
  show KA _ 26 _ _ [(0, v), (1, u)] _
  refine KA.seq ?_
  refine KA.region rfl ?_
  refine KOps.assign ?_
  refine KOps.done ?_
  refine sqQ.normal ?_
  refine KA.sub (Sub.cons (t := 0) Look.eq (Sub.cons (t := 1) Look.eq (Sub.nil _))) ?_
  refine KA.seq ?_
  refine KA.seq ?_
  refine KA.region rfl ?_
  refine KOps.move ?_
  refine KOps.lenI hv ?_
  refine KOps.move ?_
  refine KOps.lenI hu ?_
  refine KOps.neq ?_
  refine KOps.done ?_
  refine sqQ.normal ?_
  refine KA.sub (Sub.cons (t := 0) Look.eq (Sub.cons (t := 1) Look.eq (Sub.cons (t := 10) Look.eq (Sub.nil _)))) ?_
  refine KA.condN ?_ ?_
  · intro c10
    refine KA.seq ?_
    refine KA.region rfl ?_
    refine KOps.assign ?_
    refine KOps.done ?_
    refine sqQ.normal ?_
    refine KA.sub (Sub.cons (t := 4) Look.eq (Sub.nil _)) ?_
    refine KA.ret ?_
    refine sqQ.ret ?_
    refine fnQ.ret1 ?_
    refine ⟨congrArg AV.bool (decide_eq_false fun e => ?_).symm, rfl⟩
    subst e
    omega
  · intro c10
    have hlab : a.length = b.length := by omega
    refine KA.skip ?_
    refine sqQ.normal ?_
    refine KA.sub (Sub.cons (t := 0) Look.eq (Sub.cons (t := 1) Look.eq (Sub.nil _))) ?_
    refine KA.seq ?_
    refine KA.seq ?_
    refine KA.region rfl ?_
    refine KOps.move ?_
    refine KOps.lenI hv ?_
    refine KOps.move ?_
    refine KOps.done ?_
    refine sqQ.normal ?_
    refine KA.sub (Sub.cons (t := 0) Look.eq (Sub.cons (t := 1) Look.eq (Sub.cons (t := 12) Look.eq (Sub.cons (t := 13) Look.eq (Sub.nil _))))) ?_
    refine KA.block ?_
    refine KA.loop (X := Nat) (fun i => [(0, v), (1, u), (12, .int .i64 (a.length : Int)), (13, .int .i64 (i : Int))]) (fun i h' => h = h' ∧ i ≤ a.length ∧ ∀ j, j < i → a.getD j 0 = b.getD j 0) (fun i => a.length - i) 0 (by repeat (first | exact Sub.nil _ | refine Sub.cons Look.eq ?_ | refine Sub.cons (Eq.trans Look.eq (congrArg (AV.int _) (by first | omega | (dsimp only; omega)))) ?_)) ?_ ?_
    · exact ⟨rfl, Nat.zero_le _, fun j hj => by omega⟩
    rintro i _ ⟨rfl, hi, hj⟩
    refine KA.seq ?_
    refine KA.region rfl ?_
    refine KOps.lss ?_
    refine KOps.done ?_
    refine sqQ.normal ?_
    refine KA.seq ?_
    refine KA.condD ?_ ?_
    · intro c14
      refine KA.skip ?_
      refine sqQ.normal ?_
      refine KA.sub (Sub.cons (t := 0) Look.eq (Sub.cons (t := 1) Look.eq (Sub.cons (t := 12) Look.eq (Sub.cons (t := 13) Look.eq (Sub.nil _))))) ?_
      refine KA.seq ?_
      refine KA.block ?_
      refine KA.seq ?_
      refine KA.region rfl ?_
      refine KOps.move ?_
      refine KOps.assign ?_
      refine KOps.done ?_
      refine sqQ.normal ?_
      refine KA.sub (Sub.cons (t := 0) Look.eq (Sub.cons (t := 1) Look.eq (Sub.cons (t := 5) Look.eq (Sub.cons (t := 12) Look.eq (Sub.cons (t := 13) Look.eq (Sub.nil _)))))) ?_
      refine KA.seq ?_
      refine KA.draw [] mixed rfl (by kernel_rfl) ?_
      refine KOps.move ?_
      refine KOps.move ?_
      refine KOps.indexIJ hv (j := i) rfl (by first | omega | (simp; done) | (simp; omega)) ?_
      intro p18 hp18
      refine KOps.loadI hp18 hv (by first | omega | (simp; done) | (simp; omega)) ?_
      refine KOps.move ?_
      refine KOps.move ?_
      refine KOps.indexIJ hu (j := i) rfl (by first | omega | (simp; done) | (simp; omega)) ?_
      intro p22 hp22
      refine KOps.loadI hp22 hu (by first | omega | (simp; done) | (simp; omega)) ?_
      refine KOps.neq ?_
      refine KOps.done ?_
      refine sqQ.normal ?_
      refine KA.sub (Sub.cons (t := 0) Look.eq (Sub.cons (t := 1) Look.eq (Sub.cons (t := 12) Look.eq (Sub.cons (t := 13) Look.eq (Sub.cons (t := 24) Look.eq (Sub.nil _)))))) ?_
      refine KA.condN ?_ ?_
      · intro c24
        refine KA.seq ?_
        refine KA.region rfl ?_
        refine KOps.assign ?_
        refine KOps.done ?_
        refine sqQ.normal ?_
        refine KA.sub (Sub.cons (t := 4) Look.eq (Sub.nil _)) ?_
        refine KA.ret ?_
        refine blQ.ret ?_
        refine sqQ.ret ?_
        refine lpQ.ret ?_
        refine blQ.ret ?_
        refine sqQ.ret ?_
        refine fnQ.ret1 ?_
        exact ⟨congrArg AV.bool (same_no (i := i) (by omega) (by omega)).symm, rfl⟩
      · intro c24
        refine KA.skip ?_
        refine blQ.normal ?_
        refine sqQ.normal ?_
        refine KA.sub (Sub.cons (t := 0) Look.eq (Sub.cons (t := 1) Look.eq (Sub.cons (t := 12) Look.eq (Sub.cons (t := 13) Look.eq (Sub.nil _))))) ?_
        refine KA.region rfl ?_
        refine KOps.add (by first | omega | (simp; omega)) (by first | omega | (simp; omega)) ?_
        refine KOps.move ?_
        refine KOps.done ?_
        refine lpQ.normal (i + 1) (by repeat (first | exact Sub.nil _ | refine Sub.cons Look.eq ?_ | refine Sub.cons (Eq.trans Look.eq (congrArg (AV.int _) (by first | omega | (dsimp only; omega)))) ?_)) ⟨rfl, by omega, ?_⟩ (by omega)
        intro j hj2
        rcases Nat.lt_succ_iff_lt_or_eq.1 hj2 with h3 | rfl
        · exact hj j h3
        · omega
    · intro c14
      refine KA.exit ?_
      refine sqQ.exit ?_
      refine lpQ.exit ?_
      refine blQ.here ?_
      refine sqQ.normal ?_
      refine KA.sub (Sub.nil _) ?_
      refine KA.seq ?_
      refine KA.region rfl ?_
      refine KOps.assign ?_
      refine KOps.done ?_
      refine sqQ.normal ?_
      refine KA.ret ?_
      refine fnQ.ret1 ?_
      exact ⟨congrArg AV.bool (same_yes (by omega) (fun j h3 => hj j (by omega))).symm, rfl⟩

end Go.Am

namespace Go.Am
def natI (l : List Nat) : List AV := ints (nI l)
/-- All such heaps. -/
def parts : List (List Nat) := (List.range 5).flatMap fun a => (List.range (a + 1)).flatMap fun b => (List.range (b + 1)).flatMap fun c => (List.range (c + 1)).map fun d => [a, b, c, d].filter fun x => decide (0 < x)
def turnH (l : List Nat) : List Nat := (List.range (l.headD 0)).map fun j => (l.filter fun x => decide (j < x)).length
def ordH (l : List Nat) : List Nat := [9, 8, 7, 6, 5, 4, 3, 2, 1].flatMap fun s => l.filter fun x => x == s
def roundH (l : List Nat) : List Nat := ordH (l.length :: l.map fun x => x - 1)
def drawH (l : List Nat) : List Nat := (List.range 16).map fun i => if i % 4 < l.getD (i / 4) 0 then 1 else 0
noncomputable def okTurned (p : List Nat) : Bool := p.isEmpty || runsG Go.Proofs.Tryz.prog 4000 11 [.slc 0 0 p.length 1 false] [natI p] [] (chkTupO 1 1 (natI (turnH p)) (.int .i64 0))
noncomputable def okRound (p : List Nat) : Bool := p.isEmpty || runsG Go.Proofs.Tryz.prog 4000 14 [.slc 0 0 p.length 1 false] [natI p] [] (chkTupO 1 1 (natI (roundH p)) (.int .i64 0))
noncomputable def okDraw (p : List Nat) : Bool := p.isEmpty || runsG Go.Proofs.Tryz.prog 4000 9 [.slc 0 0 p.length 1 false] [natI p] [] (chkTupO 1 1 (natI (drawH p)) (.bool true))
theorem run_turned : parts.all okTurned = true := by kernel_rfl
theorem run_draw : parts.all okDraw = true := by kernel_rfl
theorem run_round0 : ((parts.drop 0).take 10).all okRound = true := by kernel_rfl
theorem run_round1 : ((parts.drop 10).take 10).all okRound = true := by kernel_rfl
theorem run_round2 : ((parts.drop 20).take 10).all okRound = true := by kernel_rfl
theorem run_round3 : ((parts.drop 30).take 10).all okRound = true := by kernel_rfl
theorem run_round4 : ((parts.drop 40).take 10).all okRound = true := by kernel_rfl
theorem run_round5 : ((parts.drop 50).take 10).all okRound = true := by kernel_rfl
theorem run_round6 : ((parts.drop 60).take 10).all okRound = true := by kernel_rfl
end Go.Am

namespace Go.Am
theorem natI_plain (p : List Nat) : (natI p).all AV.plain = true := by rw [natI, ints, List.all_map]; exact List.all_eq_true.2 fun _ _ => rfl
theorem natI_len (p : List Nat) : (natI p).length = p.length := by rw [natI, ints, List.length_map, List.length_map]
theorem natI_ne {p : List Nat} (h : p ≠ []) : natI p ≠ [] := fun e => by have := natI_len p; rw [e] at this; exact h (List.length_eq_zero_iff.1 this.symm)
theorem okTurned_all {p : List Nat} (hp : p ∈ parts) (hne : p ≠ []) : runsG Go.Proofs.Tryz.prog 4000 11 [.slc 0 0 p.length 1 false] [natI p] [] (chkTupO 1 1 (natI (turnH p)) (.int .i64 0)) = true := by
  have h := List.all_eq_true.1 run_turned p hp
  unfold okTurned at h
  cases p with
  | nil => exact absurd rfl hne
  | cons a p => rw [show (a :: p).isEmpty = false from rfl, Bool.false_or] at h; exact h
theorem okDraw_all {p : List Nat} (hp : p ∈ parts) (hne : p ≠ []) : runsG Go.Proofs.Tryz.prog 4000 9 [.slc 0 0 p.length 1 false] [natI p] [] (chkTupO 1 1 (natI (drawH p)) (.bool true)) = true := by
  have h := List.all_eq_true.1 run_draw p hp
  unfold okDraw at h
  cases p with
  | nil => exact absurd rfl hne
  | cons a p => rw [show (a :: p).isEmpty = false from rfl, Bool.false_or] at h; exact h
theorem okRound_all {p : List Nat} (hp : p ∈ parts) (hne : p ≠ []) : runsG Go.Proofs.Tryz.prog 4000 14 [.slc 0 0 p.length 1 false] [natI p] [] (chkTupO 1 1 (natI (roundH p)) (.int .i64 0)) = true := by
  have h : okRound p = true := by
    have e : parts = (parts.drop 0).take 10 ++ ((parts.drop 10).take 10 ++ ((parts.drop 20).take 10 ++ ((parts.drop 30).take 10 ++ ((parts.drop 40).take 10 ++ ((parts.drop 50).take 10 ++ (parts.drop 60).take 10))))) := by decide +kernel
    rw [e] at hp
    rcases List.mem_append.1 hp with hp | hp
    · exact List.all_eq_true.1 run_round0 p hp
    rcases List.mem_append.1 hp with hp | hp
    · exact List.all_eq_true.1 run_round1 p hp
    rcases List.mem_append.1 hp with hp | hp
    · exact List.all_eq_true.1 run_round2 p hp
    rcases List.mem_append.1 hp with hp | hp
    · exact List.all_eq_true.1 run_round3 p hp
    rcases List.mem_append.1 hp with hp | hp
    · exact List.all_eq_true.1 run_round4 p hp
    rcases List.mem_append.1 hp with hp | hp
    · exact List.all_eq_true.1 run_round5 p hp
    · exact List.all_eq_true.1 run_round6 p hp
  unfold okRound at h
  cases p with
  | nil => exact absurd rfl hne
  | cons a p => rw [show (a :: p).isEmpty = false from rfl, Bool.false_or] at h; exact h
theorem turned_c {h : AHeap} {v : AV} {p : List Nat} (hp : p ∈ parts) (hne : p ≠ []) (hv : Row h v (nI p)) : ACalls Go.Proofs.Tryz.prog 11 [v] h (fun r h' => ∃ a, r = .tup [a, .int .i64 0] ∧ St h h' [⟨a, 1, natI (turnH p), true⟩]) :=
  over_tupO mixed (okTurned_all hp hne) [⟨v, 1, natI p, natI p⟩] rfl rfl (okGs_cons (okG_plain hv (by decide) (natI_ne hne) (natI_plain p)) okGs_nil) hgs_nil rfl (imG_cons (imG_slc rfl (by decide) (by rw [natI_len, Nat.mul_one])) imG_nil)
theorem draw_c {h : AHeap} {v : AV} {p : List Nat} (hp : p ∈ parts) (hne : p ≠ []) (hv : Row h v (nI p)) : ACalls Go.Proofs.Tryz.prog 9 [v] h (fun r h' => ∃ a, r = .tup [a, .bool true] ∧ St h h' [⟨a, 1, natI (drawH p), true⟩]) :=
  over_tupO mixed (okDraw_all hp hne) [⟨v, 1, natI p, natI p⟩] rfl rfl (okGs_cons (okG_plain hv (by decide) (natI_ne hne) (natI_plain p)) okGs_nil) hgs_nil rfl (imG_cons (imG_slc rfl (by decide) (by rw [natI_len, Nat.mul_one])) imG_nil)
theorem round_c {h : AHeap} {v : AV} {p : List Nat} (hp : p ∈ parts) (hne : p ≠ []) (hv : Row h v (nI p)) : ACalls Go.Proofs.Tryz.prog 14 [v] h (fun r h' => ∃ a, r = .tup [a, .int .i64 0] ∧ St h h' [⟨a, 1, natI (roundH p), true⟩]) :=
  over_tupO mixed (okRound_all hp hne) [⟨v, 1, natI p, natI p⟩] rfl rfl (okGs_cons (okG_plain hv (by decide) (natI_ne hne) (natI_plain p)) okGs_nil) hgs_nil rfl (imG_cons (imG_slc rfl (by decide) (by rw [natI_len, Nat.mul_one])) imG_nil)
theorem part411 : [4, 1, 1] ∈ parts ∧ roundH [4, 1, 1] = [3, 3] := by decide +kernel

theorem list_c {h : AHeap} {v : AV} : ACalls Go.Proofs.Tryz.prog 10 [v] h (fun q h' => q = v ∧ h = h') := by
  refine KA.fn 4 [.tmp 2] Go.Proofs.Tryz.func10 rfl (by decide) rfl rfl (Nat.le_of_ble_eq_true rfl) ?_
  show KA _ 4 _ _ [(0, v)] _
  refine KA.seq ?_
  refine KA.region rfl ?_
  refine KOps.assign ?_
  refine KOps.done ?_
  refine sqQ.normal ?_
  refine KA.sub (Sub.cons (t := 0) Look.eq (Sub.nil _)) ?_
  refine KA.seq ?_
  refine KA.region rfl ?_
  refine KOps.move ?_
  refine KOps.assign ?_
  refine KOps.done ?_
  refine sqQ.normal ?_
  refine KA.sub (Sub.cons (t := 2) Look.eq (Sub.nil _)) ?_
  refine KA.ret ?_
  refine fnQ.ret1 ?_
  exact ⟨rfl, rfl⟩

theorem heapWorks_c {h : AHeap} (hT : Tabs h) : ACalls Go.Proofs.Tryz.prog 8 [] h (fun q h' => q = .bool true ∧ Keeps h h') := by
  refine KA.fn 20 [.tmp 0] Go.Proofs.Tryz.func8 rfl (by decide) rfl rfl (Nat.le_of_ble_eq_true rfl) ?_
  have hS := St.refl h
  show KA _ 20 _ _ [] _
  refine KA.seq ?_
  refine KA.region rfl ?_
  refine KOps.assign ?_
  refine KOps.done ?_
  refine sqQ.normal ?_
  refine KA.sub (Sub.nil _) ?_
  refine KA.seq ?_
  refine KA.region rfl ?_
  refine KOps.buildSlice hS rfl (by decide) rfl ?_
  intro v4 h' hS
  refine KOps.call rfl list_c ?_
  rintro _ _ ⟨rfl, rfl⟩
  refine KOps.call rfl (round_c (p := [4, 1, 1]) part411.1 (by decide) (hS.rd 0 rfl)) ?_
  rintro _ h6 ⟨v6, rfl, hS6⟩
  have hS0 : St _ _ (_ :: _) := St.trans hS hS6
  clear hS
  have hS := hS0
  clear hS0
  rw [part411.2] at hS
  refine KOps.move ?_
  refine KOps.extract ?_
  refine KOps.extract ?_
  refine KOps.assign ?_
  refine KOps.assign ?_
  refine KOps.done ?_
  refine sqQ.normal ?_
  refine KA.sub (Sub.cons (t := 1) Look.eq (Sub.cons (t := 2) Look.eq (Sub.nil _))) ?_
  refine KA.seq ?_
  refine KA.region rfl ?_
  refine KOps.move ?_
  refine KOps.eql ?_
  refine KOps.move ?_
  refine KOps.guardB (dj := 11) rfl rfl true false rfl ?_ ?_
  · intro g11
    have g11 := of_decide_eq_true g11
    refine KOps.move ?_
    refine KOps.guardYes (dj := 11) rfl rfl ?_
    refine KOps.buildSlice hS rfl (by decide) rfl ?_
    intro v13 h' hS
    refine KOps.guardYes (dj := 11) rfl rfl ?_
    refine KOps.call rfl list_c ?_
    rintro _ _ ⟨rfl, rfl⟩
    refine KOps.guardYes (dj := 11) rfl rfl ?_
    refine KOps.call rfl (same_c (a := nI [3, 3]) (b := nI [3, 3]) (hS.rd 1 rfl) (hS.rd 0 rfl) (by decide)) ?_
    rintro _ _ ⟨rfl, rfl⟩
    refine KOps.pickT ?_
    refine KOps.move ?_
    refine KOps.guardB (dj := 17) rfl rfl true false rfl ?_ ?_
    · intro g17
      have g17 := of_decide_eq_true g17
      refine KOps.call rfl (mendWorks_c (hT.ext hS.keeps)) ?_
      rintro _ hx ⟨rfl, hK⟩
      have hS0 : St _ _ _ := St.trans hS (St.ofK hK)
      clear hS
      have hS := hS0
      clear hS0
      simp only [List.nil_append] at hS
      refine KOps.pickT ?_
      refine KOps.assign ?_
      refine KOps.done ?_
      refine sqQ.normal ?_
      refine KA.sub (Sub.cons (t := 0) Look.eq (Sub.nil _)) ?_
      refine KA.ret ?_
      refine fnQ.ret1 ?_
      exact ⟨rfl, hS.keeps⟩
    · intro g17
      have g17 := of_decide_eq_false g17
      exact absurd rfl g17
  · intro g11
    have g11 := of_decide_eq_false g11
    exact absurd rfl g11

end Go.Am

namespace Go.Am
open Go.RowKit
/-- A row of numbers lies there, from a place on. -/
def RowI (w : World) (g o z : Nat) (l : List Int) : Prop := ∃ c e, RowAt w g c e ∧ c.size = z ∧ CellsAt (fun _ => none) (ints l) c o ∧ o + l.length ≤ z
theorem cellsAt_ints {φ φ' : Emb} {l : List Int} {c : Array Value} {o : Nat} (h : CellsAt φ (ints l) c o) : CellsAt φ' (ints l) c o := by
  intro j x hx
  obtain ⟨v, h1, h2⟩ := h j x hx
  refine ⟨v, h1, ?_⟩
  simp only [ints, List.getElem?_map, Option.map_eq_some_iff] at hx
  obtain ⟨y, _, rfl⟩ := hx
  cases h2
  exact .int _ _
def oneE (g o z : Nat) : Emb := fun b => if b = 0 then some (g, o, z) else none
theorem oneE_some {g o z b : Nat} {p : Nat × Nat × Nat} (h : oneE g o z b = some p) : b = 0 ∧ p = (g, o, z) := by
  unfold oneE at h
  split at h
  · rename_i hb; cases h; exact ⟨hb, rfl⟩
  · cases h
/-- What is only read. -/
theorem hrel_ro {w : World} {g o z : Nat} {l : List Int} (hg : g < w.heap.size) (hc : ∀ (j : Nat) (x : Int), l[j]? = some x → w.cell? ⟨g, o + j, none⟩ = some (.int .i64 x)) : HRel (oneE g o z) ⟨[.cells none 0 (ints l)], [], []⟩ w := by
  have hget : ∀ b B, (⟨[.cells none 0 (ints l)], [], []⟩ : AHeap).get b = some B → B = .cells none 0 (ints l) := by
    intro b B h
    match b, h with
    | 0, h => exact (Option.some.inj h).symm
    | b + 1, h => cases h
  refine ⟨fun g hg => (by cases hg), ?_, ?_, ?_, ?_, ?_, ?_, ?_⟩
  · intro b k i z' h
    obtain ⟨_, h2⟩ := oneE_some h
    cases h2; exact hg
  · intro b k i z' B h hB _
    obtain ⟨_, h2⟩ := oneE_some h
    cases h2
    rw [hget b B hB]
    refine ⟨?_, fun h => by cases h⟩
    intro j x hx
    simp only [ints, List.getElem?_map, Option.map_eq_some_iff] at hx
    obtain ⟨y, hy, rfl⟩ := hx
    exact ⟨_, hc j y hy, .int _ _⟩
  · intro b k i z' F p cs h hB; cases hget b _ hB
  · intro b b' k i i' z' z'' F F' p p' cs cs' h h' hB; cases hget b _ hB
  · intro b b' k i i' z' z'' F p p' cs cs' h h' hB; cases hget b _ hB
  · intro b b' k i i' z' z'' F x B h h' hB; cases hget b _ hB
  · intro b F p cs hB; cases hget b _ hB
/-- What may be written to. -/
theorem hrel_rw {w : World} {g o z : Nat} {l : List Int} (hr : RowI w g o z l) : HRel (oneE g o z) ⟨[.cells (some 0) 0 (ints l)], [⟨l.length, none⟩], []⟩ w := by
  have hget : ∀ b B, (⟨[.cells (some 0) 0 (ints l)], [⟨l.length, none⟩], []⟩ : AHeap).get b = some B → b = 0 ∧ B = .cells (some 0) 0 (ints l) := by
    intro b B h
    match b, h with
    | 0, h => exact ⟨rfl, (Option.some.inj h).symm⟩
    | b + 1, h => cases h
  obtain ⟨c, e, h1, h2, h3, h4⟩ := hr
  have hlen : (ints l).length = l.length := List.length_map _
  refine ⟨fun g hg => (by cases hg), ?_, ?_, ?_, ?_, ?_, ?_, ?_⟩
  · intro b k i z' h
    obtain ⟨_, h5⟩ := oneE_some h
    cases h5; exact h1.lt
  · intro b k i z' B h hB _
    obtain ⟨_, h5⟩ := oneE_some h
    cases h5
    obtain ⟨_, rfl⟩ := hget b B hB
    exact ⟨c, e, h1, h2, cellsAt_ints h3⟩
  · intro b k i z' F p cs h hB
    obtain ⟨_, h5⟩ := oneE_some h
    cases h5
    obtain ⟨_, h6⟩ := hget b _ hB
    cases h6
    exact ⟨c, e, h1, h2, by rw [hlen]; exact h4⟩
  · intro b b' k i i' z' z'' F F' p p' cs cs' h h' hB hB'
    obtain ⟨_, h5⟩ := oneE_some h
    obtain ⟨_, h5'⟩ := oneE_some h'
    cases h5; cases h5'
    obtain ⟨_, h6⟩ := hget b _ hB
    obtain ⟨_, h6'⟩ := hget b' _ hB'
    cases h6; cases h6'
    exact ⟨rfl, rfl⟩
  · intro b b' k i i' z' z'' F p p' cs cs' h h' hB hB'
    obtain ⟨_, h6'⟩ := hget b' _ hB'
    cases h6'
  · intro b b' k i i' z' z'' F x B h h' hB
    obtain ⟨_, h6⟩ := hget b _ hB
    cases h6
  · intro b F p cs hB
    obtain ⟨_, h6⟩ := hget b _ hB
    cases h6
    exact ⟨⟨l.length, none⟩, rfl, by rw [hlen]; exact Nat.le_of_eq (Nat.zero_add _)⟩
/-- The row that is turned. -/
def L6 : List Int := [12, 8, 4, 0, 13, 9, 5, 1, 14, 10, 6, 2, 15, 11, 7, 3]
theorem run_clone : bcallY Go.Proofs.Tryz.prog (okY Go.Proofs.Tryz.prog) (brunY Go.Proofs.Tryz.prog noOrc (okY Go.Proofs.Tryz.prog) 200) 188 [.slc 0 0 16 1 false] ⟨[.cells none 0 (ints L6)], [], []⟩ = some (.slc 2 0 16 1 false, ⟨[.cells none 0 (ints L6), .cells (some 0) 0 [], .cells (some 1) 0 (ints L6)], [⟨0, none⟩, ⟨16, none⟩], []⟩) := by kernel_rfl
theorem okYs {P : Program} : (∀ f, okY P f = true → okFnX P f = true) ∧ ∀ f, okY P f = true → smallFnX P f = true :=
  ⟨fun f hf => by simp only [okY, Bool.and_eq_true] at hf; exact hf.1, fun f hf => by simp only [okY, Bool.and_eq_true] at hf; exact hf.2⟩
/-- Copied. -/
theorem clone_w {w : World} {g o c : Nat} (hg : g < w.heap.size) (hc : 16 ≤ c) (hcm : c ≤ maxLen) (hcs : ∀ (j : Nat) (x : Int), L6[j]? = some x → w.cell? ⟨g, o + j, none⟩ = some (.int .i64 x)) :
    Calls Go.Proofs.Tryz.prog 188 #[.slice (some ⟨g, o, none⟩) 16 c] w fun e w' => ∃ k i z cap, e = .returned (.slice (some ⟨k, i, none⟩) 16 cap) ∧ RowI w' k i z L6 ∧ 16 ≤ cap ∧ i + cap ≤ z ∧ cap ≤ maxLen ∧ w.heap.size ≤ k ∧ Below w.heap.size w w' := by
  have he := bcallY_run noOrc_ok mixed okYs.1 okYs.2 _ run_clone
  obtain ⟨_, _, hcl⟩ := he
  have hr := hrel_ro (z := o + c) hg hcs
  refine (hcl (oneE g o (o + c)) w [.slice (some ⟨g, o, none⟩) 16 c] ?_ hr ⟨rfl, ?_⟩).mono ?_
  · intro b h1 _
    match b, h1 with
    | b + 1, _ => rfl
  · intro j x v hx hv
    match j, hx, hv with
    | 0, hx, hv =>
      cases hx; cases hv
      exact .slc 0 0 16 1 false _ c hc hcm (fun h => by cases h) (.inr ⟨g, o, o + c, rfl, rfl, by omega⟩)
    | j + 1, hx, _ => cases hx
  · rintro e w' ⟨v, φ', rfl, tr, rr, hv⟩
    have hb : ∀ k, k < w.heap.size → w'.heap[k]? = w.heap[k]? := by
      intro k hk
      refine tr.frame k hk ?_
      rintro ⟨b, i, z, _, ⟨F, p, cs, hB⟩ | ⟨F, x, hB⟩⟩
      · match b, hB with
        | 0, hB => cases hB
        | b + 1, hB => cases hB
      · match b, hB with
        | 0, hB => cases hB
        | b + 1, hB => cases hB
    cases hv with | slc _ _ _ _ _ a cap hn hcm' _ hadr =>
    obtain ⟨k, i, z, hk, ha, hz⟩ := hadr.resolve_left (by omega)
    subst ha
    have hbr := rr.blk 2 k i z _ hk rfl rfl
    obtain ⟨c', e', h1, h2, h3⟩ := hbr
    have hge : w.heap.size ≤ k := by
      rcases tr.img 2 k i z rfl hk with h | ⟨b0, i0, z0, F, p, cs, _, hB⟩
      · exact h
      · match b0, hB with
        | 0, hB => cases hB
        | b + 1, hB => cases hB
    have har := rr.arr 2 k i z _ _ _ hk rfl
    obtain ⟨_, _, _, _, h4⟩ := har
    exact ⟨k, i, z, cap, by rw [Nat.add_zero], ⟨c', e', h1, h2, cellsAt_ints h3, h4⟩, hn, by omega, hcm', hge, ⟨tr.os, tr.tape, tr.output, tr.size, hb⟩⟩
def revSeg (l : List Int) (x : Nat) : List Int := l.take (4 * x) ++ ((l.drop (4 * x)).take 4).reverse ++ l.drop (4 * x + 4)
/-- All rows that come up: each piece as it is, or turned. -/
def rvB (b : Bool) (x : Nat) (l : List Int) : List Int := if b then revSeg l x else l
def allS : List (List Int) := [false, true].flatMap fun a => [false, true].flatMap fun b => [false, true].flatMap fun c => [false, true].map fun d => rvB a 0 (rvB b 1 (rvB c 2 (rvB d 3 L6)))
theorem allS_rev : ∀ l ∈ allS, ∀ x, x < 4 → revSeg l x ∈ allS := by decide +kernel
theorem allS_len : ∀ l ∈ allS, l.length = 16 := by decide +kernel
theorem allS_6 : L6 ∈ allS := by decide +kernel
noncomputable def okRev (l : List Int) (x : Nat) : Bool := match bcallY Go.Proofs.Tryz.prog (okY Go.Proofs.Tryz.prog) (brunY Go.Proofs.Tryz.prog noOrc (okY Go.Proofs.Tryz.prog) 200) 154 [.slc 0 (4 * x) 4 1 true] ⟨[.cells (some 0) 0 (ints l)], [⟨16, none⟩], []⟩ with
  | some (_, h) => h.valid 0 && match h.get 0 with
    | some (.cells (some _) _ cs) => AV.isP 3 (.agg cs) (.agg (ints (revSeg l x)))
    | _ => false
  | none => false
theorem run_rev : (allS.all fun l => (List.range 4).all fun x => okRev l x) = true := by kernel_rfl
/-- A piece turned around. -/
theorem rev_w {w : World} {g o z : Nat} {l : List Int} (hl : l ∈ allS) {x : Nat} (hx : x < 4) (hr : RowI w g o z l) :
    Calls Go.Proofs.Tryz.prog 154 #[.slice (some ⟨g, o + 4 * x, none⟩) 4 4] w fun e w' => (∃ v, e = .returned v) ∧ RowI w' g o z (revSeg l x) ∧ (∀ k, k < w.heap.size → k ≠ g → w'.heap[k]? = w.heap[k]?) ∧ w'.os = w.os ∧ w'.tape = w.tape ∧ w'.output = w.output ∧ w.heap.size ≤ w'.heap.size := by
  have h0 : okRev l x = true := List.all_eq_true.1 (List.all_eq_true.1 run_rev l hl) x (List.mem_range.2 hx)
  have hll := allS_len l hl
  unfold okRev at h0
  split at h0
  · rename_i r h1 hrun
    rw [Bool.and_eq_true] at h0
    obtain ⟨hv0, h0⟩ := h0
    split at h0
    · rename_i F p cs hg1
      have hcs := AV.isP_eq 3 _ _ h0
      injection hcs with hcs
      subst hcs
      have he := bcallY_run noOrc_ok mixed okYs.1 okYs.2 _ hrun
      obtain ⟨_, _, hcl⟩ := he
      have hrel := hrel_rw hr
      rw [hll] at hrel
      obtain ⟨_, _, _, _, _, hfit⟩ := hr
      refine (hcl (oneE g o z) w [.slice (some ⟨g, o + 4 * x, none⟩) 4 4] ?_ hrel ⟨rfl, ?_⟩).mono ?_
      · intro b h1 _
        match b, h1 with
        | b + 1, _ => rfl
      · intro j y v hy hv
        match j, hy, hv with
        | 0, hy, hv =>
          cases hy; cases hv
          exact .slc 0 (4 * x) 4 1 true _ 4 (Nat.le_refl _) (by decide) (fun _ => rfl) (.inr ⟨g, o, z, rfl, rfl, by omega⟩)
        | j + 1, hy, _ => cases hy
      · rintro e w' ⟨v, φ', rfl, tr, rr, _⟩
        have hφ0 : φ' 0 = some (g, o, z) := tr.le 0 _ rfl
        obtain ⟨c', e', h2, h3, h4⟩ := rr.blk 0 g o z _ hφ0 hg1 hv0
        obtain ⟨_, _, _, _, h5⟩ := rr.arr 0 g o z _ _ _ hφ0 hg1
        refine ⟨⟨v, rfl⟩, ⟨c', e', h2, h3, cellsAt_ints h4, by simpa [ints] using h5⟩, ?_, tr.os, tr.tape, tr.output, tr.size⟩
        intro k hk hkg
        refine tr.frame k hk ?_
        rintro ⟨b, i, z', hb, _⟩
        obtain ⟨_, h6⟩ := oneE_some hb
        cases h6
        exact hkg rfl
    · cases h0
  · cases h0
end Go.Am

namespace Go.Proofs
open Go.RowKit Go.Shelf Go.Am
attribute [local go_sem] Oper.semAt_some
theorem Tryz.grown_drew (W : World) : W.grownBy W.drew none := ⟨rfl, rfl, rfl, Nat.le_refl _, fun _ _ _ => rfl⟩
theorem Tryz.chunk_stops (F : Fence) (n : Nat) (h7 : F.fn 216) (hro : F.round = none) (hn : 1 ≤ n) (Bs Bn g o cap : Nat) (hcap : 16 ≤ cap) (hcm : cap ≤ maxLen) (w : World) (h1 : Bs < w.heap.size) (h2 : Bn < w.heap.size)
    (hBs : w.cell? ⟨Bs, 0, none⟩ = some (.slice (some ⟨g, o, none⟩) 16 cap)) (hBn : w.cell? ⟨Bn, 0, none⟩ = some (.int .i64 4)) :
    SeqStopsK F n Tryz.prog 216 #[.pointer (some ⟨Bs, 0, none⟩), .pointer (some ⟨Bn, 0, none⟩)] (fun x : Tryz.Pc => #[Value.slice (some ⟨g, o + 4 * x.1, none⟩) 4 4]) (Tryz.Two Bs Bn) (fun ys => ys = Tryz.pcs 4) (fun _ => True) 4 w := fun l J Jx W hW hJ _ hY h0 =>
  Tryz.chunk1_in F n h7 hro hn l Bs Bn g o cap hcap hcm J Jx (fun s W' h => hJ s W' W'.drew none h (Tryz.grown_drew W') (fun r e => by cases e)) hY W ((hW.cell h1).trans hBs) ((hW.cell h2).trans hBn) h0
set_option maxHeartbeats 1000000 in
theorem Tryz.chunk_in (F : Fence) (n : Nat) (h5 : F.fn 189) (hro : F.round = none) (a : Option Addr) (len cap : Nat) (w : World) :
    CallsIn F n Tryz.prog 189 #[.slice a len cap, .int .i64 4] w fun e w' => e = .returned (.func (.func 216) #[] #[.pointer (some ⟨w.heap.size, 0, none⟩), .pointer (some ⟨w.heap.size + 1, 0, none⟩)]) ∧ w'.cell? ⟨w.heap.size, 0, none⟩ = some (.slice a len cap) ∧ w'.cell? ⟨w.heap.size + 1, 0, none⟩ = some (.int .i64 4) ∧ w'.heap.size = w.heap.size + 2 ∧ Below w.heap.size w w' := by
  refine callsIn_of_wp Tryz.func189 rfl h5 ?_ hro
  simp only [Tryz.ntmps189, List.size_toArray, List.length_cons, List.length_nil, Nat.reduceAdd, Nat.reduceSub, Array.replicate_succ, Array.replicate_zero, List.push_toArray, List.append_toArray, List.nil_append, List.cons_append]
  have hb2 : Below w.heap.size w ((w.alloc (.cells #[.slice a len cap] 23)).alloc (.cells #[.int .i64 4] 3)) := ((Below.refl _ w).alloc (Nat.le_refl _) _).alloc (by simp) _
  have e1 := heap_alloc_new w (.cells #[.slice a len cap] 23)
  have hb1 : Below (w.alloc (.cells #[.slice a len cap] 23)).heap.size (w.alloc (.cells #[.slice a len cap] 23)) ((w.alloc (.cells #[.slice a len cap] 23)).alloc (.cells #[.int .i64 4] 3)) := (Below.refl _ _).alloc (Nat.le_refl _) _
  have e2 := hb1.block w.heap.size (by rw [World.size_alloc]; omega)
  have e3 := heap_alloc_new (w.alloc (.cells #[.slice a len cap] 23)) (.cells #[.int .i64 4] 3)
  rw [World.size_alloc] at e3
  rw [e1] at e2
  have hc1 : ((w.alloc (.cells #[.slice a len cap] 23)).alloc (.cells #[.int .i64 4] 3)).cell? ⟨w.heap.size, 0, none⟩ = some (.slice a len cap) := by
    unfold World.cell?
    rw [e2]
    rfl
  have hc2 : ((w.alloc (.cells #[.slice a len cap] 23)).alloc (.cells #[.int .i64 4] 3)).cell? ⟨w.heap.size + 1, 0, none⟩ = some (.int .i64 4) := by
    unfold World.cell?
    rw [e3]
    rfl
  gi_wp2
  go_ret
  exact ⟨rfl, hc1, hc2, by simp, hb2⟩
theorem Tryz.rowI_own (k i z : Nat) (f : List Tryz.Pc → List Int) : Own (fun pre W => RowI W k i z (f pre)) := by
  intro s A B row hs hg hr
  obtain ⟨c, e, h1, h2⟩ := hs
  obtain ⟨fz, h3, h4⟩ := h1
  exact ⟨c, e, ⟨fz, (grownBy_keeps_cells hg hr h3 rfl).trans h3, h4⟩, h2⟩
def Tryz.foldS (pre : List Tryz.Pc) : List Int := pre.foldl (fun l x => revSeg l x.1) L6
theorem Tryz.foldS_snoc (pre : List Tryz.Pc) (x : Tryz.Pc) : Tryz.foldS (pre ++ [x]) = revSeg (Tryz.foldS pre) x.1 := by simp [Tryz.foldS]
theorem Tryz.foldS_mem : ∀ pre : List Tryz.Pc, Tryz.foldS pre ∈ allS := by
  intro pre
  have : ∀ (pre : List Tryz.Pc) (l : List Int), l ∈ allS → pre.foldl (fun l x => revSeg l x.1) l ∈ allS := by
    intro pre
    induction pre with
    | nil => intro l h; exact h
    | cons x pre ih => intro l h; exact ih _ (allS_rev l h x.1 x.2)
  exact this pre L6 allS_6
set_option maxRecDepth 100000 in
set_option maxHeartbeats 2000000 in
theorem Tryz.flip_walk {w : World} {g o c : Nat} (hg : g < w.heap.size) (hc : 16 ≤ c) (hcm : c ≤ maxLen) (hcs : ∀ (j : Nat) (x : Int), L6[j]? = some x → w.cell? ⟨g, o + j, none⟩ = some (.int .i64 x)) :
    Calls Tryz.prog 156 #[.slice (some ⟨g, o, none⟩) 16 c, .int .i64 4] w fun e w' => ∃ k i z cap, e = .returned (.slice (some ⟨k, i, none⟩) 16 cap) ∧ RowI w' k i z (Tryz.foldS (Tryz.pcs 4)) ∧ 16 ≤ cap ∧ i + cap ≤ z ∧ cap ≤ maxLen ∧ w.heap.size ≤ k ∧ Below w.heap.size w w' := by
  refine (callsIn_wide (n := 5)).1 ?_
  refine callsIn_of_wp_marks Tryz.func156 rfl trivial ?_ rfl
  simp only [Tryz.ntmps156, List.size_toArray, List.length_cons, List.length_nil, Nat.reduceAdd, Nat.reduceSub, Array.replicate_succ, Array.replicate_zero, List.push_toArray, List.append_toArray, List.nil_append, List.cons_append]
  gi_wp2
  refine ⟨trivial, ?_⟩
  refine (callsIn_wide.2 (clone_w hg hc hcm hcs)).mono ?_
  rintro e w1 ⟨k, i, z, cap, rfl, hrow, h16, hcz, hcm1, hge, hb1⟩
  gi_wp2
  refine ⟨trivial, ?_⟩
  refine (Tryz.chunk_in Fence.wide _ trivial rfl _ _ _ w1).mono ?_
  rintro e w2 ⟨rfl, hbs, hbn, hsz2, hb12⟩
  gi_wp2
  have hk1 : k < w1.heap.size := by obtain ⟨c', e', h1, _⟩ := hrow; exact h1.lt
  have hb2 : Below w.heap.size w w2 := hb1.trans (hb12.mono hb1.size)
  have hrow2 : RowI w2 k i z L6 := by
    obtain ⟨c', e', h1, h2⟩ := hrow
    exact ⟨c', e', h1.old (hb12.block k hk1), h2⟩
  refine wpIn_rangeFunc_ownF rfl (by decide) (gf := 216) (lb := #[.pointer (some ⟨w1.heap.size, 0, none⟩), .pointer (some ⟨w1.heap.size + 1, 0, none⟩)]) rfl trivial (enters_of Tryz.func216 (by kernel_rfl) rfl)
    (Tryz.chunk_stops Fence.wide _ trivial rfl (by decide) w1.heap.size (w1.heap.size + 1) k i cap h16 hcm1 w2 (by omega) (by omega) hbs hbn)
    (fun h k => h.trans k) (fun W l o o' hl _ _ _ => ⟨World.putObj_heap_other (by omega), World.putObj_heap_other (by omega)⟩) (Below.refl _ _) (fun _ => rfl)
    (fun pre W => RowI W k i z (Tryz.foldS pre) ∧ Below w.heap.size w2 W) (fun _ _ _ => False)
    (OwnFrom.and (Own.from (Tryz.rowI_own k i z Tryz.foldS) _) (ownFrom_below hb2.size hb2.size)) (fun _ _ _ _ _ hs _ _ => hs)
    ⟨hrow2, Below.refl _ _⟩
    (fun x => { tmps := #[.slice (some ⟨g, o, none⟩) 16 c, .int .i64 4, undef, undef, .slice none 0 0, .slice (some ⟨k, i, none⟩) 16 cap, .slice (some ⟨k, i + 4 * x.1, none⟩) 4 4, .slice (some ⟨g, o, none⟩) 16 c, .slice (some ⟨k, i, none⟩) 16 cap, .slice (some ⟨k, i, none⟩) 16 cap, .int .i64 4, .func (.func 216) #[] #[.pointer (some ⟨w1.heap.size, 0, none⟩), .pointer (some ⟨w1.heap.size + 1, 0, none⟩)], .slice (some ⟨k, i + 4 * x.1, none⟩) 4 4, undef, undef, undef], defers := [] }) ?assign ?body ?done ?stop
  case assign =>
    intro l x W K hK
    gi_wp2
    exact hK
  case body =>
    rintro l pre x W ⟨hr, hB⟩ _
    gi_wp2
    refine ⟨trivial, ?_⟩
    refine (CallsIn.inRound l (callsIn_wide.2 (rev_w (Tryz.foldS_mem pre) x.2 hr))).mono ?_
    rintro e W' ⟨⟨v, rfl⟩, hr', hfr, hos, htp, hou, hsz⟩
    gi_wp2
    have hsz2' := hB.size
    have hcell : ∀ (q : Nat) (ob : Obj), W.heap[q]? = some ob → ob.isCells = false → q ≠ k := by
      rintro q ob hq hob rfl
      obtain ⟨c', e', ⟨_, h3, _⟩, _⟩ := hr
      rw [h3] at hq
      cases hq
      cases hob
    refine ⟨⟨hsz, fun q ob hq hob => ?_⟩, ⟨hfr _ (by omega) (by omega), hfr _ (by omega) (by omega)⟩, by rw [Tryz.foldS_snoc]; exact hr', hB.trans ⟨hos, htp, hou, hsz, fun q hq => hfr q (by have := hb2.size; omega) (by omega)⟩⟩
    rw [hfr q (Array.getElem?_eq_some_iff.1 hq).1 (hcell q ob hq hob)]
    exact hq
  case done =>
    rintro D ys W hD rfl ⟨hr, hB⟩ hK
    gi_wp2
    refine ⟨by simp, .inl ⟨_, _, rfl, run_takeDeferred hK, ?_⟩⟩
    have hDw : w.heap.size ≤ D := Nat.le_trans hb2.size hD
    exact ⟨_, results_tmp rfl _ _ _, k, i, z, cap, rfl, (Tryz.rowI_own k i z Tryz.foldS).putObj _ hr hK rfl, h16, hcz, hcm1, hge, (hb2.trans hB).trans (belowK_b (w := w) (Nat.le_refl _) W D _ _ hDw hK rfl rfl)⟩
  case stop =>
    rintro D c pre W _ _ h _
    exact h.elim
end Go.Proofs

namespace Go.Am
open Go.RowKit
def F6 : List Int := [0, 4, 8, 12, 1, 5, 9, 13, 2, 6, 10, 14, 3, 7, 11, 15]
theorem fold_F6 : Go.Proofs.Tryz.foldS (Go.Proofs.Tryz.pcs 4) = F6 := by decide +kernel
/-- The row at a slice is that of L6. -/
noncomputable def isL6 (h : AHeap) (b o : Nat) : Bool := match getR h b with
  | some (.cells _ _ cs) => validR h b && AV.isP 3 (.agg ((cs.drop o).take 16)) (.agg (ints L6))
  | _ => false
noncomputable def orcF : Orc := fun f args h => if Nat.beq f 156 then (match args with
    | [.slc b o n s _, .int .i64 m] => if (Nat.beq n 16 && (Nat.beq s 1 && (decide (m = 4) && isL6 h b o))) = true then some (.slc h.next 0 16 1 false, h.alloc (ints F6)) else none
    | _ => none) else none
theorem orcF_ok : OrcOk Go.Proofs.Tryz.prog orcF := by
  intro f args h r h' ho
  unfold orcF at ho
  split at ho
  · rename_i hf
    obtain rfl := Nat.eq_of_beq_eq_true hf
    split at ho
    · rename_i b o n s full m
      split at ho
      · rename_i hc
        simp only [Bool.and_eq_true, decide_eq_true_eq] at hc
        obtain ⟨hn, hs, rfl, hL⟩ := hc
        obtain rfl := Nat.eq_of_beq_eq_true hn
        obtain rfl := Nat.eq_of_beq_eq_true hs
        cases ho
        unfold isL6 at hL
        split at hL
        · rename_i F p cs hg
          rw [Bool.and_eq_true, validR_eq] at hL
          rw [getR_eq] at hg
          obtain ⟨hv, hcs⟩ := hL
          have hcs := AV.isP_eq 3 _ _ hcs
          injection hcs with hcs
          refine Ev.of_fresh (xs := ints F6) ⟨_, Go.Proofs.Tryz.func156, by decide, rfl⟩ ?_
          intro φ w cv rr ha
          obtain ⟨a, u, rfl⟩ : ∃ a u, cv = [a, u] := by
            match cv, ha.1 with
            | [a, u], _ => exact ⟨a, u, rfl⟩
          have h1 := ha.2 0 _ _ rfl rfl
          have h2 := ha.2 1 _ _ rfl rfl
          cases h2
          cases h1 with | slc _ _ _ _ _ a c hn hcm _ hadr =>
          obtain ⟨k, i, z, hφ, rfl, hz⟩ := hadr.resolve_left (by omega)
          have hcell : ∀ (j : Nat) (x : Int), L6[j]? = some x → w.cell? ⟨k, i + o + j, none⟩ = some (.int .i64 x) := by
            intro j x hx
            have hj : (ints L6)[j]? = some (.int .i64 x) := by simp [ints, hx]
            rw [← hcs, List.getElem?_take, List.getElem?_drop] at hj
            split at hj
            · have hbr := rr.blk b k i z _ hφ hg hv
              have hg2 : ∀ {y : AV}, cs[o + j]? = some y → ∃ v, w.cell? ⟨k, i + (o + j), none⟩ = some v ∧ VRel φ y v := by
                intro y hy
                cases F with
                | none => exact hbr.1 (o + j) y hy
                | some F =>
                  obtain ⟨c', e', h3, _, h4⟩ := hbr
                  obtain ⟨v, h5, h6⟩ := h4 (o + j) y hy
                  exact ⟨v, by rw [h3.cell]; exact h5, h6⟩
              obtain ⟨v, h5, h6⟩ := hg2 hj
              cases h6
              rw [Nat.add_assoc]
              exact h5
            · cases hj
          refine (Go.Proofs.Tryz.flip_walk (rr.lt b k i z hφ) (by omega) hcm hcell).mono ?_
          rintro e w' ⟨k', i', z', cap, rfl, ⟨c', e', h3, h4, h5, _⟩, h16, hcz, hcm', hge, hb⟩
          rw [fold_F6] at h5
          exact ⟨k', i', c', e', cap, rfl, hb, hge, h3, cellsAt_ints h5, h16, by omega, hcm'⟩
        · cases hL
      · cases ho
    · cases ho
  · cases ho
/-- Rows and columns exchanged. -/
def transH (l : List Nat) : List Nat := (List.range 16).map fun i => l.getD (i % 4 * 4 + i / 4) 0
noncomputable def okTurn (p : List Nat) : Bool := runsQ Go.Proofs.Tryz.prog orcF 4000 12 [.agg [.int .i64 4, .int .i64 4, .int .i64 2, .slc 0 0 2 1 false], .slc 1 0 16 1 false, .int .i64 6] [natI [0, 6], natI (drawH p)] [] (chkTupO 2 1 (natI (transH (drawH p))) (.int .i64 0))
end Go.Am

namespace Go.Am
theorem run_turn0 : ((parts.drop 0).take 10).all okTurn = true := by kernel_rfl
theorem run_turn1 : ((parts.drop 10).take 10).all okTurn = true := by kernel_rfl
theorem run_turn2 : ((parts.drop 20).take 10).all okTurn = true := by kernel_rfl
theorem run_turn3 : ((parts.drop 30).take 10).all okTurn = true := by kernel_rfl
theorem run_turn4 : ((parts.drop 40).take 10).all okTurn = true := by kernel_rfl
theorem run_turn5 : ((parts.drop 50).take 10).all okTurn = true := by kernel_rfl
theorem run_turn6 : ((parts.drop 60).take 10).all okTurn = true := by kernel_rfl
end Go.Am

namespace Go.Am
theorem okTurn_all {p : List Nat} (hp : p ∈ parts) : okTurn p = true := by
  have e : parts = (parts.drop 0).take 10 ++ ((parts.drop 10).take 10 ++ ((parts.drop 20).take 10 ++ ((parts.drop 30).take 10 ++ ((parts.drop 40).take 10 ++ ((parts.drop 50).take 10 ++ (parts.drop 60).take 10))))) := by decide +kernel
  rw [e] at hp
  rcases List.mem_append.1 hp with hp | hp
  · exact List.all_eq_true.1 run_turn0 p hp
  rcases List.mem_append.1 hp with hp | hp
  · exact List.all_eq_true.1 run_turn1 p hp
  rcases List.mem_append.1 hp with hp | hp
  · exact List.all_eq_true.1 run_turn2 p hp
  rcases List.mem_append.1 hp with hp | hp
  · exact List.all_eq_true.1 run_turn3 p hp
  rcases List.mem_append.1 hp with hp | hp
  · exact List.all_eq_true.1 run_turn4 p hp
  rcases List.mem_append.1 hp with hp | hp
  · exact List.all_eq_true.1 run_turn5 p hp
  · exact List.all_eq_true.1 run_turn6 p hp
theorem turn_c {h : AHeap} {t v : AV} {p : List Nat} (hp : p ∈ parts) (ht : Row h t [0, 6]) (hv : Row h v (nI (drawH p))) : ACalls Go.Proofs.Tryz.prog 12 [.agg [.int .i64 4, .int .i64 4, .int .i64 2, t], v, .int .i64 6] h (fun r h' => ∃ a, r = .tup [a, .int .i64 0] ∧ St h h' [⟨a, 1, natI (transH (drawH p)), true⟩]) :=
  over_tupP orcF_ok mixed (okTurn_all hp) [⟨t, 1, natI [0, 6], natI [0, 6]⟩, ⟨v, 1, natI (drawH p), natI (drawH p)⟩] rfl rfl (okGs_cons (okG_plain ht (by decide) (by decide) (natI_plain _)) (okGs_cons (okG_plain hv (by decide) (natI_ne (fun e => by have := congrArg List.length e; simp [drawH] at this)) (natI_plain _)) okGs_nil)) hgs_nil rfl
    (imG_cons (.agg _ _ rfl (imG_cons (.plain _ rfl) (imG_cons (.plain _ rfl) (imG_cons (.plain _ rfl) (imG_cons (imG_slc rfl (by decide) rfl) imG_nil))))) (imG_cons (imG_slc (v := v) rfl (by decide) (by rw [natI_len]; simp [drawH])) (imG_cons (.plain _ rfl) imG_nil)))
def swpI (l : List Int) (i : Nat) : List Int := (l.set i (l.getD (i - 1) 0)).set (i - 1) (l.getD i 0)
def bub (l : List Int) : Nat → List Int
  | 0 => l
  | i + 1 => if l.getD i 0 < l.getD (i + 1) 0 then bub (swpI l (i + 1)) i else l
theorem bub_yes {l : List Int} {i : Nat} (h0 : 0 < i) (h : l.getD (i - 1) 0 < l.getD i 0) : bub l i = bub (swpI l i) (i - 1) := by
  obtain ⟨i, rfl⟩ : ∃ k, i = k + 1 := ⟨i - 1, by omega⟩
  rw [Nat.add_sub_cancel] at h
  rw [bub, if_pos h]; rfl
theorem bub_no {l : List Int} {i : Nat} (h : ¬ (0 < i ∧ l.getD (i - 1) 0 < l.getD i 0)) : bub l i = l := by
  cases i with
  | zero => rfl
  | succ i => rw [bub, if_neg (fun hh => h ⟨Nat.succ_pos i, by rw [Nat.add_sub_cancel]; exact hh⟩)]
/-- The heaps turned without their first one, turned again. -/
def lessH (p : List Nat) : List Nat := if 1 < (turnH p).length then turnH (turnH p).tail else []
theorem facts_H : ∀ p ∈ parts, p ≠ [] → (turnH p ∈ parts ∧ turnH p ≠ [] ∧ drawH (turnH p) = transH (drawH p)) ∧ (1 < (turnH p).length → (turnH p).tail ∈ parts ∧ (turnH p).tail ≠ []) ∧ bub (nI (lessH p ++ [(turnH p).headD 0])) (lessH p).length = nI (roundH p) ∧ (p.length ≤ 4 ∧ (turnH p).length ≤ 4 ∧ (lessH p).length ≤ 4 ∧ (roundH p).length ≤ 9) := by decide +kernel
/-- The heaps of at least so many cards. -/
def hpsA (c : List Nat) (s : Nat) : List Nat := (([4, 3, 2, 1].filter fun z => decide (s < z)).flatMap fun z => c.filter fun x => decide (x % 5 = z)).map fun x => x % 5
def hpsB (c : List Nat) (s j : Nat) : List Nat := hpsA c s ++ ((c.take j).filter fun x => decide (x % 5 = s)).map fun x => x % 5
theorem hpsB_0 (c : List Nat) (s : Nat) : hpsB c s 0 = hpsA c s := by simp [hpsB]
theorem hpsB_all {c : List Nat} {s : Nat} (h : c.length = 4) (h1 : 1 ≤ s) (h4 : s ≤ 4) : hpsB c s 4 = hpsA c (s - 1) := by
  rw [hpsB, List.take_of_length_le (by omega)]
  match s, h1, h4 with
  | 1, _, _ => simp [hpsA]
  | 2, _, _ => simp [hpsA]
  | 3, _, _ => simp [hpsA]
  | 4, _, _ => simp [hpsA]
theorem take_filter {c : List Nat} {s j : Nat} (h : j < c.length) : (c.take (j + 1)).filter (fun x => decide (x % 5 = s)) = (c.take j).filter (fun x => decide (x % 5 = s)) ++ if c.getD j 0 % 5 = s then [c.getD j 0] else [] := by
  have e : c[j] = c.getD j 0 := by rw [List.getD_eq_getElem?_getD, List.getElem?_eq_getElem h]; rfl
  rw [List.take_add_one, List.getElem?_eq_getElem h, List.filter_append, e]
  congr 1
  split
  · rename_i hx; exact List.filter_cons_of_pos (by simpa using hx)
  · rename_i hx; exact List.filter_cons_of_neg (by simpa using hx)
theorem hpsB_yes {c : List Nat} {s j : Nat} (h : j < c.length) (hx : c.getD j 0 % 5 = s) : hpsB c s (j + 1) = hpsB c s j ++ [s] := by
  rw [hpsB, hpsB, take_filter h, if_pos hx, List.map_append, List.map_cons, List.map_nil, hx, List.append_assoc]
theorem hpsB_no {c : List Nat} {s j : Nat} (h : j < c.length) (hx : ¬ c.getD j 0 % 5 = s) : hpsB c s (j + 1) = hpsB c s j := by
  rw [hpsB, hpsB, take_filter h, if_neg hx, List.append_nil]
theorem hps_all : ((List.range 5).all fun a => (List.range 5).all fun b => (List.range 5).all fun c => (List.range 5).all fun d => decide (hpsA [a, b, c, d] 0 ∈ parts)) = true := by decide +kernel
theorem hps_small {a b c d : Nat} (ha : a < 5) (hb : b < 5) (hc : c < 5) (hd : d < 5) : hpsA [a, b, c, d] 0 ∈ parts :=
  of_decide_eq_true (List.all_eq_true.1 (List.all_eq_true.1 (List.all_eq_true.1 (List.all_eq_true.1 hps_all a (List.mem_range.2 ha)) b (List.mem_range.2 hb)) c (List.mem_range.2 hc)) d (List.mem_range.2 hd))
theorem hps_mod (c : List Nat) (s : Nat) : hpsA c s = hpsA (c.map fun x => x % 5) s := by
  unfold hpsA
  rw [List.map_flatMap, List.map_flatMap]
  congr 1
  funext z
  rw [List.filter_map, List.map_map]
  simp [Function.comp_def]
theorem hps_parts {c : List Nat} (h : c.length = 4) : hpsA c 0 ∈ parts := by
  match c, h with
  | [a, b, c, d], _ =>
    rw [hps_mod]
    exact hps_small (Nat.mod_lt _ (by decide)) (Nat.mod_lt _ (by decide)) (Nat.mod_lt _ (by decide)) (Nat.mod_lt _ (by decide))
theorem hpsB_len {c : List Nat} (s j : Nat) (h : c.length = 4) : (hpsB c s j).length ≤ 20 := by
  have h1 : ∀ z, (c.filter fun x => decide (x % 5 = z)).length ≤ 4 := fun z => by have := List.length_filter_le (fun x => decide (x % 5 = z)) c; omega
  have h2 : ((c.take j).filter fun x => decide (x % 5 = s)).length ≤ 4 := by
    have h4 := List.length_filter_le (fun x => decide (x % 5 = s)) (c.take j)
    have h5 : (c.take j).length ≤ 4 := by rw [List.length_take]; omega
    omega
  have h3 : ∀ l : List Nat, (l.flatMap fun z => c.filter fun x => decide (x % 5 = z)).length ≤ 4 * l.length := by
    intro l
    induction l with
    | nil => exact Nat.le_refl _
    | cons a l ih => rw [List.flatMap_cons, List.length_append, List.length_cons]; have := h1 a; omega
  have h4 := h3 ([4, 3, 2, 1].filter fun z => decide (s < z))
  have h5 := List.length_filter_le (fun z => decide (s < z)) [4, 3, 2, 1]
  rw [hpsB, hpsA, List.length_append, List.length_map, List.length_map]
  simp only [List.length_cons, List.length_nil] at h5
  omega
end Go.Am
