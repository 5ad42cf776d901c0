/-
  Layer 01: a flow is found just where there is one: contract.
  Conditions: none.
-/
import Derived.Test.YtdfhmdhjeiipfaaGreatDoorSCm
import Derived.Test.YtdfhmdhjeiipfaaGreatDoorCvb
import Derived.RangeFuncFrom
namespace Go.Am
theorem mins_within {rm : Int} {ws : List W} (hB : BOk rm ws) : Within ws (ws.map (·.l)) := by
  have hg : ∀ i, i < ws.length → (ws.map (·.l)).getD i 0 = (ws.getD i default).l := by
    intro i hi
    rw [List.getD_eq_getElem?_getD, List.getElem?_map, List.getD_eq_getElem?_getD, List.getElem?_eq_getElem hi]
    rfl
  exact ⟨by simp, fun i hi => by rw [hg i hi]; exact Int.le_refl _, fun i hi => by rw [hg i hi]; exact (hB.way i hi).lm⟩
theorem mins_next {ws : List W} {i : Nat} (hi : i < ws.length) : (ws.map (·.l)).take i ++ [(ws.getD i default).l] = (ws.map (·.l)).take (i + 1) := by
  have hl : i < (ws.map (·.l)).length := by simpa using hi
  rw [take_next hl]
  congr 1
  rw [List.getD_eq_getElem?_getD, List.getD_eq_getElem?_getD, List.getElem?_map, List.getElem?_eq_getElem hi]
  rfl
theorem keptL_flow {r : Nat} {ws : List W} {n : List Int} (hB : BOk (r : Int) ws) (hw : Within ws n) (h : ((keptL r ws n ws.length).any fun x => !decide (x = 0)) = false) : Flow ws n := by
  refine ⟨hw, fun x => ?_⟩
  by_cases hx : x < 0 ∨ (r : Int) ≤ x
  · exact kept_out hB.inR n hx _ (Nat.le_refl _)
  · have hg := keptL_get (ws := ws) (n := n) (k := ws.length) (show x.toNat < r by omega)
    rw [show ((x.toNat : Nat) : Int) = x by omega] at hg
    rw [List.any_eq_false] at h
    have hl := keptL_len r ws n ws.length
    have := h ((keptL r ws n ws.length).getD x.toNat 0) (by
      rw [List.getD_eq_getElem?_getD, List.getElem?_eq_getElem (by omega)]
      exact List.getElem_mem _)
    rw [hg] at this
    simpa using this
theorem keptL_dev {r : Nat} {ws : List W} {n : List Int} (h : ((keptL r ws n ws.length).any fun x => !decide (x = 0)) = true) : devTo ws n r ≠ 0 := by
  intro h0
  rw [List.any_eq_true] at h
  obtain ⟨x, hx, hne⟩ := h
  unfold keptL at hx
  obtain ⟨y, hy, rfl⟩ := List.mem_map.1 hx
  have := dev_zero h0 y (List.mem_range.1 hy)
  have h2 : keptTo ws n (y : Int) ws.length = 0 := this
  rw [h2] at hne
  exact absurd hne (by decide)
/-- No path for the first pairs of rooms. -/
def NoTo (ws : List W) (n : List Int) (r i j : Nat) : Prop := ∀ a b : Nat, a < r → b < r → (a < i ∨ (a = i ∧ b < j)) → ¬ (0 < kept ws n a ∧ kept ws n b < 0 ∧ ∃ vs E, Path ws n (fun _ => true) a vs b E)
theorem NoTo.zero (ws : List W) (n : List Int) (r : Nat) : NoTo ws n r 0 0 := fun a b _ _ h => by omega
theorem NoTo.row {ws : List W} {n : List Int} {r i : Nat} (h : NoTo ws n r i r) : NoTo ws n r (i + 1) 0 := fun a b ha hb hc => h a b ha hb (by omega)
theorem NoTo.more {ws : List W} {n : List Int} {r i j : Nat} (h : NoTo ws n r i j) (hn : ¬ (0 < kept ws n i ∧ kept ws n j < 0 ∧ ∃ vs E, Path ws n (fun _ => true) i vs j E)) : NoTo ws n r i (j + 1) := by
  intro a b ha hb hc
  by_cases he : a = i ∧ b = j
  · obtain ⟨rfl, rfl⟩ := he; exact hn
  · exact h a b ha hb (by omega)
theorem agree_flow {rm : Int} {ws : List W} {n : List Int} (h0 : chkB rm ws = 0) (hf : Flow ws n) : agreeE rm ws = 0 := by
  have hB := BOk.of h0
  have hr : InR ((rm.toNat : Nat) : Int) ws := by
    have := hB.r2
    rw [show ((rm.toNat : Nat) : Int) = rm by omega]
    exact hB.inR
  rw [agreeE, if_pos h0, canP, decide_eq_true h0, (hoffman hr hB.LM).2 ⟨n, hf⟩]
  rfl
theorem NoTo.lost {r : Nat} {ws : List W} {n : List Int} (h0 : chkB (r : Int) ws = 0) (hw : Within ws n) (hd : devTo ws n r ≠ 0) (h : NoTo ws n r r 0) : agreeE (r : Int) ws = 12 := by
  have hB := BOk.of h0
  rcases path_or_proof hB.inR hw hd with ⟨u, v, hu, hv, h1, h2, h3⟩ | ⟨s, hs, hp⟩
  · exact absurd ⟨h1, h2, h3⟩ (h u v hu hv (.inl hu))
  · have hc : canB r ws = false := by
      cases hb : canB r ws with
      | false => rfl
      | true => rw [canB_iff.1 hb s hs] at hp; cases hp
    rw [agreeE, if_pos h0, canP, decide_eq_true h0, Int.toNat_natCast, hc]
    rfl

theorem found_c {h : AHeap} {rm : Int} {vW : AV} {ws : List W} (hv : Rd h vW 4 (flr wc ws)) : ACalls Go.Proofs.Tryz.prog 47 [.agg [.int .i64 rm, vW]] h (fun q h' => ∃ qp, q = .tup [qp, .int .i64 (agreeE rm ws)] ∧ Keeps h h' ∧ qp.one = true ∧ (agreeE rm ws = 0 → ∃ n vn, AddrOf qp qp 0 0 ∧ Flow ws n ∧ St h h' [⟨qp, 0, [.int .i64 rm, vW, vn], true⟩, ⟨vn, 1, ints n, true⟩])) := by
  refine KA.fn 80 [.tmp 2, .tmp 3] Go.Proofs.Tryz.func47 rfl (by decide) rfl rfl (Nat.le_of_ble_eq_true rfl) ?_
  have hS := St.refl h
  have hvo : vW.one = true := hv.one
  show KA _ 80 _ _ [(0, .agg [.int .i64 rm, vW])] _
  refine KA.seq ?_
  refine KA.region rfl ?_
  refine KOps.boxAll hS (by first | rfl | (simp [AV.one]; done) | (simp [AV.one]; assumption) | (simp [AV.one, *]; done)) ?_
  intro p1 h' hp1 hS
  refine KOps.assign ?_
  refine KOps.assign ?_
  refine KOps.done ?_
  refine sqQ.normal ?_
  refine KA.sub (Sub.cons (t := 1) Look.eq (Sub.nil _)) ?_
  refine KA.scope ?_
  refine KA.seq ?_
  refine KA.seq ?_
  refine KA.region rfl ?_
  refine KOps.loadAll hS (i := 0) rfl hp1 (by rfl) (by decide) ?_
  refine KOps.call rfl (check_c (Rd.ext hS.keeps hv)) ?_
  rintro _ h5 ⟨rfl, hK⟩
  have hS0 : St _ _ (_ :: _) := St.trans hS (St.ofK hK)
  clear hS
  have hS := hS0
  clear hS0
  refine KOps.assign ?_
  refine KOps.done ?_
  refine sqQ.normal ?_
  refine KA.sub (Sub.cons (t := 1) Look.eq (Sub.cons (t := 4) Look.eq (Sub.nil _))) ?_
  refine KA.seq ?_
  refine KA.region rfl ?_
  refine KOps.move ?_
  refine KOps.neq ?_
  refine KOps.done ?_
  refine sqQ.normal ?_
  refine KA.sub (Sub.cons (t := 1) Look.eq (Sub.cons (t := 4) Look.eq (Sub.cons (t := 18) Look.eq (Sub.nil _)))) ?_
  refine KA.condN ?_ ?_
  · intro c18
    refine KA.seq ?_
    refine KA.region rfl ?_
    refine KOps.move ?_
    refine KOps.assign ?_
    refine KOps.assign ?_
    refine KOps.done ?_
    refine sqQ.normal ?_
    refine KA.sub (Sub.cons (t := 2) Look.eq (Sub.cons (t := 3) Look.eq (Sub.nil _))) ?_
    refine KA.ret ?_
    refine sqQ.ret ?_
    refine fnQ.retN ?_
    have e0 : agreeE rm ws = chkB rm ws := by rw [agreeE, if_neg c18]
    rw [e0]
    exact ⟨_, rfl, hS.keeps, rfl, fun h0 => absurd h0 c18⟩
  · intro c18
    obtain ⟨r, rfl⟩ : ∃ r : Nat, rm = (r : Int) := ⟨rm.toNat, by have := (BOk.of c18).r2; omega⟩
    have hB := BOk.of c18
    have hr6 := hB.r6
    have hwl := hB.len
    refine KA.skip ?_
    refine sqQ.normal ?_
    refine KA.sub (Sub.cons (t := 1) Look.eq (Sub.nil _)) ?_
    refine KA.seq ?_
    refine KA.region rfl ?_
    refine KOps.loadAll hS (i := 0) rfl hp1 (by rfl) (by decide) ?_
    refine KOps.buildA1 (z0 := .int .i64 0) (z1 := .nils) (z2 := .nils) (by kernel_rfl) (by rfl) (by kernel_rfl) (by kernel_rfl) (by first | rfl | assumption) (by first | rfl | assumption) ?_
    refine KOps.boxAll hS (by first | rfl | (simp [AV.one]; done) | (simp [AV.one]; assumption) | (simp [AV.one, *]; done)) ?_
    intro p22 h' hp22 hS
    refine KOps.assign ?_
    refine KOps.done ?_
    refine sqQ.normal ?_
    refine KA.sub (Sub.cons (t := 1) Look.eq (Sub.cons (t := 5) Look.eq (Sub.nil _))) ?_
    refine KA.seq ?_
    refine KA.seq ?_
    refine KA.region rfl ?_
    refine KOps.fieldAddr hp1 ?_
    intro p23 hp23
    refine KOps.load hp23 (hS.rd 1 rfl) rfl ?_
    refine KOps.lenF wc_len (Rd.ext hS.keeps hv) ?_
    refine KOps.move ?_
    refine KOps.done ?_
    refine sqQ.normal ?_
    refine KA.sub (Sub.cons (t := 5) Look.eq (Sub.cons (t := 24) Look.eq (Sub.cons (t := 25) Look.eq (Sub.cons (t := 26) Look.eq (Sub.nil _))))) ?_
    refine KA.block ?_
    refine KA.loop (X := Nat × AV) (fun x => [(5, p22), (24, vW), (25, .int .i64 (ws.length : Int)), (26, .int .i64 (x.1 : Int))]) (fun x h' => x.1 ≤ ws.length ∧ St h h' [⟨p22, 0, [.int .i64 (r : Int), vW, x.2], true⟩, ⟨p1, 0, [.int .i64 (r : Int), vW], true⟩, ⟨x.2, 1, ints ((ws.map (·.l)).take x.1), true⟩]) (fun x => ws.length - x.1) (0, .nils) (by repeat (first | exact Sub.nil _ | refine Sub.cons Look.eq ?_ | refine Sub.cons (Eq.trans Look.eq (congrArg (AV.int _) (by first | omega | (dsimp only; omega)))) ?_)) ?_ ?_
    · exact ⟨Nat.zero_le _, St.addNil 1 true hS⟩
    rintro ⟨i, vn⟩ h6 ⟨hi, hS⟩
    dsimp only at hi hS ⊢
    refine KA.seq ?_
    refine KA.region rfl ?_
    refine KOps.lss ?_
    refine KOps.done ?_
    refine sqQ.normal ?_
    refine KA.seq ?_
    refine KA.condD ?_ ?_
    · intro c27
      refine KA.skip ?_
      refine sqQ.normal ?_
      refine KA.sub (Sub.cons (t := 5) Look.eq (Sub.cons (t := 24) Look.eq (Sub.cons (t := 25) Look.eq (Sub.cons (t := 26) Look.eq (Sub.nil _))))) ?_
      refine KA.seq ?_
      refine KA.block ?_
      refine KA.seq ?_
      refine KA.region rfl ?_
      refine KOps.indexF wc_len (Rd.ext hS.keeps hv) (j := i) rfl (by first | omega | (simp; omega)) ?_
      intro p28 hp28
      refine KOps.loadFl wc_len (by decide) hp28 (Rd.ext hS.keeps hv) (by first | omega | (simp; omega)) ?_
      refine KOps.alloc hS ?_
      intro p7 h' hp7 hS
      refine KOps.storeAll hS rfl (i := 0) rfl hp7 (by first | rfl | (simp [AV.one]; done) | (simp [AV.one]; assumption) | (simp [AV.one, *]; done)) (by rfl) (by rfl) (by decide) ?_
      intro h' hS
      simp only [List.set_cons_zero, List.set_cons_succ, Nat.zero_add] at hS
      refine KOps.done ?_
      refine sqQ.normal ?_
      refine KA.sub (Sub.cons (t := 5) Look.eq (Sub.cons (t := 7) Look.eq (Sub.cons (t := 24) Look.eq (Sub.cons (t := 25) Look.eq (Sub.cons (t := 26) Look.eq (Sub.nil _)))))) ?_
      refine KA.draw [8] mixed rfl (by kernel_rfl) ?_
      refine KOps.move ?_
      refine KOps.move ?_
      refine KOps.nilP hp22 ?_
      refine KOps.fieldAddr hp22 ?_
      intro p33 hp33
      refine KOps.load hp33 (hS.rd 1 rfl) rfl ?_
      refine KOps.fieldAddr hp7 ?_
      intro p35 hp35
      refine KOps.load hp35 (hS.rd 0 rfl) rfl ?_
      refine KOps.buildSlice hS rfl (by decide) rfl ?_
      intro v37 h' hS
      refine KOps.appendI hS (fun _ => rfl) (i := 3) rfl (by first | omega | (simp; omega)) ?_
      intro r38 h' hr38 hS
      refine KOps.nilP hp22 ?_
      refine KOps.fieldAddr hp22 ?_
      intro p40 hp40
      refine KOps.store hS rfl (i := 1) rfl hp40 hr38 (by first | decide | simp) ?_
      intro h' hS
      simp only [List.set_cons_zero, List.set_cons_succ, Nat.zero_add] at hS
      refine KOps.done ?_
      refine blQ.normal ?_
      refine sqQ.normal ?_
      refine KA.sub (Sub.cons (t := 5) Look.eq (Sub.cons (t := 24) Look.eq (Sub.cons (t := 25) Look.eq (Sub.cons (t := 26) Look.eq (Sub.nil _))))) ?_
      refine KA.region rfl ?_
      refine KOps.add (by first | omega | (simp; omega)) (by first | omega | (simp; omega)) ?_
      refine KOps.move ?_
      refine KOps.done ?_
      rw [mins_next (by omega)] at hS
      exact lpQ.normal (i + 1, r38) (by repeat (first | exact Sub.nil _ | refine Sub.cons Look.eq ?_ | refine Sub.cons (Eq.trans Look.eq (congrArg (AV.int _) (by first | omega | (dsimp only; omega)))) ?_)) ⟨by dsimp only; omega, St.tail hS⟩ (by dsimp only; omega)
    · intro c27
      refine KA.exit ?_
      refine sqQ.exit ?_
      refine lpQ.exit ?_
      refine blQ.here ?_
      refine sqQ.normal ?_
      refine KA.sub (Sub.cons (t := 5) Look.eq (Sub.nil _)) ?_
      refine KA.seq ?_
      refine KA.region rfl ?_
      refine KOps.assign ?_
      refine KOps.done ?_
      refine sqQ.normal ?_
      refine KA.seq ?_
      refine KA.label ?_
      refine sqQ.normal ?_
      refine KA.block ?_
      refine KA.loop (X := List Int × AV) (fun x => [(5, p22), (8, .fn 77 [])]) (fun x h' => Within ws x.1 ∧ St h h' [⟨p22, 0, [.int .i64 (r : Int), vW, x.2], true⟩, ⟨x.2, 1, ints x.1, true⟩, ⟨p1, 0, [.int .i64 (r : Int), vW], true⟩]) (fun x => devTo ws x.1 r) (ws.map (·.l), vn) (by repeat (first | exact Sub.nil _ | refine Sub.cons Look.eq ?_ | refine Sub.cons (Eq.trans Look.eq (congrArg (AV.int _) (by first | omega | (dsimp only; omega)))) ?_)) ?_ ?_
      · refine ⟨mins_within hB, ?_⟩
        have e : (ws.map (·.l)).take i = ws.map (·.l) := List.take_of_length_le (by simp; omega)
        rw [e] at hS
        exact St.pick [0, 2, 1] (by decide) rfl hS
      rintro ⟨n, vn⟩ h6 ⟨hw, hS⟩
      dsimp only at hw hS ⊢
      refine KA.block ?_
      refine KA.seq ?_
      refine KA.region rfl ?_
      refine KOps.move ?_
      refine KOps.call rfl (kept_c hp22 (hS.rd 0 rfl) (Rd.ext hS.keeps hv) (hS.rd 1 rfl) hB hw.len (within_bound hB hw)) ?_
      rintro vk h6 hK
      have hS0 : St _ _ (_ :: _) := St.trans hS hK
      clear hS
      have hS := hS0
      clear hS0
      refine KOps.assign ?_
      refine KOps.done ?_
      refine sqQ.normal ?_
      refine KA.sub (Sub.cons (t := 5) Look.eq (Sub.cons (t := 8) Look.eq (Sub.cons (t := 9) Look.eq (Sub.nil _)))) ?_
      refine KA.seq ?_
      refine KA.seq ?_
      refine KA.region rfl ?_
      refine KOps.move ?_
      refine KOps.call rfl (anyNz_c (hS.rd 0 rfl) (by rw [keptL_len]; omega) (fun _ _ => nz90_c)) ?_
      rintro _ h7 ⟨rfl, rfl⟩
      refine KOps.not ?_
      refine KOps.done ?_
      refine sqQ.normal ?_
      refine KA.sub (Sub.cons (t := 5) Look.eq (Sub.cons (t := 8) Look.eq (Sub.cons (t := 9) Look.eq (Sub.cons (t := 46) Look.eq (Sub.nil _))))) ?_
      refine KA.condB ?_ ?_
      · intro c46
        refine KA.seq ?_
        refine KA.region rfl ?_
        refine KOps.move ?_
        refine KOps.assign ?_
        refine KOps.assign ?_
        refine KOps.done ?_
        refine sqQ.normal ?_
        refine KA.sub (Sub.cons (t := 2) Look.eq (Sub.cons (t := 3) Look.eq (Sub.nil _))) ?_
        refine KA.ret ?_
        refine sqQ.ret ?_
        refine blQ.ret ?_
        refine lpQ.ret ?_
        refine blQ.ret ?_
        refine fnQ.retN ?_
        have hfl := keptL_flow hB hw (by simpa using c46)
        have e0 := agree_flow c18 hfl
        rw [e0]
        exact ⟨_, rfl, hS.keeps, St.one hS (k := 1) rfl, fun _ => ⟨n, vn, hp22, hfl, St.pick [1, 2] (by decide) rfl hS⟩⟩
      · intro c46
        refine KA.skip ?_
        refine sqQ.normal ?_
        refine KA.sub (Sub.cons (t := 5) Look.eq (Sub.cons (t := 8) Look.eq (Sub.cons (t := 9) Look.eq (Sub.nil _)))) ?_
        refine KA.seq ?_
        refine KA.seq ?_
        refine KA.region rfl ?_
        refine KOps.move ?_
        refine KOps.lenI (hS.rd 0 rfl) ?_
        refine KOps.move ?_
        refine KOps.done ?_
        refine sqQ.normal ?_
        refine KA.block ?_
        refine KA.loop (X := Nat) (fun i => [(5, p22), (8, .fn 77 []), (9, vk), (48, vk), (49, .int .i64 ((keptL r ws n ws.length).length : Int)), (50, .int .i64 (i : Int))]) (fun i h' => i ≤ r ∧ NoTo ws n r i 0 ∧ St h h' [⟨vk, 1, ints (keptL r ws n ws.length), true⟩, ⟨p22, 0, [.int .i64 (r : Int), vW, vn], true⟩, ⟨vn, 1, ints n, true⟩, ⟨p1, 0, [.int .i64 (r : Int), vW], true⟩]) (fun i => r - i) 0 (by repeat (first | exact Sub.nil _ | refine Sub.cons Look.eq ?_ | refine Sub.cons (Eq.trans Look.eq (congrArg (AV.int _) (by first | omega | (dsimp only; omega)))) ?_)) ?_ ?_
        · exact ⟨Nat.zero_le _, NoTo.zero _ _ _, hS⟩
        rintro i h8 ⟨hi, hno0, hS⟩
        have hkl := keptL_len r ws n ws.length
        refine KA.seq ?_
        refine KA.region rfl ?_
        refine KOps.lss ?_
        refine KOps.done ?_
        refine sqQ.normal ?_
        refine KA.seq ?_
        refine KA.condD ?_ ?_
        · intro c51
          refine KA.skip ?_
          refine sqQ.normal ?_
          refine KA.sub (Sub.cons (t := 5) Look.eq (Sub.cons (t := 8) Look.eq (Sub.cons (t := 9) Look.eq (Sub.cons (t := 48) Look.eq (Sub.cons (t := 49) Look.eq (Sub.cons (t := 50) Look.eq (Sub.nil _))))))) ?_
          refine KA.seq ?_
          refine KA.block ?_
          refine KA.seq ?_
          refine KA.region rfl ?_
          refine KOps.move ?_
          refine KOps.indexIJ (hS.rd 0 rfl) (j := i) rfl (by first | omega | (simp; omega)) ?_
          intro p53 hp53
          refine KOps.loadI hp53 (hS.rd 0 rfl) (by first | omega | (simp; omega)) ?_
          refine KOps.assign ?_
          refine KOps.assign ?_
          refine KOps.done ?_
          refine sqQ.normal ?_
          refine KA.sub (Sub.cons (t := 5) Look.eq (Sub.cons (t := 8) Look.eq (Sub.cons (t := 9) Look.eq (Sub.cons (t := 10) Look.eq (Sub.cons (t := 11) Look.eq (Sub.cons (t := 48) Look.eq (Sub.cons (t := 49) Look.eq (Sub.cons (t := 50) Look.eq (Sub.nil _))))))))) ?_
          refine KA.seq ?_
          refine KA.region rfl ?_
          refine KOps.move ?_
          refine KOps.lenI (hS.rd 0 rfl) ?_
          refine KOps.move ?_
          refine KOps.done ?_
          refine sqQ.normal ?_
          refine KA.block ?_
          refine KA.loop (X := Nat) (fun j => [(5, p22), (8, .fn 77 []), (9, vk), (48, vk), (49, .int .i64 ((keptL r ws n ws.length).length : Int)), (50, .int .i64 (i : Int)), (10, .int .i64 (i : Int)), (11, .int .i64 ((keptL r ws n ws.length).getD i 0)), (55, vk), (56, .int .i64 ((keptL r ws n ws.length).length : Int)), (57, .int .i64 (j : Int))]) (fun j h' => j ≤ r ∧ NoTo ws n r i j ∧ St h h' [⟨vk, 1, ints (keptL r ws n ws.length), true⟩, ⟨p22, 0, [.int .i64 (r : Int), vW, vn], true⟩, ⟨vn, 1, ints n, true⟩, ⟨p1, 0, [.int .i64 (r : Int), vW], true⟩]) (fun j => r - j) 0 (by repeat (first | exact Sub.nil _ | refine Sub.cons Look.eq ?_ | refine Sub.cons (Eq.trans Look.eq (congrArg (AV.int _) (by first | omega | (dsimp only; omega)))) ?_)) ?_ ?_
          · exact ⟨Nat.zero_le _, hno0, hS⟩
          rintro j h9 ⟨hj, hnoj, hS⟩
          have hkl := keptL_len r ws n ws.length
          refine KA.seq ?_
          refine KA.region rfl ?_
          refine KOps.lss ?_
          refine KOps.done ?_
          refine sqQ.normal ?_
          refine KA.seq ?_
          refine KA.condD ?_ ?_
          · intro c58
            refine KA.skip ?_
            refine sqQ.normal ?_
            refine KA.sub (Sub.cons (t := 5) Look.eq (Sub.cons (t := 8) Look.eq (Sub.cons (t := 9) Look.eq (Sub.cons (t := 10) Look.eq (Sub.cons (t := 11) Look.eq (Sub.cons (t := 48) Look.eq (Sub.cons (t := 49) Look.eq (Sub.cons (t := 50) Look.eq (Sub.cons (t := 55) Look.eq (Sub.cons (t := 56) Look.eq (Sub.cons (t := 57) Look.eq (Sub.nil _)))))))))))) ?_
            refine KA.seq ?_
            refine KA.block ?_
            refine KA.seq ?_
            refine KA.region rfl ?_
            refine KOps.move ?_
            refine KOps.indexIJ (hS.rd 0 rfl) (j := j) rfl (by first | omega | (simp; omega)) ?_
            intro p60 hp60
            refine KOps.loadI hp60 (hS.rd 0 rfl) (by first | omega | (simp; omega)) ?_
            refine KOps.assign ?_
            refine KOps.assign ?_
            refine KOps.done ?_
            refine sqQ.normal ?_
            refine KA.sub (Sub.cons (t := 5) Look.eq (Sub.cons (t := 8) Look.eq (Sub.cons (t := 9) Look.eq (Sub.cons (t := 10) Look.eq (Sub.cons (t := 11) Look.eq (Sub.cons (t := 12) Look.eq (Sub.cons (t := 13) Look.eq (Sub.cons (t := 48) Look.eq (Sub.cons (t := 49) Look.eq (Sub.cons (t := 50) Look.eq (Sub.cons (t := 55) Look.eq (Sub.cons (t := 56) Look.eq (Sub.cons (t := 57) Look.eq (Sub.nil _)))))))))))))) ?_
            refine KA.seq ?_
            refine KA.seq ?_
            refine KA.region rfl ?_
            have hgi : (keptL r ws n ws.length).getD i 0 = kept ws n (i : Int) := keptL_get (show i < r by omega)
            have hgj : (keptL r ws n ws.length).getD j 0 = kept ws n (j : Int) := keptL_get (show j < r by omega)
            refine KOps.move ?_
            refine KOps.leq ?_
            refine KOps.move ?_
            refine KOps.guardB (dj := 64) rfl rfl false true rfl ?_ ?_
            · intro g64
              have g64 := of_decide_eq_false g64
              refine KOps.move ?_
              refine KOps.guardYes (dj := 64) rfl rfl ?_
              refine KOps.geq ?_
              refine KOps.pickF ?_
              refine KOps.done ?_
              refine sqQ.normal ?_
              refine KA.sub (Sub.cons (t := 5) Look.eq (Sub.cons (t := 8) Look.eq (Sub.cons (t := 9) Look.eq (Sub.cons (t := 10) Look.eq (Sub.cons (t := 11) Look.eq (Sub.cons (t := 12) Look.eq (Sub.cons (t := 48) Look.eq (Sub.cons (t := 49) Look.eq (Sub.cons (t := 50) Look.eq (Sub.cons (t := 55) Look.eq (Sub.cons (t := 56) Look.eq (Sub.cons (t := 57) Look.eq (Sub.cons (t := 65) Look.eq (Sub.cons (t := 66) Look.eq (Sub.cons (t := 67) Look.eq (Sub.nil _)))))))))))))))) ?_
              refine KA.condD ?_ ?_
              · intro c67
                refine KA.exit ?_
                refine sqQ.exit ?_
                refine blQ.here ?_
                refine sqQ.normal ?_
                refine KA.sub (Sub.cons (t := 5) Look.eq (Sub.cons (t := 8) Look.eq (Sub.cons (t := 9) Look.eq (Sub.cons (t := 10) Look.eq (Sub.cons (t := 11) Look.eq (Sub.cons (t := 48) Look.eq (Sub.cons (t := 49) Look.eq (Sub.cons (t := 50) Look.eq (Sub.cons (t := 55) Look.eq (Sub.cons (t := 56) Look.eq (Sub.cons (t := 57) Look.eq (Sub.cons (t := 65) Look.eq (Sub.cons (t := 66) Look.eq (Sub.nil _)))))))))))))) ?_
                refine KA.region rfl ?_
                refine KOps.add (by first | omega | (simp; omega)) (by first | omega | (simp; omega)) ?_
                refine KOps.move ?_
                refine KOps.done ?_
                exact lpQ.normal (j + 1) (by repeat (first | exact Sub.nil _ | refine Sub.cons Look.eq ?_ | refine Sub.cons (Eq.trans Look.eq (congrArg (AV.int _) (by first | omega | (dsimp only; omega)))) ?_)) ⟨by omega, hnoj.more (fun h0 => by have := h0.2.1; omega), hS⟩ (by omega)
              · intro c67
                refine KA.skip ?_
                refine sqQ.normal ?_
                refine KA.sub (Sub.cons (t := 5) Look.eq (Sub.cons (t := 8) Look.eq (Sub.cons (t := 9) Look.eq (Sub.cons (t := 10) Look.eq (Sub.cons (t := 11) Look.eq (Sub.cons (t := 12) Look.eq (Sub.cons (t := 48) Look.eq (Sub.cons (t := 49) Look.eq (Sub.cons (t := 50) Look.eq (Sub.cons (t := 55) Look.eq (Sub.cons (t := 56) Look.eq (Sub.cons (t := 57) Look.eq (Sub.cons (t := 65) Look.eq (Sub.cons (t := 66) Look.eq (Sub.nil _))))))))))))))) ?_
                refine KA.seq ?_
                refine KA.region rfl ?_
                refine KOps.move ?_
                refine KOps.move ?_
                refine KOps.move ?_
                refine KOps.move ?_
                refine KOps.call rfl (path_c hp22 (hS.rd 1 rfl) (Rd.ext hS.keeps hv) (hS.rd 2 rfl) hB hw.len (by omega) (by omega) (A := fun _ => true) (fun _ _ _ _ => found1_c)) ?_
                rintro q h8 ⟨b, G9, hq, hG, hno, hyes⟩
                have hS9 := St.trans hS hG
                clear hS
                refine KOps.assign ?_
                refine KOps.done ?_
                refine sqQ.normal ?_
                refine KA.sub (Sub.cons (t := 5) Look.eq (Sub.cons (t := 8) Look.eq (Sub.cons (t := 9) Look.eq (Sub.cons (t := 10) Look.eq (Sub.cons (t := 11) Look.eq (Sub.cons (t := 14) Look.eq (Sub.cons (t := 48) Look.eq (Sub.cons (t := 49) Look.eq (Sub.cons (t := 50) Look.eq (Sub.cons (t := 55) Look.eq (Sub.cons (t := 56) Look.eq (Sub.cons (t := 57) Look.eq (Sub.cons (t := 65) Look.eq (Sub.cons (t := 66) Look.eq (Sub.nil _))))))))))))))) ?_
                refine KA.seq ?_
                refine KA.region rfl ?_
                refine KOps.move ?_
                refine KOps.neqNilm (p := (3, 4)) (by kernel_rfl) hq ?_
                refine KOps.done ?_
                refine sqQ.normal ?_
                refine KA.sub (Sub.cons (t := 5) Look.eq (Sub.cons (t := 8) Look.eq (Sub.cons (t := 9) Look.eq (Sub.cons (t := 10) Look.eq (Sub.cons (t := 11) Look.eq (Sub.cons (t := 14) Look.eq (Sub.cons (t := 48) Look.eq (Sub.cons (t := 49) Look.eq (Sub.cons (t := 50) Look.eq (Sub.cons (t := 55) Look.eq (Sub.cons (t := 56) Look.eq (Sub.cons (t := 57) Look.eq (Sub.cons (t := 65) Look.eq (Sub.cons (t := 66) Look.eq (Sub.cons (t := 74) Look.eq (Sub.nil _)))))))))))))))) ?_
                refine KA.condB ?_ ?_
                · intro c74
                  have hb : b = false := by simpa using c74
                  subst hb
                  obtain ⟨vs, E, p, rfl⟩ := hyes rfl
                  have hwp : 0 < ws.length := by
                    rcases Nat.eq_zero_or_pos ws.length with h0 | h0
                    · have h1 : kept ws n (i : Int) = 0 := by
                        show keptTo ws n (i : Int) ws.length = 0
                        rw [h0]; rfl
                      omega
                    · exact h0
                  refine KA.seq ?_
                  refine KA.region rfl ?_
                  refine KOps.move ?_
                  refine KOps.move ?_
                  refine KOps.call rfl (pushP_c hp22 (AV.mapNil_mp hq) hB hw hwp p (St.swap (A := [_, _]) (B := [_, _]) hS9)) ?_
                  rintro _ h10 hS
                  refine KOps.done ?_
                  refine sqQ.normal ?_
                  refine KA.sub (Sub.cons (t := 5) Look.eq (Sub.cons (t := 8) Look.eq (Sub.cons (t := 65) Look.eq (Sub.cons (t := 66) Look.eq (Sub.nil _))))) ?_
                  refine KA.exit ?_
                  refine blQ.exit rfl ?_
                  refine sqQ.exit ?_
                  refine lpQ.exit ?_
                  refine blQ.exit rfl ?_
                  refine blQ.exit rfl ?_
                  refine sqQ.exit ?_
                  refine lpQ.exit ?_
                  refine blQ.exit rfl ?_
                  refine sqQ.exit ?_
                  refine blQ.here ?_
                  have hd := dev_push (p.kept hw.len) (by omega) (by omega) (by omega) (by omega) r
                  rw [if_pos (by omega), if_pos (by omega)] at hd
                  exact lpQ.normal (pushE E n, vn) (by repeat (first | exact Sub.nil _ | refine Sub.cons Look.eq ?_ | refine Sub.cons (Eq.trans Look.eq (congrArg (AV.int _) (by first | omega | (dsimp only; omega)))) ?_)) ⟨p.within hw, St.mid (A := [_, _]) (B := [_]) hS⟩ (by dsimp only; omega)
                · intro c74
                  refine KA.skip ?_
                  refine blQ.normal ?_
                  refine sqQ.normal ?_
                  refine KA.sub (Sub.cons (t := 5) Look.eq (Sub.cons (t := 8) Look.eq (Sub.cons (t := 9) Look.eq (Sub.cons (t := 10) Look.eq (Sub.cons (t := 11) Look.eq (Sub.cons (t := 48) Look.eq (Sub.cons (t := 49) Look.eq (Sub.cons (t := 50) Look.eq (Sub.cons (t := 55) Look.eq (Sub.cons (t := 56) Look.eq (Sub.cons (t := 57) Look.eq (Sub.cons (t := 65) Look.eq (Sub.cons (t := 66) Look.eq (Sub.nil _)))))))))))))) ?_
                  refine KA.region rfl ?_
                  refine KOps.add (by first | omega | (simp; omega)) (by first | omega | (simp; omega)) ?_
                  refine KOps.move ?_
                  refine KOps.done ?_
                  exact lpQ.normal (j + 1) (by repeat (first | exact Sub.nil _ | refine Sub.cons Look.eq ?_ | refine Sub.cons (Eq.trans Look.eq (congrArg (AV.int _) (by first | omega | (dsimp only; omega)))) ?_)) ⟨by omega, hnoj.more (fun h0 => hno (by simpa using c74) h0.2.2), St.drop hS9⟩ (by omega)
            · intro g64
              have g64 := of_decide_eq_true g64
              refine KOps.guardNo (dj := 64) rfl rfl rfl ?_
              refine KOps.pickT ?_
              refine KOps.done ?_
              refine sqQ.normal ?_
              refine KA.sub (Sub.cons (t := 5) Look.eq (Sub.cons (t := 8) Look.eq (Sub.cons (t := 9) Look.eq (Sub.cons (t := 10) Look.eq (Sub.cons (t := 11) Look.eq (Sub.cons (t := 12) Look.eq (Sub.cons (t := 48) Look.eq (Sub.cons (t := 49) Look.eq (Sub.cons (t := 50) Look.eq (Sub.cons (t := 55) Look.eq (Sub.cons (t := 56) Look.eq (Sub.cons (t := 57) Look.eq (Sub.cons (t := 65) Look.eq (Sub.cons (t := 66) Look.eq (Sub.cons (t := 67) Look.eq (Sub.nil _)))))))))))))))) ?_
              refine KA.condT ?_
              refine KA.exit ?_
              refine sqQ.exit ?_
              refine blQ.here ?_
              refine sqQ.normal ?_
              refine KA.sub (Sub.cons (t := 5) Look.eq (Sub.cons (t := 8) Look.eq (Sub.cons (t := 9) Look.eq (Sub.cons (t := 10) Look.eq (Sub.cons (t := 11) Look.eq (Sub.cons (t := 48) Look.eq (Sub.cons (t := 49) Look.eq (Sub.cons (t := 50) Look.eq (Sub.cons (t := 55) Look.eq (Sub.cons (t := 56) Look.eq (Sub.cons (t := 57) Look.eq (Sub.cons (t := 65) Look.eq (Sub.cons (t := 66) Look.eq (Sub.nil _)))))))))))))) ?_
              refine KA.region rfl ?_
              refine KOps.add (by first | omega | (simp; omega)) (by first | omega | (simp; omega)) ?_
              refine KOps.move ?_
              refine KOps.done ?_
              exact lpQ.normal (j + 1) (by repeat (first | exact Sub.nil _ | refine Sub.cons Look.eq ?_ | refine Sub.cons (Eq.trans Look.eq (congrArg (AV.int _) (by first | omega | (dsimp only; omega)))) ?_)) ⟨by omega, hnoj.more (fun h0 => by have := h0.1; omega), hS⟩ (by omega)
          · intro c58
            refine KA.exit ?_
            refine sqQ.exit ?_
            refine lpQ.exit ?_
            refine blQ.here ?_
            refine blQ.normal ?_
            refine sqQ.normal ?_
            refine KA.sub (Sub.cons (t := 5) Look.eq (Sub.cons (t := 8) Look.eq (Sub.cons (t := 9) Look.eq (Sub.cons (t := 48) Look.eq (Sub.cons (t := 49) Look.eq (Sub.cons (t := 50) Look.eq (Sub.nil _))))))) ?_
            refine KA.region rfl ?_
            refine KOps.add (by first | omega | (simp; omega)) (by first | omega | (simp; omega)) ?_
            refine KOps.move ?_
            refine KOps.done ?_
            rw [show j = r by omega] at hnoj
            exact lpQ.normal (i + 1) (by repeat (first | exact Sub.nil _ | refine Sub.cons Look.eq ?_ | refine Sub.cons (Eq.trans Look.eq (congrArg (AV.int _) (by first | omega | (dsimp only; omega)))) ?_)) ⟨by omega, hnoj.row, hS⟩ (by omega)
        · intro c51
          refine KA.exit ?_
          refine sqQ.exit ?_
          refine lpQ.exit ?_
          refine blQ.here ?_
          refine sqQ.normal ?_
          refine KA.sub (Sub.nil _) ?_
          refine KA.seq ?_
          refine KA.region rfl ?_
          refine KOps.assign ?_
          refine KOps.assign ?_
          refine KOps.done ?_
          refine sqQ.normal ?_
          refine KA.ret ?_
          refine blQ.ret ?_
          refine lpQ.ret ?_
          refine blQ.ret ?_
          refine fnQ.retN ?_
          have hir : i = r := by omega
          subst hir
          have e0 := NoTo.lost c18 hw (keptL_dev (by simpa using c46)) hno0
          rw [e0]
          exact ⟨.nilp, rfl, hS.keeps, rfl, fun h0 => absurd h0 (by decide)⟩

end Go.Am


namespace Go.Am
theorem lo_exists {ws : List W} {i : Nat} (h : ∃ n, Flow ws n) (hi : i < ws.length) : ∃ v, IsLo ws i v := by
  obtain ⟨m, hm, hle⟩ := exists_min (P := fun n => Flow ws n) (fun n => (n.getD i 0 - (ws.getD i default).l).toNat) h
  refine ⟨m.getD i 0, ⟨m, hm, rfl⟩, fun n hn => ?_⟩
  have h1 := hle n hn
  have h2 := hm.lo i hi
  have h3 := hn.lo i hi
  omega
theorem hi_exists {ws : List W} {i : Nat} (h : ∃ n, Flow ws n) (hi : i < ws.length) : ∃ v, IsHi ws i v := by
  obtain ⟨m, hm, hle⟩ := exists_min (P := fun n => Flow ws n) (fun n => ((ws.getD i default).m - n.getD i 0).toNat) h
  refine ⟨m.getD i 0, ⟨m, hm, rfl⟩, fun n hn => ?_⟩
  have h1 := hle n hn
  have h2 := hm.hi i hi
  have h3 := hn.hi i hi
  omega
open Classical in
noncomputable def loOf (ws : List W) (i : Nat) : Int := if h : ∃ v, IsLo ws i v then Classical.choose h else 0
open Classical in
noncomputable def hiOf (ws : List W) (i : Nat) : Int := if h : ∃ v, IsHi ws i v then Classical.choose h else 0
theorem loOf_is {ws : List W} {i : Nat} (h : ∃ n, Flow ws n) (hi : i < ws.length) : IsLo ws i (loOf ws i) := by
  have h2 := lo_exists h hi
  unfold loOf
  rw [dif_pos h2]
  exact Classical.choose_spec h2
theorem hiOf_is {ws : List W} {i : Nat} (h : ∃ n, Flow ws n) (hi : i < ws.length) : IsHi ws i (hiOf ws i) := by
  have h2 := hi_exists h hi
  unfold hiOf
  rw [dif_pos h2]
  exact Classical.choose_spec h2
theorem Low.isLo {ws : List W} {i : Nat} {n : List Int} (hf : Flow ws n) (h : Low ws i (fun _ => true) n) : IsLo ws i (n.getD i 0) := ⟨⟨n, hf, rfl⟩, fun m hm => h m hm (fun _ _ hk => by cases hk)⟩
theorem High.isHi {ws : List W} {i : Nat} {n : List Int} (hf : Flow ws n) (h : High ws i (fun _ => true) n) : IsHi ws i (n.getD i 0) := ⟨⟨n, hf, rfl⟩, fun m hm => h m hm (fun _ _ hk => by cases hk)⟩
/-- The error of books and a way. -/
def askE (rm : Int) (ws : List W) (i : Int) : Int := if chkB rm ws = 0 then (if 0 ≤ i ∧ i ≤ (ws.length : Int) - 1 then agreeE rm ws else 2) else chkB rm ws
theorem ask_ok {rm : Int} {ws : List W} {i : Int} (h : askE rm ws i = 0) : agreeE rm ws = 0 ∧ 0 ≤ i ∧ i < ws.length := by
  unfold askE at h
  by_cases h1 : chkB rm ws = 0
  · rw [if_pos h1] at h
    by_cases h2 : 0 ≤ i ∧ i ≤ (ws.length : Int) - 1
    · rw [if_pos h2] at h; exact ⟨h, by omega, by omega⟩
    · rw [if_neg h2] at h; cases h
  · rw [if_neg h1] at h; exact absurd h h1

theorem span_c {h0 h : AHeap} {r : Nat} {i : Nat} {pf vW vn : AV} {ws : List W} {n : List Int} {tn : Bool} {G : List Obj} (hpf : AddrOf pf pf 0 0) (hv : Rd h0 vW 4 (flr wc ws)) (hB : BOk (r : Int) ws) (hfl : Flow ws n) (hi : i < ws.length) (hS : St h0 h (⟨pf, 0, [.int .i64 (r : Int), vW, vn], true⟩ :: ⟨vn, 1, ints n, tn⟩ :: G)) : ACalls Go.Proofs.Tryz.prog 60 [pf, .int .i64 (i : Int)] h (fun q h' => q = .tup [.int .i64 (loOf ws i), .int .i64 (hiOf ws i)] ∧ ∃ n', St h0 h' (⟨pf, 0, [.int .i64 (r : Int), vW, vn], true⟩ :: ⟨vn, 1, ints n', tn⟩ :: G) ∧ Flow ws n') := by
  refine KA.fn 27 [.tmp 4, .tmp 5] Go.Proofs.Tryz.func60 rfl (by decide) rfl rfl (Nat.le_of_ble_eq_true rfl) ?_
  show KA _ 27 _ _ [(0, pf), (1, .int .i64 (i : Int))] _
  refine KA.seq ?_
  refine KA.region rfl ?_
  refine KOps.assign ?_
  refine KOps.assign ?_
  refine KOps.done ?_
  refine sqQ.normal ?_
  refine KA.sub (Sub.cons (t := 0) Look.eq (Sub.cons (t := 1) Look.eq (Sub.nil _))) ?_
  refine KA.seq ?_
  refine KA.region rfl ?_
  refine KOps.move ?_
  refine KOps.move ?_
  refine KOps.call rfl (lower_c (i := i) (A := fun _ => true) hpf hv hB hfl hi (fun _ _ _ _ _ => span1_c) hS) ?_
  rintro _ h4 ⟨c2, hS4, hf2, hn2, hl2⟩
  clear hS
  have hS := hS4
  clear hS4
  have hcl := hf2.len
  have e1 := (hl2.isLo hf2).uniq (loOf_is ⟨_, hf2⟩ hi)
  refine KOps.done ?_
  refine sqQ.normal ?_
  refine KA.sub (Sub.cons (t := 0) Look.eq (Sub.cons (t := 1) Look.eq (Sub.nil _))) ?_
  refine KA.seq ?_
  refine KA.region rfl ?_
  refine KOps.move ?_
  refine KOps.nilP hpf ?_
  refine KOps.fieldAddr hpf ?_
  intro p11 hp11
  refine KOps.load hp11 (hS.rd 0 rfl) rfl ?_
  refine KOps.move ?_
  refine KOps.indexIJ (hS.rd 1 rfl) (j := i) (by first | omega | (simp; omega)) (by first | omega | (simp; omega)) ?_
  intro p14 hp14
  refine KOps.loadI hp14 (hS.rd 1 rfl) (by first | omega | (simp; omega)) ?_
  refine KOps.assign ?_
  refine KOps.done ?_
  refine sqQ.normal ?_
  refine KA.sub (Sub.cons (t := 0) Look.eq (Sub.cons (t := 1) Look.eq (Sub.cons (t := 4) Look.eq (Sub.nil _)))) ?_
  refine KA.seq ?_
  refine KA.region rfl ?_
  refine KOps.move ?_
  refine KOps.move ?_
  refine KOps.call rfl (raise_c (i := i) hpf hv hB hf2 hi hS) ?_
  rintro _ h5 ⟨c3, hS5, hf3, hn3, hl3⟩
  clear hS
  have hS := hS5
  clear hS5
  have hcl3 := hf3.len
  have e2 := (hl3.isHi hf3).uniq (hiOf_is ⟨_, hf3⟩ hi)
  refine KOps.done ?_
  refine sqQ.normal ?_
  refine KA.sub (Sub.cons (t := 0) Look.eq (Sub.cons (t := 1) Look.eq (Sub.cons (t := 4) Look.eq (Sub.nil _)))) ?_
  refine KA.seq ?_
  refine KA.draw [] mixed rfl (by kernel_rfl) ?_
  refine KOps.move ?_
  refine KOps.move ?_
  refine KOps.nilP hpf ?_
  refine KOps.fieldAddr hpf ?_
  intro p22 hp22
  refine KOps.load hp22 (hS.rd 0 rfl) rfl ?_
  refine KOps.move ?_
  refine KOps.indexIJ (hS.rd 1 rfl) (j := i) (by first | omega | (simp; omega)) (by first | omega | (simp; omega)) ?_
  intro p25 hp25
  refine KOps.loadI hp25 (hS.rd 1 rfl) (by first | omega | (simp; omega)) ?_
  refine KOps.assign ?_
  refine KOps.assign ?_
  refine KOps.done ?_
  refine sqQ.normal ?_
  refine KA.sub (Sub.cons (t := 4) Look.eq (Sub.cons (t := 5) Look.eq (Sub.nil _))) ?_
  refine KA.ret ?_
  refine fnQ.retN ?_
  exact ⟨by rw [← e1, ← e2], c3, hS, hf3⟩

end Go.Am


namespace Go.Am
theorem asked_c {h : AHeap} {rm i : Int} {vW : AV} {ws : List W} (hv : Rd h vW 4 (flr wc ws)) : ACalls Go.Proofs.Tryz.prog 96 [.agg [.int .i64 rm, vW], .int .i64 i] h (fun q h' => ∃ qp, q = .tup [qp, .int .i64 (askE rm ws i)] ∧ Keeps h h' ∧ qp.one = true ∧ (askE rm ws i = 0 → ∃ n vn, AddrOf qp qp 0 0 ∧ Flow ws n ∧ St h h' [⟨qp, 0, [.int .i64 rm, vW, vn], true⟩, ⟨vn, 1, ints n, true⟩])) := by
  refine KA.fn 24 [.tmp 4, .tmp 5] Go.Proofs.Tryz.func96 rfl (by decide) rfl rfl (Nat.le_of_ble_eq_true rfl) ?_
  have hS := St.refl h
  have hvo : vW.one = true := hv.one
  show KA _ 24 _ _ [(0, .agg [.int .i64 rm, vW]), (1, .int .i64 i)] _
  refine KA.seq ?_
  refine KA.region rfl ?_
  refine KOps.boxAll hS (by first | rfl | (simp [AV.one]; done) | (simp [AV.one]; assumption) | (simp [AV.one, *]; done)) ?_
  intro p2 h' hp2 hS
  refine KOps.assign ?_
  refine KOps.assign ?_
  refine KOps.done ?_
  refine sqQ.normal ?_
  refine KA.sub (Sub.cons (t := 1) Look.eq (Sub.cons (t := 2) Look.eq (Sub.nil _))) ?_
  refine KA.seq ?_
  refine KA.seq ?_
  refine KA.region rfl ?_
  refine KOps.loadAll hS (i := 0) rfl hp2 (by rfl) (by decide) ?_
  refine KOps.call rfl (check_c (Rd.ext hS.keeps hv)) ?_
  rintro _ h5 ⟨rfl, hK⟩
  have hS0 : St _ _ (_ :: _) := St.trans hS (St.ofK hK)
  clear hS
  have hS := hS0
  clear hS0
  refine KOps.assign ?_
  refine KOps.done ?_
  refine sqQ.normal ?_
  refine KA.sub (Sub.cons (t := 1) Look.eq (Sub.cons (t := 2) Look.eq (Sub.cons (t := 6) Look.eq (Sub.nil _)))) ?_
  refine KA.seq ?_
  refine KA.region rfl ?_
  refine KOps.move ?_
  refine KOps.eql ?_
  refine KOps.move ?_
  refine KOps.guardB (dj := 11) rfl rfl true false rfl ?_ ?_
  · intro g11
    have g11 := of_decide_eq_true g11
    have hwl := (BOk.of g11).len
    refine KOps.move ?_
    refine KOps.guardYes (dj := 11) rfl rfl ?_
    refine KOps.fieldAddr hp2 ?_
    intro p13 hp13
    refine KOps.guardYes (dj := 11) rfl rfl ?_
    refine KOps.load hp13 (hS.rd 0 rfl) rfl ?_
    refine KOps.guardYes (dj := 11) rfl rfl ?_
    refine KOps.lenF wc_len (Rd.ext hS.keeps hv) ?_
    refine KOps.guardYes (dj := 11) rfl rfl ?_
    refine KOps.sub (by first | omega | (simp; omega)) (by first | omega | (simp; omega)) ?_
    refine KOps.guardYes (dj := 11) rfl rfl ?_
    refine KOps.call rfl (between_c) ?_
    rintro _ _ ⟨rfl, rfl⟩
    refine KOps.guardYes (dj := 11) rfl rfl ?_
    refine KOps.not ?_
    refine KOps.pickT ?_
    refine KOps.done ?_
    refine sqQ.normal ?_
    refine KA.sub (Sub.cons (t := 2) Look.eq (Sub.cons (t := 19) Look.eq (Sub.nil _))) ?_
    refine KA.condN ?_ ?_
    · intro c19
      refine KA.seq ?_
      refine KA.region rfl ?_
      refine KOps.assign ?_
      refine KOps.assign ?_
      refine KOps.done ?_
      refine sqQ.normal ?_
      refine KA.sub (Sub.cons (t := 4) Look.eq (Sub.cons (t := 5) Look.eq (Sub.nil _))) ?_
      refine KA.ret ?_
      refine sqQ.ret ?_
      refine fnQ.retN ?_
      have e0 : askE rm ws i = 2 := by rw [askE, if_pos g11, if_neg (by omega)]
      rw [e0]
      exact ⟨_, rfl, hS.keeps, rfl, fun h0 => absurd h0 (by decide)⟩
    · intro c19
      refine KA.skip ?_
      refine sqQ.normal ?_
      refine KA.sub (Sub.cons (t := 2) Look.eq (Sub.nil _)) ?_
      refine KA.seq ?_
      refine KA.region rfl ?_
      refine KOps.loadAll hS (i := 0) rfl hp2 (by rfl) (by decide) ?_
      refine KOps.call rfl (found_c (Rd.ext hS.keeps hv)) ?_
      rintro _ h6 ⟨qp, rfl, hK2, hqp, hyes⟩
      refine KOps.extract ?_
      refine KOps.extract ?_
      refine KOps.assign ?_
      refine KOps.assign ?_
      refine KOps.done ?_
      refine sqQ.normal ?_
      refine KA.sub (Sub.cons (t := 4) Look.eq (Sub.cons (t := 5) Look.eq (Sub.nil _))) ?_
      refine KA.ret ?_
      refine fnQ.retN ?_
      have e0 : askE rm ws i = agreeE rm ws := by rw [askE, if_pos g11, if_pos (by omega)]
      rw [e0]
      refine ⟨_, rfl, hS.keeps.trans hK2, hqp, fun h0 => ?_⟩
      obtain ⟨n, vn, hpf, hf, hSF⟩ := hyes h0
      exact ⟨n, vn, hpf, hf, St.pick [0, 1] (by decide) rfl (St.trans hS hSF : St _ _ (_ :: _ :: _))⟩
  · intro g11
    have g11 := of_decide_eq_false g11
    refine KOps.guardNo (dj := 11) rfl rfl rfl ?_
    refine KOps.guardNo (dj := 11) rfl rfl rfl ?_
    refine KOps.guardNo (dj := 11) rfl rfl rfl ?_
    refine KOps.guardNo (dj := 11) rfl rfl rfl ?_
    refine KOps.guardNo (dj := 11) rfl rfl rfl ?_
    refine KOps.guardNo (dj := 11) rfl rfl rfl ?_
    refine KOps.pickF ?_
    refine KOps.done ?_
    refine sqQ.normal ?_
    refine KA.sub (Sub.cons (t := 2) Look.eq (Sub.cons (t := 19) Look.eq (Sub.nil _))) ?_
    refine KA.condF ?_
    refine KA.skip ?_
    refine sqQ.normal ?_
    refine KA.sub (Sub.cons (t := 2) Look.eq (Sub.nil _)) ?_
    refine KA.seq ?_
    refine KA.region rfl ?_
    refine KOps.loadAll hS (i := 0) rfl hp2 (by rfl) (by decide) ?_
    refine KOps.call rfl (found_c (Rd.ext hS.keeps hv)) ?_
    rintro _ h6 ⟨qp, rfl, hK2, hqp, hyes⟩
    refine KOps.extract ?_
    refine KOps.extract ?_
    refine KOps.assign ?_
    refine KOps.assign ?_
    refine KOps.done ?_
    refine sqQ.normal ?_
    refine KA.sub (Sub.cons (t := 4) Look.eq (Sub.cons (t := 5) Look.eq (Sub.nil _))) ?_
    refine KA.ret ?_
    refine fnQ.retN ?_
    have e0 : askE rm ws i = agreeE rm ws := by rw [askE, if_neg g11, agreeE, if_neg g11]
    rw [e0]
    refine ⟨_, rfl, hS.keeps.trans hK2, hqp, fun h0 => ?_⟩
    obtain ⟨n, vn, hpf, hf, hSF⟩ := hyes h0
    exact ⟨n, vn, hpf, hf, St.pick [0, 1] (by decide) rfl (St.trans hS hSF : St _ _ (_ :: _ :: _))⟩

theorem stSpan_c {h : AHeap} {rm i : Int} {vW : AV} {ws : List W} (hv : Rd h vW 4 (flr wc ws)) : ACalls Go.Proofs.Tryz.prog 61 [.agg [.int .i64 rm, vW], .int .i64 i] h (fun q h' => q = .tup [.int .i64 (if askE rm ws i = 0 then loOf ws i.toNat else 0), .int .i64 (if askE rm ws i = 0 then hiOf ws i.toNat else 0), .int .i64 (askE rm ws i)] ∧ Keeps h h') := by
  refine KA.fn 25 [.tmp 4, .tmp 5, .tmp 6] Go.Proofs.Tryz.func61 rfl (by decide) rfl rfl (Nat.le_of_ble_eq_true rfl) ?_
  have hS := St.refl h
  have hvo : vW.one = true := hv.one
  show KA _ 25 _ _ [(0, .agg [.int .i64 rm, vW]), (1, .int .i64 i)] _
  refine KA.seq ?_
  refine KA.region rfl ?_
  refine KOps.boxAll hS (by first | rfl | (simp [AV.one]; done) | (simp [AV.one]; assumption) | (simp [AV.one, *]; done)) ?_
  intro p2 h' hp2 hS
  refine KOps.assign ?_
  refine KOps.assign ?_
  refine KOps.assign ?_
  refine KOps.done ?_
  refine sqQ.normal ?_
  refine KA.sub (Sub.cons (t := 1) Look.eq (Sub.cons (t := 2) Look.eq (Sub.nil _))) ?_
  refine KA.seq ?_
  refine KA.region rfl ?_
  refine KOps.loadAll hS (i := 0) rfl hp2 (by rfl) (by decide) ?_
  refine KOps.move ?_
  refine KOps.call rfl (asked_c (Rd.ext hS.keeps hv)) ?_
  rintro _ h5 ⟨qp, rfl, hK, hqp, hyes⟩
  refine KOps.move ?_
  refine KOps.extract ?_
  refine KOps.extract ?_
  refine KOps.assign ?_
  refine KOps.assign ?_
  refine KOps.done ?_
  refine sqQ.normal ?_
  refine KA.sub (Sub.cons (t := 1) Look.eq (Sub.cons (t := 6) Look.eq (Sub.cons (t := 7) Look.eq (Sub.nil _)))) ?_
  refine KA.seq ?_
  refine KA.seq ?_
  refine KA.region rfl ?_
  refine KOps.move ?_
  refine KOps.neq ?_
  refine KOps.done ?_
  refine sqQ.normal ?_
  refine KA.sub (Sub.cons (t := 1) Look.eq (Sub.cons (t := 6) Look.eq (Sub.cons (t := 7) Look.eq (Sub.cons (t := 15) Look.eq (Sub.nil _))))) ?_
  refine KA.condN ?_ ?_
  · intro c15
    refine KA.seq ?_
    refine KA.region rfl ?_
    refine KOps.move ?_
    refine KOps.assign ?_
    refine KOps.assign ?_
    refine KOps.assign ?_
    refine KOps.done ?_
    refine sqQ.normal ?_
    refine KA.sub (Sub.cons (t := 4) Look.eq (Sub.cons (t := 5) Look.eq (Sub.cons (t := 6) Look.eq (Sub.nil _)))) ?_
    refine KA.ret ?_
    refine sqQ.ret ?_
    refine fnQ.retN ?_
    rw [if_neg c15, if_neg c15]
    exact ⟨rfl, hS.keeps.trans hK⟩
  · intro c15
    obtain ⟨he, hi0, hi1⟩ := ask_ok c15
    have hB := (agree_ok he).1
    obtain ⟨r, rfl⟩ : ∃ r : Nat, rm = (r : Int) := ⟨rm.toNat, by have := hB.r2; omega⟩
    obtain ⟨j, rfl⟩ : ∃ j : Nat, i = (j : Int) := ⟨i.toNat, by omega⟩
    obtain ⟨n, vn, hpf, hf, hSF⟩ := hyes c15
    have hS0 : St _ _ (_ :: _ :: _) := St.trans hS hSF
    clear hS
    have hS := hS0
    clear hS0
    refine KA.skip ?_
    refine sqQ.normal ?_
    refine KA.sub (Sub.cons (t := 1) Look.eq (Sub.cons (t := 7) Look.eq (Sub.nil _))) ?_
    refine KA.seq ?_
    refine KA.region rfl ?_
    refine KOps.move ?_
    refine KOps.move ?_
    refine KOps.call rfl (span_c (r := r) (i := j) hpf hv hB hf (by omega) hS) ?_
    rintro _ h6 ⟨rfl, c2, hS6, hf6⟩
    refine KOps.move ?_
    refine KOps.extract ?_
    refine KOps.extract ?_
    refine KOps.assign ?_
    refine KOps.assign ?_
    refine KOps.done ?_
    refine sqQ.normal ?_
    refine KA.sub (Sub.cons (t := 4) Look.eq (Sub.cons (t := 5) Look.eq (Sub.nil _))) ?_
    refine KA.seq ?_
    refine KA.region rfl ?_
    refine KOps.move ?_
    refine KOps.move ?_
    refine KOps.assign ?_
    refine KOps.assign ?_
    refine KOps.assign ?_
    refine KOps.done ?_
    refine sqQ.normal ?_
    refine KA.sub (Sub.cons (t := 4) Look.eq (Sub.cons (t := 5) Look.eq (Sub.cons (t := 6) Look.eq (Sub.nil _)))) ?_
    refine KA.ret ?_
    refine fnQ.retN ?_
    rw [if_pos c15, if_pos c15, c15]
    exact ⟨rfl, hS6.keeps⟩

end Go.Am


namespace Go.Am
def wT : List W := [⟨0, 1, 5, 9⟩, ⟨1, 2, 0, 7⟩, ⟨2, 0, 4, 6⟩]
theorem askWT : askE 3 wT 0 = 0 := by decide +kernel
theorem verWT : verE 3 wT [5, 5, 5] = 0 := by decide +kernel
theorem verWT6 : verE 3 wT [6, 6, 6] = 0 := by decide +kernel
theorem flowWT {n : List Int} (h : Flow wT n) : ∃ v, n = [v, v, v] ∧ 5 ≤ v ∧ v ≤ 6 := by
  have hl : n.length = 3 := h.len
  match n, hl with
  | [a, b, c], _ =>
    have l0 : (5 : Int) ≤ a := h.lo 0 (by decide)
    have m0 : a ≤ 9 := h.hi 0 (by decide)
    have l2 : (4 : Int) ≤ c := h.lo 2 (by decide)
    have m2 : c ≤ 6 := h.hi 2 (by decide)
    have k0 := h.kp 0
    have k1 := h.kp 1
    have e0 : kept wT [a, b, c] 0 = 0 + a * (0 - 1) + b * (0 - 0) + c * (1 - 0) := rfl
    have e1 : kept wT [a, b, c] 1 = 0 + a * (1 - 0) + b * (0 - 1) + c * (0 - 0) := rfl
    rw [e0] at k0
    rw [e1] at k1
    have h1 : b = a := by omega
    have h2 : c = a := by omega
    subst h1 h2
    exact ⟨_, rfl, l0, m2⟩
theorem flowWT5 : Flow wT [5, 5, 5] := (verE_flow verWT).2
theorem flowWT6 : Flow wT [6, 6, 6] := (verE_flow verWT6).2
theorem loWT : loOf wT 0 = 5 := (loOf_is ⟨_, flowWT5⟩ (by decide)).uniq ⟨⟨_, flowWT5, rfl⟩, fun m hm => by obtain ⟨v, rfl, h1, h2⟩ := flowWT hm; exact h1⟩
theorem hiWT : hiOf wT 0 = 6 := (hiOf_is ⟨_, flowWT5⟩ (by decide)).uniq ⟨⟨_, flowWT6, rfl⟩, fun m hm => by obtain ⟨v, rfl, h1, h2⟩ := flowWT hm; exact h2⟩
theorem spanWT_c {h : AHeap} {v : AV} (hv : Rd h v 4 (flr wc wT)) : ACalls Go.Proofs.Tryz.prog 61 [.agg [.int .i64 3, v], .int .i64 0] h (fun q h' => q = .tup [.int .i64 5, .int .i64 6, .int .i64 0] ∧ Keeps h h') := by
  refine ACalls.mono (stSpan_c (rm := 3) (i := 0) (ws := wT) hv) ?_
  rintro q h' ⟨rfl, hk⟩
  rw [askWT, if_pos rfl, if_pos rfl, show (0 : Int).toNat = 0 from rfl, loWT, hiWT]
  exact ⟨rfl, hk⟩
def tM : Tray := ⟨3, [0, 1, 2, 0, 1], [1, 2, 0, 1, 0]⟩
theorem okTM : tM.Ok := ⟨by decide, by decide, rfl, by decide, by decide⟩
theorem fewTM : tM.fewS = 3 ∧ tM.chk = 0 := by decide +kernel

theorem lst_c {h : AHeap} {v : AV} : ACalls Go.Proofs.Tryz.prog 10 [v] h (fun q h' => q = v ∧ h = h') := by
  refine KA.fn 4 [.tmp 2] Go.Proofs.Tryz.func10 rfl (by decide) rfl rfl (Nat.le_of_ble_eq_true rfl) ?_
  show KA _ 4 _ _ [(0, v)] _
  refine KA.seq ?_
  refine KA.region rfl ?_
  refine KOps.assign ?_
  refine KOps.done ?_
  refine sqQ.normal ?_
  refine KA.sub (Sub.cons (t := 0) Look.eq (Sub.nil _)) ?_
  refine KA.seq ?_
  refine KA.region rfl ?_
  refine KOps.move ?_
  refine KOps.assign ?_
  refine KOps.done ?_
  refine sqQ.normal ?_
  refine KA.sub (Sub.cons (t := 2) Look.eq (Sub.nil _)) ?_
  refine KA.ret ?_
  refine fnQ.ret1 ?_
  exact ⟨rfl, rfl⟩

theorem turnedWorks_c {h : AHeap} : ACalls Go.Proofs.Tryz.prog 153 [] h (fun q h' => q = .bool true ∧ Keeps h h') := by
  refine KA.fn 56 [.tmp 0] Go.Proofs.Tryz.func153 rfl (by decide) rfl rfl (Nat.le_of_ble_eq_true rfl) ?_
  have hS := St.refl h
  show KA _ 56 _ _ [] _
  refine KA.seq ?_
  refine KA.region rfl ?_
  refine KOps.assign ?_
  refine KOps.done ?_
  refine sqQ.normal ?_
  refine KA.sub (Sub.nil _) ?_
  refine KA.seq ?_
  refine KA.region rfl ?_
  refine KOps.buildSlice hS rfl (by decide) rfl ?_
  intro v9 h' hS
  have hv9 : v9.one = true := St.one hS (k := 0) rfl
  refine KOps.call rfl lst_c ?_
  rintro _ _ ⟨rfl, rfl⟩
  refine KOps.buildG (zs := [.int .i64 0, .int .i64 0, .int .i64 0, .nils]) (cs := [_, _, _, _]) (by kernel_rfl) (by rfl) (by kernel_rfl) (.cons (off := 0) (s := 1) (by kernel_rfl) (AV.cells_one (by first | rfl | assumption)) rfl (by decide) (.cons (off := 1) (s := 1) (by kernel_rfl) (AV.cells_one (by first | rfl | assumption)) rfl (by decide) (.cons (off := 2) (s := 1) (by kernel_rfl) (AV.cells_one (by first | rfl | assumption)) rfl (by decide) (.cons (off := 3) (s := 1) (by kernel_rfl) (AV.cells_one (by first | rfl | assumption)) rfl (by decide) .nil)))) (by rfl) ?_
  refine KOps.call rfl (backCount_c (hS.rd 0 rfl)) ?_
  rintro _ hx ⟨rfl, hK⟩
  have hS0 : St _ _ _ := St.trans hS (St.ofK hK)
  clear hS
  have hS := hS0
  clear hS0
  simp only [List.nil_append] at hS
  refine KOps.move ?_
  refine KOps.extract ?_
  refine KOps.extract ?_
  refine KOps.assign ?_
  refine KOps.assign ?_
  refine KOps.done ?_
  refine sqQ.normal ?_
  refine KA.sub (Sub.cons (t := 1) Look.eq (Sub.cons (t := 2) Look.eq (Sub.nil _))) ?_
  refine KA.seq ?_
  refine KA.region rfl ?_
  refine KOps.buildG (zs := [.int .i64 0, .int .i64 0, .int .i64 0, .int .i64 0]) (cs := [_, _, _, _]) (by kernel_rfl) (by rfl) (by kernel_rfl) (.cons (off := 0) (s := 1) (by kernel_rfl) (AV.cells_one (by first | rfl | assumption)) rfl (by decide) (.cons (off := 1) (s := 1) (by kernel_rfl) (AV.cells_one (by first | rfl | assumption)) rfl (by decide) (.cons (off := 2) (s := 1) (by kernel_rfl) (AV.cells_one (by first | rfl | assumption)) rfl (by decide) (.cons (off := 3) (s := 1) (by kernel_rfl) (AV.cells_one (by first | rfl | assumption)) rfl (by decide) .nil)))) (by rfl) ?_
  refine KOps.call rfl (cut23_c) ?_
  rintro _ hx ⟨rfl, hK⟩
  have hS0 : St _ _ _ := St.trans hS (St.ofK hK)
  clear hS
  have hS := hS0
  clear hS0
  simp only [List.nil_append] at hS
  refine KOps.move ?_
  refine KOps.extract ?_
  refine KOps.extract ?_
  refine KOps.assign ?_
  refine KOps.assign ?_
  refine KOps.done ?_
  refine sqQ.normal ?_
  refine KA.sub (Sub.cons (t := 1) Look.eq (Sub.cons (t := 2) Look.eq (Sub.cons (t := 3) Look.eq (Sub.cons (t := 4) Look.eq (Sub.nil _))))) ?_
  refine KA.seq ?_
  refine KA.region rfl ?_
  refine KOps.buildG (zs := [.int .i64 0, .int .i64 0, .int .i64 0, .int .i64 0]) (cs := [_, _, _, _]) (by kernel_rfl) (by rfl) (by kernel_rfl) (.cons (off := 0) (s := 1) (by kernel_rfl) (AV.cells_one (by first | rfl | assumption)) rfl (by decide) (.cons (off := 1) (s := 1) (by kernel_rfl) (AV.cells_one (by first | rfl | assumption)) rfl (by decide) (.cons (off := 2) (s := 1) (by kernel_rfl) (AV.cells_one (by first | rfl | assumption)) rfl (by decide) (.cons (off := 3) (s := 1) (by kernel_rfl) (AV.cells_one (by first | rfl | assumption)) rfl (by decide) .nil)))) (by rfl) ?_
  refine KOps.buildG (zs := [.int .i64 0, .int .i64 0, .int .i64 0, .int .i64 0]) (cs := [_, _, _, _]) (by kernel_rfl) (by rfl) (by kernel_rfl) (.cons (off := 0) (s := 1) (by kernel_rfl) (AV.cells_one (by first | rfl | assumption)) rfl (by decide) (.cons (off := 1) (s := 1) (by kernel_rfl) (AV.cells_one (by first | rfl | assumption)) rfl (by decide) (.cons (off := 2) (s := 1) (by kernel_rfl) (AV.cells_one (by first | rfl | assumption)) rfl (by decide) (.cons (off := 3) (s := 1) (by kernel_rfl) (AV.cells_one (by first | rfl | assumption)) rfl (by decide) .nil)))) (by rfl) ?_
  refine KOps.buildG (zs := [.int .i64 0, .int .i64 0, .int .i64 0, .int .i64 0]) (cs := [_, _, _, _]) (by kernel_rfl) (by rfl) (by kernel_rfl) (.cons (off := 0) (s := 1) (by kernel_rfl) (AV.cells_one (by first | rfl | assumption)) rfl (by decide) (.cons (off := 1) (s := 1) (by kernel_rfl) (AV.cells_one (by first | rfl | assumption)) rfl (by decide) (.cons (off := 2) (s := 1) (by kernel_rfl) (AV.cells_one (by first | rfl | assumption)) rfl (by decide) (.cons (off := 3) (s := 1) (by kernel_rfl) (AV.cells_one (by first | rfl | assumption)) rfl (by decide) .nil)))) (by rfl) ?_
  refine KOps.buildSliceS (cs := flr wc wT) hS rfl rfl rfl (by decide) ?_
  intro v24 h' hS
  have hv24 : v24.one = true := St.one hS (k := 0) rfl
  refine KOps.buildG (zs := [.int .i64 0, .nils]) (cs := [_, _]) (by kernel_rfl) (by rfl) (by kernel_rfl) (.cons (off := 0) (s := 1) (by kernel_rfl) (AV.cells_one (by first | rfl | assumption)) rfl (by decide) (.cons (off := 1) (s := 1) (by kernel_rfl) (AV.cells_one (by first | rfl | assumption)) rfl (by decide) .nil)) (by rfl) ?_
  refine KOps.call rfl (spanWT_c (hS.rd 0 rfl)) ?_
  rintro _ hx ⟨rfl, hK⟩
  have hS0 : St _ _ _ := St.trans hS (St.ofK hK)
  clear hS
  have hS := hS0
  clear hS0
  simp only [List.nil_append] at hS
  refine KOps.move ?_
  refine KOps.extract ?_
  refine KOps.extract ?_
  refine KOps.extract ?_
  refine KOps.assign ?_
  refine KOps.assign ?_
  refine KOps.assign ?_
  refine KOps.done ?_
  refine sqQ.normal ?_
  refine KA.sub (Sub.cons (t := 1) Look.eq (Sub.cons (t := 2) Look.eq (Sub.cons (t := 3) Look.eq (Sub.cons (t := 4) Look.eq (Sub.cons (t := 5) Look.eq (Sub.cons (t := 6) Look.eq (Sub.cons (t := 7) Look.eq (Sub.nil _)))))))) ?_
  refine KA.seq ?_
  refine KA.region rfl ?_
  refine KOps.move ?_
  refine KOps.eql ?_
  refine KOps.move ?_
  refine KOps.guardB (dj := 32) rfl rfl true false rfl ?_ ?_
  · intro g32
    have g32 := of_decide_eq_true g32
    refine KOps.move ?_
    refine KOps.guardYes (dj := 32) rfl rfl ?_
    refine KOps.eql ?_
    refine KOps.pickT ?_
    refine KOps.move ?_
    refine KOps.guardB (dj := 36) rfl rfl true false rfl ?_ ?_
    · intro g36
      have g36 := of_decide_eq_true g36
      refine KOps.move ?_
      refine KOps.guardYes (dj := 36) rfl rfl ?_
      refine KOps.eql ?_
      refine KOps.pickT ?_
      refine KOps.move ?_
      refine KOps.guardB (dj := 40) rfl rfl true false rfl ?_ ?_
      · intro g40
        have g40 := of_decide_eq_true g40
        refine KOps.move ?_
        refine KOps.guardYes (dj := 40) rfl rfl ?_
        refine KOps.eql ?_
        refine KOps.pickT ?_
        refine KOps.move ?_
        refine KOps.guardB (dj := 44) rfl rfl true false rfl ?_ ?_
        · intro g44
          have g44 := of_decide_eq_true g44
          refine KOps.move ?_
          refine KOps.guardYes (dj := 44) rfl rfl ?_
          refine KOps.eql ?_
          refine KOps.pickT ?_
          refine KOps.move ?_
          refine KOps.guardB (dj := 48) rfl rfl true false rfl ?_ ?_
          · intro g48
            have g48 := of_decide_eq_true g48
            refine KOps.move ?_
            refine KOps.guardYes (dj := 48) rfl rfl ?_
            refine KOps.eql ?_
            refine KOps.pickT ?_
            refine KOps.move ?_
            refine KOps.guardB (dj := 52) rfl rfl true false rfl ?_ ?_
            · intro g52
              have g52 := of_decide_eq_true g52
              refine KOps.move ?_
              refine KOps.guardYes (dj := 52) rfl rfl ?_
              refine KOps.eql ?_
              refine KOps.pickT ?_
              refine KOps.assign ?_
              refine KOps.done ?_
              refine sqQ.normal ?_
              refine KA.sub (Sub.cons (t := 0) Look.eq (Sub.nil _)) ?_
              refine KA.ret ?_
              refine fnQ.ret1 ?_
              exact ⟨rfl, hS.keeps⟩
            · intro g52
              have g52 := of_decide_eq_false g52
              exact absurd rfl g52
          · intro g48
            have g48 := of_decide_eq_false g48
            exact absurd rfl g48
        · intro g44
          have g44 := of_decide_eq_false g44
          exact absurd rfl g44
      · intro g40
        have g40 := of_decide_eq_false g40
        exact absurd rfl g40
    · intro g36
      have g36 := of_decide_eq_false g36
      exact absurd rfl g36
  · intro g32
    have g32 := of_decide_eq_false g32
    exact absurd rfl g32

theorem dealtWorks_c {h : AHeap} : ACalls Go.Proofs.Tryz.prog 104 [] h (fun q h' => q = .bool true ∧ Keeps h h') := by
  refine KA.fn 18 [.tmp 0] Go.Proofs.Tryz.func104 rfl (by decide) rfl rfl (Nat.le_of_ble_eq_true rfl) ?_
  have hS := St.refl h
  show KA _ 18 _ _ [] _
  refine KA.seq ?_
  refine KA.region rfl ?_
  refine KOps.assign ?_
  refine KOps.done ?_
  refine sqQ.normal ?_
  refine KA.sub (Sub.nil _) ?_
  refine KA.seq ?_
  refine KA.region rfl ?_
  refine KOps.buildSlice hS rfl (by decide) rfl ?_
  intro v4 h' hS
  refine KOps.call rfl lst_c ?_
  rintro _ _ ⟨rfl, rfl⟩
  refine KOps.call rfl (ways_c (hS.rd 0 rfl)) ?_
  rintro _ hx ⟨rfl, hK⟩
  have hS0 : St _ _ _ := St.trans hS (St.ofK hK)
  clear hS
  have hS := hS0
  clear hS0
  simp only [List.nil_append] at hS
  refine KOps.move ?_
  refine KOps.extract ?_
  refine KOps.extract ?_
  refine KOps.assign ?_
  refine KOps.assign ?_
  refine KOps.done ?_
  refine sqQ.normal ?_
  refine KA.sub (Sub.cons (t := 1) Look.eq (Sub.cons (t := 2) Look.eq (Sub.nil _))) ?_
  refine KA.seq ?_
  refine KA.region rfl ?_
  refine KOps.move ?_
  refine KOps.eql ?_
  refine KOps.move ?_
  refine KOps.guardB (dj := 11) rfl rfl true false rfl ?_ ?_
  · intro g11
    have g11 := of_decide_eq_true g11
    refine KOps.move ?_
    refine KOps.guardYes (dj := 11) rfl rfl ?_
    refine KOps.eql ?_
    refine KOps.pickT ?_
    refine KOps.move ?_
    refine KOps.guardB (dj := 15) rfl rfl true false rfl ?_ ?_
    · intro g15
      have g15 := of_decide_eq_true g15
      refine KOps.call rfl (turnedWorks_c) ?_
      rintro _ hx ⟨rfl, hK⟩
      have hS0 : St _ _ _ := St.trans hS (St.ofK hK)
      clear hS
      have hS := hS0
      clear hS0
      simp only [List.nil_append] at hS
      refine KOps.pickT ?_
      refine KOps.assign ?_
      refine KOps.done ?_
      refine sqQ.normal ?_
      refine KA.sub (Sub.cons (t := 0) Look.eq (Sub.nil _)) ?_
      refine KA.ret ?_
      refine fnQ.ret1 ?_
      exact ⟨rfl, hS.keeps⟩
    · intro g15
      have g15 := of_decide_eq_false g15
      exact absurd rfl g15
  · intro g11
    have g11 := of_decide_eq_false g11
    exact absurd rfl g11

theorem tableWorks_c {h : AHeap} (hT : Tabs h) : ACalls Go.Proofs.Tryz.prog 69 [] h (fun q h' => q = .bool true ∧ Keeps h h') := by
  refine KA.fn 20 [.tmp 0] Go.Proofs.Tryz.func69 rfl (by decide) rfl rfl (Nat.le_of_ble_eq_true rfl) ?_
  have hS := St.refl h
  show KA _ 20 _ _ [] _
  refine KA.seq ?_
  refine KA.region rfl ?_
  refine KOps.assign ?_
  refine KOps.done ?_
  refine sqQ.normal ?_
  refine KA.sub (Sub.nil _) ?_
  refine KA.seq ?_
  refine KA.region rfl ?_
  refine KOps.buildG (zs := [.int .i64 0, .int .i64 0]) (cs := [_, _]) (by kernel_rfl) (by rfl) (by kernel_rfl) (.cons (off := 0) (s := 1) (by kernel_rfl) (AV.cells_one (by first | rfl | assumption)) rfl (by decide) (.cons (off := 1) (s := 1) (by kernel_rfl) (AV.cells_one (by first | rfl | assumption)) rfl (by decide) .nil)) (by rfl) ?_
  refine KOps.buildG (zs := [.int .i64 0, .int .i64 0]) (cs := [_, _]) (by kernel_rfl) (by rfl) (by kernel_rfl) (.cons (off := 0) (s := 1) (by kernel_rfl) (AV.cells_one (by first | rfl | assumption)) rfl (by decide) (.cons (off := 1) (s := 1) (by kernel_rfl) (AV.cells_one (by first | rfl | assumption)) rfl (by decide) .nil)) (by rfl) ?_
  refine KOps.buildG (zs := [.int .i64 0, .int .i64 0]) (cs := [_, _]) (by kernel_rfl) (by rfl) (by kernel_rfl) (.cons (off := 0) (s := 1) (by kernel_rfl) (AV.cells_one (by first | rfl | assumption)) rfl (by decide) (.cons (off := 1) (s := 1) (by kernel_rfl) (AV.cells_one (by first | rfl | assumption)) rfl (by decide) .nil)) (by rfl) ?_
  refine KOps.buildSliceS (cs := ints [0, 1, 1, 2, 0, 1]) hS rfl rfl rfl (by decide) ?_
  intro v7 h' hS
  have hv7 : v7.one = true := St.one hS (k := 0) rfl
  refine KOps.buildG (zs := [.int .i64 0, .nils]) (cs := [_, _]) (by kernel_rfl) (by rfl) (by kernel_rfl) (.cons (off := 0) (s := 1) (by kernel_rfl) (AV.cells_one (by first | rfl | assumption)) rfl (by decide) (.cons (off := 1) (s := 1) (by kernel_rfl) (AV.cells_one (by first | rfl | assumption)) rfl (by decide) .nil)) (by rfl) ?_
  refine KOps.call rfl (sorts_c (hS.rd 0 rfl) (hT.ext hS.keeps)) ?_
  rintro _ hx ⟨rfl, hK⟩
  have hS0 : St _ _ _ := St.trans hS (St.ofK hK)
  clear hS
  have hS := hS0
  clear hS0
  simp only [List.nil_append] at hS
  refine KOps.move ?_
  refine KOps.extract ?_
  refine KOps.extract ?_
  refine KOps.assign ?_
  refine KOps.assign ?_
  refine KOps.done ?_
  refine sqQ.normal ?_
  refine KA.sub (Sub.cons (t := 1) Look.eq (Sub.cons (t := 2) Look.eq (Sub.nil _))) ?_
  refine KA.seq ?_
  refine KA.region rfl ?_
  refine KOps.move ?_
  refine KOps.eql ?_
  refine KOps.move ?_
  refine KOps.guardB (dj := 14) rfl rfl true false rfl ?_ ?_
  · intro g14
    have g14 := of_decide_eq_true g14
    refine KOps.move ?_
    refine KOps.pickT ?_
    refine KOps.move ?_
    refine KOps.guardYes (dj := 17) rfl rfl ?_
    refine KOps.call rfl (dealtWorks_c) ?_
    rintro _ hx ⟨rfl, hK⟩
    have hS0 : St _ _ _ := St.trans hS (St.ofK hK)
    clear hS
    have hS := hS0
    clear hS0
    simp only [List.nil_append] at hS
    refine KOps.pickT ?_
    refine KOps.assign ?_
    refine KOps.done ?_
    refine sqQ.normal ?_
    refine KA.sub (Sub.cons (t := 0) Look.eq (Sub.nil _)) ?_
    refine KA.ret ?_
    refine fnQ.ret1 ?_
    exact ⟨rfl, hS.keeps⟩
  · intro g14
    have g14 := of_decide_eq_false g14
    exact absurd rfl g14

theorem mendWorks_c {h : AHeap} (hT : Tabs h) : ACalls Go.Proofs.Tryz.prog 37 [] h (fun q h' => q = .bool true ∧ Keeps h h') := by
  refine KA.fn 21 [.tmp 0] Go.Proofs.Tryz.func37 rfl (by decide) rfl rfl (Nat.le_of_ble_eq_true rfl) ?_
  have hS := St.refl h
  show KA _ 21 _ _ [] _
  refine KA.seq ?_
  refine KA.region rfl ?_
  refine KOps.assign ?_
  refine KOps.done ?_
  refine sqQ.normal ?_
  refine KA.sub (Sub.nil _) ?_
  refine KA.seq ?_
  refine KA.region rfl ?_
  refine KOps.buildSlice hS rfl (by decide) rfl ?_
  intro v4 h' hS
  have hv4 : v4.one = true := St.one hS (k := 0) rfl
  refine KOps.call rfl lst_c ?_
  rintro _ _ ⟨rfl, rfl⟩
  refine KOps.buildSlice hS rfl (by decide) rfl ?_
  intro v6 h' hS
  have hv6 : v6.one = true := St.one hS (k := 0) rfl
  refine KOps.call rfl lst_c ?_
  rintro _ _ ⟨rfl, rfl⟩
  refine KOps.buildG (zs := [.int .i64 0, .nils, .nils]) (cs := [_, _, _]) (by kernel_rfl) (by rfl) (by kernel_rfl) (.cons (off := 0) (s := 1) (by kernel_rfl) (AV.cells_one (by first | rfl | assumption)) rfl (by decide) (.cons (off := 1) (s := 1) (by kernel_rfl) (AV.cells_one (by first | rfl | assumption)) rfl (by decide) (.cons (off := 2) (s := 1) (by kernel_rfl) (AV.cells_one (by first | rfl | assumption)) rfl (by decide) .nil))) (by rfl) ?_
  refine KOps.call rfl (fewestP_c (t := tM) okTM (hS.rd 1 rfl) (hS.rd 0 rfl) (hT.1.ext hS.keeps)) ?_
  rintro _ hx ⟨rfl, hK⟩
  have hS0 : St _ _ _ := St.trans hS (St.ofK hK)
  clear hS
  have hS := hS0
  clear hS0
  simp only [List.nil_append] at hS
  rw [fewTM.2, fewTM.1, if_pos rfl]
  refine KOps.move ?_
  refine KOps.extract ?_
  refine KOps.extract ?_
  refine KOps.assign ?_
  refine KOps.assign ?_
  refine KOps.done ?_
  refine sqQ.normal ?_
  refine KA.sub (Sub.cons (t := 1) Look.eq (Sub.cons (t := 2) Look.eq (Sub.nil _))) ?_
  refine KA.seq ?_
  refine KA.region rfl ?_
  refine KOps.move ?_
  refine KOps.eql ?_
  refine KOps.move ?_
  refine KOps.guardB (dj := 14) rfl rfl true false rfl ?_ ?_
  · intro g14
    have g14 := of_decide_eq_true g14
    refine KOps.move ?_
    refine KOps.guardYes (dj := 14) rfl rfl ?_
    refine KOps.eql ?_
    refine KOps.pickT ?_
    refine KOps.move ?_
    refine KOps.guardB (dj := 18) rfl rfl true false rfl ?_ ?_
    · intro g18
      have g18 := of_decide_eq_true g18
      refine KOps.call rfl (tableWorks_c (hT.ext hS.keeps)) ?_
      rintro _ hx ⟨rfl, hK⟩
      have hS0 : St _ _ _ := St.trans hS (St.ofK hK)
      clear hS
      have hS := hS0
      clear hS0
      simp only [List.nil_append] at hS
      refine KOps.pickT ?_
      refine KOps.assign ?_
      refine KOps.done ?_
      refine sqQ.normal ?_
      refine KA.sub (Sub.cons (t := 0) Look.eq (Sub.nil _)) ?_
      refine KA.ret ?_
      refine fnQ.ret1 ?_
      exact ⟨rfl, hS.keeps⟩
    · intro g18
      have g18 := of_decide_eq_false g18
      exact absurd rfl g18
  · intro g14
    have g14 := of_decide_eq_false g14
    exact absurd rfl g14

end Go.Am


namespace Go.Am
/-- All packs. -/
def perms : Nat → List Nat → List (List Nat)
  | 0, _ => [[]]
  | k + 1, l => (List.range l.length).flatMap fun i => (perms k (l.eraseIdx i)).map (l.getD i 0 :: ·)
def packs (n : Nat) : List (List Nat) := perms n (List.range n)
theorem same_no {a b : List Int} {i : Nat} (hi : i < a.length) (h : ¬ a.getD i 0 = b.getD i 0) : decide (a = b) = false := decide_eq_false fun e => h (by rw [e])
theorem same_yes {a b : List Int} (hl : a.length = b.length) (h : ∀ j, j < a.length → a.getD j 0 = b.getD j 0) : decide (a = b) = true := decide_eq_true (List.ext_getElem hl fun i h1 h2 => by
  have := h i h1
  rwa [List.getD_eq_getElem?_getD, List.getD_eq_getElem?_getD, List.getElem?_eq_getElem h1, List.getElem?_eq_getElem h2] at this)
theorem nI_gt {l : List Nat} {k : Nat} (hk : k < l.length) : (nI l).getD k 0 = ((l.getD k 0 : Nat) : Int) := by
  rw [nI, List.getD_eq_getElem?_getD, List.getD_eq_getElem?_getD, List.getElem?_map, List.getElem?_eq_getElem hk]; rfl

theorem same_c {h : AHeap} {v u : AV} {a b : List Int} (hv : Row h v a) (hu : Row h u b) (hla : a.length ≤ 1000000) : ACalls Go.Proofs.Tryz.prog 13 [v, u] h (fun q h' => q = .bool (decide (a = b)) ∧ h = h') := by
  refine KA.fn 26 [.tmp 4] Go.Proofs.Tryz.func13 rfl (by decide) rfl rfl (Nat.le_of_ble_eq_true rfl) ?_
  show KA _ 26 _ _ [(0, v), (1, u)] _
  refine KA.seq ?_
  refine KA.region rfl ?_
  refine KOps.assign ?_
  refine KOps.done ?_
  refine sqQ.normal ?_
  refine KA.sub (Sub.cons (t := 0) Look.eq (Sub.cons (t := 1) Look.eq (Sub.nil _))) ?_
  refine KA.seq ?_
  refine KA.seq ?_
  refine KA.region rfl ?_
  refine KOps.move ?_
  refine KOps.lenI hv ?_
  refine KOps.move ?_
  refine KOps.lenI hu ?_
  refine KOps.neq ?_
  refine KOps.done ?_
  refine sqQ.normal ?_
  refine KA.sub (Sub.cons (t := 0) Look.eq (Sub.cons (t := 1) Look.eq (Sub.cons (t := 10) Look.eq (Sub.nil _)))) ?_
  refine KA.condN ?_ ?_
  · intro c10
    refine KA.seq ?_
    refine KA.region rfl ?_
    refine KOps.assign ?_
    refine KOps.done ?_
    refine sqQ.normal ?_
    refine KA.sub (Sub.cons (t := 4) Look.eq (Sub.nil _)) ?_
    refine KA.ret ?_
    refine sqQ.ret ?_
    refine fnQ.ret1 ?_
    refine ⟨congrArg AV.bool (decide_eq_false fun e => ?_).symm, rfl⟩
    subst e
    omega
  · intro c10
    have hlab : a.length = b.length := by omega
    refine KA.skip ?_
    refine sqQ.normal ?_
    refine KA.sub (Sub.cons (t := 0) Look.eq (Sub.cons (t := 1) Look.eq (Sub.nil _))) ?_
    refine KA.seq ?_
    refine KA.seq ?_
    refine KA.region rfl ?_
    refine KOps.move ?_
    refine KOps.lenI hv ?_
    refine KOps.move ?_
    refine KOps.done ?_
    refine sqQ.normal ?_
    refine KA.sub (Sub.cons (t := 0) Look.eq (Sub.cons (t := 1) Look.eq (Sub.cons (t := 12) Look.eq (Sub.cons (t := 13) Look.eq (Sub.nil _))))) ?_
    refine KA.block ?_
    refine KA.loop (X := Nat) (fun i => [(0, v), (1, u), (12, .int .i64 (a.length : Int)), (13, .int .i64 (i : Int))]) (fun i h' => h = h' ∧ i ≤ a.length ∧ ∀ j, j < i → a.getD j 0 = b.getD j 0) (fun i => a.length - i) 0 (by repeat (first | exact Sub.nil _ | refine Sub.cons Look.eq ?_ | refine Sub.cons (Eq.trans Look.eq (congrArg (AV.int _) (by first | omega | (dsimp only; omega)))) ?_)) ?_ ?_
    · exact ⟨rfl, Nat.zero_le _, fun j hj => by omega⟩
    rintro i _ ⟨rfl, hi, hj⟩
    refine KA.seq ?_
    refine KA.region rfl ?_
    refine KOps.lss ?_
    refine KOps.done ?_
    refine sqQ.normal ?_
    refine KA.seq ?_
    refine KA.condD ?_ ?_
    · intro c14
      refine KA.skip ?_
      refine sqQ.normal ?_
      refine KA.sub (Sub.cons (t := 0) Look.eq (Sub.cons (t := 1) Look.eq (Sub.cons (t := 12) Look.eq (Sub.cons (t := 13) Look.eq (Sub.nil _))))) ?_
      refine KA.seq ?_
      refine KA.block ?_
      refine KA.seq ?_
      refine KA.region rfl ?_
      refine KOps.move ?_
      refine KOps.assign ?_
      refine KOps.done ?_
      refine sqQ.normal ?_
      refine KA.sub (Sub.cons (t := 0) Look.eq (Sub.cons (t := 1) Look.eq (Sub.cons (t := 5) Look.eq (Sub.cons (t := 12) Look.eq (Sub.cons (t := 13) Look.eq (Sub.nil _)))))) ?_
      refine KA.seq ?_
      refine KA.draw [] mixed rfl (by kernel_rfl) ?_
      refine KOps.move ?_
      refine KOps.move ?_
      refine KOps.indexIJ hv (j := i) rfl (by first | omega | (simp; done) | (simp; omega)) ?_
      intro p18 hp18
      refine KOps.loadI hp18 hv (by first | omega | (simp; done) | (simp; omega)) ?_
      refine KOps.move ?_
      refine KOps.move ?_
      refine KOps.indexIJ hu (j := i) rfl (by first | omega | (simp; done) | (simp; omega)) ?_
      intro p22 hp22
      refine KOps.loadI hp22 hu (by first | omega | (simp; done) | (simp; omega)) ?_
      refine KOps.neq ?_
      refine KOps.done ?_
      refine sqQ.normal ?_
      refine KA.sub (Sub.cons (t := 0) Look.eq (Sub.cons (t := 1) Look.eq (Sub.cons (t := 12) Look.eq (Sub.cons (t := 13) Look.eq (Sub.cons (t := 24) Look.eq (Sub.nil _)))))) ?_
      refine KA.condN ?_ ?_
      · intro c24
        refine KA.seq ?_
        refine KA.region rfl ?_
        refine KOps.assign ?_
        refine KOps.done ?_
        refine sqQ.normal ?_
        refine KA.sub (Sub.cons (t := 4) Look.eq (Sub.nil _)) ?_
        refine KA.ret ?_
        refine blQ.ret ?_
        refine sqQ.ret ?_
        refine lpQ.ret ?_
        refine blQ.ret ?_
        refine sqQ.ret ?_
        refine fnQ.ret1 ?_
        exact ⟨congrArg AV.bool (same_no (i := i) (by omega) (by omega)).symm, rfl⟩
      · intro c24
        refine KA.skip ?_
        refine blQ.normal ?_
        refine sqQ.normal ?_
        refine KA.sub (Sub.cons (t := 0) Look.eq (Sub.cons (t := 1) Look.eq (Sub.cons (t := 12) Look.eq (Sub.cons (t := 13) Look.eq (Sub.nil _))))) ?_
        refine KA.region rfl ?_
        refine KOps.add (by first | omega | (simp; omega)) (by first | omega | (simp; omega)) ?_
        refine KOps.move ?_
        refine KOps.done ?_
        refine lpQ.normal (i + 1) (by repeat (first | exact Sub.nil _ | refine Sub.cons Look.eq ?_ | refine Sub.cons (Eq.trans Look.eq (congrArg (AV.int _) (by first | omega | (dsimp only; omega)))) ?_)) ⟨rfl, by omega, ?_⟩ (by omega)
        intro j hj2
        rcases Nat.lt_succ_iff_lt_or_eq.1 hj2 with h3 | rfl
        · exact hj j h3
        · omega
    · intro c14
      refine KA.exit ?_
      refine sqQ.exit ?_
      refine lpQ.exit ?_
      refine blQ.here ?_
      refine sqQ.normal ?_
      refine KA.sub (Sub.nil _) ?_
      refine KA.seq ?_
      refine KA.region rfl ?_
      refine KOps.assign ?_
      refine KOps.done ?_
      refine sqQ.normal ?_
      refine KA.ret ?_
      refine fnQ.ret1 ?_
      exact ⟨congrArg AV.bool (same_yes (by omega) (fun j h3 => hj j (by omega))).symm, rfl⟩

end Go.Am
