/-
  Layer 01: a flow is found just where there is one: contract.
  Conditions: none.
-/
import Derived.Test.YtdfhmdhjeiipfaaSCm
import Derived.Test.YtdfhmdhjeiipfaaAmA
import Derived.Test.YtdfhmdhjeiipfaaSCh
namespace Go.Am
theorem mins_within {rm : Int} {ws : List W} (hB : BOk rm ws) : Within ws (ws.map (·.l)) := by
  have hg : ∀ i, i < ws.length → (ws.map (·.l)).getD i 0 = (ws.getD i default).l := by
    intro i hi
    rw [List.getD_eq_getElem?_getD, List.getElem?_map, List.getD_eq_getElem?_getD, List.getElem?_eq_getElem hi]
    rfl
  exact ⟨by simp, fun i hi => by rw [hg i hi]; exact Int.le_refl _, fun i hi => by rw [hg i hi]; exact (hB.way i hi).lm⟩
theorem mins_next {ws : List W} {i : Nat} (hi : i < ws.length) : (ws.map (·.l)).take i ++ [(ws.getD i default).l] = (ws.map (·.l)).take (i + 1) := by
  have hl : i < (ws.map (·.l)).length := by simpa using hi
  rw [take_next hl]
  congr 1
  rw [List.getD_eq_getElem?_getD, List.getD_eq_getElem?_getD, List.getElem?_map, List.getElem?_eq_getElem hi]
  rfl
theorem keptL_flow {r : Nat} {ws : List W} {n : List Int} (hB : BOk (r : Int) ws) (hw : Within ws n) (h : ((keptL r ws n ws.length).any fun x => !decide (x = 0)) = false) : Flow ws n := by
  refine ⟨hw, fun x => ?_⟩
  by_cases hx : x < 0 ∨ (r : Int) ≤ x
  · exact kept_out hB.inR n hx _ (Nat.le_refl _)
  · have hg := keptL_get (ws := ws) (n := n) (k := ws.length) (show x.toNat < r by omega)
    rw [show ((x.toNat : Nat) : Int) = x by omega] at hg
    rw [List.any_eq_false] at h
    have hl := keptL_len r ws n ws.length
    have := h ((keptL r ws n ws.length).getD x.toNat 0) (by
      rw [List.getD_eq_getElem?_getD, List.getElem?_eq_getElem (by omega)]
      exact List.getElem_mem _)
    rw [hg] at this
    simpa using this
theorem keptL_dev {r : Nat} {ws : List W} {n : List Int} (h : ((keptL r ws n ws.length).any fun x => !decide (x = 0)) = true) : devTo ws n r ≠ 0 := by
  intro h0
  rw [List.any_eq_true] at h
  obtain ⟨x, hx, hne⟩ := h
  unfold keptL at hx
  obtain ⟨y, hy, rfl⟩ := List.mem_map.1 hx
  have := dev_zero h0 y (List.mem_range.1 hy)
  have h2 : keptTo ws n (y : Int) ws.length = 0 := this
  rw [h2] at hne
  exact absurd hne (by decide)
/-- No path for the first pairs of rooms. -/
def NoTo (ws : List W) (n : List Int) (r i j : Nat) : Prop := ∀ a b : Nat, a < r → b < r → (a < i ∨ (a = i ∧ b < j)) → ¬ (0 < kept ws n a ∧ kept ws n b < 0 ∧ ∃ vs E, Path ws n (fun _ => true) a vs b E)
theorem NoTo.zero (ws : List W) (n : List Int) (r : Nat) : NoTo ws n r 0 0 := fun a b _ _ h => by omega
theorem NoTo.row {ws : List W} {n : List Int} {r i : Nat} (h : NoTo ws n r i r) : NoTo ws n r (i + 1) 0 := fun a b ha hb hc => h a b ha hb (by omega)
theorem NoTo.more {ws : List W} {n : List Int} {r i j : Nat} (h : NoTo ws n r i j) (hn : ¬ (0 < kept ws n i ∧ kept ws n j < 0 ∧ ∃ vs E, Path ws n (fun _ => true) i vs j E)) : NoTo ws n r i (j + 1) := by
  intro a b ha hb hc
  by_cases he : a = i ∧ b = j
  · obtain ⟨rfl, rfl⟩ := he; exact hn
  · exact h a b ha hb (by omega)
theorem agree_flow {rm : Int} {ws : List W} {n : List Int} (h0 : chkB rm ws = 0) (hf : Flow ws n) : agreeE rm ws = 0 := by
  have hB := BOk.of h0
  have hr : InR ((rm.toNat : Nat) : Int) ws := by
    have := hB.r2
    rw [show ((rm.toNat : Nat) : Int) = rm by omega]
    exact hB.inR
  rw [agreeE, if_pos h0, canP, decide_eq_true h0, (hoffman hr hB.LM).2 ⟨n, hf⟩]
  rfl
theorem NoTo.lost {r : Nat} {ws : List W} {n : List Int} (h0 : chkB (r : Int) ws = 0) (hw : Within ws n) (hd : devTo ws n r ≠ 0) (h : NoTo ws n r r 0) : agreeE (r : Int) ws = 12 := by
  have hB := BOk.of h0
  rcases path_or_proof hB.inR hw hd with ⟨u, v, hu, hv, h1, h2, h3⟩ | ⟨s, hs, hp⟩
  · exact absurd ⟨h1, h2, h3⟩ (h u v hu hv (.inl hu))
  · have hc : canB r ws = false := by
      cases hb : canB r ws with
      | false => rfl
      | true => rw [canB_iff.1 hb s hs] at hp; cases hp
    rw [agreeE, if_pos h0, canP, decide_eq_true h0, Int.toNat_natCast, hc]
    rfl

theorem found_c {h : AHeap} {rm : Int} {vW : AV} {ws : List W} (hv : Rd h vW 4 (flr wc ws)) : ACalls Go.Proofs.Try.prog 22 [.agg [.int .i64 rm, vW]] h (fun q h' => ∃ qp, q = .tup [qp, .int .i64 (agreeE rm ws)] ∧ Keeps h h' ∧ qp.one = true ∧ (agreeE rm ws = 0 → ∃ n vn, AddrOf qp qp 0 0 ∧ Flow ws n ∧ St h h' [⟨qp, 0, [.int .i64 rm, vW, vn], true⟩, ⟨vn, 1, ints n, true⟩])) := by
  refine KA.fn 80 [.tmp 2, .tmp 3] Go.Proofs.Try.func22 rfl (by decide) rfl rfl (Nat.le_of_ble_eq_true rfl) ?_
  have hS := St.refl h
  have hvo : vW.one = true := hv.one
  show KA _ 80 _ _ [(0, .agg [.int .i64 rm, vW])] _
  refine KA.seq ?_
  refine KA.region rfl ?_
  refine KOps.boxAll hS (by first | rfl | (simp [AV.one]; done) | (simp [AV.one]; assumption) | (simp [AV.one, *]; done)) ?_
  intro p1 h' hp1 hS
  refine KOps.assign ?_
  refine KOps.assign ?_
  refine KOps.done ?_
  refine sqQ.normal ?_
  refine KA.sub (Sub.cons (t := 1) Look.eq (Sub.nil _)) ?_
  refine KA.scope ?_
  refine KA.seq ?_
  refine KA.seq ?_
  refine KA.region rfl ?_
  refine KOps.loadAll hS (i := 0) rfl hp1 (by rfl) (by decide) ?_
  refine KOps.call rfl (check_c (Rd.ext hS.keeps hv)) ?_
  rintro _ h5 ⟨rfl, hK⟩
  have hS0 : St _ _ (_ :: _) := St.trans hS (St.ofK hK)
  clear hS
  have hS := hS0
  clear hS0
  refine KOps.assign ?_
  refine KOps.done ?_
  refine sqQ.normal ?_
  refine KA.sub (Sub.cons (t := 1) Look.eq (Sub.cons (t := 4) Look.eq (Sub.nil _))) ?_
  refine KA.seq ?_
  refine KA.region rfl ?_
  refine KOps.move ?_
  refine KOps.neq ?_
  refine KOps.done ?_
  refine sqQ.normal ?_
  refine KA.sub (Sub.cons (t := 1) Look.eq (Sub.cons (t := 4) Look.eq (Sub.cons (t := 18) Look.eq (Sub.nil _)))) ?_
  refine KA.condN ?_ ?_
  · intro c18
    refine KA.seq ?_
    refine KA.region rfl ?_
    refine KOps.move ?_
    refine KOps.assign ?_
    refine KOps.assign ?_
    refine KOps.done ?_
    refine sqQ.normal ?_
    refine KA.sub (Sub.cons (t := 2) Look.eq (Sub.cons (t := 3) Look.eq (Sub.nil _))) ?_
    refine KA.ret ?_
    refine sqQ.ret ?_
    refine fnQ.retN ?_
    have e0 : agreeE rm ws = chkB rm ws := by rw [agreeE, if_neg c18]
    rw [e0]
    exact ⟨_, rfl, hS.keeps, rfl, fun h0 => absurd h0 c18⟩
  · intro c18
    obtain ⟨r, rfl⟩ : ∃ r : Nat, rm = (r : Int) := ⟨rm.toNat, by have := (BOk.of c18).r2; omega⟩
    have hB := BOk.of c18
    have hr6 := hB.r6
    have hwl := hB.len
    refine KA.skip ?_
    refine sqQ.normal ?_
    refine KA.sub (Sub.cons (t := 1) Look.eq (Sub.nil _)) ?_
    refine KA.seq ?_
    refine KA.region rfl ?_
    refine KOps.loadAll hS (i := 0) rfl hp1 (by rfl) (by decide) ?_
    refine KOps.buildA1 (z0 := .int .i64 0) (z1 := .nils) (z2 := .nils) (by kernel_rfl) (by rfl) (by kernel_rfl) (by kernel_rfl) (by first | rfl | assumption) (by first | rfl | assumption) ?_
    refine KOps.boxAll hS (by first | rfl | (simp [AV.one]; done) | (simp [AV.one]; assumption) | (simp [AV.one, *]; done)) ?_
    intro p22 h' hp22 hS
    refine KOps.assign ?_
    refine KOps.done ?_
    refine sqQ.normal ?_
    refine KA.sub (Sub.cons (t := 1) Look.eq (Sub.cons (t := 5) Look.eq (Sub.nil _))) ?_
    refine KA.seq ?_
    refine KA.seq ?_
    refine KA.region rfl ?_
    refine KOps.fieldAddr hp1 ?_
    intro p23 hp23
    refine KOps.load hp23 (hS.rd 1 rfl) rfl ?_
    refine KOps.lenF wc_len (Rd.ext hS.keeps hv) ?_
    refine KOps.move ?_
    refine KOps.done ?_
    refine sqQ.normal ?_
    refine KA.sub (Sub.cons (t := 5) Look.eq (Sub.cons (t := 24) Look.eq (Sub.cons (t := 25) Look.eq (Sub.cons (t := 26) Look.eq (Sub.nil _))))) ?_
    refine KA.block ?_
    refine KA.loop (X := Nat × AV) (fun x => [(5, p22), (24, vW), (25, .int .i64 (ws.length : Int)), (26, .int .i64 (x.1 : Int))]) (fun x h' => x.1 ≤ ws.length ∧ St h h' [⟨p22, 0, [.int .i64 (r : Int), vW, x.2], true⟩, ⟨p1, 0, [.int .i64 (r : Int), vW], true⟩, ⟨x.2, 1, ints ((ws.map (·.l)).take x.1), true⟩]) (fun x => ws.length - x.1) (0, .nils) (by repeat (first | exact Sub.nil _ | refine Sub.cons Look.eq ?_ | refine Sub.cons (Eq.trans Look.eq (congrArg (AV.int _) (by first | omega | (dsimp only; omega)))) ?_)) ?_ ?_
    · exact ⟨Nat.zero_le _, St.addNil 1 true hS⟩
    rintro ⟨i, vn⟩ h6 ⟨hi, hS⟩
    dsimp only at hi hS ⊢
    refine KA.seq ?_
    refine KA.region rfl ?_
    refine KOps.lss ?_
    refine KOps.done ?_
    refine sqQ.normal ?_
    refine KA.seq ?_
    refine KA.condD ?_ ?_
    · intro c27
      refine KA.skip ?_
      refine sqQ.normal ?_
      refine KA.sub (Sub.cons (t := 5) Look.eq (Sub.cons (t := 24) Look.eq (Sub.cons (t := 25) Look.eq (Sub.cons (t := 26) Look.eq (Sub.nil _))))) ?_
      refine KA.seq ?_
      refine KA.block ?_
      refine KA.seq ?_
      refine KA.region rfl ?_
      refine KOps.indexF wc_len (Rd.ext hS.keeps hv) (j := i) rfl (by first | omega | (simp; omega)) ?_
      intro p28 hp28
      refine KOps.loadFl wc_len (by decide) hp28 (Rd.ext hS.keeps hv) (by first | omega | (simp; omega)) ?_
      refine KOps.alloc hS ?_
      intro p7 h' hp7 hS
      refine KOps.storeAll hS rfl (i := 0) rfl hp7 (by first | rfl | (simp [AV.one]; done) | (simp [AV.one]; assumption) | (simp [AV.one, *]; done)) (by rfl) (by rfl) (by decide) ?_
      intro h' hS
      simp only [List.set_cons_zero, List.set_cons_succ, Nat.zero_add] at hS
      refine KOps.done ?_
      refine sqQ.normal ?_
      refine KA.sub (Sub.cons (t := 5) Look.eq (Sub.cons (t := 7) Look.eq (Sub.cons (t := 24) Look.eq (Sub.cons (t := 25) Look.eq (Sub.cons (t := 26) Look.eq (Sub.nil _)))))) ?_
      refine KA.draw [8] mixed rfl (by kernel_rfl) ?_
      refine KOps.move ?_
      refine KOps.move ?_
      refine KOps.nilP hp22 ?_
      refine KOps.fieldAddr hp22 ?_
      intro p33 hp33
      refine KOps.load hp33 (hS.rd 1 rfl) rfl ?_
      refine KOps.fieldAddr hp7 ?_
      intro p35 hp35
      refine KOps.load hp35 (hS.rd 0 rfl) rfl ?_
      refine KOps.buildSlice hS rfl (by decide) rfl ?_
      intro v37 h' hS
      refine KOps.appendI hS (fun _ => rfl) (i := 3) rfl (by first | omega | (simp; omega)) ?_
      intro r38 h' hr38 hS
      refine KOps.nilP hp22 ?_
      refine KOps.fieldAddr hp22 ?_
      intro p40 hp40
      refine KOps.store hS rfl (i := 1) rfl hp40 hr38 (by first | decide | simp) ?_
      intro h' hS
      simp only [List.set_cons_zero, List.set_cons_succ, Nat.zero_add] at hS
      refine KOps.done ?_
      refine blQ.normal ?_
      refine sqQ.normal ?_
      refine KA.sub (Sub.cons (t := 5) Look.eq (Sub.cons (t := 24) Look.eq (Sub.cons (t := 25) Look.eq (Sub.cons (t := 26) Look.eq (Sub.nil _))))) ?_
      refine KA.region rfl ?_
      refine KOps.add (by first | omega | (simp; omega)) (by first | omega | (simp; omega)) ?_
      refine KOps.move ?_
      refine KOps.done ?_
      rw [mins_next (by omega)] at hS
      exact lpQ.normal (i + 1, r38) (by repeat (first | exact Sub.nil _ | refine Sub.cons Look.eq ?_ | refine Sub.cons (Eq.trans Look.eq (congrArg (AV.int _) (by first | omega | (dsimp only; omega)))) ?_)) ⟨by dsimp only; omega, St.tail hS⟩ (by dsimp only; omega)
    · intro c27
      refine KA.exit ?_
      refine sqQ.exit ?_
      refine lpQ.exit ?_
      refine blQ.here ?_
      refine sqQ.normal ?_
      refine KA.sub (Sub.cons (t := 5) Look.eq (Sub.nil _)) ?_
      refine KA.seq ?_
      refine KA.region rfl ?_
      refine KOps.assign ?_
      refine KOps.done ?_
      refine sqQ.normal ?_
      refine KA.seq ?_
      refine KA.label ?_
      refine sqQ.normal ?_
      refine KA.block ?_
      refine KA.loop (X := List Int × AV) (fun x => [(5, p22), (8, .fn 51 [])]) (fun x h' => Within ws x.1 ∧ St h h' [⟨p22, 0, [.int .i64 (r : Int), vW, x.2], true⟩, ⟨x.2, 1, ints x.1, true⟩, ⟨p1, 0, [.int .i64 (r : Int), vW], true⟩]) (fun x => devTo ws x.1 r) (ws.map (·.l), vn) (by repeat (first | exact Sub.nil _ | refine Sub.cons Look.eq ?_ | refine Sub.cons (Eq.trans Look.eq (congrArg (AV.int _) (by first | omega | (dsimp only; omega)))) ?_)) ?_ ?_
      · refine ⟨mins_within hB, ?_⟩
        have e : (ws.map (·.l)).take i = ws.map (·.l) := List.take_of_length_le (by simp; omega)
        rw [e] at hS
        exact St.pick [0, 2, 1] (by decide) rfl hS
      rintro ⟨n, vn⟩ h6 ⟨hw, hS⟩
      dsimp only at hw hS ⊢
      refine KA.block ?_
      refine KA.seq ?_
      refine KA.region rfl ?_
      refine KOps.move ?_
      refine KOps.call rfl (kept_c hp22 (hS.rd 0 rfl) (Rd.ext hS.keeps hv) (hS.rd 1 rfl) hB hw.len (within_bound hB hw)) ?_
      rintro vk h6 hK
      have hS0 : St _ _ (_ :: _) := St.trans hS hK
      clear hS
      have hS := hS0
      clear hS0
      refine KOps.assign ?_
      refine KOps.done ?_
      refine sqQ.normal ?_
      refine KA.sub (Sub.cons (t := 5) Look.eq (Sub.cons (t := 8) Look.eq (Sub.cons (t := 9) Look.eq (Sub.nil _)))) ?_
      refine KA.seq ?_
      refine KA.seq ?_
      refine KA.region rfl ?_
      refine KOps.move ?_
      refine KOps.call rfl (anyNz_c (hS.rd 0 rfl) (by rw [keptL_len]; omega) (fun _ _ => nz90_c)) ?_
      rintro _ h7 ⟨rfl, rfl⟩
      refine KOps.not ?_
      refine KOps.done ?_
      refine sqQ.normal ?_
      refine KA.sub (Sub.cons (t := 5) Look.eq (Sub.cons (t := 8) Look.eq (Sub.cons (t := 9) Look.eq (Sub.cons (t := 46) Look.eq (Sub.nil _))))) ?_
      refine KA.condB ?_ ?_
      · intro c46
        refine KA.seq ?_
        refine KA.region rfl ?_
        refine KOps.move ?_
        refine KOps.assign ?_
        refine KOps.assign ?_
        refine KOps.done ?_
        refine sqQ.normal ?_
        refine KA.sub (Sub.cons (t := 2) Look.eq (Sub.cons (t := 3) Look.eq (Sub.nil _))) ?_
        refine KA.ret ?_
        refine sqQ.ret ?_
        refine blQ.ret ?_
        refine lpQ.ret ?_
        refine blQ.ret ?_
        refine fnQ.retN ?_
        have hfl := keptL_flow hB hw (by simpa using c46)
        have e0 := agree_flow c18 hfl
        rw [e0]
        exact ⟨_, rfl, hS.keeps, St.one hS (k := 1) rfl, fun _ => ⟨n, vn, hp22, hfl, St.pick [1, 2] (by decide) rfl hS⟩⟩
      · intro c46
        refine KA.skip ?_
        refine sqQ.normal ?_
        refine KA.sub (Sub.cons (t := 5) Look.eq (Sub.cons (t := 8) Look.eq (Sub.cons (t := 9) Look.eq (Sub.nil _)))) ?_
        refine KA.seq ?_
        refine KA.seq ?_
        refine KA.region rfl ?_
        refine KOps.move ?_
        refine KOps.lenI (hS.rd 0 rfl) ?_
        refine KOps.move ?_
        refine KOps.done ?_
        refine sqQ.normal ?_
        refine KA.block ?_
        refine KA.loop (X := Nat) (fun i => [(5, p22), (8, .fn 51 []), (9, vk), (48, vk), (49, .int .i64 ((keptL r ws n ws.length).length : Int)), (50, .int .i64 (i : Int))]) (fun i h' => i ≤ r ∧ NoTo ws n r i 0 ∧ St h h' [⟨vk, 1, ints (keptL r ws n ws.length), true⟩, ⟨p22, 0, [.int .i64 (r : Int), vW, vn], true⟩, ⟨vn, 1, ints n, true⟩, ⟨p1, 0, [.int .i64 (r : Int), vW], true⟩]) (fun i => r - i) 0 (by repeat (first | exact Sub.nil _ | refine Sub.cons Look.eq ?_ | refine Sub.cons (Eq.trans Look.eq (congrArg (AV.int _) (by first | omega | (dsimp only; omega)))) ?_)) ?_ ?_
        · exact ⟨Nat.zero_le _, NoTo.zero _ _ _, hS⟩
        rintro i h8 ⟨hi, hno0, hS⟩
        have hkl := keptL_len r ws n ws.length
        refine KA.seq ?_
        refine KA.region rfl ?_
        refine KOps.lss ?_
        refine KOps.done ?_
        refine sqQ.normal ?_
        refine KA.seq ?_
        refine KA.condD ?_ ?_
        · intro c51
          refine KA.skip ?_
          refine sqQ.normal ?_
          refine KA.sub (Sub.cons (t := 5) Look.eq (Sub.cons (t := 8) Look.eq (Sub.cons (t := 9) Look.eq (Sub.cons (t := 48) Look.eq (Sub.cons (t := 49) Look.eq (Sub.cons (t := 50) Look.eq (Sub.nil _))))))) ?_
          refine KA.seq ?_
          refine KA.block ?_
          refine KA.seq ?_
          refine KA.region rfl ?_
          refine KOps.move ?_
          refine KOps.indexIJ (hS.rd 0 rfl) (j := i) rfl (by first | omega | (simp; omega)) ?_
          intro p53 hp53
          refine KOps.loadI hp53 (hS.rd 0 rfl) (by first | omega | (simp; omega)) ?_
          refine KOps.assign ?_
          refine KOps.assign ?_
          refine KOps.done ?_
          refine sqQ.normal ?_
          refine KA.sub (Sub.cons (t := 5) Look.eq (Sub.cons (t := 8) Look.eq (Sub.cons (t := 9) Look.eq (Sub.cons (t := 10) Look.eq (Sub.cons (t := 11) Look.eq (Sub.cons (t := 48) Look.eq (Sub.cons (t := 49) Look.eq (Sub.cons (t := 50) Look.eq (Sub.nil _))))))))) ?_
          refine KA.seq ?_
          refine KA.region rfl ?_
          refine KOps.move ?_
          refine KOps.lenI (hS.rd 0 rfl) ?_
          refine KOps.move ?_
          refine KOps.done ?_
          refine sqQ.normal ?_
          refine KA.block ?_
          refine KA.loop (X := Nat) (fun j => [(5, p22), (8, .fn 51 []), (9, vk), (48, vk), (49, .int .i64 ((keptL r ws n ws.length).length : Int)), (50, .int .i64 (i : Int)), (10, .int .i64 (i : Int)), (11, .int .i64 ((keptL r ws n ws.length).getD i 0)), (55, vk), (56, .int .i64 ((keptL r ws n ws.length).length : Int)), (57, .int .i64 (j : Int))]) (fun j h' => j ≤ r ∧ NoTo ws n r i j ∧ St h h' [⟨vk, 1, ints (keptL r ws n ws.length), true⟩, ⟨p22, 0, [.int .i64 (r : Int), vW, vn], true⟩, ⟨vn, 1, ints n, true⟩, ⟨p1, 0, [.int .i64 (r : Int), vW], true⟩]) (fun j => r - j) 0 (by repeat (first | exact Sub.nil _ | refine Sub.cons Look.eq ?_ | refine Sub.cons (Eq.trans Look.eq (congrArg (AV.int _) (by first | omega | (dsimp only; omega)))) ?_)) ?_ ?_
          · exact ⟨Nat.zero_le _, hno0, hS⟩
          rintro j h9 ⟨hj, hnoj, hS⟩
          have hkl := keptL_len r ws n ws.length
          refine KA.seq ?_
          refine KA.region rfl ?_
          refine KOps.lss ?_
          refine KOps.done ?_
          refine sqQ.normal ?_
          refine KA.seq ?_
          refine KA.condD ?_ ?_
          · intro c58
            refine KA.skip ?_
            refine sqQ.normal ?_
            refine KA.sub (Sub.cons (t := 5) Look.eq (Sub.cons (t := 8) Look.eq (Sub.cons (t := 9) Look.eq (Sub.cons (t := 10) Look.eq (Sub.cons (t := 11) Look.eq (Sub.cons (t := 48) Look.eq (Sub.cons (t := 49) Look.eq (Sub.cons (t := 50) Look.eq (Sub.cons (t := 55) Look.eq (Sub.cons (t := 56) Look.eq (Sub.cons (t := 57) Look.eq (Sub.nil _)))))))))))) ?_
            refine KA.seq ?_
            refine KA.block ?_
            refine KA.seq ?_
            refine KA.region rfl ?_
            refine KOps.move ?_
            refine KOps.indexIJ (hS.rd 0 rfl) (j := j) rfl (by first | omega | (simp; omega)) ?_
            intro p60 hp60
            refine KOps.loadI hp60 (hS.rd 0 rfl) (by first | omega | (simp; omega)) ?_
            refine KOps.assign ?_
            refine KOps.assign ?_
            refine KOps.done ?_
            refine sqQ.normal ?_
            refine KA.sub (Sub.cons (t := 5) Look.eq (Sub.cons (t := 8) Look.eq (Sub.cons (t := 9) Look.eq (Sub.cons (t := 10) Look.eq (Sub.cons (t := 11) Look.eq (Sub.cons (t := 12) Look.eq (Sub.cons (t := 13) Look.eq (Sub.cons (t := 48) Look.eq (Sub.cons (t := 49) Look.eq (Sub.cons (t := 50) Look.eq (Sub.cons (t := 55) Look.eq (Sub.cons (t := 56) Look.eq (Sub.cons (t := 57) Look.eq (Sub.nil _)))))))))))))) ?_
            refine KA.seq ?_
            refine KA.seq ?_
            refine KA.region rfl ?_
            have hgi : (keptL r ws n ws.length).getD i 0 = kept ws n (i : Int) := keptL_get (show i < r by omega)
            have hgj : (keptL r ws n ws.length).getD j 0 = kept ws n (j : Int) := keptL_get (show j < r by omega)
            refine KOps.move ?_
            refine KOps.leq ?_
            refine KOps.move ?_
            refine KOps.guardB (dj := 64) rfl rfl false true rfl ?_ ?_
            · intro g64
              have g64 := of_decide_eq_false g64
              refine KOps.move ?_
              refine KOps.guardYes (dj := 64) rfl rfl ?_
              refine KOps.geq ?_
              refine KOps.pickF ?_
              refine KOps.done ?_
              refine sqQ.normal ?_
              refine KA.sub (Sub.cons (t := 5) Look.eq (Sub.cons (t := 8) Look.eq (Sub.cons (t := 9) Look.eq (Sub.cons (t := 10) Look.eq (Sub.cons (t := 11) Look.eq (Sub.cons (t := 12) Look.eq (Sub.cons (t := 48) Look.eq (Sub.cons (t := 49) Look.eq (Sub.cons (t := 50) Look.eq (Sub.cons (t := 55) Look.eq (Sub.cons (t := 56) Look.eq (Sub.cons (t := 57) Look.eq (Sub.cons (t := 65) Look.eq (Sub.cons (t := 66) Look.eq (Sub.cons (t := 67) Look.eq (Sub.nil _)))))))))))))))) ?_
              refine KA.condD ?_ ?_
              · intro c67
                refine KA.exit ?_
                refine sqQ.exit ?_
                refine blQ.here ?_
                refine sqQ.normal ?_
                refine KA.sub (Sub.cons (t := 5) Look.eq (Sub.cons (t := 8) Look.eq (Sub.cons (t := 9) Look.eq (Sub.cons (t := 10) Look.eq (Sub.cons (t := 11) Look.eq (Sub.cons (t := 48) Look.eq (Sub.cons (t := 49) Look.eq (Sub.cons (t := 50) Look.eq (Sub.cons (t := 55) Look.eq (Sub.cons (t := 56) Look.eq (Sub.cons (t := 57) Look.eq (Sub.cons (t := 65) Look.eq (Sub.cons (t := 66) Look.eq (Sub.nil _)))))))))))))) ?_
                refine KA.region rfl ?_
                refine KOps.add (by first | omega | (simp; omega)) (by first | omega | (simp; omega)) ?_
                refine KOps.move ?_
                refine KOps.done ?_
                exact lpQ.normal (j + 1) (by repeat (first | exact Sub.nil _ | refine Sub.cons Look.eq ?_ | refine Sub.cons (Eq.trans Look.eq (congrArg (AV.int _) (by first | omega | (dsimp only; omega)))) ?_)) ⟨by omega, hnoj.more (fun h0 => by have := h0.2.1; omega), hS⟩ (by omega)
              · intro c67
                refine KA.skip ?_
                refine sqQ.normal ?_
                refine KA.sub (Sub.cons (t := 5) Look.eq (Sub.cons (t := 8) Look.eq (Sub.cons (t := 9) Look.eq (Sub.cons (t := 10) Look.eq (Sub.cons (t := 11) Look.eq (Sub.cons (t := 12) Look.eq (Sub.cons (t := 48) Look.eq (Sub.cons (t := 49) Look.eq (Sub.cons (t := 50) Look.eq (Sub.cons (t := 55) Look.eq (Sub.cons (t := 56) Look.eq (Sub.cons (t := 57) Look.eq (Sub.cons (t := 65) Look.eq (Sub.cons (t := 66) Look.eq (Sub.nil _))))))))))))))) ?_
                refine KA.seq ?_
                refine KA.region rfl ?_
                refine KOps.move ?_
                refine KOps.move ?_
                refine KOps.move ?_
                refine KOps.move ?_
                refine KOps.call rfl (path_c hp22 (hS.rd 1 rfl) (Rd.ext hS.keeps hv) (hS.rd 2 rfl) hB hw.len (by omega) (by omega) (A := fun _ => true) (fun _ _ _ _ => found1_c)) ?_
                rintro q h8 ⟨b, G9, hq, hG, hno, hyes⟩
                have hS9 := St.trans hS hG
                clear hS
                refine KOps.assign ?_
                refine KOps.done ?_
                refine sqQ.normal ?_
                refine KA.sub (Sub.cons (t := 5) Look.eq (Sub.cons (t := 8) Look.eq (Sub.cons (t := 9) Look.eq (Sub.cons (t := 10) Look.eq (Sub.cons (t := 11) Look.eq (Sub.cons (t := 14) Look.eq (Sub.cons (t := 48) Look.eq (Sub.cons (t := 49) Look.eq (Sub.cons (t := 50) Look.eq (Sub.cons (t := 55) Look.eq (Sub.cons (t := 56) Look.eq (Sub.cons (t := 57) Look.eq (Sub.cons (t := 65) Look.eq (Sub.cons (t := 66) Look.eq (Sub.nil _))))))))))))))) ?_
                refine KA.seq ?_
                refine KA.region rfl ?_
                refine KOps.move ?_
                refine KOps.neqNilm (p := (3, 4)) (by kernel_rfl) hq ?_
                refine KOps.done ?_
                refine sqQ.normal ?_
                refine KA.sub (Sub.cons (t := 5) Look.eq (Sub.cons (t := 8) Look.eq (Sub.cons (t := 9) Look.eq (Sub.cons (t := 10) Look.eq (Sub.cons (t := 11) Look.eq (Sub.cons (t := 14) Look.eq (Sub.cons (t := 48) Look.eq (Sub.cons (t := 49) Look.eq (Sub.cons (t := 50) Look.eq (Sub.cons (t := 55) Look.eq (Sub.cons (t := 56) Look.eq (Sub.cons (t := 57) Look.eq (Sub.cons (t := 65) Look.eq (Sub.cons (t := 66) Look.eq (Sub.cons (t := 74) Look.eq (Sub.nil _)))))))))))))))) ?_
                refine KA.condB ?_ ?_
                · intro c74
                  have hb : b = false := by simpa using c74
                  subst hb
                  obtain ⟨vs, E, p, rfl⟩ := hyes rfl
                  have hwp : 0 < ws.length := by
                    rcases Nat.eq_zero_or_pos ws.length with h0 | h0
                    · have h1 : kept ws n (i : Int) = 0 := by
                        show keptTo ws n (i : Int) ws.length = 0
                        rw [h0]; rfl
                      omega
                    · exact h0
                  refine KA.seq ?_
                  refine KA.region rfl ?_
                  refine KOps.move ?_
                  refine KOps.move ?_
                  refine KOps.call rfl (pushP_c hp22 (AV.mapNil_mp hq) hB hw hwp p (St.swap (A := [_, _]) (B := [_, _]) hS9)) ?_
                  rintro _ h10 hS
                  refine KOps.done ?_
                  refine sqQ.normal ?_
                  refine KA.sub (Sub.cons (t := 5) Look.eq (Sub.cons (t := 8) Look.eq (Sub.cons (t := 65) Look.eq (Sub.cons (t := 66) Look.eq (Sub.nil _))))) ?_
                  refine KA.exit ?_
                  refine blQ.exit rfl ?_
                  refine sqQ.exit ?_
                  refine lpQ.exit ?_
                  refine blQ.exit rfl ?_
                  refine blQ.exit rfl ?_
                  refine sqQ.exit ?_
                  refine lpQ.exit ?_
                  refine blQ.exit rfl ?_
                  refine sqQ.exit ?_
                  refine blQ.here ?_
                  have hd := dev_push (p.kept hw.len) (by omega) (by omega) (by omega) (by omega) r
                  rw [if_pos (by omega), if_pos (by omega)] at hd
                  exact lpQ.normal (pushE E n, vn) (by repeat (first | exact Sub.nil _ | refine Sub.cons Look.eq ?_ | refine Sub.cons (Eq.trans Look.eq (congrArg (AV.int _) (by first | omega | (dsimp only; omega)))) ?_)) ⟨p.within hw, St.mid (A := [_, _]) (B := [_]) hS⟩ (by dsimp only; omega)
                · intro c74
                  refine KA.skip ?_
                  refine blQ.normal ?_
                  refine sqQ.normal ?_
                  refine KA.sub (Sub.cons (t := 5) Look.eq (Sub.cons (t := 8) Look.eq (Sub.cons (t := 9) Look.eq (Sub.cons (t := 10) Look.eq (Sub.cons (t := 11) Look.eq (Sub.cons (t := 48) Look.eq (Sub.cons (t := 49) Look.eq (Sub.cons (t := 50) Look.eq (Sub.cons (t := 55) Look.eq (Sub.cons (t := 56) Look.eq (Sub.cons (t := 57) Look.eq (Sub.cons (t := 65) Look.eq (Sub.cons (t := 66) Look.eq (Sub.nil _)))))))))))))) ?_
                  refine KA.region rfl ?_
                  refine KOps.add (by first | omega | (simp; omega)) (by first | omega | (simp; omega)) ?_
                  refine KOps.move ?_
                  refine KOps.done ?_
                  exact lpQ.normal (j + 1) (by repeat (first | exact Sub.nil _ | refine Sub.cons Look.eq ?_ | refine Sub.cons (Eq.trans Look.eq (congrArg (AV.int _) (by first | omega | (dsimp only; omega)))) ?_)) ⟨by omega, hnoj.more (fun h0 => hno (by simpa using c74) h0.2.2), St.drop hS9⟩ (by omega)
            · intro g64
              have g64 := of_decide_eq_true g64
              refine KOps.guardNo (dj := 64) rfl rfl rfl ?_
              refine KOps.pickT ?_
              refine KOps.done ?_
              refine sqQ.normal ?_
              refine KA.sub (Sub.cons (t := 5) Look.eq (Sub.cons (t := 8) Look.eq (Sub.cons (t := 9) Look.eq (Sub.cons (t := 10) Look.eq (Sub.cons (t := 11) Look.eq (Sub.cons (t := 12) Look.eq (Sub.cons (t := 48) Look.eq (Sub.cons (t := 49) Look.eq (Sub.cons (t := 50) Look.eq (Sub.cons (t := 55) Look.eq (Sub.cons (t := 56) Look.eq (Sub.cons (t := 57) Look.eq (Sub.cons (t := 65) Look.eq (Sub.cons (t := 66) Look.eq (Sub.cons (t := 67) Look.eq (Sub.nil _)))))))))))))))) ?_
              refine KA.condT ?_
              refine KA.exit ?_
              refine sqQ.exit ?_
              refine blQ.here ?_
              refine sqQ.normal ?_
              refine KA.sub (Sub.cons (t := 5) Look.eq (Sub.cons (t := 8) Look.eq (Sub.cons (t := 9) Look.eq (Sub.cons (t := 10) Look.eq (Sub.cons (t := 11) Look.eq (Sub.cons (t := 48) Look.eq (Sub.cons (t := 49) Look.eq (Sub.cons (t := 50) Look.eq (Sub.cons (t := 55) Look.eq (Sub.cons (t := 56) Look.eq (Sub.cons (t := 57) Look.eq (Sub.cons (t := 65) Look.eq (Sub.cons (t := 66) Look.eq (Sub.nil _)))))))))))))) ?_
              refine KA.region rfl ?_
              refine KOps.add (by first | omega | (simp; omega)) (by first | omega | (simp; omega)) ?_
              refine KOps.move ?_
              refine KOps.done ?_
              exact lpQ.normal (j + 1) (by repeat (first | exact Sub.nil _ | refine Sub.cons Look.eq ?_ | refine Sub.cons (Eq.trans Look.eq (congrArg (AV.int _) (by first | omega | (dsimp only; omega)))) ?_)) ⟨by omega, hnoj.more (fun h0 => by have := h0.1; omega), hS⟩ (by omega)
          · intro c58
            refine KA.exit ?_
            refine sqQ.exit ?_
            refine lpQ.exit ?_
            refine blQ.here ?_
            refine blQ.normal ?_
            refine sqQ.normal ?_
            refine KA.sub (Sub.cons (t := 5) Look.eq (Sub.cons (t := 8) Look.eq (Sub.cons (t := 9) Look.eq (Sub.cons (t := 48) Look.eq (Sub.cons (t := 49) Look.eq (Sub.cons (t := 50) Look.eq (Sub.nil _))))))) ?_
            refine KA.region rfl ?_
            refine KOps.add (by first | omega | (simp; omega)) (by first | omega | (simp; omega)) ?_
            refine KOps.move ?_
            refine KOps.done ?_
            rw [show j = r by omega] at hnoj
            exact lpQ.normal (i + 1) (by repeat (first | exact Sub.nil _ | refine Sub.cons Look.eq ?_ | refine Sub.cons (Eq.trans Look.eq (congrArg (AV.int _) (by first | omega | (dsimp only; omega)))) ?_)) ⟨by omega, hnoj.row, hS⟩ (by omega)
        · intro c51
          refine KA.exit ?_
          refine sqQ.exit ?_
          refine lpQ.exit ?_
          refine blQ.here ?_
          refine sqQ.normal ?_
          refine KA.sub (Sub.nil _) ?_
          refine KA.seq ?_
          refine KA.region rfl ?_
          refine KOps.assign ?_
          refine KOps.assign ?_
          refine KOps.done ?_
          refine sqQ.normal ?_
          refine KA.ret ?_
          refine blQ.ret ?_
          refine lpQ.ret ?_
          refine blQ.ret ?_
          refine fnQ.retN ?_
          have hir : i = r := by omega
          subst hir
          have e0 := NoTo.lost c18 hw (keptL_dev (by simpa using c46)) hno0
          rw [e0]
          exact ⟨.nilp, rfl, hS.keeps, rfl, fun h0 => absurd h0 (by decide)⟩

end Go.Am


namespace Go.Am
theorem lo_exists {ws : List W} {i : Nat} (h : ∃ n, Flow ws n) (hi : i < ws.length) : ∃ v, IsLo ws i v := by
  obtain ⟨m, hm, hle⟩ := exists_min (P := fun n => Flow ws n) (fun n => (n.getD i 0 - (ws.getD i default).l).toNat) h
  refine ⟨m.getD i 0, ⟨m, hm, rfl⟩, fun n hn => ?_⟩
  have h1 := hle n hn
  have h2 := hm.lo i hi
  have h3 := hn.lo i hi
  omega
theorem hi_exists {ws : List W} {i : Nat} (h : ∃ n, Flow ws n) (hi : i < ws.length) : ∃ v, IsHi ws i v := by
  obtain ⟨m, hm, hle⟩ := exists_min (P := fun n => Flow ws n) (fun n => ((ws.getD i default).m - n.getD i 0).toNat) h
  refine ⟨m.getD i 0, ⟨m, hm, rfl⟩, fun n hn => ?_⟩
  have h1 := hle n hn
  have h2 := hm.hi i hi
  have h3 := hn.hi i hi
  omega
open Classical in
noncomputable def loOf (ws : List W) (i : Nat) : Int := if h : ∃ v, IsLo ws i v then Classical.choose h else 0
open Classical in
noncomputable def hiOf (ws : List W) (i : Nat) : Int := if h : ∃ v, IsHi ws i v then Classical.choose h else 0
theorem loOf_is {ws : List W} {i : Nat} (h : ∃ n, Flow ws n) (hi : i < ws.length) : IsLo ws i (loOf ws i) := by
  have h2 := lo_exists h hi
  unfold loOf
  rw [dif_pos h2]
  exact Classical.choose_spec h2
theorem hiOf_is {ws : List W} {i : Nat} (h : ∃ n, Flow ws n) (hi : i < ws.length) : IsHi ws i (hiOf ws i) := by
  have h2 := hi_exists h hi
  unfold hiOf
  rw [dif_pos h2]
  exact Classical.choose_spec h2
theorem Low.isLo {ws : List W} {i : Nat} {n : List Int} (hf : Flow ws n) (h : Low ws i (fun _ => true) n) : IsLo ws i (n.getD i 0) := ⟨⟨n, hf, rfl⟩, fun m hm => h m hm (fun _ _ hk => by cases hk)⟩
theorem High.isHi {ws : List W} {i : Nat} {n : List Int} (hf : Flow ws n) (h : High ws i (fun _ => true) n) : IsHi ws i (n.getD i 0) := ⟨⟨n, hf, rfl⟩, fun m hm => h m hm (fun _ _ hk => by cases hk)⟩
/-- The error of books and a way. -/
def askE (rm : Int) (ws : List W) (i : Int) : Int := if chkB rm ws = 0 then (if 0 ≤ i ∧ i ≤ (ws.length : Int) - 1 then agreeE rm ws else 2) else chkB rm ws
theorem ask_ok {rm : Int} {ws : List W} {i : Int} (h : askE rm ws i = 0) : agreeE rm ws = 0 ∧ 0 ≤ i ∧ i < ws.length := by
  unfold askE at h
  by_cases h1 : chkB rm ws = 0
  · rw [if_pos h1] at h
    by_cases h2 : 0 ≤ i ∧ i ≤ (ws.length : Int) - 1
    · rw [if_pos h2] at h; exact ⟨h, by omega, by omega⟩
    · rw [if_neg h2] at h; cases h
  · rw [if_neg h1] at h; exact absurd h h1

theorem span_c {h0 h : AHeap} {r : Nat} {i : Nat} {pf vW vn : AV} {ws : List W} {n : List Int} {tn : Bool} {G : List Obj} (hpf : AddrOf pf pf 0 0) (hv : Rd h0 vW 4 (flr wc ws)) (hB : BOk (r : Int) ws) (hfl : Flow ws n) (hi : i < ws.length) (hS : St h0 h (⟨pf, 0, [.int .i64 (r : Int), vW, vn], true⟩ :: ⟨vn, 1, ints n, tn⟩ :: G)) : ACalls Go.Proofs.Try.prog 23 [pf, .int .i64 (i : Int)] h (fun q h' => q = .tup [.int .i64 (loOf ws i), .int .i64 (hiOf ws i)] ∧ ∃ n', St h0 h' (⟨pf, 0, [.int .i64 (r : Int), vW, vn], true⟩ :: ⟨vn, 1, ints n', tn⟩ :: G) ∧ Flow ws n') := by
  refine KA.fn 27 [.tmp 4, .tmp 5] Go.Proofs.Try.func23 rfl (by decide) rfl rfl (Nat.le_of_ble_eq_true rfl) ?_
  show KA _ 27 _ _ [(0, pf), (1, .int .i64 (i : Int))] _
  refine KA.seq ?_
  refine KA.region rfl ?_
  refine KOps.assign ?_
  refine KOps.assign ?_
  refine KOps.done ?_
  refine sqQ.normal ?_
  refine KA.sub (Sub.cons (t := 0) Look.eq (Sub.cons (t := 1) Look.eq (Sub.nil _))) ?_
  refine KA.seq ?_
  refine KA.region rfl ?_
  refine KOps.move ?_
  refine KOps.move ?_
  refine KOps.call rfl (lower_c (i := i) (A := fun _ => true) hpf hv hB hfl hi (fun _ _ _ _ _ => span1_c) hS) ?_
  rintro _ h4 ⟨c2, hS4, hf2, hn2, hl2⟩
  clear hS
  have hS := hS4
  clear hS4
  have hcl := hf2.len
  have e1 := (hl2.isLo hf2).uniq (loOf_is ⟨_, hf2⟩ hi)
  refine KOps.done ?_
  refine sqQ.normal ?_
  refine KA.sub (Sub.cons (t := 0) Look.eq (Sub.cons (t := 1) Look.eq (Sub.nil _))) ?_
  refine KA.seq ?_
  refine KA.region rfl ?_
  refine KOps.move ?_
  refine KOps.nilP hpf ?_
  refine KOps.fieldAddr hpf ?_
  intro p11 hp11
  refine KOps.load hp11 (hS.rd 0 rfl) rfl ?_
  refine KOps.move ?_
  refine KOps.indexIJ (hS.rd 1 rfl) (j := i) (by first | omega | (simp; omega)) (by first | omega | (simp; omega)) ?_
  intro p14 hp14
  refine KOps.loadI hp14 (hS.rd 1 rfl) (by first | omega | (simp; omega)) ?_
  refine KOps.assign ?_
  refine KOps.done ?_
  refine sqQ.normal ?_
  refine KA.sub (Sub.cons (t := 0) Look.eq (Sub.cons (t := 1) Look.eq (Sub.cons (t := 4) Look.eq (Sub.nil _)))) ?_
  refine KA.seq ?_
  refine KA.region rfl ?_
  refine KOps.move ?_
  refine KOps.move ?_
  refine KOps.call rfl (raise_c (i := i) hpf hv hB hf2 hi hS) ?_
  rintro _ h5 ⟨c3, hS5, hf3, hn3, hl3⟩
  clear hS
  have hS := hS5
  clear hS5
  have hcl3 := hf3.len
  have e2 := (hl3.isHi hf3).uniq (hiOf_is ⟨_, hf3⟩ hi)
  refine KOps.done ?_
  refine sqQ.normal ?_
  refine KA.sub (Sub.cons (t := 0) Look.eq (Sub.cons (t := 1) Look.eq (Sub.cons (t := 4) Look.eq (Sub.nil _)))) ?_
  refine KA.seq ?_
  refine KA.draw [] mixed rfl (by kernel_rfl) ?_
  refine KOps.move ?_
  refine KOps.move ?_
  refine KOps.nilP hpf ?_
  refine KOps.fieldAddr hpf ?_
  intro p22 hp22
  refine KOps.load hp22 (hS.rd 0 rfl) rfl ?_
  refine KOps.move ?_
  refine KOps.indexIJ (hS.rd 1 rfl) (j := i) (by first | omega | (simp; omega)) (by first | omega | (simp; omega)) ?_
  intro p25 hp25
  refine KOps.loadI hp25 (hS.rd 1 rfl) (by first | omega | (simp; omega)) ?_
  refine KOps.assign ?_
  refine KOps.assign ?_
  refine KOps.done ?_
  refine sqQ.normal ?_
  refine KA.sub (Sub.cons (t := 4) Look.eq (Sub.cons (t := 5) Look.eq (Sub.nil _))) ?_
  refine KA.ret ?_
  refine fnQ.retN ?_
  exact ⟨by rw [← e1, ← e2], c3, hS, hf3⟩

theorem stFirst_c {h : AHeap} {rm : Int} {vW : AV} {ws : List W} (hv : Rd h vW 4 (flr wc ws)) : ACalls Go.Proofs.Try.prog 13 [.agg [.int .i64 rm, vW]] h (fun q h' => ∃ vo, q = .tup [vo, .int .i64 (agreeE rm ws)] ∧ St h h' [⟨vo, 1, ints (if agreeE rm ws = 0 then firstOf ws else []), true⟩]) := by
  refine KA.fn 20 [.tmp 2, .tmp 3] Go.Proofs.Try.func13 rfl (by decide) rfl rfl (Nat.le_of_ble_eq_true rfl) ?_
  have hS := St.refl h
  have hvo : vW.one = true := hv.one
  show KA _ 20 _ _ [(0, .agg [.int .i64 rm, vW])] _
  refine KA.seq ?_
  refine KA.region rfl ?_
  refine KOps.boxAll hS (by first | rfl | (simp [AV.one]; done) | (simp [AV.one]; assumption) | (simp [AV.one, *]; done)) ?_
  intro p1 h' hp1 hS
  refine KOps.assign ?_
  refine KOps.assign ?_
  refine KOps.done ?_
  refine sqQ.normal ?_
  refine KA.sub (Sub.cons (t := 1) Look.eq (Sub.nil _)) ?_
  refine KA.seq ?_
  refine KA.region rfl ?_
  refine KOps.loadAll hS (i := 0) rfl hp1 (by rfl) (by decide) ?_
  refine KOps.call rfl (found_c (Rd.ext hS.keeps hv)) ?_
  rintro _ h5 ⟨qp, rfl, hK, hqp, hyes⟩
  refine KOps.move ?_
  refine KOps.extract ?_
  refine KOps.extract ?_
  refine KOps.assign ?_
  refine KOps.assign ?_
  refine KOps.done ?_
  refine sqQ.normal ?_
  refine KA.sub (Sub.cons (t := 4) Look.eq (Sub.cons (t := 5) Look.eq (Sub.nil _))) ?_
  refine KA.seq ?_
  refine KA.seq ?_
  refine KA.region rfl ?_
  refine KOps.move ?_
  refine KOps.neq ?_
  refine KOps.done ?_
  refine sqQ.normal ?_
  refine KA.sub (Sub.cons (t := 4) Look.eq (Sub.cons (t := 5) Look.eq (Sub.cons (t := 12) Look.eq (Sub.nil _)))) ?_
  refine KA.condN ?_ ?_
  · intro c12
    refine KA.seq ?_
    refine KA.region rfl ?_
    refine KOps.move ?_
    refine KOps.assign ?_
    refine KOps.assign ?_
    refine KOps.done ?_
    refine sqQ.normal ?_
    refine KA.sub (Sub.cons (t := 2) Look.eq (Sub.cons (t := 3) Look.eq (Sub.nil _))) ?_
    refine KA.ret ?_
    refine sqQ.ret ?_
    refine fnQ.retN ?_
    rw [if_neg c12]
    exact ⟨_, rfl, St.trans (St.ofK (hS.keeps.trans hK)) (St.addNil 1 true (St.refl _))⟩
  · intro c12
    have c12 : agreeE rm ws = 0 := c12
    have hB := (agree_ok c12).1
    obtain ⟨r, rfl⟩ : ∃ r : Nat, rm = (r : Int) := ⟨rm.toNat, by have := hB.r2; omega⟩
    obtain ⟨n, vn, hpf, hf, hSF⟩ := hyes c12
    have hS0 : St _ _ (_ :: _ :: _) := St.trans hS hSF
    clear hS
    have hS := hS0
    clear hS0
    refine KA.skip ?_
    refine sqQ.normal ?_
    refine KA.sub (Sub.cons (t := 4) Look.eq (Sub.nil _)) ?_
    refine KA.seq ?_
    refine KA.region rfl ?_
    refine KOps.move ?_
    refine KOps.call rfl (first_c (r := r) (i := 0) hpf hv hB hf (Nat.zero_le _) hS) ?_
    rintro _ h6 ⟨c2, hS6, hft⟩
    clear hS
    have hS := hS6
    clear hS6
    have e1 := hft.lex.uniq (firstOf_is ⟨_, hft.fl⟩)
    refine KOps.done ?_
    refine sqQ.normal ?_
    refine KA.sub (Sub.cons (t := 4) Look.eq (Sub.nil _)) ?_
    refine KA.seq ?_
    refine KA.region rfl ?_
    refine KOps.move ?_
    refine KOps.nilP hpf ?_
    refine KOps.fieldAddr hpf ?_
    intro p18 hp18
    refine KOps.load hp18 (hS.rd 0 rfl) rfl ?_
    refine KOps.assign ?_
    refine KOps.assign ?_
    refine KOps.done ?_
    refine sqQ.normal ?_
    refine KA.sub (Sub.cons (t := 2) Look.eq (Sub.cons (t := 3) Look.eq (Sub.nil _))) ?_
    refine KA.ret ?_
    refine fnQ.retN ?_
    rw [if_pos c12, ← e1, c12]
    exact ⟨_, rfl, St.pick [1] (by decide) rfl hS⟩

end Go.Am


namespace Go.Am
abbrev pc (p : Int × Int) : List AV := ints [p.1, p.2]
theorem pc_len (p : Int × Int) : (pc p).length = 2 := rfl
noncomputable def spansTo (ws : List W) (k : Nat) : List (Int × Int) := (List.range k).map fun i => (loOf ws i, hiOf ws i)
theorem spansTo_len (ws : List W) (k : Nat) : (spansTo ws k).length = k := by simp [spansTo]
theorem spansTo_succ (ws : List W) (k : Nat) : spansTo ws (k + 1) = spansTo ws k ++ [(loOf ws k, hiOf ws k)] := by simp [spansTo, List.range_succ]
theorem asked_c {h : AHeap} {rm i : Int} {vW : AV} {ws : List W} (hv : Rd h vW 4 (flr wc ws)) : ACalls Go.Proofs.Try.prog 67 [.agg [.int .i64 rm, vW], .int .i64 i] h (fun q h' => ∃ qp, q = .tup [qp, .int .i64 (askE rm ws i)] ∧ Keeps h h' ∧ qp.one = true ∧ (askE rm ws i = 0 → ∃ n vn, AddrOf qp qp 0 0 ∧ Flow ws n ∧ St h h' [⟨qp, 0, [.int .i64 rm, vW, vn], true⟩, ⟨vn, 1, ints n, true⟩])) := by
  refine KA.fn 24 [.tmp 4, .tmp 5] Go.Proofs.Try.func67 rfl (by decide) rfl rfl (Nat.le_of_ble_eq_true rfl) ?_
  have hS := St.refl h
  have hvo : vW.one = true := hv.one
  show KA _ 24 _ _ [(0, .agg [.int .i64 rm, vW]), (1, .int .i64 i)] _
  refine KA.seq ?_
  refine KA.region rfl ?_
  refine KOps.boxAll hS (by first | rfl | (simp [AV.one]; done) | (simp [AV.one]; assumption) | (simp [AV.one, *]; done)) ?_
  intro p2 h' hp2 hS
  refine KOps.assign ?_
  refine KOps.assign ?_
  refine KOps.done ?_
  refine sqQ.normal ?_
  refine KA.sub (Sub.cons (t := 1) Look.eq (Sub.cons (t := 2) Look.eq (Sub.nil _))) ?_
  refine KA.seq ?_
  refine KA.seq ?_
  refine KA.region rfl ?_
  refine KOps.loadAll hS (i := 0) rfl hp2 (by rfl) (by decide) ?_
  refine KOps.call rfl (check_c (Rd.ext hS.keeps hv)) ?_
  rintro _ h5 ⟨rfl, hK⟩
  have hS0 : St _ _ (_ :: _) := St.trans hS (St.ofK hK)
  clear hS
  have hS := hS0
  clear hS0
  refine KOps.assign ?_
  refine KOps.done ?_
  refine sqQ.normal ?_
  refine KA.sub (Sub.cons (t := 1) Look.eq (Sub.cons (t := 2) Look.eq (Sub.cons (t := 6) Look.eq (Sub.nil _)))) ?_
  refine KA.seq ?_
  refine KA.region rfl ?_
  refine KOps.move ?_
  refine KOps.eql ?_
  refine KOps.move ?_
  refine KOps.guardB (dj := 11) rfl rfl true false rfl ?_ ?_
  · intro g11
    have g11 := of_decide_eq_true g11
    have hwl := (BOk.of g11).len
    refine KOps.move ?_
    refine KOps.guardYes (dj := 11) rfl rfl ?_
    refine KOps.fieldAddr hp2 ?_
    intro p13 hp13
    refine KOps.guardYes (dj := 11) rfl rfl ?_
    refine KOps.load hp13 (hS.rd 0 rfl) rfl ?_
    refine KOps.guardYes (dj := 11) rfl rfl ?_
    refine KOps.lenF wc_len (Rd.ext hS.keeps hv) ?_
    refine KOps.guardYes (dj := 11) rfl rfl ?_
    refine KOps.sub (by first | omega | (simp; omega)) (by first | omega | (simp; omega)) ?_
    refine KOps.guardYes (dj := 11) rfl rfl ?_
    refine KOps.call rfl (between_c) ?_
    rintro _ _ ⟨rfl, rfl⟩
    refine KOps.guardYes (dj := 11) rfl rfl ?_
    refine KOps.not ?_
    refine KOps.pickT ?_
    refine KOps.done ?_
    refine sqQ.normal ?_
    refine KA.sub (Sub.cons (t := 2) Look.eq (Sub.cons (t := 19) Look.eq (Sub.nil _))) ?_
    refine KA.condN ?_ ?_
    · intro c19
      refine KA.seq ?_
      refine KA.region rfl ?_
      refine KOps.assign ?_
      refine KOps.assign ?_
      refine KOps.done ?_
      refine sqQ.normal ?_
      refine KA.sub (Sub.cons (t := 4) Look.eq (Sub.cons (t := 5) Look.eq (Sub.nil _))) ?_
      refine KA.ret ?_
      refine sqQ.ret ?_
      refine fnQ.retN ?_
      have e0 : askE rm ws i = 2 := by rw [askE, if_pos g11, if_neg (by omega)]
      rw [e0]
      exact ⟨_, rfl, hS.keeps, rfl, fun h0 => absurd h0 (by decide)⟩
    · intro c19
      refine KA.skip ?_
      refine sqQ.normal ?_
      refine KA.sub (Sub.cons (t := 2) Look.eq (Sub.nil _)) ?_
      refine KA.seq ?_
      refine KA.region rfl ?_
      refine KOps.loadAll hS (i := 0) rfl hp2 (by rfl) (by decide) ?_
      refine KOps.call rfl (found_c (Rd.ext hS.keeps hv)) ?_
      rintro _ h6 ⟨qp, rfl, hK2, hqp, hyes⟩
      refine KOps.extract ?_
      refine KOps.extract ?_
      refine KOps.assign ?_
      refine KOps.assign ?_
      refine KOps.done ?_
      refine sqQ.normal ?_
      refine KA.sub (Sub.cons (t := 4) Look.eq (Sub.cons (t := 5) Look.eq (Sub.nil _))) ?_
      refine KA.ret ?_
      refine fnQ.retN ?_
      have e0 : askE rm ws i = agreeE rm ws := by rw [askE, if_pos g11, if_pos (by omega)]
      rw [e0]
      refine ⟨_, rfl, hS.keeps.trans hK2, hqp, fun h0 => ?_⟩
      obtain ⟨n, vn, hpf, hf, hSF⟩ := hyes h0
      exact ⟨n, vn, hpf, hf, St.pick [0, 1] (by decide) rfl (St.trans hS hSF : St _ _ (_ :: _ :: _))⟩
  · intro g11
    have g11 := of_decide_eq_false g11
    refine KOps.guardNo (dj := 11) rfl rfl rfl ?_
    refine KOps.guardNo (dj := 11) rfl rfl rfl ?_
    refine KOps.guardNo (dj := 11) rfl rfl rfl ?_
    refine KOps.guardNo (dj := 11) rfl rfl rfl ?_
    refine KOps.guardNo (dj := 11) rfl rfl rfl ?_
    refine KOps.guardNo (dj := 11) rfl rfl rfl ?_
    refine KOps.pickF ?_
    refine KOps.done ?_
    refine sqQ.normal ?_
    refine KA.sub (Sub.cons (t := 2) Look.eq (Sub.cons (t := 19) Look.eq (Sub.nil _))) ?_
    refine KA.condF ?_
    refine KA.skip ?_
    refine sqQ.normal ?_
    refine KA.sub (Sub.cons (t := 2) Look.eq (Sub.nil _)) ?_
    refine KA.seq ?_
    refine KA.region rfl ?_
    refine KOps.loadAll hS (i := 0) rfl hp2 (by rfl) (by decide) ?_
    refine KOps.call rfl (found_c (Rd.ext hS.keeps hv)) ?_
    rintro _ h6 ⟨qp, rfl, hK2, hqp, hyes⟩
    refine KOps.extract ?_
    refine KOps.extract ?_
    refine KOps.assign ?_
    refine KOps.assign ?_
    refine KOps.done ?_
    refine sqQ.normal ?_
    refine KA.sub (Sub.cons (t := 4) Look.eq (Sub.cons (t := 5) Look.eq (Sub.nil _))) ?_
    refine KA.ret ?_
    refine fnQ.retN ?_
    have e0 : askE rm ws i = agreeE rm ws := by rw [askE, if_neg g11, agreeE, if_neg g11]
    rw [e0]
    refine ⟨_, rfl, hS.keeps.trans hK2, hqp, fun h0 => ?_⟩
    obtain ⟨n, vn, hpf, hf, hSF⟩ := hyes h0
    exact ⟨n, vn, hpf, hf, St.pick [0, 1] (by decide) rfl (St.trans hS hSF : St _ _ (_ :: _ :: _))⟩

theorem stSpan_c {h : AHeap} {rm i : Int} {vW : AV} {ws : List W} (hv : Rd h vW 4 (flr wc ws)) : ACalls Go.Proofs.Try.prog 39 [.agg [.int .i64 rm, vW], .int .i64 i] h (fun q h' => q = .tup [.int .i64 (if askE rm ws i = 0 then loOf ws i.toNat else 0), .int .i64 (if askE rm ws i = 0 then hiOf ws i.toNat else 0), .int .i64 (askE rm ws i)] ∧ Keeps h h') := by
  refine KA.fn 25 [.tmp 4, .tmp 5, .tmp 6] Go.Proofs.Try.func39 rfl (by decide) rfl rfl (Nat.le_of_ble_eq_true rfl) ?_
  have hS := St.refl h
  have hvo : vW.one = true := hv.one
  show KA _ 25 _ _ [(0, .agg [.int .i64 rm, vW]), (1, .int .i64 i)] _
  refine KA.seq ?_
  refine KA.region rfl ?_
  refine KOps.boxAll hS (by first | rfl | (simp [AV.one]; done) | (simp [AV.one]; assumption) | (simp [AV.one, *]; done)) ?_
  intro p2 h' hp2 hS
  refine KOps.assign ?_
  refine KOps.assign ?_
  refine KOps.assign ?_
  refine KOps.done ?_
  refine sqQ.normal ?_
  refine KA.sub (Sub.cons (t := 1) Look.eq (Sub.cons (t := 2) Look.eq (Sub.nil _))) ?_
  refine KA.seq ?_
  refine KA.region rfl ?_
  refine KOps.loadAll hS (i := 0) rfl hp2 (by rfl) (by decide) ?_
  refine KOps.move ?_
  refine KOps.call rfl (asked_c (Rd.ext hS.keeps hv)) ?_
  rintro _ h5 ⟨qp, rfl, hK, hqp, hyes⟩
  refine KOps.move ?_
  refine KOps.extract ?_
  refine KOps.extract ?_
  refine KOps.assign ?_
  refine KOps.assign ?_
  refine KOps.done ?_
  refine sqQ.normal ?_
  refine KA.sub (Sub.cons (t := 1) Look.eq (Sub.cons (t := 6) Look.eq (Sub.cons (t := 7) Look.eq (Sub.nil _)))) ?_
  refine KA.seq ?_
  refine KA.seq ?_
  refine KA.region rfl ?_
  refine KOps.move ?_
  refine KOps.neq ?_
  refine KOps.done ?_
  refine sqQ.normal ?_
  refine KA.sub (Sub.cons (t := 1) Look.eq (Sub.cons (t := 6) Look.eq (Sub.cons (t := 7) Look.eq (Sub.cons (t := 15) Look.eq (Sub.nil _))))) ?_
  refine KA.condN ?_ ?_
  · intro c15
    refine KA.seq ?_
    refine KA.region rfl ?_
    refine KOps.move ?_
    refine KOps.assign ?_
    refine KOps.assign ?_
    refine KOps.assign ?_
    refine KOps.done ?_
    refine sqQ.normal ?_
    refine KA.sub (Sub.cons (t := 4) Look.eq (Sub.cons (t := 5) Look.eq (Sub.cons (t := 6) Look.eq (Sub.nil _)))) ?_
    refine KA.ret ?_
    refine sqQ.ret ?_
    refine fnQ.retN ?_
    rw [if_neg c15, if_neg c15]
    exact ⟨rfl, hS.keeps.trans hK⟩
  · intro c15
    obtain ⟨he, hi0, hi1⟩ := ask_ok c15
    have hB := (agree_ok he).1
    obtain ⟨r, rfl⟩ : ∃ r : Nat, rm = (r : Int) := ⟨rm.toNat, by have := hB.r2; omega⟩
    obtain ⟨j, rfl⟩ : ∃ j : Nat, i = (j : Int) := ⟨i.toNat, by omega⟩
    obtain ⟨n, vn, hpf, hf, hSF⟩ := hyes c15
    have hS0 : St _ _ (_ :: _ :: _) := St.trans hS hSF
    clear hS
    have hS := hS0
    clear hS0
    refine KA.skip ?_
    refine sqQ.normal ?_
    refine KA.sub (Sub.cons (t := 1) Look.eq (Sub.cons (t := 7) Look.eq (Sub.nil _))) ?_
    refine KA.seq ?_
    refine KA.region rfl ?_
    refine KOps.move ?_
    refine KOps.move ?_
    refine KOps.call rfl (span_c (r := r) (i := j) hpf hv hB hf (by omega) hS) ?_
    rintro _ h6 ⟨rfl, c2, hS6, hf6⟩
    refine KOps.move ?_
    refine KOps.extract ?_
    refine KOps.extract ?_
    refine KOps.assign ?_
    refine KOps.assign ?_
    refine KOps.done ?_
    refine sqQ.normal ?_
    refine KA.sub (Sub.cons (t := 4) Look.eq (Sub.cons (t := 5) Look.eq (Sub.nil _))) ?_
    refine KA.seq ?_
    refine KA.region rfl ?_
    refine KOps.move ?_
    refine KOps.move ?_
    refine KOps.assign ?_
    refine KOps.assign ?_
    refine KOps.assign ?_
    refine KOps.done ?_
    refine sqQ.normal ?_
    refine KA.sub (Sub.cons (t := 4) Look.eq (Sub.cons (t := 5) Look.eq (Sub.cons (t := 6) Look.eq (Sub.nil _)))) ?_
    refine KA.ret ?_
    refine fnQ.retN ?_
    rw [if_pos c15, if_pos c15, c15]
    exact ⟨rfl, hS6.keeps⟩

end Go.Am


namespace Go.Am

theorem stSpans_c {h : AHeap} {rm : Int} {vW : AV} {ws : List W} (hv : Rd h vW 4 (flr wc ws)) : ACalls Go.Proofs.Try.prog 8 [.agg [.int .i64 rm, vW]] h (fun q h' => ∃ vo, q = .tup [vo, .int .i64 (agreeE rm ws)] ∧ St h h' [⟨vo, 2, flr pc (if agreeE rm ws = 0 then spansTo ws ws.length else []), true⟩]) := by
  refine KA.fn 38 [.tmp 2, .tmp 3] Go.Proofs.Try.func8 rfl (by decide) rfl rfl (Nat.le_of_ble_eq_true rfl) ?_
  have hS := St.refl h
  have hvo : vW.one = true := hv.one
  show KA _ 38 _ _ [(0, .agg [.int .i64 rm, vW])] _
  refine KA.seq ?_
  refine KA.region rfl ?_
  refine KOps.boxAll hS (by first | rfl | (simp [AV.one]; done) | (simp [AV.one]; assumption) | (simp [AV.one, *]; done)) ?_
  intro p1 h' hp1 hS
  refine KOps.assign ?_
  refine KOps.assign ?_
  refine KOps.done ?_
  refine sqQ.normal ?_
  refine KA.sub (Sub.cons (t := 1) Look.eq (Sub.nil _)) ?_
  refine KA.seq ?_
  refine KA.region rfl ?_
  refine KOps.loadAll hS (i := 0) rfl hp1 (by rfl) (by decide) ?_
  refine KOps.call rfl (found_c (Rd.ext hS.keeps hv)) ?_
  rintro _ h5 ⟨qp, rfl, hK, hqp, hyes⟩
  refine KOps.move ?_
  refine KOps.extract ?_
  refine KOps.extract ?_
  refine KOps.assign ?_
  refine KOps.assign ?_
  refine KOps.done ?_
  refine sqQ.normal ?_
  refine KA.sub (Sub.cons (t := 1) Look.eq (Sub.cons (t := 4) Look.eq (Sub.cons (t := 5) Look.eq (Sub.nil _)))) ?_
  refine KA.seq ?_
  refine KA.seq ?_
  refine KA.region rfl ?_
  refine KOps.move ?_
  refine KOps.neq ?_
  refine KOps.done ?_
  refine sqQ.normal ?_
  refine KA.sub (Sub.cons (t := 1) Look.eq (Sub.cons (t := 4) Look.eq (Sub.cons (t := 5) Look.eq (Sub.cons (t := 16) Look.eq (Sub.nil _))))) ?_
  refine KA.condN ?_ ?_
  · intro c16
    refine KA.seq ?_
    refine KA.region rfl ?_
    refine KOps.move ?_
    refine KOps.assign ?_
    refine KOps.assign ?_
    refine KOps.done ?_
    refine sqQ.normal ?_
    refine KA.sub (Sub.cons (t := 2) Look.eq (Sub.cons (t := 3) Look.eq (Sub.nil _))) ?_
    refine KA.ret ?_
    refine sqQ.ret ?_
    refine fnQ.retN ?_
    rw [if_neg c16]
    exact ⟨_, rfl, St.trans (St.ofK (hS.keeps.trans hK)) (St.addNil 2 true (St.refl _))⟩
  · intro c16
    have hB := (agree_ok c16).1
    have hwl := hB.len
    obtain ⟨r, rfl⟩ : ∃ r : Nat, rm = (r : Int) := ⟨rm.toNat, by have := hB.r2; omega⟩
    obtain ⟨n, vn, hpf, hf, hSF⟩ := hyes c16
    have hS0 : St _ _ (_ :: _ :: _) := St.trans hS hSF
    clear hS
    have hS := hS0
    clear hS0
    refine KA.skip ?_
    refine sqQ.normal ?_
    refine KA.sub (Sub.cons (t := 1) Look.eq (Sub.cons (t := 4) Look.eq (Sub.nil _))) ?_
    refine KA.seq ?_
    refine KA.region rfl ?_
    refine KOps.assign ?_
    refine KOps.done ?_
    refine sqQ.normal ?_
    refine KA.seq ?_
    refine KA.seq ?_
    refine KA.region rfl ?_
    refine KOps.fieldAddr hp1 ?_
    intro p18 hp18
    refine KOps.load hp18 (hS.rd 2 rfl) rfl ?_
    refine KOps.lenF wc_len (Rd.ext hS.keeps hv) ?_
    refine KOps.move ?_
    refine KOps.done ?_
    refine sqQ.normal ?_
    refine KA.sub (Sub.cons (t := 4) Look.eq (Sub.cons (t := 6) Look.eq (Sub.cons (t := 20) Look.eq (Sub.cons (t := 21) Look.eq (Sub.nil _))))) ?_
    refine KA.block ?_
    refine KA.loop (X := Nat × AV × List Int) (fun x => [(4, qp), (6, x.2.1), (20, .int .i64 (ws.length : Int)), (21, .int .i64 (x.1 : Int))]) (fun x h' => x.1 ≤ ws.length ∧ Flow ws x.2.2 ∧ St h h' [⟨qp, 0, [.int .i64 (r : Int), vW, vn], true⟩, ⟨vn, 1, ints x.2.2, true⟩, ⟨p1, 0, [.int .i64 (r : Int), vW], true⟩, ⟨x.2.1, 2, flr pc (spansTo ws x.1), true⟩]) (fun x => ws.length - x.1) (0, .nils, n) (by repeat (first | exact Sub.nil _ | refine Sub.cons Look.eq ?_ | refine Sub.cons (Eq.trans Look.eq (congrArg (AV.int _) (by first | omega | (dsimp only; omega)))) ?_)) ?_ ?_
    · exact ⟨Nat.zero_le _, hf, St.addNil 2 true hS⟩
    rintro ⟨i, vo, n⟩ h9 ⟨hi, hf, hS⟩
    dsimp only at hi hf hS ⊢
    refine KA.seq ?_
    refine KA.region rfl ?_
    refine KOps.lss ?_
    refine KOps.done ?_
    refine sqQ.normal ?_
    refine KA.seq ?_
    refine KA.condD ?_ ?_
    · intro c22
      refine KA.skip ?_
      refine sqQ.normal ?_
      refine KA.sub (Sub.cons (t := 4) Look.eq (Sub.cons (t := 6) Look.eq (Sub.cons (t := 20) Look.eq (Sub.cons (t := 21) Look.eq (Sub.nil _))))) ?_
      refine KA.seq ?_
      refine KA.block ?_
      refine KA.seq ?_
      refine KA.region rfl ?_
      refine KOps.move ?_
      refine KOps.assign ?_
      refine KOps.done ?_
      refine sqQ.normal ?_
      refine KA.sub (Sub.cons (t := 4) Look.eq (Sub.cons (t := 6) Look.eq (Sub.cons (t := 7) Look.eq (Sub.cons (t := 20) Look.eq (Sub.cons (t := 21) Look.eq (Sub.nil _)))))) ?_
      refine KA.seq ?_
      refine KA.region rfl ?_
      refine KOps.move ?_
      refine KOps.move ?_
      refine KOps.call rfl (span_c (r := r) (i := i) hpf hv hB hf (by omega) hS) ?_
      rintro _ h6 ⟨rfl, n2, hS6, hf6⟩
      clear hS
      have hS := hS6
      clear hS6
      refine KOps.move ?_
      refine KOps.extract ?_
      refine KOps.extract ?_
      refine KOps.assign ?_
      refine KOps.assign ?_
      refine KOps.done ?_
      refine sqQ.normal ?_
      refine KA.sub (Sub.cons (t := 4) Look.eq (Sub.cons (t := 6) Look.eq (Sub.cons (t := 8) Look.eq (Sub.cons (t := 9) Look.eq (Sub.cons (t := 20) Look.eq (Sub.cons (t := 21) Look.eq (Sub.nil _))))))) ?_
      refine KA.region rfl ?_
      refine KOps.move ?_
      refine KOps.move ?_
      refine KOps.move ?_
      refine KOps.buildS2 (z0 := .int .i64 0) (z1 := .int .i64 0) (by kernel_rfl) (by rfl) (by kernel_rfl) (by kernel_rfl) (by kernel_rfl) (by first | rfl | assumption) (by first | rfl | assumption) ?_
      refine KOps.buildSliceS (cs := [.int .i64 (loOf ws i), .int .i64 (hiOf ws i)]) hS rfl rfl rfl (by decide) ?_
      intro v34 h' hS
      refine KOps.append hS (fun _ => rfl) (i := 4) rfl (a := i) (by rw [flr_len pc_len, spansTo_len]) (hS.rd 0 rfl) (b := 1) rfl rfl (by omega) ?_
      intro r35 h' hS
      simp only [List.set_cons_zero, List.set_cons_succ, Nat.zero_add] at hS
      have hr35 : r35.one = true := St.one hS (k := 4) rfl
      have hS0 := St.tail hS
      clear hS
      have hS := hS0
      clear hS0
      refine KOps.assign ?_
      refine KOps.done ?_
      refine blQ.normal ?_
      refine sqQ.normal ?_
      refine KA.sub (Sub.cons (t := 4) Look.eq (Sub.cons (t := 6) Look.eq (Sub.cons (t := 20) Look.eq (Sub.cons (t := 21) Look.eq (Sub.nil _))))) ?_
      refine KA.region rfl ?_
      refine KOps.add (by first | omega | (simp; omega)) (by first | omega | (simp; omega)) ?_
      refine KOps.move ?_
      refine KOps.done ?_
      rw [show ([.int .i64 (loOf ws i), .int .i64 (hiOf ws i)] : List AV) = pc (loOf ws i, hiOf ws i) from rfl, flr_snoc, ← spansTo_succ] at hS
      exact lpQ.normal (i + 1, r35, n2) (by repeat (first | exact Sub.nil _ | refine Sub.cons Look.eq ?_ | refine Sub.cons (Eq.trans Look.eq (congrArg (AV.int _) (by first | omega | (dsimp only; omega)))) ?_)) ⟨by dsimp only; omega, hf6, hS⟩ (by dsimp only; omega)
    · intro c22
      refine KA.exit ?_
      refine sqQ.exit ?_
      refine lpQ.exit ?_
      refine blQ.here ?_
      refine sqQ.normal ?_
      refine KA.sub (Sub.cons (t := 6) Look.eq (Sub.nil _)) ?_
      refine KA.seq ?_
      refine KA.region rfl ?_
      refine KOps.move ?_
      refine KOps.assign ?_
      refine KOps.assign ?_
      refine KOps.done ?_
      refine sqQ.normal ?_
      refine KA.sub (Sub.cons (t := 2) Look.eq (Sub.cons (t := 3) Look.eq (Sub.nil _))) ?_
      refine KA.ret ?_
      refine fnQ.retN ?_
      rw [if_pos c16, c16, show ws.length = i by omega]
      exact ⟨_, rfl, St.pick [3] (by decide) rfl hS⟩

end Go.Am


namespace Go.Am
section
variable {rm : Int} {ws : List W} {l : List Int}
theorem verE_chk (h : ¬ chkB rm ws = 0) : verE rm ws l = chkB rm ws := by rw [verE, if_pos h]
theorem verE_len (h : chkB rm ws = 0) (h2 : ¬ l.length = ws.length) : verE rm ws l = 5 := by rw [verE, if_neg (fun h3 => h3 h), if_pos h2]
theorem verE_in (h : chkB rm ws = 0) (h2 : l.length = ws.length) {i : Nat} (hi : i < ws.length) (h3 : ¬ ((ws.getD i default).l ≤ l.getD i 0 ∧ l.getD i 0 ≤ (ws.getD i default).m)) : verE rm ws l = 1 := by
  rw [verE, if_neg (fun h3 => h3 h), if_neg (fun h4 => h4 h2), if_pos (withinB_no hi h3)]
theorem verE_end (h : chkB rm ws = 0) (h2 : l.length = ws.length) (h3 : ∀ i, i < ws.length → (ws.getD i default).l ≤ l.getD i 0 ∧ l.getD i 0 ≤ (ws.getD i default).m) : verE rm ws l = if zeroB rm.toNat ws l = false then 17 else 0 := by
  rw [verE, if_neg (fun h3 => h3 h), if_neg (fun h4 => h4 h2), withinB_iff.2 h3, if_neg (by decide)]
theorem in_bound (hB : BOk rm ws) (h3 : ∀ i, i < ws.length → (ws.getD i default).l ≤ l.getD i 0 ∧ l.getD i 0 ≤ (ws.getD i default).m) : ∀ i, i < ws.length → 0 ≤ l.getD i 0 ∧ l.getD i 0 ≤ 99 := by
  intro i hi
  have h1 := h3 i hi
  have h4 := hB.way i hi
  have h5 := h4.l0
  have h6 := h4.m1
  omega
theorem any_zero (r : Nat) (ws : List W) (l : List Int) : ((keptL r ws l ws.length).any fun x => !decide (x = 0)) = !zeroB r ws l := by
  unfold keptL zeroB
  rw [List.any_map]
  induction List.range r with
  | nil => rfl
  | cons a t ih => rw [List.any_cons, List.all_cons, ih]; simp
end

theorem verify_c {h : AHeap} {rm : Int} {vW vn : AV} {ws : List W} {l : List Int} (hv : Rd h vW 4 (flr wc ws)) (hn : Row h vn l) : ACalls Go.Proofs.Try.prog 9 [.agg [.int .i64 rm, vW], vn] h (fun q h' => q = .int .i64 (verE rm ws l) ∧ Keeps h h') := by
  refine KA.fn 52 [.tmp 4] Go.Proofs.Try.func9 rfl (by decide) rfl rfl (Nat.le_of_ble_eq_true rfl) ?_
  have hS := St.refl h
  have hvo : vW.one = true := hv.one
  have hno : vn.one = true := hn.one
  show KA _ 52 _ _ [(0, .agg [.int .i64 rm, vW]), (1, vn)] _
  refine KA.seq ?_
  refine KA.region rfl ?_
  refine KOps.boxAll hS (by first | rfl | (simp [AV.one]; done) | (simp [AV.one]; assumption) | (simp [AV.one, *]; done)) ?_
  intro p2 h' hp2 hS
  refine KOps.assign ?_
  refine KOps.done ?_
  refine sqQ.normal ?_
  refine KA.sub (Sub.cons (t := 1) Look.eq (Sub.cons (t := 2) Look.eq (Sub.nil _))) ?_
  refine KA.seq ?_
  refine KA.region rfl ?_
  refine KOps.loadAll hS (i := 0) rfl hp2 (by rfl) (by decide) ?_
  refine KOps.call rfl (check_c (Rd.ext hS.keeps hv)) ?_
  rintro _ h5 ⟨rfl, hK⟩
  have hS0 : St _ _ (_ :: _) := St.trans hS (St.ofK hK)
  clear hS
  have hS := hS0
  clear hS0
  refine KOps.assign ?_
  refine KOps.done ?_
  refine sqQ.normal ?_
  refine KA.sub (Sub.cons (t := 1) Look.eq (Sub.cons (t := 2) Look.eq (Sub.cons (t := 5) Look.eq (Sub.nil _)))) ?_
  refine KA.seq ?_
  refine KA.block ?_
  refine KA.seq ?_
  refine KA.region rfl ?_
  refine KOps.move ?_
  refine KOps.neq ?_
  refine KOps.assign ?_
  refine KOps.done ?_
  refine sqQ.normal ?_
  refine KA.sub (Sub.cons (t := 1) Look.eq (Sub.cons (t := 2) Look.eq (Sub.cons (t := 5) Look.eq (Sub.cons (t := 11) Look.eq (Sub.nil _))))) ?_
  refine KA.condN ?_ ?_
  · intro c11
    refine KA.seq ?_
    refine KA.region rfl ?_
    refine KOps.move ?_
    refine KOps.assign ?_
    refine KOps.done ?_
    refine sqQ.normal ?_
    refine KA.sub (Sub.cons (t := 4) Look.eq (Sub.nil _)) ?_
    refine KA.ret ?_
    refine blQ.ret ?_
    refine sqQ.ret ?_
    refine fnQ.ret1 ?_
    rw [verE_chk c11]
    exact ⟨rfl, hS.keeps⟩
  · intro c11
    refine KA.seq ?_
    refine KA.region rfl ?_
    refine KOps.move ?_
    refine KOps.lenI (Row.ext hS.keeps hn) ?_
    refine KOps.fieldAddr hp2 ?_
    intro p18 hp18
    refine KOps.load hp18 (hS.rd 0 rfl) rfl ?_
    refine KOps.lenF wc_len (Rd.ext hS.keeps hv) ?_
    refine KOps.neq ?_
    refine KOps.assign ?_
    refine KOps.done ?_
    refine sqQ.normal ?_
    refine KA.sub (Sub.cons (t := 1) Look.eq (Sub.cons (t := 2) Look.eq (Sub.cons (t := 15) Look.eq (Sub.nil _)))) ?_
    refine KA.condN ?_ ?_
    · intro c15
      refine KA.seq ?_
      refine KA.region rfl ?_
      refine KOps.assign ?_
      refine KOps.done ?_
      refine sqQ.normal ?_
      refine KA.sub (Sub.cons (t := 4) Look.eq (Sub.nil _)) ?_
      refine KA.ret ?_
      refine blQ.ret ?_
      refine sqQ.ret ?_
      refine fnQ.ret1 ?_
      rw [verE_len c11 (by omega)]
      exact ⟨rfl, hS.keeps⟩
    · intro c15
      have hl : l.length = ws.length := by omega
      have hB := BOk.of c11
      have hwl := hB.len
      refine KA.skip ?_
      refine blQ.normal ?_
      refine sqQ.normal ?_
      refine KA.sub (Sub.cons (t := 1) Look.eq (Sub.cons (t := 2) Look.eq (Sub.nil _))) ?_
      refine KA.seq ?_
      refine KA.seq ?_
      refine KA.region rfl ?_
      refine KOps.move ?_
      refine KOps.lenI (Row.ext hS.keeps hn) ?_
      refine KOps.move ?_
      refine KOps.done ?_
      refine sqQ.normal ?_
      refine KA.block ?_
      refine KA.loop (X := Nat) (fun i => [(1, vn), (2, p2), (22, vn), (23, .int .i64 (l.length : Int)), (24, .int .i64 (i : Int))]) (fun i h' => i ≤ ws.length ∧ (∀ j, j < i → (ws.getD j default).l ≤ l.getD j 0 ∧ l.getD j 0 ≤ (ws.getD j default).m) ∧ St h h' [⟨p2, 0, [.int .i64 rm, vW], true⟩]) (fun i => ws.length - i) 0 (by repeat (first | exact Sub.nil _ | refine Sub.cons Look.eq ?_ | refine Sub.cons (Eq.trans Look.eq (congrArg (AV.int _) (by first | omega | (dsimp only; omega)))) ?_)) ?_ ?_
      · exact ⟨Nat.zero_le _, fun j hj => absurd hj (Nat.not_lt_zero _), hS⟩
      rintro i h9 ⟨hi, hin, hS⟩
      refine KA.seq ?_
      refine KA.region rfl ?_
      refine KOps.lss ?_
      refine KOps.done ?_
      refine sqQ.normal ?_
      refine KA.seq ?_
      refine KA.condD ?_ ?_
      · intro c25
        refine KA.skip ?_
        refine sqQ.normal ?_
        refine KA.sub (Sub.cons (t := 1) Look.eq (Sub.cons (t := 2) Look.eq (Sub.cons (t := 22) Look.eq (Sub.cons (t := 23) Look.eq (Sub.cons (t := 24) Look.eq (Sub.nil _)))))) ?_
        refine KA.seq ?_
        refine KA.block ?_
        refine KA.seq ?_
        refine KA.region rfl ?_
        refine KOps.move ?_
        refine KOps.indexIJ (Row.ext hS.keeps hn) (j := i) rfl (by first | omega | (simp; omega)) ?_
        intro p27 hp27
        refine KOps.loadI hp27 (Row.ext hS.keeps hn) (by first | omega | (simp; omega)) ?_
        refine KOps.assign ?_
        refine KOps.assign ?_
        refine KOps.done ?_
        refine sqQ.normal ?_
        refine KA.sub (Sub.cons (t := 1) Look.eq (Sub.cons (t := 2) Look.eq (Sub.cons (t := 6) Look.eq (Sub.cons (t := 7) Look.eq (Sub.cons (t := 22) Look.eq (Sub.cons (t := 23) Look.eq (Sub.cons (t := 24) Look.eq (Sub.nil _)))))))) ?_
        refine KA.seq ?_
        refine KA.draw [] mixed rfl (by kernel_rfl) ?_
        refine KOps.fieldAddr hp2 ?_
        intro p29 hp29
        refine KOps.load hp29 (hS.rd 0 rfl) rfl ?_
        refine KOps.move ?_
        refine KOps.indexF wc_len (Rd.ext hS.keeps hv) (j := i) (by first | omega | (simp; omega)) (by first | omega | (simp; omega)) ?_
        intro p32 hp32
        refine KOps.fieldAddr hp32 ?_
        intro p33 hp33
        refine KOps.loadFc wc_len (by decide) hp33 (Rd.ext hS.keeps hv) (by first | omega | (simp; omega)) rfl ?_
        refine KOps.move ?_
        refine KOps.fieldAddr hp2 ?_
        intro p36 hp36
        refine KOps.load hp36 (hS.rd 0 rfl) rfl ?_
        refine KOps.move ?_
        refine KOps.indexF wc_len (Rd.ext hS.keeps hv) (j := i) (by first | omega | (simp; omega)) (by first | omega | (simp; omega)) ?_
        intro p39 hp39
        refine KOps.fieldAddr hp39 ?_
        intro p40 hp40
        refine KOps.loadFc wc_len (by decide) hp40 (Rd.ext hS.keeps hv) (by first | omega | (simp; omega)) rfl ?_
        refine KOps.call rfl (between_c) ?_
        rintro _ _ ⟨rfl, rfl⟩
        refine KOps.not ?_
        refine KOps.done ?_
        refine sqQ.normal ?_
        refine KA.sub (Sub.cons (t := 1) Look.eq (Sub.cons (t := 2) Look.eq (Sub.cons (t := 22) Look.eq (Sub.cons (t := 23) Look.eq (Sub.cons (t := 24) Look.eq (Sub.cons (t := 43) Look.eq (Sub.nil _))))))) ?_
        refine KA.condN ?_ ?_
        · intro c43
          refine KA.seq ?_
          refine KA.region rfl ?_
          refine KOps.assign ?_
          refine KOps.done ?_
          refine sqQ.normal ?_
          refine KA.sub (Sub.cons (t := 4) Look.eq (Sub.nil _)) ?_
          refine KA.ret ?_
          refine blQ.ret ?_
          refine sqQ.ret ?_
          refine lpQ.ret ?_
          refine blQ.ret ?_
          refine sqQ.ret ?_
          refine fnQ.ret1 ?_
          rw [verE_in c11 hl (by omega) c43]
          exact ⟨rfl, hS.keeps⟩
        · intro c43
          refine KA.skip ?_
          refine blQ.normal ?_
          refine sqQ.normal ?_
          refine KA.sub (Sub.cons (t := 1) Look.eq (Sub.cons (t := 2) Look.eq (Sub.cons (t := 22) Look.eq (Sub.cons (t := 23) Look.eq (Sub.cons (t := 24) Look.eq (Sub.nil _)))))) ?_
          refine KA.region rfl ?_
          refine KOps.add (by first | omega | (simp; omega)) (by first | omega | (simp; omega)) ?_
          refine KOps.move ?_
          refine KOps.done ?_
          exact lpQ.normal (i + 1) (by repeat (first | exact Sub.nil _ | refine Sub.cons Look.eq ?_ | refine Sub.cons (Eq.trans Look.eq (congrArg (AV.int _) (by first | omega | (dsimp only; omega)))) ?_)) ⟨by omega, fun j hj => (Nat.lt_succ_iff_lt_or_eq.1 hj).elim (fun h0 => hin j h0) (fun h0 => by subst h0; exact c43), hS⟩ (by omega)
      · intro c25
        refine KA.exit ?_
        refine sqQ.exit ?_
        refine lpQ.exit ?_
        refine blQ.here ?_
        refine sqQ.normal ?_
        refine KA.sub (Sub.cons (t := 1) Look.eq (Sub.cons (t := 2) Look.eq (Sub.nil _))) ?_
        refine KA.seq ?_
        refine KA.region rfl ?_
        have hie : i = ws.length := by omega
        subst hie
        obtain ⟨r, rfl⟩ : ∃ r : Nat, rm = (r : Int) := ⟨rm.toNat, by have := hB.r2; omega⟩
        have hr6 := hB.r6
        have e0 := verE_end c11 hl hin
        refine KOps.loadAll hS (i := 0) rfl hp2 (by rfl) (by decide) ?_
        refine KOps.move ?_
        refine KOps.buildA2 (z0 := .int .i64 0) (z1 := .nils) (z2 := .nils) (by kernel_rfl) (by rfl) (by kernel_rfl) (by kernel_rfl) (by kernel_rfl) (by first | rfl | assumption) (by first | rfl | assumption) (by first | rfl | assumption) ?_
        refine KOps.boxAll hS (by show (true && (vW.one && (vn.one && true))) = true; rw [hvo, hno]; rfl) ?_
        intro p48 h' hp48 hS
        refine KOps.assign ?_
        refine KOps.done ?_
        refine sqQ.normal ?_
        refine KA.sub (Sub.cons (t := 8) Look.eq (Sub.nil _)) ?_
        refine KA.seq ?_
        refine KA.seq ?_
        refine KA.region rfl ?_
        refine KOps.move ?_
        refine KOps.call rfl (kept_c hp48 (hS.rd 0 rfl) (Rd.ext hS.keeps hv) (Row.ext hS.keeps hn) hB hl (in_bound hB hin)) ?_
        rintro vk h6 hK
        refine KOps.call rfl (anyNz_c (hK.rd 0 rfl) (by rw [keptL_len]; omega) (fun _ _ => nz63_c)) ?_
        rintro _ h7 ⟨rfl, rfl⟩
        refine KOps.done ?_
        refine sqQ.normal ?_
        refine KA.sub (Sub.cons (t := 51) Look.eq (Sub.nil _)) ?_
        refine KA.condB ?_ ?_
        · intro c51
          refine KA.seq ?_
          refine KA.region rfl ?_
          refine KOps.assign ?_
          refine KOps.done ?_
          refine sqQ.normal ?_
          refine KA.sub (Sub.cons (t := 4) Look.eq (Sub.nil _)) ?_
          refine KA.ret ?_
          refine sqQ.ret ?_
          refine fnQ.ret1 ?_
          rw [any_zero] at c51
          rw [e0, Int.toNat_natCast, show zeroB r ws l = false by simpa using c51, if_pos rfl]
          exact ⟨rfl, hS.keeps.trans hK.keeps⟩
        · intro c51
          refine KA.skip ?_
          refine sqQ.normal ?_
          refine KA.sub (Sub.nil _) ?_
          refine KA.seq ?_
          refine KA.region rfl ?_
          refine KOps.assign ?_
          refine KOps.done ?_
          refine sqQ.normal ?_
          refine KA.ret ?_
          refine fnQ.ret1 ?_
          rw [any_zero] at c51
          rw [e0, Int.toNat_natCast, show zeroB r ws l = true by simpa using c51, if_neg (by decide)]
          exact ⟨rfl, hS.keeps.trans hK.keeps⟩

end Go.Am


namespace Go.Am
/-- Sheets: rows, columns, long, wide. -/
structure Sht where
  r : Nat
  c : Nat
  l : Nat
  w : Nat
def blkN (w c : Nat) : Nat → Nat
  | 0 => 0
  | h + 1 => (blkN w c h) <<< c ||| (2 ^ w - 1)
/-- The first square that is not covered, from a square on. -/
def fzN (b : Nat) : Nat → Nat → Nat
  | 0, i => i
  | f + 1, i => if b.testBit i = true then fzN b f (i + 1) else i
abbrev Sht.n (s : Sht) : Nat := s.r * s.c
abbrev Sht.full (s : Sht) : Nat := 2 ^ s.n - 1
def Sht.high (s : Sht) (t : Bool) : Nat := cond t s.w s.l
def Sht.broad (s : Sht) (t : Bool) : Nat := cond t s.l s.w
def Sht.cover (s : Sht) (t : Bool) (n : Nat) : Nat := blkN (s.broad t) s.c (s.high t) <<< n
def Sht.fits (s : Sht) (t : Bool) (n : Nat) : Bool := decide (n / s.c + s.high t ≤ s.r) && decide (n % s.c + s.broad t ≤ s.c)
def Sht.put (s : Sht) (b : Nat) (t : Bool) (n : Nat) : Option Nat :=
  if s.fits t n = true then (if b &&& s.cover t n = 0 then some (b ||| s.cover t n) else none) else none
/-- The least and the greatest number of upright cards. -/
def oneUp : Bool → Option (Nat × Nat) → Option (Nat × Nat)
  | true, x => x
  | false, some (a, b) => some (a + 1, b + 1)
  | false, none => none
def both : Option (Nat × Nat) → Option (Nat × Nat) → Option (Nat × Nat)
  | none, y => y
  | x, none => x
  | some (a, b), some (c, d) => some (min a c, max b d)
def Sht.upr (s : Sht) : Nat → Nat → Option (Nat × Nat)
  | 0, _ => some (0, 0)
  | f + 1, b => if b = s.full then some (0, 0) else
      let n := fzN b s.n 0
      both (match s.put b false n with | some x => oneUp false (s.upr f x) | none => none)
        (if s.l = s.w then none else match s.put b true n with | some x => oneUp true (s.upr f x) | none => none)
end Go.Am

namespace Go.Am
theorem fzN_ge (b : Nat) : ∀ f i, i ≤ fzN b f i ∧ fzN b f i ≤ i + f := by
  intro f
  induction f with
  | zero => intro i; exact ⟨Nat.le_refl _, Nat.le_refl _⟩
  | succ f ih =>
    intro i
    unfold fzN
    split
    · have := ih (i + 1); omega
    · omega
theorem fzN_set (b : Nat) : ∀ f i j, i ≤ j → j < fzN b f i → b.testBit j = true := by
  intro f
  induction f with
  | zero => intro i j h1 h2; unfold fzN at h2; omega
  | succ f ih =>
    intro i j h1 h2
    unfold fzN at h2
    split at h2
    · rename_i hb
      rcases Nat.lt_or_eq_of_le h1 with h | h
      · exact ih (i + 1) j h h2
      · rw [← h]; exact hb
    · omega
theorem fzN_not (b : Nat) : ∀ f i, fzN b f i < i + f → b.testBit (fzN b f i) = false := by
  intro f
  induction f with
  | zero => intro i h; unfold fzN at h; omega
  | succ f ih =>
    intro i h
    unfold fzN at h ⊢
    split at h
    · rename_i hb
      rw [if_pos hb]
      exact ih (i + 1) (by omega)
    · rename_i hb
      rw [if_neg hb]
      simpa using hb
theorem blkN_bit (w c h : Nat) (hw : 0 < w) (hh : 0 < h) (hc : 0 < c) : (blkN w c h).testBit 0 = true := by
  obtain ⟨h, rfl⟩ : ∃ k, h = k + 1 := ⟨h - 1, by omega⟩
  rw [blkN, Nat.testBit_or, Nat.testBit_two_pow_sub_one]
  simp [hw]
theorem blkN_lt (w c : Nat) : ∀ h, blkN w c h < 2 ^ ((h - 1) * c + w) := by
  intro h
  induction h with
  | zero => exact Nat.two_pow_pos _
  | succ h ih =>
    rw [blkN]
    have h1 : 2 ^ w - 1 < 2 ^ ((h + 1 - 1) * c + w) := by
      have := Nat.pow_le_pow_right (n := 2) (by decide) (show w ≤ (h + 1 - 1) * c + w by omega)
      have := Nat.two_pow_pos w
      omega
    refine Nat.or_lt_two_pow ?_ h1
    rw [Nat.shiftLeft_eq]
    cases h with
    | zero => rw [blkN, Nat.zero_mul]; exact Nat.two_pow_pos _
    | succ h =>
      have e : (h + 1 + 1 - 1) * c + w = ((h + 1 - 1) * c + w) + c := by
        simp only [Nat.add_sub_cancel]
        rw [Nat.add_mul]; omega
      rw [e, Nat.pow_add]
      exact Nat.mul_lt_mul_of_pos_right ih (Nat.two_pow_pos c)
/-- A sheet as the program checks it. -/
structure Sht.Ok (s : Sht) : Prop where
  r : 1 ≤ s.r ∧ s.r ≤ 6
  c : 1 ≤ s.c ∧ s.c ≤ 6
  l : 1 ≤ s.l ∧ s.l ≤ 6
  w : 1 ≤ s.w ∧ s.w ≤ 6
theorem Sht.Ok.high {s : Sht} (h : s.Ok) (t : Bool) : 1 ≤ s.high t ∧ s.high t ≤ 6 := by cases t; exact h.l; exact h.w
theorem Sht.Ok.broad {s : Sht} (h : s.Ok) (t : Bool) : 1 ≤ s.broad t ∧ s.broad t ≤ 6 := by cases t; exact h.w; exact h.l
theorem Sht.Ok.n {s : Sht} (h : s.Ok) : 1 ≤ s.n ∧ s.n ≤ 36 := by
  have h1 := Nat.mul_le_mul h.r.1 h.c.1
  have h2 := Nat.mul_le_mul h.r.2 h.c.2
  exact ⟨h1, h2⟩
def Sht.fz (s : Sht) (b : Nat) : Nat := fzN b s.n 0
theorem Sht.fz_le (s : Sht) (b : Nat) : s.fz b ≤ s.n := by
  have := (fzN_ge b s.n 0).2
  unfold Sht.fz; omega
theorem Sht.fz_full {s : Sht} {b : Nat} (hb : b < 2 ^ s.n) (h : s.fz b = s.n) : b = s.full := by
  refine Nat.eq_of_testBit_eq fun i => ?_
  rw [Nat.testBit_two_pow_sub_one]
  by_cases hi : i < s.n
  · rw [decide_eq_true hi]
    exact fzN_set b s.n 0 i (Nat.zero_le _) (by unfold Sht.fz at h; omega)
  · rw [decide_eq_false hi]
    exact Nat.testBit_lt_two_pow (Nat.lt_of_lt_of_le hb (Nat.pow_le_pow_right (by decide) (by omega)))
theorem Sht.cover_lt {s : Sht} (h : s.Ok) {t : Bool} {n : Nat} (hf : s.fits t n = true) : s.cover t n < 2 ^ s.n := by
  unfold Sht.fits at hf
  rw [Bool.and_eq_true, decide_eq_true_iff, decide_eq_true_iff] at hf
  unfold Sht.cover
  rw [Nat.shiftLeft_eq]
  have hb := blkN_lt (s.broad t) s.c (s.high t)
  have hd := Nat.div_add_mod n s.c
  have hh := h.high t
  have hle : (s.high t - 1) * s.c + s.broad t + n ≤ s.n := by
    have h1 : (n / s.c + (s.high t - 1)) * s.c ≤ (s.r - 1) * s.c := Nat.mul_le_mul_right _ (by omega)
    have h2 : (s.r - 1) * s.c + s.c = s.n := by
      obtain ⟨k, hk⟩ : ∃ k, s.r = k + 1 := ⟨s.r - 1, by have := h.r; omega⟩
      show _ = s.r * s.c
      rw [hk, Nat.add_sub_cancel, Nat.add_mul, Nat.one_mul]
    rw [Nat.add_mul, Nat.mul_comm (n / s.c)] at h1
    omega
  calc blkN (s.broad t) s.c (s.high t) * 2 ^ n < 2 ^ ((s.high t - 1) * s.c + s.broad t) * 2 ^ n := Nat.mul_lt_mul_of_pos_right hb (Nat.two_pow_pos n)
    _ = 2 ^ ((s.high t - 1) * s.c + s.broad t + n) := (Nat.pow_add ..).symm
    _ ≤ 2 ^ s.n := Nat.pow_le_pow_right (by decide) hle
theorem Sht.put_fz {s : Sht} (h : s.Ok) {b x : Nat} {t : Bool} (hb : b < 2 ^ s.n) (hn : s.fz b < s.n) (hx : s.put b t (s.fz b) = some x) : x < 2 ^ s.n ∧ s.fz b < s.fz x := by
  unfold Sht.put at hx
  split at hx
  · rename_i hf
    split at hx
    · cases hx
      have hc := Sht.cover_lt h hf
      refine ⟨Nat.or_lt_two_pow hb hc, ?_⟩
      have hbit : (b ||| s.cover t (s.fz b)).testBit (s.fz b) = true := by
        rw [Nat.testBit_or]
        unfold Sht.cover
        rw [Nat.testBit_shiftLeft]
        simp only [ge_iff_le, Nat.le_refl, decide_true, Nat.sub_self, Bool.true_and]
        rw [blkN_bit _ _ _ (by have := h.broad t; omega) (by have := h.high t; omega) (by have := h.c; omega), Bool.or_true]
      rcases Nat.lt_trichotomy (s.fz (b ||| s.cover t (s.fz b))) (s.fz b) with q | q | q
      · exfalso
        have h1 := fzN_not (b ||| s.cover t (s.fz b)) s.n 0 (by unfold Sht.fz at *; omega)
        have h2 : b.testBit (fzN (b ||| s.cover t (s.fz b)) s.n 0) = true := fzN_set b s.n 0 _ (Nat.zero_le _) q
        rw [Nat.testBit_or, h2, Bool.true_or] at h1
        cases h1
      · exfalso
        have h1 := fzN_not (b ||| s.cover t (s.fz b)) s.n 0 (by unfold Sht.fz at *; omega)
        have h3 : fzN (b ||| s.cover t (s.fz b)) s.n 0 = s.fz b := q
        rw [h3, hbit] at h1
        cases h1
      · exact q
    · cases hx
  · cases hx
theorem both_congr {a a' b b' : Option (Nat × Nat)} (h1 : a = a') (h2 : b = b') : both a b = both a' b' := by rw [h1, h2]
theorem Sht.upr_fuel {s : Sht} (h : s.Ok) : ∀ (d b : Nat), b < 2 ^ s.n → s.n - s.fz b = d → ∀ f g, d ≤ f → d ≤ g → s.upr f b = s.upr g b := by
  intro d
  induction d using Nat.strongRecOn with
  | _ d ih =>
    intro b hb hd f g hf hg
    have hle := s.fz_le b
    by_cases hfull : b = s.full
    · have e : ∀ f, s.upr f b = some (0, 0) := fun f => by
        cases f with
        | zero => rfl
        | succ f => rw [Sht.upr, if_pos hfull]
      rw [e, e]
    · have hlt : s.fz b < s.n := by
        rcases Nat.lt_or_eq_of_le hle with q | q
        · exact q
        · exact absurd (Sht.fz_full hb q) hfull
      obtain ⟨f, rfl⟩ : ∃ k, f = k + 1 := ⟨f - 1, by omega⟩
      obtain ⟨g, rfl⟩ : ∃ k, g = k + 1 := ⟨g - 1, by omega⟩
      rw [Sht.upr, Sht.upr, if_neg hfull, if_neg hfull]
      have key : ∀ t x, s.put b t (fzN b s.n 0) = some x → s.upr f x = s.upr g x := fun t x hx => by
        obtain ⟨h1, h2⟩ := Sht.put_fz h hb hlt hx
        exact ih (s.n - s.fz x) (by omega) x h1 rfl f g (by omega) (by omega)
      have k1 : (match s.put b false (fzN b s.n 0) with | some x => oneUp false (s.upr f x) | none => none) = (match s.put b false (fzN b s.n 0) with | some x => oneUp false (s.upr g x) | none => none) := by
        cases hp : s.put b false (fzN b s.n 0) with
        | none => rfl
        | some x => simp only; rw [key _ _ hp]
      have k2 : (match s.put b true (fzN b s.n 0) with | some x => oneUp true (s.upr f x) | none => none) = (match s.put b true (fzN b s.n 0) with | some x => oneUp true (s.upr g x) | none => none) := by
        cases hp : s.put b true (fzN b s.n 0) with
        | none => rfl
        | some x => simp only; rw [key _ _ hp]
      exact both_congr k1 (ite_congr rfl (fun _ => rfl) (fun _ => k2))
end Go.Am

namespace Go.Am

/-- Parts with their places and cells. -/
inductive PartsAt (P : Program) (t : TypeId) (n : Nat) : List (Nat × AV) → List (Nat × List AV) → Prop where
  | nil : PartsAt P t n [] []
  | cons {i off s : Nat} {v : AV} {l : List AV} {ps : List (Nat × AV)} {qs : List (Nat × List AV)} (hp : aplaces P t i = some (off, s)) (hc : v.cells? = some l) (hl : l.length = s) (hn : off + s ≤ n) (h : PartsAt P t n ps qs) : PartsAt P t n ((i, v) :: ps) ((off, l) :: qs)
theorem cells_agg {l : List AV} (h : l.all AV.one = true) : (AV.agg l).cells? = some l := by simp only [AV.cells?]; rw [if_pos h]
theorem putL_len2 {α : Type} {cs l : List α} {o : Nat} (h : o + l.length ≤ cs.length) : (putL cs o l).length = cs.length := by
  simp only [putL, List.length_append, List.length_take, List.length_drop]; omega
theorem PartsAt.fill {P : Program} {t : TypeId} {n : Nat} {ps : List (Nat × AV)} {qs : List (Nat × List AV)} (h : PartsAt P t n ps qs) : ∀ {cs : List AV}, cs.length = n → afill (aplaces P t) cs ps = some (qs.foldl (fun cs q => putL cs q.1 q.2) cs) := by
  induction h with
  | nil => intro cs _; rfl
  | cons hp hc hl hn _ ih =>
    intro cs hcs
    simp only [afill, hp, hc]
    rw [if_pos ⟨hl, by omega⟩]
    exact ih (by rw [putL_len2 (by omega)]; exact hcs)
section
variable {P : Program} {n : Nat} {ops : Array Oper} {ex : List Nat} {Q : KF → AHeap → Prop} {k : Nat} {os : List Oper} {K : KF} {h0 h : AHeap} {objs : List Obj} {d : Nat} {ty : TypeId} {pos : String} {after : Array Edge}
theorem KOps.buildG {t : TypeId} {l : List (Nat × Operand)} {vs zs cs : List AV} {qs : List (Nat × List AV)} [hl : EvKp h.globs n K l vs] (hz : zeroA P t = some (.agg zs)) (hz1 : zs.all AV.one = true) (hok : abuildOk P t = true) (hp : PartsAt P t zs.length ((l.map (·.1)).zip vs) qs)
    (he : qs.foldl (fun cs q => putL cs q.1 q.2) zs = cs) (hk : KOps P n ops ex Q (k + 1) os ((d, .agg cs) :: K) h) :
    KOps P n ops ex Q k (⟨some d, .build t (List.toArray l), ty, pos, after, none⟩ :: os) K h := by
  refine KOps.build (vs := vs) (v := .agg cs) ?_ hk
  simp only [abuild, hz, cells_agg hz1, hok, if_true, Option.bind_eq_bind, Option.bind_some, hp.fill rfl, he]
/-- A part of a struct behind a pointer is read. -/
theorem KOps.loadPart {x : Operand} {p v : AV} {t : TypeId} {s j z : Nat} {xs ys : List AV} [hx : EvK h.globs n K x p] [ht : AgT P t z] (ha : AddrOf p v s j) (hr : Rd h v s xs) (hz : 0 < z) (hj : j + z ≤ xs.length) (hy : (xs.drop j).take z = ys) (hk : KOps P n ops ex Q (k + 1) os ((d, .agg ys) :: K) h) :
    KOps P n ops ex Q k (⟨some d, .load t x, ty, pos, after, none⟩ :: os) K h := by
  subst hy
  exact KOps.loadAgg ha hr hz hj hk
end
theorem St.pickF {h0 h : AHeap} {A A' F : List Obj} (k : Nat) (σ : List Nat) (hk : A.length = k) (hn : σ.Nodup) (hlt : ∀ i ∈ σ, i < k) (he : σ.map (fun i => A[i]?) = A'.map some) (st : St h0 h (A ++ F)) : St h0 h (A' ++ F) := by
  have hp : St h0 h (F ++ A') := by
    have h1 : St h0 h (F ++ A) := st.rot
    refine h1.pick ((List.range F.length) ++ σ.map (· + F.length)) ?_ ?_
    · refine List.nodup_append.2 ⟨List.nodup_range, ?_, ?_⟩
      · exact (List.pairwise_map.2 (hn.imp fun h e => h (by omega)))
      · intro a ha b hb
        have := List.mem_range.1 ha
        obtain ⟨c, _, rfl⟩ := List.mem_map.1 hb
        omega
    · rw [List.map_append, List.map_append]
      congr 1
      · refine List.ext_getElem? fun i => ?_
        simp only [List.getElem?_map]
        by_cases hi : i < F.length
        · rw [List.getElem?_eq_getElem (by simpa using hi), List.getElem?_eq_getElem hi]
          simp [List.getElem?_append_left hi, List.getElem?_eq_getElem hi]
        · rw [List.getElem?_eq_none (by simpa using hi), List.getElem?_eq_none (by omega)]; rfl
      · rw [List.map_map, ← he]
        refine List.map_congr_left fun i _ => ?_
        show (F ++ A)[i + F.length]? = A[i]?
        rw [List.getElem?_append_right (by omega), Nat.add_sub_cancel]
  exact hp.rot
end Go.Am

namespace Go.Am
/-- The first number that a kind does not hold. -/
def topK : IntKind → Nat
  | .i8 => 128 | .i16 => 32768 | .i32 => 2147483648 | .i64 => 9223372036854775808
  | .u8 => 256 | .u16 => 65536 | .u32 => 4294967296 | .u64 => 18446744073709551616
theorem wrapN {kd : IntKind} {x : Nat} (h : x < topK kd) : kd.wrap (x : Int) = (x : Int) := by
  cases kd <;> simp only [topK] at h <;> simp only [IntKind.wrap, IntKind.bits, IntKind.signed, Bool.true_and, Bool.false_and, ge_iff_le, decide_eq_true_eq, Bool.false_eq_true, if_false] <;>
    first
    | (have e1 : (2 : Int) ^ 8 = 256 := by decide); (have e2 : (2 : Int) ^ (8 - 1) = 128 := by decide); rw [e1, e2]; split <;> omega
    | (have e1 : (2 : Int) ^ 16 = 65536 := by decide); (have e2 : (2 : Int) ^ (16 - 1) = 32768 := by decide); rw [e1, e2]; split <;> omega
    | (have e1 : (2 : Int) ^ 32 = 4294967296 := by decide); (have e2 : (2 : Int) ^ (32 - 1) = 2147483648 := by decide); rw [e1, e2]; split <;> omega
    | (have e1 : (2 : Int) ^ 64 = 18446744073709551616 := by decide); (have e2 : (2 : Int) ^ (64 - 1) = 9223372036854775808 := by decide); rw [e1, e2]; split <;> omega
    | (have e1 : (2 : Int) ^ 8 = 256 := by decide); rw [e1]; omega
    | (have e1 : (2 : Int) ^ 16 = 65536 := by decide); rw [e1]; omega
    | (have e1 : (2 : Int) ^ 32 = 4294967296 := by decide); rw [e1]; omega
    | (have e1 : (2 : Int) ^ 64 = 18446744073709551616 := by decide); rw [e1]; omega
theorem topK_pow (kd : IntKind) : ∃ m, topK kd = 2 ^ m ∧ m ≤ kd.bits ∧ kd.bits ≤ m + 1 := by
  cases kd
  · exact ⟨7, by decide, by decide, by decide⟩
  · exact ⟨15, by decide, by decide, by decide⟩
  · exact ⟨31, by decide, by decide, by decide⟩
  · exact ⟨63, by decide, by decide, by decide⟩
  · exact ⟨8, by decide, by decide, by decide⟩
  · exact ⟨16, by decide, by decide, by decide⟩
  · exact ⟨32, by decide, by decide, by decide⟩
  · exact ⟨64, by decide, by decide, by decide⟩
theorem ofIntN {kd : IntKind} {x : Nat} (h : x < topK kd) : (BitVec.ofInt kd.bits (x : Int)).toNat = x := by
  obtain ⟨m, h1, h2, _⟩ := topK_pow kd
  rw [BitVec.ofInt_natCast, BitVec.toNat_ofNat]
  exact Nat.mod_eq_of_lt (Nat.lt_of_lt_of_le h (h1 ▸ Nat.pow_le_pow_right (by decide) h2))
theorem and_lt_topK {kd : IntKind} {x y : Nat} (h : x < topK kd) : x &&& y < topK kd := Nat.lt_of_le_of_lt Nat.and_le_left h
theorem or_lt_topK {kd : IntKind} {x y : Nat} (hx : x < topK kd) (hy : y < topK kd) : x ||| y < topK kd := by
  obtain ⟨m, h1, -⟩ := topK_pow kd
  rw [h1] at hx hy ⊢
  exact Nat.or_lt_two_pow hx hy
theorem bits_andN {kd : IntKind} {x y : Nat} (hx : x < topK kd) (hy : y < topK kd) : Go.bits .and kd (x : Int) (y : Int) = ((x &&& y : Nat) : Int) := by
  show kd.wrap (((BitVec.ofInt kd.bits (x : Int) &&& BitVec.ofInt kd.bits (y : Int)).toNat : Nat) : Int) = _
  rw [BitVec.toNat_and, ofIntN hx, ofIntN hy, wrapN (and_lt_topK hx)]
theorem bits_orN {kd : IntKind} {x y : Nat} (hx : x < topK kd) (hy : y < topK kd) : Go.bits .or kd (x : Int) (y : Int) = ((x ||| y : Nat) : Int) := by
  show kd.wrap (((BitVec.ofInt kd.bits (x : Int) ||| BitVec.ofInt kd.bits (y : Int)).toNat : Nat) : Int) = _
  rw [BitVec.toNat_or, ofIntN hx, ofIntN hy, wrapN (or_lt_topK hx hy)]
theorem shrN (x k : Nat) (kd : IntKind) (hk : k ≤ kd.bits) : (x : Int).fdiv (2 ^ Min.min (k : Int).toNat kd.bits) = ((x >>> k : Nat) : Int) := by
  rw [Int.toNat_natCast, Nat.min_eq_left hk, Int.fdiv_eq_ediv_of_nonneg _ (by exact Int.le_of_lt (Int.pow_pos (by decide))), Nat.shiftRight_eq_div_pow]
  norm_cast
theorem shlN {x k : Nat} {kd : IntKind} (hk : k ≤ kd.bits) (h : x <<< k < topK kd) : kd.wrap ((x : Int) * 2 ^ Min.min (k : Int).toNat kd.bits) = ((x <<< k : Nat) : Int) := by
  rw [Int.toNat_natCast, Nat.min_eq_left hk, ← wrapN h, Nat.shiftLeft_eq, Int.natCast_mul, Int.natCast_pow]
  rfl
theorem and_one_bit (x k : Nat) : (x >>> k) &&& 1 = if x.testBit k = true then 1 else 0 := by
  rw [Nat.testBit]
  rcases Nat.and_one_is_mod (x >>> k) ▸ Nat.mod_two_eq_zero_or_one (x >>> k) with h | h
  · rw [h]; rw [Nat.and_comm] at h; rw [h]; rfl
  · rw [h]; rw [Nat.and_comm] at h; rw [h]; rfl
section
variable {P : Program} {n : Nat} {ops : Array Oper} {ex : List Nat} {Q : KF → AHeap → Prop} {k : Nat} {os : List Oper} {K : KF} {h : AHeap} {d : Nat} {ty : TypeId} {pos : String} {after : Array Edge}
theorem KOps.andN {t t' : TypeId} {x y : Operand} {kd : IntKind} {a b : Int} (i j : Nat) [hx : EvK h.globs n K x (.int kd a)] [hy : EvK h.globs n K y (.int kd b)] (ha : a = (i : Int)) (hb : b = (j : Int)) (hi : i < topK kd) (hj : j < topK kd) (hk : KOps P n ops ex Q (k + 1) os ((d, .int kd ((i &&& j : Nat) : Int)) :: K) h) :
    KOps P n ops ex Q k (⟨some d, .binOp .and t x y t', ty, pos, after, none⟩ :: os) K h := by
  subst ha hb
  exact KOps.int (.inr (.inr rfl)) (by simp only [aint, bits_andN hi hj]) hk
theorem KOps.orN {t t' : TypeId} {x y : Operand} {kd : IntKind} {a b : Int} (i j : Nat) [hx : EvK h.globs n K x (.int kd a)] [hy : EvK h.globs n K y (.int kd b)] (ha : a = (i : Int)) (hb : b = (j : Int)) (hi : i < topK kd) (hj : j < topK kd) (hk : KOps P n ops ex Q (k + 1) os ((d, .int kd ((i ||| j : Nat) : Int)) :: K) h) :
    KOps P n ops ex Q k (⟨some d, .binOp .or t x y t', ty, pos, after, none⟩ :: os) K h := by
  subst ha hb
  exact KOps.int (.inr (.inr rfl)) (by simp only [aint, bits_orN hi hj]) hk
theorem KOps.shrN {t t' : TypeId} {x y : Operand} {kd kd' : IntKind} {a b : Int} (i j : Nat) [hx : EvK h.globs n K x (.int kd a)] [hy : EvK h.globs n K y (.int kd' b)] (ha : a = (i : Int)) (hb : b = (j : Int)) (hj : j ≤ kd.bits) (hk : KOps P n ops ex Q (k + 1) os ((d, .int kd ((i >>> j : Nat) : Int)) :: K) h) :
    KOps P n ops ex Q k (⟨some d, .binOp .shr t x y t', ty, pos, after, none⟩ :: os) K h := by
  subst ha hb
  exact KOps.shr (by omega) (by rw [Go.Am.shrN i j kd hj]; exact hk)
theorem KOps.shlN {t t' : TypeId} {x y : Operand} {kd kd' : IntKind} {a b : Int} (i j : Nat) [hx : EvK h.globs n K x (.int kd a)] [hy : EvK h.globs n K y (.int kd' b)] (ha : a = (i : Int)) (hb : b = (j : Int)) (hj : j ≤ kd.bits) (ht : i <<< j < topK kd) (hk : KOps P n ops ex Q (k + 1) os ((d, .int kd ((i <<< j : Nat) : Int)) :: K) h) :
    KOps P n ops ex Q k (⟨some d, .binOp .shl t x y t', ty, pos, after, none⟩ :: os) K h := by
  subst ha hb
  exact KOps.shl (by omega) (by rw [Go.Am.shlN hj ht]; exact hk)
theorem KOps.modN {t t' : TypeId} {x y : Operand} {a b : Int} (i j : Nat) [hx : EvK h.globs n K x (.int .i64 a)] [hy : EvK h.globs n K y (.int .i64 b)] (ha : a = (i : Int)) (hb : b = (j : Int)) (h0 : 0 < j) (hi : i < 9223372036854775807)
    (hk : KOps P n ops ex Q (k + 1) os ((d, .int .i64 ((i % j : Nat) : Int)) :: K) h) : KOps P n ops ex Q k (⟨some d, .binOp .rem t x y t', ty, pos, after, none⟩ :: os) K h := by
  subst ha; subst hb
  have e : (i : Int).tmod (j : Int) = ((i % j : Nat) : Int) := by rw [Int.tmod_eq_emod_of_nonneg (by omega)]; rfl
  have hl := Nat.mod_le i j
  refine KOps.rem (by omega) ?_ ?_ ?_ <;> rw [e]
  · omega
  · omega
  · exact hk
theorem KOps.divN {t t' : TypeId} {x y : Operand} {a b : Int} (i j : Nat) [hx : EvK h.globs n K x (.int .i64 a)] [hy : EvK h.globs n K y (.int .i64 b)] (ha : a = (i : Int)) (hb : b = (j : Int)) (h0 : 0 < j) (hi : i < 9223372036854775807)
    (hk : KOps P n ops ex Q (k + 1) os ((d, .int .i64 ((i / j : Nat) : Int)) :: K) h) : KOps P n ops ex Q k (⟨some d, .binOp .quo t x y t', ty, pos, after, none⟩ :: os) K h := by
  subst ha; subst hb
  have e : (i : Int).tdiv (j : Int) = ((i / j : Nat) : Int) := by rw [Int.tdiv_eq_ediv_of_nonneg (by omega)]; rfl
  have hl := Nat.div_le_self i j
  generalize i / j = q at e hl hk
  refine KOps.quo (by omega) ?_ ?_ ?_ <;> rw [e]
  · omega
  · omega
  · exact hk
theorem KOps.max4 {x y z u : Operand} {tys : Array TypeId} {kd k2 k3 k4 : IntKind} {a b c e : Int} [hx : EvK h.globs n K x (.int kd a)] [hy : EvK h.globs n K y (.int k2 b)] [hz : EvK h.globs n K z (.int k3 c)] [hu : EvK h.globs n K u (.int k4 e)] (hk : KOps P n ops ex Q (k + 1) os ((d, .int kd (Max.max (Max.max (Max.max a b) c) e)) :: K) h) :
    KOps P n ops ex Q k (⟨some d, .call { callee := .builtin .max, args := #[x, y, z, u], argTypes := tys }, ty, pos, after, none⟩ :: os) K h :=
  KOps.pure rfl (by
    have key : ∀ p q : Int, (if q > p then q else p) = Max.max p q := fun p q => by omega
    simp only [apure, hx.eq, hy.eq, hz.eq, hu.eq, amax2, if_true, Option.bind_some, key]) hk
theorem KOps.min4 {x y z u : Operand} {tys : Array TypeId} {kd k2 k3 k4 : IntKind} {a b c e : Int} [hx : EvK h.globs n K x (.int kd a)] [hy : EvK h.globs n K y (.int k2 b)] [hz : EvK h.globs n K z (.int k3 c)] [hu : EvK h.globs n K u (.int k4 e)] (hk : KOps P n ops ex Q (k + 1) os ((d, .int kd (Min.min (Min.min (Min.min a b) c) e)) :: K) h) :
    KOps P n ops ex Q k (⟨some d, .call { callee := .builtin .min, args := #[x, y, z, u], argTypes := tys }, ty, pos, after, none⟩ :: os) K h :=
  KOps.pure rfl (by
    have key : ∀ p q : Int, (if q < p then q else p) = Min.min p q := fun p q => by omega
    simp only [apure, hx.eq, hy.eq, hz.eq, hu.eq, amax2, Bool.false_eq_true, if_false, Option.bind_some, key]) hk
end
end Go.Am

namespace Go.Am
abbrev shL (s : Sht) : List AV := [.int .i64 (s.r : Int), .int .i64 (s.c : Int), .int .i64 (s.l : Int), .int .i64 (s.w : Int)]
def Sht.blk (s : Sht) (t : Bool) : Nat := blkN (s.broad t) s.c (s.high t)
abbrev tbL (s : Sht) : List AV := [.int .i64 (s.r : Int), .int .i64 (s.c : Int), .int .i64 (s.l : Int), .int .i64 (s.w : Int), .int .u64 (s.blk false : Int), .int .u64 (s.blk true : Int), .int .u64 (s.full : Int)]
abbrev cdL (row col : Nat) (t : Bool) : List AV := [.int .i64 (row : Int), .int .i64 (col : Int), .bool t]
theorem Sht.lt36 {s : Sht} (h : s.Ok) {b : Nat} (hb : b < 2 ^ s.n) : b < 2 ^ 36 := Nat.lt_of_lt_of_le hb (Nat.pow_le_pow_right (by decide) h.n.2)
theorem lt_topU64 {x : Nat} (h : x < 2 ^ 36) : x < topK .u64 := Nat.lt_trans h (by decide)
theorem Sht.blk_lt {s : Sht} (h : s.Ok) (t : Bool) : s.blk t < 2 ^ 36 := by
  refine Nat.lt_of_lt_of_le (blkN_lt _ _ _) (Nat.pow_le_pow_right (by decide) ?_)
  have h1 := h.high t
  have h2 := h.broad t
  have h3 := h.c
  have := Nat.mul_le_mul (show s.high t - 1 ≤ 5 by omega) h3.2
  omega
theorem divmod_lt {n r c : Nat} (hc : 0 < c) (h : n < r * c) : n / c < r := (Nat.div_lt_iff_lt_mul hc).2 h
end Go.Am

namespace Go.Am
def optN (f : Nat → Nat) : Option Nat → Nat
  | some x => f x
  | none => 0
/-- The number of fillings of what is not covered. -/
def Sht.cnt (s : Sht) : Nat → Nat → Nat
  | 0, _ => 1
  | f + 1, b => if b = s.full then 1 else
      optN (s.cnt f) (s.put b false (fzN b s.n 0)) + (if s.l = s.w then 0 else optN (s.cnt f) (s.put b true (fzN b s.n 0)))
theorem Sht.cnt_le (s : Sht) : ∀ f b, s.cnt f b ≤ 2 ^ f := by
  intro f
  induction f with
  | zero => intro b; exact Nat.le_refl _
  | succ f ih =>
    intro b
    rw [Sht.cnt]
    have hp := Nat.two_pow_pos f
    have key : ∀ t, optN (s.cnt f) (s.put b t (fzN b s.n 0)) ≤ 2 ^ f := by
      intro t
      cases s.put b t (fzN b s.n 0) with
      | none => exact Nat.zero_le _
      | some x => exact ih x
    rw [Nat.pow_succ]
    split
    · omega
    · have h1 := key false
      have h2 := key true
      split <;> omega
def le2 (m : Nat) : Option (Nat × Nat) → Prop
  | none => True
  | some (a, c) => a ≤ m ∧ c ≤ m
def Sht.uprS (s : Sht) (b : Nat) : Option (Nat × Nat) := s.upr 40 b
def Sht.cntS (s : Sht) (b : Nat) : Nat := s.cnt 40 b
theorem Sht.cntS_le (s : Sht) (b : Nat) : s.cntS b ≤ 2 ^ 40 := s.cnt_le 40 b
theorem Sht.cnt_fuel {s : Sht} (h : s.Ok) : ∀ (d b : Nat), b < 2 ^ s.n → s.n - s.fz b = d → ∀ f g, d ≤ f → d ≤ g → s.cnt f b = s.cnt g b := by
  intro d
  induction d using Nat.strongRecOn with
  | _ d ih =>
    intro b hb hd f g hf hg
    have hle := s.fz_le b
    by_cases hfull : b = s.full
    · have e : ∀ f, s.cnt f b = 1 := fun f => by
        cases f with
        | zero => rfl
        | succ f => rw [Sht.cnt, if_pos hfull]
      rw [e, e]
    · have hlt : s.fz b < s.n := by
        rcases Nat.lt_or_eq_of_le hle with q | q
        · exact q
        · exact absurd (Sht.fz_full hb q) hfull
      obtain ⟨f, rfl⟩ : ∃ k, f = k + 1 := ⟨f - 1, by omega⟩
      obtain ⟨g, rfl⟩ : ∃ k, g = k + 1 := ⟨g - 1, by omega⟩
      rw [Sht.cnt, Sht.cnt, if_neg hfull, if_neg hfull]
      have key : ∀ t, optN (s.cnt f) (s.put b t (fzN b s.n 0)) = optN (s.cnt g) (s.put b t (fzN b s.n 0)) := fun t => by
        cases hp : s.put b t (fzN b s.n 0) with
        | none => rfl
        | some x =>
          obtain ⟨h1, h2⟩ := Sht.put_fz h hb hlt hp
          exact ih (s.n - s.fz x) (by omega) x h1 rfl f g (by omega) (by omega)
      rw [key false, key true]
/-- What one card more gives. -/
def Sht.up1 (s : Sht) (b : Nat) (t : Bool) : Option (Nat × Nat) := match s.put b t (s.fz b) with | some x => oneUp t (s.uprS x) | none => none
def Sht.ct1 (s : Sht) (b : Nat) (t : Bool) : Nat := optN s.cntS (s.put b t (s.fz b))
theorem Sht.cntS_full {s : Sht} : s.cntS s.full = 1 := by unfold Sht.cntS; rw [Sht.cnt, if_pos rfl]
theorem Sht.fz_lt {s : Sht} {b : Nat} (hb : b < 2 ^ s.n) (hf : b ≠ s.full) : s.fz b < s.n := by
  rcases Nat.lt_or_eq_of_le (s.fz_le b) with q | q
  · exact q
  · exact absurd (Sht.fz_full hb q) hf
theorem Sht.upr_step {s : Sht} (h : s.Ok) {b : Nat} (hb : b < 2 ^ s.n) (hf : b ≠ s.full) (f : Nat) (hn : s.n ≤ f) :
    s.upr (f + 1) b = both (match s.put b false (s.fz b) with | some x => oneUp false (s.upr (f + 1) x) | none => none) (if s.l = s.w then none else match s.put b true (s.fz b) with | some x => oneUp true (s.upr (f + 1) x) | none => none) := by
  have hlt := Sht.fz_lt hb hf
  rw [Sht.upr, if_neg hf]
  have k1 : ∀ x, s.put b false (s.fz b) = some x → s.upr f x = s.upr (f + 1) x := fun x hx => by
    obtain ⟨h1, h2⟩ := Sht.put_fz h hb hlt hx
    exact Sht.upr_fuel h (s.n - s.fz x) x h1 rfl _ _ (by omega) (by omega)
  have k2 : ∀ x, s.put b true (s.fz b) = some x → s.upr f x = s.upr (f + 1) x := fun x hx => by
    obtain ⟨h1, h2⟩ := Sht.put_fz h hb hlt hx
    exact Sht.upr_fuel h (s.n - s.fz x) x h1 rfl _ _ (by omega) (by omega)
  show both (match s.put b false (s.fz b) with | some x => oneUp false (s.upr f x) | none => none) (if s.l = s.w then none else match s.put b true (s.fz b) with | some x => oneUp true (s.upr f x) | none => none) = _
  refine both_congr ?_ (ite_congr rfl (fun _ => rfl) fun _ => ?_)
  · cases hp : s.put b false (s.fz b) with
    | none => rfl
    | some x => simp only; rw [k1 x hp]
  · cases hp : s.put b true (s.fz b) with
    | none => rfl
    | some x => simp only; rw [k2 x hp]
theorem Sht.uprS_step {s : Sht} (h : s.Ok) {b : Nat} (hb : b < 2 ^ s.n) (hf : b ≠ s.full) : s.uprS b = both (s.up1 b false) (if s.l = s.w then none else s.up1 b true) :=
  Sht.upr_step h hb hf 39 (by have := h.n; omega)
theorem Sht.cnt_step {s : Sht} (h : s.Ok) {b : Nat} (hb : b < 2 ^ s.n) (hf : b ≠ s.full) (f : Nat) (hn : s.n ≤ f) :
    s.cnt (f + 1) b = optN (s.cnt (f + 1)) (s.put b false (s.fz b)) + (if s.l = s.w then 0 else optN (s.cnt (f + 1)) (s.put b true (s.fz b))) := by
  have hlt := Sht.fz_lt hb hf
  have key : ∀ t, optN (s.cnt f) (s.put b t (s.fz b)) = optN (s.cnt (f + 1)) (s.put b t (s.fz b)) := fun t => by
    cases hp : s.put b t (s.fz b) with
    | none => rfl
    | some x =>
      obtain ⟨h1, h2⟩ := Sht.put_fz h hb hlt hp
      exact Sht.cnt_fuel h (s.n - s.fz x) x h1 rfl f (f + 1) (by omega) (by omega)
  rw [← key, ← key, Sht.cnt, if_neg hf]
  rfl
theorem Sht.cntS_step {s : Sht} (h : s.Ok) {b : Nat} (hb : b < 2 ^ s.n) (hf : b ≠ s.full) : s.cntS b = s.ct1 b false + (if s.l = s.w then 0 else s.ct1 b true) :=
  Sht.cnt_step h hb hf 39 (by have := h.n; omega)
abbrev ctA (m : Nat) : AV := .int .i64 (m : Int)
def OkL {V : Type} (n : Nat) (f : Nat → V) (L : List (Int × V)) : Prop := ∀ (b : Nat) (v : V), b < 2 ^ n → mget L (b : Int) = some v → v = f b
theorem OkL.nil {V : Type} {n : Nat} {f : Nat → V} : OkL n f [] := fun _ _ _ h => by cases h
theorem OkL.put {V : Type} {n : Nat} {f : Nat → V} {L : List (Int × V)} (h : OkL n f L) (b : Nat) : OkL n f (mput L (b : Int) (f b)) := by
  intro c v hc hv
  rw [mget_mput] at hv
  split at hv
  · rename_i e
    cases hv
    rw [Int.ofNat_inj.1 e]
  · exact h c v hc hv
theorem St.cells {h0 h : AHeap} {p : AV} {s : Nat} {cs cs' : List AV} {tip : Bool} {rest : List Obj} (e : cs = cs') (st : St h0 h (⟨p, s, cs, tip⟩ :: rest)) : St h0 h (⟨p, s, cs', tip⟩ :: rest) := e ▸ st
end Go.Am

namespace Go.Am

/-- Books in which a way has just one number. -/
def withW (ws : List W) (i : Nat) (v : Int) : List W := ws.set i { (ws.getD i default) with l := v, m := v }
theorem withW_len (ws : List W) (i : Nat) (v : Int) : (withW ws i v).length = ws.length := by simp [withW]
theorem withW_get {ws : List W} {i : Nat} {v : Int} (hi : i < ws.length) (k : Nat) : (withW ws i v).getD k default = if k = i then { (ws.getD i default) with l := v, m := v } else ws.getD k default := by
  unfold withW
  rw [List.getD_eq_getElem?_getD, List.getElem?_set]
  by_cases h : i = k
  · subst h; rw [if_pos rfl, if_pos hi, if_pos rfl]; rfl
  · rw [if_neg h, if_neg (fun h2 => h h2.symm), List.getD_eq_getElem?_getD]
theorem withW_kept {ws : List W} {i : Nat} {v : Int} (hi : i < ws.length) (n : List Int) (x : Int) : ∀ k, keptTo (withW ws i v) n x k = keptTo ws n x k := by
  intro k
  induction k with
  | zero => rfl
  | succ k ih =>
    rw [keptTo, keptTo, ih, withW_get hi]
    by_cases h : k = i
    · subst h; rw [if_pos rfl]
    · rw [if_neg h]
theorem withW_inR {r : Int} {ws : List W} {i : Nat} {v : Int} (hi : i < ws.length) (hr : InR r ws) : InR r (withW ws i v) := by
  intro k hk
  rw [withW_len] at hk
  rw [withW_get hi]
  by_cases h : k = i
  · subst h; rw [if_pos rfl]; exact hr k hk
  · rw [if_neg h]; exact hr k hk
theorem flow_with {ws : List W} {i : Nat} {v : Int} (hi : i < ws.length) (h1 : (ws.getD i default).l ≤ v) (h2 : v ≤ (ws.getD i default).m) {n : List Int} : Flow (withW ws i v) n ↔ Flow ws n ∧ n.getD i 0 = v := by
  constructor
  · intro h
    have e : n.getD i 0 = v := by
      have l1 := h.lo i (by rw [withW_len]; exact hi)
      have l2 := h.hi i (by rw [withW_len]; exact hi)
      rw [withW_get hi, if_pos rfl] at l1 l2
      have l1 : v ≤ n.getD i 0 := l1
      have l2 : n.getD i 0 ≤ v := l2
      omega
    refine ⟨⟨⟨by rw [h.len, withW_len], ?_, ?_⟩, ?_⟩, e⟩
    · intro k hk
      have := h.lo k (by rw [withW_len]; exact hk)
      rw [withW_get hi] at this
      by_cases hki : k = i
      · subst hki; rw [e]; exact h1
      · rw [if_neg hki] at this; exact this
    · intro k hk
      have := h.hi k (by rw [withW_len]; exact hk)
      rw [withW_get hi] at this
      by_cases hki : k = i
      · subst hki; rw [e]; exact h2
      · rw [if_neg hki] at this; exact this
    · intro x
      have := h.kp x
      rw [kept, withW_len, withW_kept hi] at this
      exact this
  · rintro ⟨h, e⟩
    refine ⟨⟨by rw [h.len, withW_len], ?_, ?_⟩, ?_⟩
    · intro k hk
      rw [withW_len] at hk
      rw [withW_get hi]
      by_cases hki : k = i
      · subst hki; rw [if_pos rfl]; exact Int.le_of_eq e.symm
      · rw [if_neg hki]; exact h.lo k hk
    · intro k hk
      rw [withW_len] at hk
      rw [withW_get hi]
      by_cases hki : k = i
      · subst hki; rw [if_pos rfl]; exact Int.le_of_eq e
      · rw [if_neg hki]; exact h.hi k hk
    · intro x
      rw [kept, withW_len, withW_kept hi]
      exact h.kp x
theorem withW_LM {ws : List W} {i : Nat} {v : Int} (hi : i < ws.length) (h : LM ws) : LM (withW ws i v) := by
  intro k hk
  rw [withW_len] at hk
  rw [withW_get hi]
  by_cases hki : k = i
  · subst hki; rw [if_pos rfl]; exact Int.le_refl _
  · rw [if_neg hki]; exact h k hk
theorem can_with {r : Nat} {ws : List W} {i : Nat} {v : Int} (hr : InR r ws) (hl : LM ws) (hi : i < ws.length) (h1 : (ws.getD i default).l ≤ v) (h2 : v ≤ (ws.getD i default).m) : canB r (withW ws i v) = true ↔ ∃ n, Flow ws n ∧ n.getD i 0 = v := by
  rw [hoffman (withW_inR hi hr) (withW_LM hi hl)]
  exact ⟨fun ⟨n, hn⟩ => ⟨n, (flow_with hi h1 h2).1 hn⟩, fun ⟨n, hn⟩ => ⟨n, (flow_with hi h1 h2).2 hn⟩⟩

end Go.Am


namespace Go.Am
def loChk (r : Nat) (ws : List W) (i : Nat) (v : Int) : Bool :=
  decide ((ws.getD i default).l ≤ v ∧ v ≤ (ws.getD i default).m) && canB r (withW ws i v) && (List.range (v - (ws.getD i default).l).toNat).all fun (k : Nat) => !canB r (withW ws i ((ws.getD i default).l + (k : Int)))
def hiChk (r : Nat) (ws : List W) (i : Nat) (v : Int) : Bool :=
  decide ((ws.getD i default).l ≤ v ∧ v ≤ (ws.getD i default).m) && canB r (withW ws i v) && (List.range ((ws.getD i default).m - v).toNat).all fun (k : Nat) => !canB r (withW ws i ((ws.getD i default).m - (k : Int)))
theorem lo_chk {r : Nat} {ws : List W} {i : Nat} {v : Int} (hB : BOk (r : Int) ws) (hi : i < ws.length) (h : loChk r ws i v = true) : IsLo ws i v := by
  unfold loChk at h
  simp only [Bool.and_eq_true, decide_eq_true_eq, List.all_eq_true, List.mem_range, Bool.not_eq_true'] at h
  obtain ⟨⟨⟨h1, h2⟩, h3⟩, h4⟩ := h
  refine ⟨(can_with hB.inR hB.LM hi h1 h2).1 h3, fun n hn => ?_⟩
  have hl := hn.lo i hi
  have hm := hn.hi i hi
  refine Int.not_lt.1 ?_
  intro hlt
  have h5 := h4 (n.getD i 0 - (ws.getD i default).l).toNat (by omega)
  have e : (ws.getD i default).l + (((n.getD i 0 - (ws.getD i default).l).toNat : Nat) : Int) = n.getD i 0 := by omega
  rw [e] at h5
  have h6 := (can_with hB.inR hB.LM (i := i) (v := n.getD i 0) hi hl hm).2 ⟨n, hn, rfl⟩
  rw [h5] at h6
  cases h6
theorem hi_chk {r : Nat} {ws : List W} {i : Nat} {v : Int} (hB : BOk (r : Int) ws) (hi : i < ws.length) (h : hiChk r ws i v = true) : IsHi ws i v := by
  unfold hiChk at h
  simp only [Bool.and_eq_true, decide_eq_true_eq, List.all_eq_true, List.mem_range, Bool.not_eq_true'] at h
  obtain ⟨⟨⟨h1, h2⟩, h3⟩, h4⟩ := h
  refine ⟨(can_with hB.inR hB.LM hi h1 h2).1 h3, fun n hn => ?_⟩
  have hl := hn.lo i hi
  have hm := hn.hi i hi
  refine Int.not_lt.1 ?_
  intro hlt
  have h5 := h4 ((ws.getD i default).m - n.getD i 0).toNat (by omega)
  have e : (ws.getD i default).m - ((((ws.getD i default).m - n.getD i 0).toNat : Nat) : Int) = n.getD i 0 := by omega
  rw [e] at h5
  have h6 := (can_with hB.inR hB.LM (i := i) (v := n.getD i 0) hi hl hm).2 ⟨n, hn, rfl⟩
  rw [h5] at h6
  cases h6
theorem keptTo_sameK {ws ws' : List W} {n : List Int} {x : Int} : ∀ k : Nat, (∀ i, i < k → (ws'.getD i default).f = (ws.getD i default).f ∧ (ws'.getD i default).t = (ws.getD i default).t) → keptTo ws' n x k = keptTo ws n x k := by
  intro k
  induction k with
  | zero => intro _; rfl
  | succ k ih =>
    intro h
    rw [keptTo, keptTo, ih (fun i hi => h i (by omega)), (h k (by omega)).1, (h k (by omega)).2]
/-- The books in which the first numbers are given, and one more is smaller. -/
def fixTo (ws : List W) (x : List Int) (i : Nat) : List W := (List.range ws.length).map fun j => if j < i then { (ws.getD j default) with l := x.getD j 0, m := x.getD j 0 } else if j = i then { (ws.getD j default) with m := x.getD j 0 - 1 } else ws.getD j default
theorem fixTo_get {ws : List W} {x : List Int} {i j : Nat} (hj : j < ws.length) : (fixTo ws x i).getD j default = if j < i then { (ws.getD j default) with l := x.getD j 0, m := x.getD j 0 } else if j = i then { (ws.getD j default) with m := x.getD j 0 - 1 } else ws.getD j default := by
  unfold fixTo
  rw [List.getD_eq_getElem?_getD, List.getElem?_map, List.getElem?_range hj]; rfl
theorem fixTo_len (ws : List W) (x : List Int) (i : Nat) : (fixTo ws x i).length = ws.length := by simp [fixTo]
theorem lex_chk {r : Nat} {ws : List W} {x : List Int} (hB : BOk (r : Int) ws) (hf : Flow ws x) (h : ∀ i, i < ws.length → x.getD i 0 = (ws.getD i default).l ∨ canB r (fixTo ws x i) = false) : LexMin ws x := by
  refine ⟨hf, fun n hn i hi hk => ?_⟩
  have hl := hn.lo i hi
  rcases h i hi with h1 | h1
  · omega
  · refine Int.not_lt.1 fun hlt => ?_
    have g : ∀ j, j < ws.length → (fixTo ws x i).getD j default = if j < i then { (ws.getD j default) with l := x.getD j 0, m := x.getD j 0 } else if j = i then { (ws.getD j default) with m := x.getD j 0 - 1 } else ws.getD j default := fun j hj => fixTo_get hj
    have hft : ∀ j, j < ws.length → ((fixTo ws x i).getD j default).f = (ws.getD j default).f ∧ ((fixTo ws x i).getD j default).t = (ws.getD j default).t := by
      intro j hj
      rw [g j hj]
      split
      · exact ⟨rfl, rfl⟩
      · split <;> exact ⟨rfl, rfl⟩
    have hb : ∀ j, j < ws.length → ((fixTo ws x i).getD j default).l ≤ n.getD j 0 ∧ n.getD j 0 ≤ ((fixTo ws x i).getD j default).m := by
      intro j hj
      have q1 := hn.lo j hj
      have q2 := hn.hi j hj
      rw [g j hj]
      split
      · rename_i hji
        rw [hk j hji]
        exact ⟨Int.le_refl _, Int.le_refl _⟩
      · split
        · rename_i _ he
          subst he
          exact ⟨q1, by show n.getD j 0 ≤ x.getD j 0 - 1; omega⟩
        · exact ⟨q1, q2⟩
    have hF : Flow (fixTo ws x i) n := by
      refine ⟨⟨hn.len.trans (fixTo_len _ _ _).symm, fun j hj => (hb j (by rw [fixTo_len] at hj; exact hj)).1, fun j hj => (hb j (by rw [fixTo_len] at hj; exact hj)).2⟩, fun y => ?_⟩
      unfold kept
      rw [fixTo_len, keptTo_sameK _ hft]
      exact hn.kp y
    have hr : InR (r : Int) (fixTo ws x i) := by
      intro j hj
      rw [fixTo_len] at hj
      have q := hB.inR j hj
      rw [(hft j hj).1, (hft j hj).2]
      exact q
    have hLM : LM (fixTo ws x i) := by
      intro j hj
      rw [fixTo_len] at hj
      have := hb j hj
      omega
    have := (hoffman hr hLM).2 ⟨n, hF⟩
    rw [h1] at this
    cases this
/-! Backs. -/
/-- All backs of so many cells, in order. -/
def bitsL : Nat → List (List Int)
  | 0 => [[]]
  | n + 1 => (bitsL n).map (0 :: ·) ++ (bitsL n).map (1 :: ·)
def cN (c : Nat) : Nat := 3 * (1 + c)
def wsC (n k : Nat) : List W := List.replicate n ⟨0, 1, 0, 1⟩ ++ [⟨1, 0, (k : Int), (k : Int)⟩]
/-- The first of all backs with so many cells. -/
def x0C (n k : Nat) : List Int := List.replicate (n - k) 0 ++ List.replicate k 1
def loC (n k : Nat) : Int := if k = n then 1 else 0
def hiC (n k : Nat) : Int := if k = 0 then 0 else 1
def chkA (n k : Nat) : Bool := decide (agreeE 2 (wsC n k) = 0) && (List.range n).all (fun i => loChk 2 (wsC n k) i (loC n k) && hiChk 2 (wsC n k) i (hiC n k)) && decide (verE 2 (wsC n k) (x0C n k ++ [(k : Int)]) = 0) &&
  (List.range (n + 1)).all (fun i => decide ((x0C n k ++ [(k : Int)]).getD i 0 = ((wsC n k).getD i default).l) || !canB 2 (fixTo (wsC n k) (x0C n k ++ [(k : Int)]) i))
theorem chkA_all : ∀ c, c < 3 → ∀ k, k ≤ cN c → chkA (cN c) k = true := by decide +kernel
def chkV (n k : Nat) : Bool := (bitsL n).all fun x => decide (verE 2 (wsC n k) (x ++ [(k : Int)]) = if x.sum = (k : Int) then 0 else 17)
theorem chkV_all : ∀ c, c < 3 → ∀ k, k ≤ cN c → chkV (cN c) k = true := by decide +kernel
theorem bits_len : ∀ n, ∀ x ∈ bitsL n, x.length = n := by
  intro n
  induction n with
  | zero => intro x hx; rw [bitsL, List.mem_singleton] at hx; rw [hx]; rfl
  | succ n ih =>
    intro x hx
    rw [bitsL, List.mem_append, List.mem_map, List.mem_map] at hx
    rcases hx with ⟨y, hy, rfl⟩ | ⟨y, hy, rfl⟩ <;> simp [ih y hy]
theorem bits_01 : ∀ n, ∀ x ∈ bitsL n, ∀ a ∈ x, a = 0 ∨ a = 1 := by
  intro n
  induction n with
  | zero => intro x hx; rw [bitsL, List.mem_singleton] at hx; subst hx; intro a ha; cases ha
  | succ n ih =>
    intro x hx a ha
    rw [bitsL, List.mem_append, List.mem_map, List.mem_map] at hx
    rcases hx with ⟨y, hy, rfl⟩ | ⟨y, hy, rfl⟩
    · rcases List.mem_cons.1 ha with rfl | ha
      · exact .inl rfl
      · exact ih y hy a ha
    · rcases List.mem_cons.1 ha with rfl | ha
      · exact .inr rfl
      · exact ih y hy a ha
theorem bits_num : ∀ n, (bitsL n).length = 2 ^ n := by
  intro n
  induction n with
  | zero => rfl
  | succ n ih => rw [bitsL, List.length_append, List.length_map, List.length_map, ih, Nat.pow_succ]; omega
/-- How many of the first backs have so many cells. -/
def cntC (n k i : Nat) : Nat := ((bitsL n).take i).countP fun x => decide (x.sum = (k : Int))
theorem cntC_next {n k i : Nat} (h : i < (bitsL n).length) : cntC n k (i + 1) = cntC n k i + if ((bitsL n).getD i []).sum = (k : Int) then 1 else 0 := by
  unfold cntC
  rw [List.take_add_one, List.getElem?_eq_getElem h, List.countP_append, List.getD_eq_getElem?_getD, List.getElem?_eq_getElem h]
  simp [List.countP_cons]
/-- The first one that has so many is the first of these. -/
def firstOk (k : Nat) (x0 : List Int) : List (List Int) → Bool
  | [] => true
  | x :: l => if x.sum = (k : Int) then decide (x = x0) else firstOk k x0 l
theorem firstOk_all : ∀ c, c < 3 → ∀ k, k ≤ cN c → firstOk k (x0C (cN c) k) (bitsL (cN c)) = true := by decide +kernel
theorem firstOk_at {k : Nat} {x0 : List Int} : ∀ {l : List (List Int)} {i : Nat}, firstOk k x0 l = true → i < l.length → ((l.take i).countP fun x => decide (x.sum = (k : Int))) = 0 → (l.getD i []).sum = (k : Int) → l.getD i [] = x0 := by
  intro l
  induction l with
  | nil => intro i _ h; exact absurd h (Nat.not_lt_zero _)
  | cons x l ih =>
    intro i h hi hc hs
    unfold firstOk at h
    cases i with
    | zero =>
      have hs : x.sum = (k : Int) := hs
      rw [if_pos hs, decide_eq_true_eq] at h
      exact h
    | succ i =>
      rw [List.take_succ_cons, List.countP_cons] at hc
      have h1 : ¬ x.sum = (k : Int) := by
        intro hx
        simp [hx] at hc
      rw [if_neg h1] at h
      refine ih h (by simpa using hi) ?_ hs
      omega
/-- What is known of a book and its backs. -/
structure CK (n k : Nat) : Prop where
  n1 : 1 ≤ n
  n9 : n ≤ 9
  kn : k ≤ n
  agr : agreeE 2 (wsC n k) = 0
  first : firstOf (wsC n k) = x0C n k ++ [(k : Int)]
  lo : ∀ i, i < n → loOf (wsC n k) i = loC n k
  hi : ∀ i, i < n → hiOf (wsC n k) i = hiC n k
  ver : ∀ x ∈ bitsL n, verE 2 (wsC n k) (x ++ [(k : Int)]) = if x.sum = (k : Int) then 0 else 17
  fst : firstOk k (x0C n k) (bitsL n) = true
theorem wsC_len (n k : Nat) : (wsC n k).length = n + 1 := by simp [wsC]
theorem ck {c k : Nat} (hc : c < 3) (hk : k ≤ cN c) : CK (cN c) k := by
  have h1 := chkA_all c hc k hk
  have h2 := chkV_all c hc k hk
  unfold chkA at h1
  unfold chkV at h2
  generalize hn : cN c = n at *
  simp only [Bool.and_eq_true, decide_eq_true_eq, List.all_eq_true, List.mem_range, Bool.or_eq_true, Bool.not_eq_true'] at h1 h2
  obtain ⟨⟨⟨ha, hlh⟩, hv⟩, hx⟩ := h1
  obtain ⟨hB, hF⟩ := agree_ok ha
  have hB2 : BOk ((2 : Nat) : Int) (wsC n k) := hB
  have hlen := wsC_len n k
  refine ⟨by rw [← hn]; unfold cN; omega, by rw [← hn]; unfold cN; omega, hk, ha, ?_, fun i hi => (loOf_is hF (by omega)).uniq (lo_chk hB2 (by omega) (hlh i hi).1), fun i hi => (hiOf_is hF (by omega)).uniq (hi_chk hB2 (by omega) (hlh i hi).2), h2, by rw [← hn]; exact firstOk_all c hc k (by rw [hn]; exact hk)⟩
  exact (firstOf_is hF).uniq (lex_chk hB2 (verE_flow hv).2 fun i hi => by rw [hlen] at hi; exact hx i hi)
end Go.Am
