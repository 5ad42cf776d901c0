/-
  Layer 01: a flow is found just where there is one: contract.
  Conditions: none.
-/
import Derived.Test.YtdfhmdhjeiipfaaSCm
import Derived.Test.YtdfhmdhjeiipfaaUe
import Derived.Test.YtdfhmdhjeiipfaaSCj
namespace Go.Am
theorem mins_within {rm : Int} {ws : List W} (hB : BOk rm ws) : Within ws (ws.map (·.l)) := by
  have hg : ∀ i, i < ws.length → (ws.map (·.l)).getD i 0 = (ws.getD i default).l := by
    intro i hi
    rw [List.getD_eq_getElem?_getD, List.getElem?_map, List.getD_eq_getElem?_getD, List.getElem?_eq_getElem hi]
    rfl
  exact ⟨by simp, fun i hi => by rw [hg i hi]; exact Int.le_refl _, fun i hi => by rw [hg i hi]; exact (hB.way i hi).lm⟩
theorem mins_next {ws : List W} {i : Nat} (hi : i < ws.length) : (ws.map (·.l)).take i ++ [(ws.getD i default).l] = (ws.map (·.l)).take (i + 1) := by
  have hl : i < (ws.map (·.l)).length := by simpa using hi
  rw [take_next hl]
  congr 1
  rw [List.getD_eq_getElem?_getD, List.getD_eq_getElem?_getD, List.getElem?_map, List.getElem?_eq_getElem hi]
  rfl
theorem keptL_flow {r : Nat} {ws : List W} {n : List Int} (hB : BOk (r : Int) ws) (hw : Within ws n) (h : ((keptL r ws n ws.length).any fun x => !decide (x = 0)) = false) : Flow ws n := by
  refine ⟨hw, fun x => ?_⟩
  by_cases hx : x < 0 ∨ (r : Int) ≤ x
  · exact kept_out hB.inR n hx _ (Nat.le_refl _)
  · have hg := keptL_get (ws := ws) (n := n) (k := ws.length) (show x.toNat < r by omega)
    rw [show ((x.toNat : Nat) : Int) = x by omega] at hg
    rw [List.any_eq_false] at h
    have hl := keptL_len r ws n ws.length
    have := h ((keptL r ws n ws.length).getD x.toNat 0) (by
      rw [List.getD_eq_getElem?_getD, List.getElem?_eq_getElem (by omega)]
      exact List.getElem_mem _)
    rw [hg] at this
    simpa using this
theorem keptL_dev {r : Nat} {ws : List W} {n : List Int} (h : ((keptL r ws n ws.length).any fun x => !decide (x = 0)) = true) : devTo ws n r ≠ 0 := by
  intro h0
  rw [List.any_eq_true] at h
  obtain ⟨x, hx, hne⟩ := h
  unfold keptL at hx
  obtain ⟨y, hy, rfl⟩ := List.mem_map.1 hx
  have := dev_zero h0 y (List.mem_range.1 hy)
  have h2 : keptTo ws n (y : Int) ws.length = 0 := this
  rw [h2] at hne
  exact absurd hne (by decide)
/-- No path for the first pairs of rooms. -/
def NoTo (ws : List W) (n : List Int) (r i j : Nat) : Prop := ∀ a b : Nat, a < r → b < r → (a < i ∨ (a = i ∧ b < j)) → ¬ (0 < kept ws n a ∧ kept ws n b < 0 ∧ ∃ vs E, Path ws n (fun _ => true) a vs b E)
theorem NoTo.zero (ws : List W) (n : List Int) (r : Nat) : NoTo ws n r 0 0 := fun a b _ _ h => by omega
theorem NoTo.row {ws : List W} {n : List Int} {r i : Nat} (h : NoTo ws n r i r) : NoTo ws n r (i + 1) 0 := fun a b ha hb hc => h a b ha hb (by omega)
theorem NoTo.more {ws : List W} {n : List Int} {r i j : Nat} (h : NoTo ws n r i j) (hn : ¬ (0 < kept ws n i ∧ kept ws n j < 0 ∧ ∃ vs E, Path ws n (fun _ => true) i vs j E)) : NoTo ws n r i (j + 1) := by
  intro a b ha hb hc
  by_cases he : a = i ∧ b = j
  · obtain ⟨rfl, rfl⟩ := he; exact hn
  · exact h a b ha hb (by omega)
theorem agree_flow {rm : Int} {ws : List W} {n : List Int} (h0 : chkB rm ws = 0) (hf : Flow ws n) : agreeE rm ws = 0 := by
  have hB := BOk.of h0
  have hr : InR ((rm.toNat : Nat) : Int) ws := by
    have := hB.r2
    rw [show ((rm.toNat : Nat) : Int) = rm by omega]
    exact hB.inR
  rw [agreeE, if_pos h0, canP, decide_eq_true h0, (hoffman hr hB.LM).2 ⟨n, hf⟩]
  rfl
theorem NoTo.lost {r : Nat} {ws : List W} {n : List Int} (h0 : chkB (r : Int) ws = 0) (hw : Within ws n) (hd : devTo ws n r ≠ 0) (h : NoTo ws n r r 0) : agreeE (r : Int) ws = 12 := by
  have hB := BOk.of h0
  rcases path_or_proof hB.inR hw hd with ⟨u, v, hu, hv, h1, h2, h3⟩ | ⟨s, hs, hp⟩
  · exact absurd ⟨h1, h2, h3⟩ (h u v hu hv (.inl hu))
  · have hc : canB r ws = false := by
      cases hb : canB r ws with
      | false => rfl
      | true => rw [canB_iff.1 hb s hs] at hp; cases hp
    rw [agreeE, if_pos h0, canP, decide_eq_true h0, Int.toNat_natCast, hc]
    rfl

theorem found_c {h : AHeap} {rm : Int} {vW : AV} {ws : List W} (hv : Rd h vW 4 (flr wc ws)) : ACalls Go.Proofs.Try.prog 22 [.agg [.int .i64 rm, vW]] h (fun q h' => ∃ qp, q = .tup [qp, .int .i64 (agreeE rm ws)] ∧ Keeps h h' ∧ qp.one = true ∧ (agreeE rm ws = 0 → ∃ n vn, AddrOf qp qp 0 0 ∧ Flow ws n ∧ St h h' [⟨qp, 0, [.int .i64 rm, vW, vn], true⟩, ⟨vn, 1, ints n, true⟩])) := by
  refine KA.fn 80 [.tmp 2, .tmp 3] Go.Proofs.Try.func22 rfl (by decide) rfl rfl (Nat.le_of_ble_eq_true rfl) ?_
  have hS := St.refl h
  have hvo : vW.one = true := hv.one
  show KA _ 80 _ _ [(0, .agg [.int .i64 rm, vW])] _
  refine KA.seq ?_
  refine KA.region rfl ?_
  refine KOps.boxAll hS (by first | rfl | (simp [AV.one]; done) | (simp [AV.one]; assumption) | (simp [AV.one, *]; done)) ?_
  intro p1 h' hp1 hS
  refine KOps.assign ?_
  refine KOps.assign ?_
  refine KOps.done ?_
  refine sqQ.normal ?_
  refine KA.sub (Sub.cons (t := 1) Look.eq (Sub.nil _)) ?_
  refine KA.scope ?_
  refine KA.seq ?_
  refine KA.seq ?_
  refine KA.region rfl ?_
  refine KOps.loadAll hS (i := 0) rfl hp1 (by rfl) (by decide) ?_
  refine KOps.call rfl (check_c (Rd.ext hS.keeps hv)) ?_
  rintro _ h5 ⟨rfl, hK⟩
  have hS0 : St _ _ (_ :: _) := St.trans hS (St.ofK hK)
  clear hS
  have hS := hS0
  clear hS0
  refine KOps.assign ?_
  refine KOps.done ?_
  refine sqQ.normal ?_
  refine KA.sub (Sub.cons (t := 1) Look.eq (Sub.cons (t := 4) Look.eq (Sub.nil _))) ?_
  refine KA.seq ?_
  refine KA.region rfl ?_
  refine KOps.move ?_
  refine KOps.neq ?_
  refine KOps.done ?_
  refine sqQ.normal ?_
  refine KA.sub (Sub.cons (t := 1) Look.eq (Sub.cons (t := 4) Look.eq (Sub.cons (t := 18) Look.eq (Sub.nil _)))) ?_
  refine KA.condN ?_ ?_
  · intro c18
    refine KA.seq ?_
    refine KA.region rfl ?_
    refine KOps.move ?_
    refine KOps.assign ?_
    refine KOps.assign ?_
    refine KOps.done ?_
    refine sqQ.normal ?_
    refine KA.sub (Sub.cons (t := 2) Look.eq (Sub.cons (t := 3) Look.eq (Sub.nil _))) ?_
    refine KA.ret ?_
    refine sqQ.ret ?_
    refine fnQ.retN ?_
    have e0 : agreeE rm ws = chkB rm ws := by rw [agreeE, if_neg c18]
    rw [e0]
    exact ⟨_, rfl, hS.keeps, rfl, fun h0 => absurd h0 c18⟩
  · intro c18
    obtain ⟨r, rfl⟩ : ∃ r : Nat, rm = (r : Int) := ⟨rm.toNat, by have := (BOk.of c18).r2; omega⟩
    have hB := BOk.of c18
    have hr6 := hB.r6
    have hwl := hB.len
    refine KA.skip ?_
    refine sqQ.normal ?_
    refine KA.sub (Sub.cons (t := 1) Look.eq (Sub.nil _)) ?_
    refine KA.seq ?_
    refine KA.region rfl ?_
    refine KOps.loadAll hS (i := 0) rfl hp1 (by rfl) (by decide) ?_
    refine KOps.buildA1 (z0 := .int .i64 0) (z1 := .nils) (z2 := .nils) (by kernel_rfl) (by rfl) (by kernel_rfl) (by kernel_rfl) (by first | rfl | assumption) (by first | rfl | assumption) ?_
    refine KOps.boxAll hS (by first | rfl | (simp [AV.one]; done) | (simp [AV.one]; assumption) | (simp [AV.one, *]; done)) ?_
    intro p22 h' hp22 hS
    refine KOps.assign ?_
    refine KOps.done ?_
    refine sqQ.normal ?_
    refine KA.sub (Sub.cons (t := 1) Look.eq (Sub.cons (t := 5) Look.eq (Sub.nil _))) ?_
    refine KA.seq ?_
    refine KA.seq ?_
    refine KA.region rfl ?_
    refine KOps.fieldAddr hp1 ?_
    intro p23 hp23
    refine KOps.load hp23 (hS.rd 1 rfl) rfl ?_
    refine KOps.lenF wc_len (Rd.ext hS.keeps hv) ?_
    refine KOps.move ?_
    refine KOps.done ?_
    refine sqQ.normal ?_
    refine KA.sub (Sub.cons (t := 5) Look.eq (Sub.cons (t := 24) Look.eq (Sub.cons (t := 25) Look.eq (Sub.cons (t := 26) Look.eq (Sub.nil _))))) ?_
    refine KA.block ?_
    refine KA.loop (X := Nat × AV) (fun x => [(5, p22), (24, vW), (25, .int .i64 (ws.length : Int)), (26, .int .i64 (x.1 : Int))]) (fun x h' => x.1 ≤ ws.length ∧ St h h' [⟨p22, 0, [.int .i64 (r : Int), vW, x.2], true⟩, ⟨p1, 0, [.int .i64 (r : Int), vW], true⟩, ⟨x.2, 1, ints ((ws.map (·.l)).take x.1), true⟩]) (fun x => ws.length - x.1) (0, .nils) (by repeat (first | exact Sub.nil _ | refine Sub.cons Look.eq ?_ | refine Sub.cons (Eq.trans Look.eq (congrArg (AV.int _) (by first | omega | (dsimp only; omega)))) ?_)) ?_ ?_
    · exact ⟨Nat.zero_le _, St.addNil 1 true hS⟩
    rintro ⟨i, vn⟩ h6 ⟨hi, hS⟩
    dsimp only at hi hS ⊢
    refine KA.seq ?_
    refine KA.region rfl ?_
    refine KOps.lss ?_
    refine KOps.done ?_
    refine sqQ.normal ?_
    refine KA.seq ?_
    refine KA.condD ?_ ?_
    · intro c27
      refine KA.skip ?_
      refine sqQ.normal ?_
      refine KA.sub (Sub.cons (t := 5) Look.eq (Sub.cons (t := 24) Look.eq (Sub.cons (t := 25) Look.eq (Sub.cons (t := 26) Look.eq (Sub.nil _))))) ?_
      refine KA.seq ?_
      refine KA.block ?_
      refine KA.seq ?_
      refine KA.region rfl ?_
      refine KOps.indexF wc_len (Rd.ext hS.keeps hv) (j := i) rfl (by first | omega | (simp; omega)) ?_
      intro p28 hp28
      refine KOps.loadFl wc_len (by decide) hp28 (Rd.ext hS.keeps hv) (by first | omega | (simp; omega)) ?_
      refine KOps.alloc hS ?_
      intro p7 h' hp7 hS
      refine KOps.storeAll hS rfl (i := 0) rfl hp7 (by first | rfl | (simp [AV.one]; done) | (simp [AV.one]; assumption) | (simp [AV.one, *]; done)) (by rfl) (by rfl) (by decide) ?_
      intro h' hS
      simp only [List.set_cons_zero, List.set_cons_succ, Nat.zero_add] at hS
      refine KOps.done ?_
      refine sqQ.normal ?_
      refine KA.sub (Sub.cons (t := 5) Look.eq (Sub.cons (t := 7) Look.eq (Sub.cons (t := 24) Look.eq (Sub.cons (t := 25) Look.eq (Sub.cons (t := 26) Look.eq (Sub.nil _)))))) ?_
      refine KA.draw [8] mixed rfl (by kernel_rfl) ?_
      refine KOps.move ?_
      refine KOps.move ?_
      refine KOps.nilP hp22 ?_
      refine KOps.fieldAddr hp22 ?_
      intro p33 hp33
      refine KOps.load hp33 (hS.rd 1 rfl) rfl ?_
      refine KOps.fieldAddr hp7 ?_
      intro p35 hp35
      refine KOps.load hp35 (hS.rd 0 rfl) rfl ?_
      refine KOps.buildSlice hS rfl (by decide) rfl ?_
      intro v37 h' hS
      refine KOps.appendI hS (fun _ => rfl) (i := 3) rfl (by first | omega | (simp; omega)) ?_
      intro r38 h' hr38 hS
      refine KOps.nilP hp22 ?_
      refine KOps.fieldAddr hp22 ?_
      intro p40 hp40
      refine KOps.store hS rfl (i := 1) rfl hp40 hr38 (by first | decide | simp) ?_
      intro h' hS
      simp only [List.set_cons_zero, List.set_cons_succ, Nat.zero_add] at hS
      refine KOps.done ?_
      refine blQ.normal ?_
      refine sqQ.normal ?_
      refine KA.sub (Sub.cons (t := 5) Look.eq (Sub.cons (t := 24) Look.eq (Sub.cons (t := 25) Look.eq (Sub.cons (t := 26) Look.eq (Sub.nil _))))) ?_
      refine KA.region rfl ?_
      refine KOps.add (by first | omega | (simp; omega)) (by first | omega | (simp; omega)) ?_
      refine KOps.move ?_
      refine KOps.done ?_
      rw [mins_next (by omega)] at hS
      exact lpQ.normal (i + 1, r38) (by repeat (first | exact Sub.nil _ | refine Sub.cons Look.eq ?_ | refine Sub.cons (Eq.trans Look.eq (congrArg (AV.int _) (by first | omega | (dsimp only; omega)))) ?_)) ⟨by dsimp only; omega, St.tail hS⟩ (by dsimp only; omega)
    · intro c27
      refine KA.exit ?_
      refine sqQ.exit ?_
      refine lpQ.exit ?_
      refine blQ.here ?_
      refine sqQ.normal ?_
      refine KA.sub (Sub.cons (t := 5) Look.eq (Sub.nil _)) ?_
      refine KA.seq ?_
      refine KA.region rfl ?_
      refine KOps.assign ?_
      refine KOps.done ?_
      refine sqQ.normal ?_
      refine KA.seq ?_
      refine KA.label ?_
      refine sqQ.normal ?_
      refine KA.block ?_
      refine KA.loop (X := List Int × AV) (fun x => [(5, p22), (8, .fn 51 [])]) (fun x h' => Within ws x.1 ∧ St h h' [⟨p22, 0, [.int .i64 (r : Int), vW, x.2], true⟩, ⟨x.2, 1, ints x.1, true⟩, ⟨p1, 0, [.int .i64 (r : Int), vW], true⟩]) (fun x => devTo ws x.1 r) (ws.map (·.l), vn) (by repeat (first | exact Sub.nil _ | refine Sub.cons Look.eq ?_ | refine Sub.cons (Eq.trans Look.eq (congrArg (AV.int _) (by first | omega | (dsimp only; omega)))) ?_)) ?_ ?_
      · refine ⟨mins_within hB, ?_⟩
        have e : (ws.map (·.l)).take i = ws.map (·.l) := List.take_of_length_le (by simp; omega)
        rw [e] at hS
        exact St.pick [0, 2, 1] (by decide) rfl hS
      rintro ⟨n, vn⟩ h6 ⟨hw, hS⟩
      dsimp only at hw hS ⊢
      refine KA.block ?_
      refine KA.seq ?_
      refine KA.region rfl ?_
      refine KOps.move ?_
      refine KOps.call rfl (kept_c hp22 (hS.rd 0 rfl) (Rd.ext hS.keeps hv) (hS.rd 1 rfl) hB hw.len (within_bound hB hw)) ?_
      rintro vk h6 hK
      have hS0 : St _ _ (_ :: _) := St.trans hS hK
      clear hS
      have hS := hS0
      clear hS0
      refine KOps.assign ?_
      refine KOps.done ?_
      refine sqQ.normal ?_
      refine KA.sub (Sub.cons (t := 5) Look.eq (Sub.cons (t := 8) Look.eq (Sub.cons (t := 9) Look.eq (Sub.nil _)))) ?_
      refine KA.seq ?_
      refine KA.seq ?_
      refine KA.region rfl ?_
      refine KOps.move ?_
      refine KOps.call rfl (anyNz_c (hS.rd 0 rfl) (by rw [keptL_len]; omega) (fun _ _ => nz90_c)) ?_
      rintro _ h7 ⟨rfl, rfl⟩
      refine KOps.not ?_
      refine KOps.done ?_
      refine sqQ.normal ?_
      refine KA.sub (Sub.cons (t := 5) Look.eq (Sub.cons (t := 8) Look.eq (Sub.cons (t := 9) Look.eq (Sub.cons (t := 46) Look.eq (Sub.nil _))))) ?_
      refine KA.condB ?_ ?_
      · intro c46
        refine KA.seq ?_
        refine KA.region rfl ?_
        refine KOps.move ?_
        refine KOps.assign ?_
        refine KOps.assign ?_
        refine KOps.done ?_
        refine sqQ.normal ?_
        refine KA.sub (Sub.cons (t := 2) Look.eq (Sub.cons (t := 3) Look.eq (Sub.nil _))) ?_
        refine KA.ret ?_
        refine sqQ.ret ?_
        refine blQ.ret ?_
        refine lpQ.ret ?_
        refine blQ.ret ?_
        refine fnQ.retN ?_
        have hfl := keptL_flow hB hw (by simpa using c46)
        have e0 := agree_flow c18 hfl
        rw [e0]
        exact ⟨_, rfl, hS.keeps, St.one hS (k := 1) rfl, fun _ => ⟨n, vn, hp22, hfl, St.pick [1, 2] (by decide) rfl hS⟩⟩
      · intro c46
        refine KA.skip ?_
        refine sqQ.normal ?_
        refine KA.sub (Sub.cons (t := 5) Look.eq (Sub.cons (t := 8) Look.eq (Sub.cons (t := 9) Look.eq (Sub.nil _)))) ?_
        refine KA.seq ?_
        refine KA.seq ?_
        refine KA.region rfl ?_
        refine KOps.move ?_
        refine KOps.lenI (hS.rd 0 rfl) ?_
        refine KOps.move ?_
        refine KOps.done ?_
        refine sqQ.normal ?_
        refine KA.block ?_
        refine KA.loop (X := Nat) (fun i => [(5, p22), (8, .fn 51 []), (9, vk), (48, vk), (49, .int .i64 ((keptL r ws n ws.length).length : Int)), (50, .int .i64 (i : Int))]) (fun i h' => i ≤ r ∧ NoTo ws n r i 0 ∧ St h h' [⟨vk, 1, ints (keptL r ws n ws.length), true⟩, ⟨p22, 0, [.int .i64 (r : Int), vW, vn], true⟩, ⟨vn, 1, ints n, true⟩, ⟨p1, 0, [.int .i64 (r : Int), vW], true⟩]) (fun i => r - i) 0 (by repeat (first | exact Sub.nil _ | refine Sub.cons Look.eq ?_ | refine Sub.cons (Eq.trans Look.eq (congrArg (AV.int _) (by first | omega | (dsimp only; omega)))) ?_)) ?_ ?_
        · exact ⟨Nat.zero_le _, NoTo.zero _ _ _, hS⟩
        rintro i h8 ⟨hi, hno0, hS⟩
        have hkl := keptL_len r ws n ws.length
        refine KA.seq ?_
        refine KA.region rfl ?_
        refine KOps.lss ?_
        refine KOps.done ?_
        refine sqQ.normal ?_
        refine KA.seq ?_
        refine KA.condD ?_ ?_
        · intro c51
          refine KA.skip ?_
          refine sqQ.normal ?_
          refine KA.sub (Sub.cons (t := 5) Look.eq (Sub.cons (t := 8) Look.eq (Sub.cons (t := 9) Look.eq (Sub.cons (t := 48) Look.eq (Sub.cons (t := 49) Look.eq (Sub.cons (t := 50) Look.eq (Sub.nil _))))))) ?_
          refine KA.seq ?_
          refine KA.block ?_
          refine KA.seq ?_
          refine KA.region rfl ?_
          refine KOps.move ?_
          refine KOps.indexIJ (hS.rd 0 rfl) (j := i) rfl (by first | omega | (simp; omega)) ?_
          intro p53 hp53
          refine KOps.loadI hp53 (hS.rd 0 rfl) (by first | omega | (simp; omega)) ?_
          refine KOps.assign ?_
          refine KOps.assign ?_
          refine KOps.done ?_
          refine sqQ.normal ?_
          refine KA.sub (Sub.cons (t := 5) Look.eq (Sub.cons (t := 8) Look.eq (Sub.cons (t := 9) Look.eq (Sub.cons (t := 10) Look.eq (Sub.cons (t := 11) Look.eq (Sub.cons (t := 48) Look.eq (Sub.cons (t := 49) Look.eq (Sub.cons (t := 50) Look.eq (Sub.nil _))))))))) ?_
          refine KA.seq ?_
          refine KA.region rfl ?_
          refine KOps.move ?_
          refine KOps.lenI (hS.rd 0 rfl) ?_
          refine KOps.move ?_
          refine KOps.done ?_
          refine sqQ.normal ?_
          refine KA.block ?_
          refine KA.loop (X := Nat) (fun j => [(5, p22), (8, .fn 51 []), (9, vk), (48, vk), (49, .int .i64 ((keptL r ws n ws.length).length : Int)), (50, .int .i64 (i : Int)), (10, .int .i64 (i : Int)), (11, .int .i64 ((keptL r ws n ws.length).getD i 0)), (55, vk), (56, .int .i64 ((keptL r ws n ws.length).length : Int)), (57, .int .i64 (j : Int))]) (fun j h' => j ≤ r ∧ NoTo ws n r i j ∧ St h h' [⟨vk, 1, ints (keptL r ws n ws.length), true⟩, ⟨p22, 0, [.int .i64 (r : Int), vW, vn], true⟩, ⟨vn, 1, ints n, true⟩, ⟨p1, 0, [.int .i64 (r : Int), vW], true⟩]) (fun j => r - j) 0 (by repeat (first | exact Sub.nil _ | refine Sub.cons Look.eq ?_ | refine Sub.cons (Eq.trans Look.eq (congrArg (AV.int _) (by first | omega | (dsimp only; omega)))) ?_)) ?_ ?_
          · exact ⟨Nat.zero_le _, hno0, hS⟩
          rintro j h9 ⟨hj, hnoj, hS⟩
          have hkl := keptL_len r ws n ws.length
          refine KA.seq ?_
          refine KA.region rfl ?_
          refine KOps.lss ?_
          refine KOps.done ?_
          refine sqQ.normal ?_
          refine KA.seq ?_
          refine KA.condD ?_ ?_
          · intro c58
            refine KA.skip ?_
            refine sqQ.normal ?_
            refine KA.sub (Sub.cons (t := 5) Look.eq (Sub.cons (t := 8) Look.eq (Sub.cons (t := 9) Look.eq (Sub.cons (t := 10) Look.eq (Sub.cons (t := 11) Look.eq (Sub.cons (t := 48) Look.eq (Sub.cons (t := 49) Look.eq (Sub.cons (t := 50) Look.eq (Sub.cons (t := 55) Look.eq (Sub.cons (t := 56) Look.eq (Sub.cons (t := 57) Look.eq (Sub.nil _)))))))))))) ?_
            refine KA.seq ?_
            refine KA.block ?_
            refine KA.seq ?_
            refine KA.region rfl ?_
            refine KOps.move ?_
            refine KOps.indexIJ (hS.rd 0 rfl) (j := j) rfl (by first | omega | (simp; omega)) ?_
            intro p60 hp60
            refine KOps.loadI hp60 (hS.rd 0 rfl) (by first | omega | (simp; omega)) ?_
            refine KOps.assign ?_
            refine KOps.assign ?_
            refine KOps.done ?_
            refine sqQ.normal ?_
            refine KA.sub (Sub.cons (t := 5) Look.eq (Sub.cons (t := 8) Look.eq (Sub.cons (t := 9) Look.eq (Sub.cons (t := 10) Look.eq (Sub.cons (t := 11) Look.eq (Sub.cons (t := 12) Look.eq (Sub.cons (t := 13) Look.eq (Sub.cons (t := 48) Look.eq (Sub.cons (t := 49) Look.eq (Sub.cons (t := 50) Look.eq (Sub.cons (t := 55) Look.eq (Sub.cons (t := 56) Look.eq (Sub.cons (t := 57) Look.eq (Sub.nil _)))))))))))))) ?_
            refine KA.seq ?_
            refine KA.seq ?_
            refine KA.region rfl ?_
            have hgi : (keptL r ws n ws.length).getD i 0 = kept ws n (i : Int) := keptL_get (show i < r by omega)
            have hgj : (keptL r ws n ws.length).getD j 0 = kept ws n (j : Int) := keptL_get (show j < r by omega)
            refine KOps.move ?_
            refine KOps.leq ?_
            refine KOps.move ?_
            refine KOps.guardB (dj := 64) rfl rfl false true rfl ?_ ?_
            · intro g64
              have g64 := of_decide_eq_false g64
              refine KOps.move ?_
              refine KOps.guardYes (dj := 64) rfl rfl ?_
              refine KOps.geq ?_
              refine KOps.pickF ?_
              refine KOps.done ?_
              refine sqQ.normal ?_
              refine KA.sub (Sub.cons (t := 5) Look.eq (Sub.cons (t := 8) Look.eq (Sub.cons (t := 9) Look.eq (Sub.cons (t := 10) Look.eq (Sub.cons (t := 11) Look.eq (Sub.cons (t := 12) Look.eq (Sub.cons (t := 48) Look.eq (Sub.cons (t := 49) Look.eq (Sub.cons (t := 50) Look.eq (Sub.cons (t := 55) Look.eq (Sub.cons (t := 56) Look.eq (Sub.cons (t := 57) Look.eq (Sub.cons (t := 65) Look.eq (Sub.cons (t := 66) Look.eq (Sub.cons (t := 67) Look.eq (Sub.nil _)))))))))))))))) ?_
              refine KA.condD ?_ ?_
              · intro c67
                refine KA.exit ?_
                refine sqQ.exit ?_
                refine blQ.here ?_
                refine sqQ.normal ?_
                refine KA.sub (Sub.cons (t := 5) Look.eq (Sub.cons (t := 8) Look.eq (Sub.cons (t := 9) Look.eq (Sub.cons (t := 10) Look.eq (Sub.cons (t := 11) Look.eq (Sub.cons (t := 48) Look.eq (Sub.cons (t := 49) Look.eq (Sub.cons (t := 50) Look.eq (Sub.cons (t := 55) Look.eq (Sub.cons (t := 56) Look.eq (Sub.cons (t := 57) Look.eq (Sub.cons (t := 65) Look.eq (Sub.cons (t := 66) Look.eq (Sub.nil _)))))))))))))) ?_
                refine KA.region rfl ?_
                refine KOps.add (by first | omega | (simp; omega)) (by first | omega | (simp; omega)) ?_
                refine KOps.move ?_
                refine KOps.done ?_
                exact lpQ.normal (j + 1) (by repeat (first | exact Sub.nil _ | refine Sub.cons Look.eq ?_ | refine Sub.cons (Eq.trans Look.eq (congrArg (AV.int _) (by first | omega | (dsimp only; omega)))) ?_)) ⟨by omega, hnoj.more (fun h0 => by have := h0.2.1; omega), hS⟩ (by omega)
              · intro c67
                refine KA.skip ?_
                refine sqQ.normal ?_
                refine KA.sub (Sub.cons (t := 5) Look.eq (Sub.cons (t := 8) Look.eq (Sub.cons (t := 9) Look.eq (Sub.cons (t := 10) Look.eq (Sub.cons (t := 11) Look.eq (Sub.cons (t := 12) Look.eq (Sub.cons (t := 48) Look.eq (Sub.cons (t := 49) Look.eq (Sub.cons (t := 50) Look.eq (Sub.cons (t := 55) Look.eq (Sub.cons (t := 56) Look.eq (Sub.cons (t := 57) Look.eq (Sub.cons (t := 65) Look.eq (Sub.cons (t := 66) Look.eq (Sub.nil _))))))))))))))) ?_
                refine KA.seq ?_
                refine KA.region rfl ?_
                refine KOps.move ?_
                refine KOps.move ?_
                refine KOps.move ?_
                refine KOps.move ?_
                refine KOps.call rfl (path_c hp22 (hS.rd 1 rfl) (Rd.ext hS.keeps hv) (hS.rd 2 rfl) hB hw.len (by omega) (by omega) (A := fun _ => true) (fun _ _ _ _ => found1_c)) ?_
                rintro q h8 ⟨b, G9, hq, hG, hno, hyes⟩
                have hS9 := St.trans hS hG
                clear hS
                refine KOps.assign ?_
                refine KOps.done ?_
                refine sqQ.normal ?_
                refine KA.sub (Sub.cons (t := 5) Look.eq (Sub.cons (t := 8) Look.eq (Sub.cons (t := 9) Look.eq (Sub.cons (t := 10) Look.eq (Sub.cons (t := 11) Look.eq (Sub.cons (t := 14) Look.eq (Sub.cons (t := 48) Look.eq (Sub.cons (t := 49) Look.eq (Sub.cons (t := 50) Look.eq (Sub.cons (t := 55) Look.eq (Sub.cons (t := 56) Look.eq (Sub.cons (t := 57) Look.eq (Sub.cons (t := 65) Look.eq (Sub.cons (t := 66) Look.eq (Sub.nil _))))))))))))))) ?_
                refine KA.seq ?_
                refine KA.region rfl ?_
                refine KOps.move ?_
                refine KOps.neqNilm (p := (3, 4)) (by kernel_rfl) hq ?_
                refine KOps.done ?_
                refine sqQ.normal ?_
                refine KA.sub (Sub.cons (t := 5) Look.eq (Sub.cons (t := 8) Look.eq (Sub.cons (t := 9) Look.eq (Sub.cons (t := 10) Look.eq (Sub.cons (t := 11) Look.eq (Sub.cons (t := 14) Look.eq (Sub.cons (t := 48) Look.eq (Sub.cons (t := 49) Look.eq (Sub.cons (t := 50) Look.eq (Sub.cons (t := 55) Look.eq (Sub.cons (t := 56) Look.eq (Sub.cons (t := 57) Look.eq (Sub.cons (t := 65) Look.eq (Sub.cons (t := 66) Look.eq (Sub.cons (t := 74) Look.eq (Sub.nil _)))))))))))))))) ?_
                refine KA.condB ?_ ?_
                · intro c74
                  have hb : b = false := by simpa using c74
                  subst hb
                  obtain ⟨vs, E, p, rfl⟩ := hyes rfl
                  have hwp : 0 < ws.length := by
                    rcases Nat.eq_zero_or_pos ws.length with h0 | h0
                    · have h1 : kept ws n (i : Int) = 0 := by
                        show keptTo ws n (i : Int) ws.length = 0
                        rw [h0]; rfl
                      omega
                    · exact h0
                  refine KA.seq ?_
                  refine KA.region rfl ?_
                  refine KOps.move ?_
                  refine KOps.move ?_
                  refine KOps.call rfl (pushP_c hp22 (AV.mapNil_mp hq) hB hw hwp p (St.swap (A := [_, _]) (B := [_, _]) hS9)) ?_
                  rintro _ h10 hS
                  refine KOps.done ?_
                  refine sqQ.normal ?_
                  refine KA.sub (Sub.cons (t := 5) Look.eq (Sub.cons (t := 8) Look.eq (Sub.cons (t := 65) Look.eq (Sub.cons (t := 66) Look.eq (Sub.nil _))))) ?_
                  refine KA.exit ?_
                  refine blQ.exit rfl ?_
                  refine sqQ.exit ?_
                  refine lpQ.exit ?_
                  refine blQ.exit rfl ?_
                  refine blQ.exit rfl ?_
                  refine sqQ.exit ?_
                  refine lpQ.exit ?_
                  refine blQ.exit rfl ?_
                  refine sqQ.exit ?_
                  refine blQ.here ?_
                  have hd := dev_push (p.kept hw.len) (by omega) (by omega) (by omega) (by omega) r
                  rw [if_pos (by omega), if_pos (by omega)] at hd
                  exact lpQ.normal (pushE E n, vn) (by repeat (first | exact Sub.nil _ | refine Sub.cons Look.eq ?_ | refine Sub.cons (Eq.trans Look.eq (congrArg (AV.int _) (by first | omega | (dsimp only; omega)))) ?_)) ⟨p.within hw, St.mid (A := [_, _]) (B := [_]) hS⟩ (by dsimp only; omega)
                · intro c74
                  refine KA.skip ?_
                  refine blQ.normal ?_
                  refine sqQ.normal ?_
                  refine KA.sub (Sub.cons (t := 5) Look.eq (Sub.cons (t := 8) Look.eq (Sub.cons (t := 9) Look.eq (Sub.cons (t := 10) Look.eq (Sub.cons (t := 11) Look.eq (Sub.cons (t := 48) Look.eq (Sub.cons (t := 49) Look.eq (Sub.cons (t := 50) Look.eq (Sub.cons (t := 55) Look.eq (Sub.cons (t := 56) Look.eq (Sub.cons (t := 57) Look.eq (Sub.cons (t := 65) Look.eq (Sub.cons (t := 66) Look.eq (Sub.nil _)))))))))))))) ?_
                  refine KA.region rfl ?_
                  refine KOps.add (by first | omega | (simp; omega)) (by first | omega | (simp; omega)) ?_
                  refine KOps.move ?_
                  refine KOps.done ?_
                  exact lpQ.normal (j + 1) (by repeat (first | exact Sub.nil _ | refine Sub.cons Look.eq ?_ | refine Sub.cons (Eq.trans Look.eq (congrArg (AV.int _) (by first | omega | (dsimp only; omega)))) ?_)) ⟨by omega, hnoj.more (fun h0 => hno (by simpa using c74) h0.2.2), St.drop hS9⟩ (by omega)
            · intro g64
              have g64 := of_decide_eq_true g64
              refine KOps.guardNo (dj := 64) rfl rfl rfl ?_
              refine KOps.pickT ?_
              refine KOps.done ?_
              refine sqQ.normal ?_
              refine KA.sub (Sub.cons (t := 5) Look.eq (Sub.cons (t := 8) Look.eq (Sub.cons (t := 9) Look.eq (Sub.cons (t := 10) Look.eq (Sub.cons (t := 11) Look.eq (Sub.cons (t := 12) Look.eq (Sub.cons (t := 48) Look.eq (Sub.cons (t := 49) Look.eq (Sub.cons (t := 50) Look.eq (Sub.cons (t := 55) Look.eq (Sub.cons (t := 56) Look.eq (Sub.cons (t := 57) Look.eq (Sub.cons (t := 65) Look.eq (Sub.cons (t := 66) Look.eq (Sub.cons (t := 67) Look.eq (Sub.nil _)))))))))))))))) ?_
              refine KA.condT ?_
              refine KA.exit ?_
              refine sqQ.exit ?_
              refine blQ.here ?_
              refine sqQ.normal ?_
              refine KA.sub (Sub.cons (t := 5) Look.eq (Sub.cons (t := 8) Look.eq (Sub.cons (t := 9) Look.eq (Sub.cons (t := 10) Look.eq (Sub.cons (t := 11) Look.eq (Sub.cons (t := 48) Look.eq (Sub.cons (t := 49) Look.eq (Sub.cons (t := 50) Look.eq (Sub.cons (t := 55) Look.eq (Sub.cons (t := 56) Look.eq (Sub.cons (t := 57) Look.eq (Sub.cons (t := 65) Look.eq (Sub.cons (t := 66) Look.eq (Sub.nil _)))))))))))))) ?_
              refine KA.region rfl ?_
              refine KOps.add (by first | omega | (simp; omega)) (by first | omega | (simp; omega)) ?_
              refine KOps.move ?_
              refine KOps.done ?_
              exact lpQ.normal (j + 1) (by repeat (first | exact Sub.nil _ | refine Sub.cons Look.eq ?_ | refine Sub.cons (Eq.trans Look.eq (congrArg (AV.int _) (by first | omega | (dsimp only; omega)))) ?_)) ⟨by omega, hnoj.more (fun h0 => by have := h0.1; omega), hS⟩ (by omega)
          · intro c58
            refine KA.exit ?_
            refine sqQ.exit ?_
            refine lpQ.exit ?_
            refine blQ.here ?_
            refine blQ.normal ?_
            refine sqQ.normal ?_
            refine KA.sub (Sub.cons (t := 5) Look.eq (Sub.cons (t := 8) Look.eq (Sub.cons (t := 9) Look.eq (Sub.cons (t := 48) Look.eq (Sub.cons (t := 49) Look.eq (Sub.cons (t := 50) Look.eq (Sub.nil _))))))) ?_
            refine KA.region rfl ?_
            refine KOps.add (by first | omega | (simp; omega)) (by first | omega | (simp; omega)) ?_
            refine KOps.move ?_
            refine KOps.done ?_
            rw [show j = r by omega] at hnoj
            exact lpQ.normal (i + 1) (by repeat (first | exact Sub.nil _ | refine Sub.cons Look.eq ?_ | refine Sub.cons (Eq.trans Look.eq (congrArg (AV.int _) (by first | omega | (dsimp only; omega)))) ?_)) ⟨by omega, hnoj.row, hS⟩ (by omega)
        · intro c51
          refine KA.exit ?_
          refine sqQ.exit ?_
          refine lpQ.exit ?_
          refine blQ.here ?_
          refine sqQ.normal ?_
          refine KA.sub (Sub.nil _) ?_
          refine KA.seq ?_
          refine KA.region rfl ?_
          refine KOps.assign ?_
          refine KOps.assign ?_
          refine KOps.done ?_
          refine sqQ.normal ?_
          refine KA.ret ?_
          refine blQ.ret ?_
          refine lpQ.ret ?_
          refine blQ.ret ?_
          refine fnQ.retN ?_
          have hir : i = r := by omega
          subst hir
          have e0 := NoTo.lost c18 hw (keptL_dev (by simpa using c46)) hno0
          rw [e0]
          exact ⟨.nilp, rfl, hS.keeps, rfl, fun h0 => absurd h0 (by decide)⟩

end Go.Am


namespace Go.Am
theorem lo_exists {ws : List W} {i : Nat} (h : ∃ n, Flow ws n) (hi : i < ws.length) : ∃ v, IsLo ws i v := by
  obtain ⟨m, hm, hle⟩ := exists_min (P := fun n => Flow ws n) (fun n => (n.getD i 0 - (ws.getD i default).l).toNat) h
  refine ⟨m.getD i 0, ⟨m, hm, rfl⟩, fun n hn => ?_⟩
  have h1 := hle n hn
  have h2 := hm.lo i hi
  have h3 := hn.lo i hi
  omega
theorem hi_exists {ws : List W} {i : Nat} (h : ∃ n, Flow ws n) (hi : i < ws.length) : ∃ v, IsHi ws i v := by
  obtain ⟨m, hm, hle⟩ := exists_min (P := fun n => Flow ws n) (fun n => ((ws.getD i default).m - n.getD i 0).toNat) h
  refine ⟨m.getD i 0, ⟨m, hm, rfl⟩, fun n hn => ?_⟩
  have h1 := hle n hn
  have h2 := hm.hi i hi
  have h3 := hn.hi i hi
  omega
open Classical in
noncomputable def loOf (ws : List W) (i : Nat) : Int := if h : ∃ v, IsLo ws i v then Classical.choose h else 0
open Classical in
noncomputable def hiOf (ws : List W) (i : Nat) : Int := if h : ∃ v, IsHi ws i v then Classical.choose h else 0
theorem loOf_is {ws : List W} {i : Nat} (h : ∃ n, Flow ws n) (hi : i < ws.length) : IsLo ws i (loOf ws i) := by
  have h2 := lo_exists h hi
  unfold loOf
  rw [dif_pos h2]
  exact Classical.choose_spec h2
theorem hiOf_is {ws : List W} {i : Nat} (h : ∃ n, Flow ws n) (hi : i < ws.length) : IsHi ws i (hiOf ws i) := by
  have h2 := hi_exists h hi
  unfold hiOf
  rw [dif_pos h2]
  exact Classical.choose_spec h2
theorem Low.isLo {ws : List W} {i : Nat} {n : List Int} (hf : Flow ws n) (h : Low ws i (fun _ => true) n) : IsLo ws i (n.getD i 0) := ⟨⟨n, hf, rfl⟩, fun m hm => h m hm (fun _ _ hk => by cases hk)⟩
theorem High.isHi {ws : List W} {i : Nat} {n : List Int} (hf : Flow ws n) (h : High ws i (fun _ => true) n) : IsHi ws i (n.getD i 0) := ⟨⟨n, hf, rfl⟩, fun m hm => h m hm (fun _ _ hk => by cases hk)⟩

theorem span_c {h0 h : AHeap} {r : Nat} {i : Nat} {pf vW vn : AV} {ws : List W} {n : List Int} {tn : Bool} {G : List Obj} (hpf : AddrOf pf pf 0 0) (hv : Rd h0 vW 4 (flr wc ws)) (hB : BOk (r : Int) ws) (hfl : Flow ws n) (hi : i < ws.length) (hS : St h0 h (⟨pf, 0, [.int .i64 (r : Int), vW, vn], true⟩ :: ⟨vn, 1, ints n, tn⟩ :: G)) : ACalls Go.Proofs.Try.prog 23 [pf, .int .i64 (i : Int)] h (fun q h' => q = .tup [.int .i64 (loOf ws i), .int .i64 (hiOf ws i)] ∧ ∃ n', St h0 h' (⟨pf, 0, [.int .i64 (r : Int), vW, vn], true⟩ :: ⟨vn, 1, ints n', tn⟩ :: G) ∧ Flow ws n') := by
  refine KA.fn 27 [.tmp 4, .tmp 5] Go.Proofs.Try.func23 rfl (by decide) rfl rfl (Nat.le_of_ble_eq_true rfl) ?_
  show KA _ 27 _ _ [(0, pf), (1, .int .i64 (i : Int))] _
  refine KA.seq ?_
  refine KA.region rfl ?_
  refine KOps.assign ?_
  refine KOps.assign ?_
  refine KOps.done ?_
  refine sqQ.normal ?_
  refine KA.sub (Sub.cons (t := 0) Look.eq (Sub.cons (t := 1) Look.eq (Sub.nil _))) ?_
  refine KA.seq ?_
  refine KA.region rfl ?_
  refine KOps.move ?_
  refine KOps.move ?_
  refine KOps.call rfl (lower_c (i := i) (A := fun _ => true) hpf hv hB hfl hi (fun _ _ _ _ _ => span1_c) hS) ?_
  rintro _ h4 ⟨c2, hS4, hf2, hn2, hl2⟩
  clear hS
  have hS := hS4
  clear hS4
  have hcl := hf2.len
  have e1 := (hl2.isLo hf2).uniq (loOf_is ⟨_, hf2⟩ hi)
  refine KOps.done ?_
  refine sqQ.normal ?_
  refine KA.sub (Sub.cons (t := 0) Look.eq (Sub.cons (t := 1) Look.eq (Sub.nil _))) ?_
  refine KA.seq ?_
  refine KA.region rfl ?_
  refine KOps.move ?_
  refine KOps.nilP hpf ?_
  refine KOps.fieldAddr hpf ?_
  intro p11 hp11
  refine KOps.load hp11 (hS.rd 0 rfl) rfl ?_
  refine KOps.move ?_
  refine KOps.indexIJ (hS.rd 1 rfl) (j := i) (by first | omega | (simp; omega)) (by first | omega | (simp; omega)) ?_
  intro p14 hp14
  refine KOps.loadI hp14 (hS.rd 1 rfl) (by first | omega | (simp; omega)) ?_
  refine KOps.assign ?_
  refine KOps.done ?_
  refine sqQ.normal ?_
  refine KA.sub (Sub.cons (t := 0) Look.eq (Sub.cons (t := 1) Look.eq (Sub.cons (t := 4) Look.eq (Sub.nil _)))) ?_
  refine KA.seq ?_
  refine KA.region rfl ?_
  refine KOps.move ?_
  refine KOps.move ?_
  refine KOps.call rfl (raise_c (i := i) hpf hv hB hf2 hi hS) ?_
  rintro _ h5 ⟨c3, hS5, hf3, hn3, hl3⟩
  clear hS
  have hS := hS5
  clear hS5
  have hcl3 := hf3.len
  have e2 := (hl3.isHi hf3).uniq (hiOf_is ⟨_, hf3⟩ hi)
  refine KOps.done ?_
  refine sqQ.normal ?_
  refine KA.sub (Sub.cons (t := 0) Look.eq (Sub.cons (t := 1) Look.eq (Sub.cons (t := 4) Look.eq (Sub.nil _)))) ?_
  refine KA.seq ?_
  refine KA.draw [] mixed rfl (by kernel_rfl) ?_
  refine KOps.move ?_
  refine KOps.move ?_
  refine KOps.nilP hpf ?_
  refine KOps.fieldAddr hpf ?_
  intro p22 hp22
  refine KOps.load hp22 (hS.rd 0 rfl) rfl ?_
  refine KOps.move ?_
  refine KOps.indexIJ (hS.rd 1 rfl) (j := i) (by first | omega | (simp; omega)) (by first | omega | (simp; omega)) ?_
  intro p25 hp25
  refine KOps.loadI hp25 (hS.rd 1 rfl) (by first | omega | (simp; omega)) ?_
  refine KOps.assign ?_
  refine KOps.assign ?_
  refine KOps.done ?_
  refine sqQ.normal ?_
  refine KA.sub (Sub.cons (t := 4) Look.eq (Sub.cons (t := 5) Look.eq (Sub.nil _))) ?_
  refine KA.ret ?_
  refine fnQ.retN ?_
  exact ⟨by rw [← e1, ← e2], c3, hS, hf3⟩

theorem stFirst_c {h : AHeap} {rm : Int} {vW : AV} {ws : List W} (hv : Rd h vW 4 (flr wc ws)) : ACalls Go.Proofs.Try.prog 13 [.agg [.int .i64 rm, vW]] h (fun q h' => ∃ vo, q = .tup [vo, .int .i64 (agreeE rm ws)] ∧ St h h' [⟨vo, 1, ints (if agreeE rm ws = 0 then firstOf ws else []), true⟩]) := by
  refine KA.fn 20 [.tmp 2, .tmp 3] Go.Proofs.Try.func13 rfl (by decide) rfl rfl (Nat.le_of_ble_eq_true rfl) ?_
  have hS := St.refl h
  have hvo : vW.one = true := hv.one
  show KA _ 20 _ _ [(0, .agg [.int .i64 rm, vW])] _
  refine KA.seq ?_
  refine KA.region rfl ?_
  refine KOps.boxAll hS (by first | rfl | (simp [AV.one]; done) | (simp [AV.one]; assumption) | (simp [AV.one, *]; done)) ?_
  intro p1 h' hp1 hS
  refine KOps.assign ?_
  refine KOps.assign ?_
  refine KOps.done ?_
  refine sqQ.normal ?_
  refine KA.sub (Sub.cons (t := 1) Look.eq (Sub.nil _)) ?_
  refine KA.seq ?_
  refine KA.region rfl ?_
  refine KOps.loadAll hS (i := 0) rfl hp1 (by rfl) (by decide) ?_
  refine KOps.call rfl (found_c (Rd.ext hS.keeps hv)) ?_
  rintro _ h5 ⟨qp, rfl, hK, hqp, hyes⟩
  refine KOps.move ?_
  refine KOps.extract ?_
  refine KOps.extract ?_
  refine KOps.assign ?_
  refine KOps.assign ?_
  refine KOps.done ?_
  refine sqQ.normal ?_
  refine KA.sub (Sub.cons (t := 4) Look.eq (Sub.cons (t := 5) Look.eq (Sub.nil _))) ?_
  refine KA.seq ?_
  refine KA.seq ?_
  refine KA.region rfl ?_
  refine KOps.move ?_
  refine KOps.neq ?_
  refine KOps.done ?_
  refine sqQ.normal ?_
  refine KA.sub (Sub.cons (t := 4) Look.eq (Sub.cons (t := 5) Look.eq (Sub.cons (t := 12) Look.eq (Sub.nil _)))) ?_
  refine KA.condN ?_ ?_
  · intro c12
    refine KA.seq ?_
    refine KA.region rfl ?_
    refine KOps.move ?_
    refine KOps.assign ?_
    refine KOps.assign ?_
    refine KOps.done ?_
    refine sqQ.normal ?_
    refine KA.sub (Sub.cons (t := 2) Look.eq (Sub.cons (t := 3) Look.eq (Sub.nil _))) ?_
    refine KA.ret ?_
    refine sqQ.ret ?_
    refine fnQ.retN ?_
    rw [if_neg c12]
    exact ⟨_, rfl, St.trans (St.ofK (hS.keeps.trans hK)) (St.addNil 1 true (St.refl _))⟩
  · intro c12
    have c12 : agreeE rm ws = 0 := c12
    have hB := (agree_ok c12).1
    obtain ⟨r, rfl⟩ : ∃ r : Nat, rm = (r : Int) := ⟨rm.toNat, by have := hB.r2; omega⟩
    obtain ⟨n, vn, hpf, hf, hSF⟩ := hyes c12
    have hS0 : St _ _ (_ :: _ :: _) := St.trans hS hSF
    clear hS
    have hS := hS0
    clear hS0
    refine KA.skip ?_
    refine sqQ.normal ?_
    refine KA.sub (Sub.cons (t := 4) Look.eq (Sub.nil _)) ?_
    refine KA.seq ?_
    refine KA.region rfl ?_
    refine KOps.move ?_
    refine KOps.call rfl (first_c (r := r) (i := 0) hpf hv hB hf (Nat.zero_le _) hS) ?_
    rintro _ h6 ⟨c2, hS6, hft⟩
    clear hS
    have hS := hS6
    clear hS6
    have e1 := hft.lex.uniq (firstOf_is ⟨_, hft.fl⟩)
    refine KOps.done ?_
    refine sqQ.normal ?_
    refine KA.sub (Sub.cons (t := 4) Look.eq (Sub.nil _)) ?_
    refine KA.seq ?_
    refine KA.region rfl ?_
    refine KOps.move ?_
    refine KOps.nilP hpf ?_
    refine KOps.fieldAddr hpf ?_
    intro p18 hp18
    refine KOps.load hp18 (hS.rd 0 rfl) rfl ?_
    refine KOps.assign ?_
    refine KOps.assign ?_
    refine KOps.done ?_
    refine sqQ.normal ?_
    refine KA.sub (Sub.cons (t := 2) Look.eq (Sub.cons (t := 3) Look.eq (Sub.nil _))) ?_
    refine KA.ret ?_
    refine fnQ.retN ?_
    rw [if_pos c12, ← e1, c12]
    exact ⟨_, rfl, St.pick [1] (by decide) rfl hS⟩

end Go.Am


namespace Go.Am
abbrev pc (p : Int × Int) : List AV := ints [p.1, p.2]
theorem pc_len (p : Int × Int) : (pc p).length = 2 := rfl
noncomputable def spansTo (ws : List W) (k : Nat) : List (Int × Int) := (List.range k).map fun i => (loOf ws i, hiOf ws i)
theorem spansTo_len (ws : List W) (k : Nat) : (spansTo ws k).length = k := by simp [spansTo]
theorem spansTo_succ (ws : List W) (k : Nat) : spansTo ws (k + 1) = spansTo ws k ++ [(loOf ws k, hiOf ws k)] := by simp [spansTo, List.range_succ]

end Go.Am


namespace Go.Am

theorem stSpans_c {h : AHeap} {rm : Int} {vW : AV} {ws : List W} (hv : Rd h vW 4 (flr wc ws)) : ACalls Go.Proofs.Try.prog 8 [.agg [.int .i64 rm, vW]] h (fun q h' => ∃ vo, q = .tup [vo, .int .i64 (agreeE rm ws)] ∧ St h h' [⟨vo, 2, flr pc (if agreeE rm ws = 0 then spansTo ws ws.length else []), true⟩]) := by
  refine KA.fn 38 [.tmp 2, .tmp 3] Go.Proofs.Try.func8 rfl (by decide) rfl rfl (Nat.le_of_ble_eq_true rfl) ?_
  have hS := St.refl h
  have hvo : vW.one = true := hv.one
  show KA _ 38 _ _ [(0, .agg [.int .i64 rm, vW])] _
  refine KA.seq ?_
  refine KA.region rfl ?_
  refine KOps.boxAll hS (by first | rfl | (simp [AV.one]; done) | (simp [AV.one]; assumption) | (simp [AV.one, *]; done)) ?_
  intro p1 h' hp1 hS
  refine KOps.assign ?_
  refine KOps.assign ?_
  refine KOps.done ?_
  refine sqQ.normal ?_
  refine KA.sub (Sub.cons (t := 1) Look.eq (Sub.nil _)) ?_
  refine KA.seq ?_
  refine KA.region rfl ?_
  refine KOps.loadAll hS (i := 0) rfl hp1 (by rfl) (by decide) ?_
  refine KOps.call rfl (found_c (Rd.ext hS.keeps hv)) ?_
  rintro _ h5 ⟨qp, rfl, hK, hqp, hyes⟩
  refine KOps.move ?_
  refine KOps.extract ?_
  refine KOps.extract ?_
  refine KOps.assign ?_
  refine KOps.assign ?_
  refine KOps.done ?_
  refine sqQ.normal ?_
  refine KA.sub (Sub.cons (t := 1) Look.eq (Sub.cons (t := 4) Look.eq (Sub.cons (t := 5) Look.eq (Sub.nil _)))) ?_
  refine KA.seq ?_
  refine KA.seq ?_
  refine KA.region rfl ?_
  refine KOps.move ?_
  refine KOps.neq ?_
  refine KOps.done ?_
  refine sqQ.normal ?_
  refine KA.sub (Sub.cons (t := 1) Look.eq (Sub.cons (t := 4) Look.eq (Sub.cons (t := 5) Look.eq (Sub.cons (t := 16) Look.eq (Sub.nil _))))) ?_
  refine KA.condN ?_ ?_
  · intro c16
    refine KA.seq ?_
    refine KA.region rfl ?_
    refine KOps.move ?_
    refine KOps.assign ?_
    refine KOps.assign ?_
    refine KOps.done ?_
    refine sqQ.normal ?_
    refine KA.sub (Sub.cons (t := 2) Look.eq (Sub.cons (t := 3) Look.eq (Sub.nil _))) ?_
    refine KA.ret ?_
    refine sqQ.ret ?_
    refine fnQ.retN ?_
    rw [if_neg c16]
    exact ⟨_, rfl, St.trans (St.ofK (hS.keeps.trans hK)) (St.addNil 2 true (St.refl _))⟩
  · intro c16
    have hB := (agree_ok c16).1
    have hwl := hB.len
    obtain ⟨r, rfl⟩ : ∃ r : Nat, rm = (r : Int) := ⟨rm.toNat, by have := hB.r2; omega⟩
    obtain ⟨n, vn, hpf, hf, hSF⟩ := hyes c16
    have hS0 : St _ _ (_ :: _ :: _) := St.trans hS hSF
    clear hS
    have hS := hS0
    clear hS0
    refine KA.skip ?_
    refine sqQ.normal ?_
    refine KA.sub (Sub.cons (t := 1) Look.eq (Sub.cons (t := 4) Look.eq (Sub.nil _))) ?_
    refine KA.seq ?_
    refine KA.region rfl ?_
    refine KOps.assign ?_
    refine KOps.done ?_
    refine sqQ.normal ?_
    refine KA.seq ?_
    refine KA.seq ?_
    refine KA.region rfl ?_
    refine KOps.fieldAddr hp1 ?_
    intro p18 hp18
    refine KOps.load hp18 (hS.rd 2 rfl) rfl ?_
    refine KOps.lenF wc_len (Rd.ext hS.keeps hv) ?_
    refine KOps.move ?_
    refine KOps.done ?_
    refine sqQ.normal ?_
    refine KA.sub (Sub.cons (t := 4) Look.eq (Sub.cons (t := 6) Look.eq (Sub.cons (t := 20) Look.eq (Sub.cons (t := 21) Look.eq (Sub.nil _))))) ?_
    refine KA.block ?_
    refine KA.loop (X := Nat × AV × List Int) (fun x => [(4, qp), (6, x.2.1), (20, .int .i64 (ws.length : Int)), (21, .int .i64 (x.1 : Int))]) (fun x h' => x.1 ≤ ws.length ∧ Flow ws x.2.2 ∧ St h h' [⟨qp, 0, [.int .i64 (r : Int), vW, vn], true⟩, ⟨vn, 1, ints x.2.2, true⟩, ⟨p1, 0, [.int .i64 (r : Int), vW], true⟩, ⟨x.2.1, 2, flr pc (spansTo ws x.1), true⟩]) (fun x => ws.length - x.1) (0, .nils, n) (by repeat (first | exact Sub.nil _ | refine Sub.cons Look.eq ?_ | refine Sub.cons (Eq.trans Look.eq (congrArg (AV.int _) (by first | omega | (dsimp only; omega)))) ?_)) ?_ ?_
    · exact ⟨Nat.zero_le _, hf, St.addNil 2 true hS⟩
    rintro ⟨i, vo, n⟩ h9 ⟨hi, hf, hS⟩
    dsimp only at hi hf hS ⊢
    refine KA.seq ?_
    refine KA.region rfl ?_
    refine KOps.lss ?_
    refine KOps.done ?_
    refine sqQ.normal ?_
    refine KA.seq ?_
    refine KA.condD ?_ ?_
    · intro c22
      refine KA.skip ?_
      refine sqQ.normal ?_
      refine KA.sub (Sub.cons (t := 4) Look.eq (Sub.cons (t := 6) Look.eq (Sub.cons (t := 20) Look.eq (Sub.cons (t := 21) Look.eq (Sub.nil _))))) ?_
      refine KA.seq ?_
      refine KA.block ?_
      refine KA.seq ?_
      refine KA.region rfl ?_
      refine KOps.move ?_
      refine KOps.assign ?_
      refine KOps.done ?_
      refine sqQ.normal ?_
      refine KA.sub (Sub.cons (t := 4) Look.eq (Sub.cons (t := 6) Look.eq (Sub.cons (t := 7) Look.eq (Sub.cons (t := 20) Look.eq (Sub.cons (t := 21) Look.eq (Sub.nil _)))))) ?_
      refine KA.seq ?_
      refine KA.region rfl ?_
      refine KOps.move ?_
      refine KOps.move ?_
      refine KOps.call rfl (span_c (r := r) (i := i) hpf hv hB hf (by omega) hS) ?_
      rintro _ h6 ⟨rfl, n2, hS6, hf6⟩
      clear hS
      have hS := hS6
      clear hS6
      refine KOps.move ?_
      refine KOps.extract ?_
      refine KOps.extract ?_
      refine KOps.assign ?_
      refine KOps.assign ?_
      refine KOps.done ?_
      refine sqQ.normal ?_
      refine KA.sub (Sub.cons (t := 4) Look.eq (Sub.cons (t := 6) Look.eq (Sub.cons (t := 8) Look.eq (Sub.cons (t := 9) Look.eq (Sub.cons (t := 20) Look.eq (Sub.cons (t := 21) Look.eq (Sub.nil _))))))) ?_
      refine KA.region rfl ?_
      refine KOps.move ?_
      refine KOps.move ?_
      refine KOps.move ?_
      refine KOps.buildS2 (z0 := .int .i64 0) (z1 := .int .i64 0) (by kernel_rfl) (by rfl) (by kernel_rfl) (by kernel_rfl) (by kernel_rfl) (by first | rfl | assumption) (by first | rfl | assumption) ?_
      refine KOps.buildSliceS (cs := [.int .i64 (loOf ws i), .int .i64 (hiOf ws i)]) hS rfl rfl rfl (by decide) ?_
      intro v34 h' hS
      refine KOps.append hS (fun _ => rfl) (i := 4) rfl (a := i) (by rw [flr_len pc_len, spansTo_len]) (hS.rd 0 rfl) (b := 1) rfl rfl (by omega) ?_
      intro r35 h' hS
      simp only [List.set_cons_zero, List.set_cons_succ, Nat.zero_add] at hS
      have hr35 : r35.one = true := St.one hS (k := 4) rfl
      have hS0 := St.tail hS
      clear hS
      have hS := hS0
      clear hS0
      refine KOps.assign ?_
      refine KOps.done ?_
      refine blQ.normal ?_
      refine sqQ.normal ?_
      refine KA.sub (Sub.cons (t := 4) Look.eq (Sub.cons (t := 6) Look.eq (Sub.cons (t := 20) Look.eq (Sub.cons (t := 21) Look.eq (Sub.nil _))))) ?_
      refine KA.region rfl ?_
      refine KOps.add (by first | omega | (simp; omega)) (by first | omega | (simp; omega)) ?_
      refine KOps.move ?_
      refine KOps.done ?_
      rw [show ([.int .i64 (loOf ws i), .int .i64 (hiOf ws i)] : List AV) = pc (loOf ws i, hiOf ws i) from rfl, flr_snoc, ← spansTo_succ] at hS
      exact lpQ.normal (i + 1, r35, n2) (by repeat (first | exact Sub.nil _ | refine Sub.cons Look.eq ?_ | refine Sub.cons (Eq.trans Look.eq (congrArg (AV.int _) (by first | omega | (dsimp only; omega)))) ?_)) ⟨by dsimp only; omega, hf6, hS⟩ (by dsimp only; omega)
    · intro c22
      refine KA.exit ?_
      refine sqQ.exit ?_
      refine lpQ.exit ?_
      refine blQ.here ?_
      refine sqQ.normal ?_
      refine KA.sub (Sub.cons (t := 6) Look.eq (Sub.nil _)) ?_
      refine KA.seq ?_
      refine KA.region rfl ?_
      refine KOps.move ?_
      refine KOps.assign ?_
      refine KOps.assign ?_
      refine KOps.done ?_
      refine sqQ.normal ?_
      refine KA.sub (Sub.cons (t := 2) Look.eq (Sub.cons (t := 3) Look.eq (Sub.nil _))) ?_
      refine KA.ret ?_
      refine fnQ.retN ?_
      rw [if_pos c16, c16, show ws.length = i by omega]
      exact ⟨_, rfl, St.pick [3] (by decide) rfl hS⟩

end Go.Am


namespace Go.Am
section
variable {rm : Int} {ws : List W} {l : List Int}
theorem verE_chk (h : ¬ chkB rm ws = 0) : verE rm ws l = chkB rm ws := by rw [verE, if_pos h]
theorem verE_len (h : chkB rm ws = 0) (h2 : ¬ l.length = ws.length) : verE rm ws l = 5 := by rw [verE, if_neg (fun h3 => h3 h), if_pos h2]
theorem verE_in (h : chkB rm ws = 0) (h2 : l.length = ws.length) {i : Nat} (hi : i < ws.length) (h3 : ¬ ((ws.getD i default).l ≤ l.getD i 0 ∧ l.getD i 0 ≤ (ws.getD i default).m)) : verE rm ws l = 1 := by
  rw [verE, if_neg (fun h3 => h3 h), if_neg (fun h4 => h4 h2), if_pos (withinB_no hi h3)]
theorem verE_end (h : chkB rm ws = 0) (h2 : l.length = ws.length) (h3 : ∀ i, i < ws.length → (ws.getD i default).l ≤ l.getD i 0 ∧ l.getD i 0 ≤ (ws.getD i default).m) : verE rm ws l = if zeroB rm.toNat ws l = false then 17 else 0 := by
  rw [verE, if_neg (fun h3 => h3 h), if_neg (fun h4 => h4 h2), withinB_iff.2 h3, if_neg (by decide)]
theorem in_bound (hB : BOk rm ws) (h3 : ∀ i, i < ws.length → (ws.getD i default).l ≤ l.getD i 0 ∧ l.getD i 0 ≤ (ws.getD i default).m) : ∀ i, i < ws.length → 0 ≤ l.getD i 0 ∧ l.getD i 0 ≤ 99 := by
  intro i hi
  have h1 := h3 i hi
  have h4 := hB.way i hi
  have h5 := h4.l0
  have h6 := h4.m1
  omega
theorem any_zero (r : Nat) (ws : List W) (l : List Int) : ((keptL r ws l ws.length).any fun x => !decide (x = 0)) = !zeroB r ws l := by
  unfold keptL zeroB
  rw [List.any_map]
  induction List.range r with
  | nil => rfl
  | cons a t ih => rw [List.any_cons, List.all_cons, ih]; simp
end

theorem verify_c {h : AHeap} {rm : Int} {vW vn : AV} {ws : List W} {l : List Int} (hv : Rd h vW 4 (flr wc ws)) (hn : Row h vn l) : ACalls Go.Proofs.Try.prog 9 [.agg [.int .i64 rm, vW], vn] h (fun q h' => q = .int .i64 (verE rm ws l) ∧ Keeps h h') := by
  refine KA.fn 52 [.tmp 4] Go.Proofs.Try.func9 rfl (by decide) rfl rfl (Nat.le_of_ble_eq_true rfl) ?_
  have hS := St.refl h
  have hvo : vW.one = true := hv.one
  have hno : vn.one = true := hn.one
  show KA _ 52 _ _ [(0, .agg [.int .i64 rm, vW]), (1, vn)] _
  refine KA.seq ?_
  refine KA.region rfl ?_
  refine KOps.boxAll hS (by first | rfl | (simp [AV.one]; done) | (simp [AV.one]; assumption) | (simp [AV.one, *]; done)) ?_
  intro p2 h' hp2 hS
  refine KOps.assign ?_
  refine KOps.done ?_
  refine sqQ.normal ?_
  refine KA.sub (Sub.cons (t := 1) Look.eq (Sub.cons (t := 2) Look.eq (Sub.nil _))) ?_
  refine KA.seq ?_
  refine KA.region rfl ?_
  refine KOps.loadAll hS (i := 0) rfl hp2 (by rfl) (by decide) ?_
  refine KOps.call rfl (check_c (Rd.ext hS.keeps hv)) ?_
  rintro _ h5 ⟨rfl, hK⟩
  have hS0 : St _ _ (_ :: _) := St.trans hS (St.ofK hK)
  clear hS
  have hS := hS0
  clear hS0
  refine KOps.assign ?_
  refine KOps.done ?_
  refine sqQ.normal ?_
  refine KA.sub (Sub.cons (t := 1) Look.eq (Sub.cons (t := 2) Look.eq (Sub.cons (t := 5) Look.eq (Sub.nil _)))) ?_
  refine KA.seq ?_
  refine KA.block ?_
  refine KA.seq ?_
  refine KA.region rfl ?_
  refine KOps.move ?_
  refine KOps.neq ?_
  refine KOps.assign ?_
  refine KOps.done ?_
  refine sqQ.normal ?_
  refine KA.sub (Sub.cons (t := 1) Look.eq (Sub.cons (t := 2) Look.eq (Sub.cons (t := 5) Look.eq (Sub.cons (t := 11) Look.eq (Sub.nil _))))) ?_
  refine KA.condN ?_ ?_
  · intro c11
    refine KA.seq ?_
    refine KA.region rfl ?_
    refine KOps.move ?_
    refine KOps.assign ?_
    refine KOps.done ?_
    refine sqQ.normal ?_
    refine KA.sub (Sub.cons (t := 4) Look.eq (Sub.nil _)) ?_
    refine KA.ret ?_
    refine blQ.ret ?_
    refine sqQ.ret ?_
    refine fnQ.ret1 ?_
    rw [verE_chk c11]
    exact ⟨rfl, hS.keeps⟩
  · intro c11
    refine KA.seq ?_
    refine KA.region rfl ?_
    refine KOps.move ?_
    refine KOps.lenI (Row.ext hS.keeps hn) ?_
    refine KOps.fieldAddr hp2 ?_
    intro p18 hp18
    refine KOps.load hp18 (hS.rd 0 rfl) rfl ?_
    refine KOps.lenF wc_len (Rd.ext hS.keeps hv) ?_
    refine KOps.neq ?_
    refine KOps.assign ?_
    refine KOps.done ?_
    refine sqQ.normal ?_
    refine KA.sub (Sub.cons (t := 1) Look.eq (Sub.cons (t := 2) Look.eq (Sub.cons (t := 15) Look.eq (Sub.nil _)))) ?_
    refine KA.condN ?_ ?_
    · intro c15
      refine KA.seq ?_
      refine KA.region rfl ?_
      refine KOps.assign ?_
      refine KOps.done ?_
      refine sqQ.normal ?_
      refine KA.sub (Sub.cons (t := 4) Look.eq (Sub.nil _)) ?_
      refine KA.ret ?_
      refine blQ.ret ?_
      refine sqQ.ret ?_
      refine fnQ.ret1 ?_
      rw [verE_len c11 (by omega)]
      exact ⟨rfl, hS.keeps⟩
    · intro c15
      have hl : l.length = ws.length := by omega
      have hB := BOk.of c11
      have hwl := hB.len
      refine KA.skip ?_
      refine blQ.normal ?_
      refine sqQ.normal ?_
      refine KA.sub (Sub.cons (t := 1) Look.eq (Sub.cons (t := 2) Look.eq (Sub.nil _))) ?_
      refine KA.seq ?_
      refine KA.seq ?_
      refine KA.region rfl ?_
      refine KOps.move ?_
      refine KOps.lenI (Row.ext hS.keeps hn) ?_
      refine KOps.move ?_
      refine KOps.done ?_
      refine sqQ.normal ?_
      refine KA.block ?_
      refine KA.loop (X := Nat) (fun i => [(1, vn), (2, p2), (22, vn), (23, .int .i64 (l.length : Int)), (24, .int .i64 (i : Int))]) (fun i h' => i ≤ ws.length ∧ (∀ j, j < i → (ws.getD j default).l ≤ l.getD j 0 ∧ l.getD j 0 ≤ (ws.getD j default).m) ∧ St h h' [⟨p2, 0, [.int .i64 rm, vW], true⟩]) (fun i => ws.length - i) 0 (by repeat (first | exact Sub.nil _ | refine Sub.cons Look.eq ?_ | refine Sub.cons (Eq.trans Look.eq (congrArg (AV.int _) (by first | omega | (dsimp only; omega)))) ?_)) ?_ ?_
      · exact ⟨Nat.zero_le _, fun j hj => absurd hj (Nat.not_lt_zero _), hS⟩
      rintro i h9 ⟨hi, hin, hS⟩
      refine KA.seq ?_
      refine KA.region rfl ?_
      refine KOps.lss ?_
      refine KOps.done ?_
      refine sqQ.normal ?_
      refine KA.seq ?_
      refine KA.condD ?_ ?_
      · intro c25
        refine KA.skip ?_
        refine sqQ.normal ?_
        refine KA.sub (Sub.cons (t := 1) Look.eq (Sub.cons (t := 2) Look.eq (Sub.cons (t := 22) Look.eq (Sub.cons (t := 23) Look.eq (Sub.cons (t := 24) Look.eq (Sub.nil _)))))) ?_
        refine KA.seq ?_
        refine KA.block ?_
        refine KA.seq ?_
        refine KA.region rfl ?_
        refine KOps.move ?_
        refine KOps.indexIJ (Row.ext hS.keeps hn) (j := i) rfl (by first | omega | (simp; omega)) ?_
        intro p27 hp27
        refine KOps.loadI hp27 (Row.ext hS.keeps hn) (by first | omega | (simp; omega)) ?_
        refine KOps.assign ?_
        refine KOps.assign ?_
        refine KOps.done ?_
        refine sqQ.normal ?_
        refine KA.sub (Sub.cons (t := 1) Look.eq (Sub.cons (t := 2) Look.eq (Sub.cons (t := 6) Look.eq (Sub.cons (t := 7) Look.eq (Sub.cons (t := 22) Look.eq (Sub.cons (t := 23) Look.eq (Sub.cons (t := 24) Look.eq (Sub.nil _)))))))) ?_
        refine KA.seq ?_
        refine KA.draw [] mixed rfl (by kernel_rfl) ?_
        refine KOps.fieldAddr hp2 ?_
        intro p29 hp29
        refine KOps.load hp29 (hS.rd 0 rfl) rfl ?_
        refine KOps.move ?_
        refine KOps.indexF wc_len (Rd.ext hS.keeps hv) (j := i) (by first | omega | (simp; omega)) (by first | omega | (simp; omega)) ?_
        intro p32 hp32
        refine KOps.fieldAddr hp32 ?_
        intro p33 hp33
        refine KOps.loadFc wc_len (by decide) hp33 (Rd.ext hS.keeps hv) (by first | omega | (simp; omega)) rfl ?_
        refine KOps.move ?_
        refine KOps.fieldAddr hp2 ?_
        intro p36 hp36
        refine KOps.load hp36 (hS.rd 0 rfl) rfl ?_
        refine KOps.move ?_
        refine KOps.indexF wc_len (Rd.ext hS.keeps hv) (j := i) (by first | omega | (simp; omega)) (by first | omega | (simp; omega)) ?_
        intro p39 hp39
        refine KOps.fieldAddr hp39 ?_
        intro p40 hp40
        refine KOps.loadFc wc_len (by decide) hp40 (Rd.ext hS.keeps hv) (by first | omega | (simp; omega)) rfl ?_
        refine KOps.call rfl (between_c) ?_
        rintro _ _ ⟨rfl, rfl⟩
        refine KOps.not ?_
        refine KOps.done ?_
        refine sqQ.normal ?_
        refine KA.sub (Sub.cons (t := 1) Look.eq (Sub.cons (t := 2) Look.eq (Sub.cons (t := 22) Look.eq (Sub.cons (t := 23) Look.eq (Sub.cons (t := 24) Look.eq (Sub.cons (t := 43) Look.eq (Sub.nil _))))))) ?_
        refine KA.condN ?_ ?_
        · intro c43
          refine KA.seq ?_
          refine KA.region rfl ?_
          refine KOps.assign ?_
          refine KOps.done ?_
          refine sqQ.normal ?_
          refine KA.sub (Sub.cons (t := 4) Look.eq (Sub.nil _)) ?_
          refine KA.ret ?_
          refine blQ.ret ?_
          refine sqQ.ret ?_
          refine lpQ.ret ?_
          refine blQ.ret ?_
          refine sqQ.ret ?_
          refine fnQ.ret1 ?_
          rw [verE_in c11 hl (by omega) c43]
          exact ⟨rfl, hS.keeps⟩
        · intro c43
          refine KA.skip ?_
          refine blQ.normal ?_
          refine sqQ.normal ?_
          refine KA.sub (Sub.cons (t := 1) Look.eq (Sub.cons (t := 2) Look.eq (Sub.cons (t := 22) Look.eq (Sub.cons (t := 23) Look.eq (Sub.cons (t := 24) Look.eq (Sub.nil _)))))) ?_
          refine KA.region rfl ?_
          refine KOps.add (by first | omega | (simp; omega)) (by first | omega | (simp; omega)) ?_
          refine KOps.move ?_
          refine KOps.done ?_
          exact lpQ.normal (i + 1) (by repeat (first | exact Sub.nil _ | refine Sub.cons Look.eq ?_ | refine Sub.cons (Eq.trans Look.eq (congrArg (AV.int _) (by first | omega | (dsimp only; omega)))) ?_)) ⟨by omega, fun j hj => (Nat.lt_succ_iff_lt_or_eq.1 hj).elim (fun h0 => hin j h0) (fun h0 => by subst h0; exact c43), hS⟩ (by omega)
      · intro c25
        refine KA.exit ?_
        refine sqQ.exit ?_
        refine lpQ.exit ?_
        refine blQ.here ?_
        refine sqQ.normal ?_
        refine KA.sub (Sub.cons (t := 1) Look.eq (Sub.cons (t := 2) Look.eq (Sub.nil _))) ?_
        refine KA.seq ?_
        refine KA.region rfl ?_
        have hie : i = ws.length := by omega
        subst hie
        obtain ⟨r, rfl⟩ : ∃ r : Nat, rm = (r : Int) := ⟨rm.toNat, by have := hB.r2; omega⟩
        have hr6 := hB.r6
        have e0 := verE_end c11 hl hin
        refine KOps.loadAll hS (i := 0) rfl hp2 (by rfl) (by decide) ?_
        refine KOps.move ?_
        refine KOps.buildA2 (z0 := .int .i64 0) (z1 := .nils) (z2 := .nils) (by kernel_rfl) (by rfl) (by kernel_rfl) (by kernel_rfl) (by kernel_rfl) (by first | rfl | assumption) (by first | rfl | assumption) (by first | rfl | assumption) ?_
        refine KOps.boxAll hS (by show (true && (vW.one && (vn.one && true))) = true; rw [hvo, hno]; rfl) ?_
        intro p48 h' hp48 hS
        refine KOps.assign ?_
        refine KOps.done ?_
        refine sqQ.normal ?_
        refine KA.sub (Sub.cons (t := 8) Look.eq (Sub.nil _)) ?_
        refine KA.seq ?_
        refine KA.seq ?_
        refine KA.region rfl ?_
        refine KOps.move ?_
        refine KOps.call rfl (kept_c hp48 (hS.rd 0 rfl) (Rd.ext hS.keeps hv) (Row.ext hS.keeps hn) hB hl (in_bound hB hin)) ?_
        rintro vk h6 hK
        refine KOps.call rfl (anyNz_c (hK.rd 0 rfl) (by rw [keptL_len]; omega) (fun _ _ => nz63_c)) ?_
        rintro _ h7 ⟨rfl, rfl⟩
        refine KOps.done ?_
        refine sqQ.normal ?_
        refine KA.sub (Sub.cons (t := 51) Look.eq (Sub.nil _)) ?_
        refine KA.condB ?_ ?_
        · intro c51
          refine KA.seq ?_
          refine KA.region rfl ?_
          refine KOps.assign ?_
          refine KOps.done ?_
          refine sqQ.normal ?_
          refine KA.sub (Sub.cons (t := 4) Look.eq (Sub.nil _)) ?_
          refine KA.ret ?_
          refine sqQ.ret ?_
          refine fnQ.ret1 ?_
          rw [any_zero] at c51
          rw [e0, Int.toNat_natCast, show zeroB r ws l = false by simpa using c51, if_pos rfl]
          exact ⟨rfl, hS.keeps.trans hK.keeps⟩
        · intro c51
          refine KA.skip ?_
          refine sqQ.normal ?_
          refine KA.sub (Sub.nil _) ?_
          refine KA.seq ?_
          refine KA.region rfl ?_
          refine KOps.assign ?_
          refine KOps.done ?_
          refine sqQ.normal ?_
          refine KA.ret ?_
          refine fnQ.ret1 ?_
          rw [any_zero] at c51
          rw [e0, Int.toNat_natCast, show zeroB r ws l = true by simpa using c51, if_neg (by decide)]
          exact ⟨rfl, hS.keeps.trans hK.keeps⟩

end Go.Am


namespace Go.Am
def upB (lo hi n : Int) : List W := [⟨0, 1, lo, hi⟩, ⟨0, 1, 0, n⟩, ⟨1, 0, n, n⟩]
section
variable {lo hi n : Int} (h0 : 0 ≤ lo) (h1 : lo ≤ hi) (h2 : hi ≤ n) (h3 : n ≤ 99)
theorem kept_upB (a b c x : Int) : kept (upB lo hi n) [a, b, c] x = 0 + a * (dl 1 x - dl 0 x) + b * (dl 1 x - dl 0 x) + c * (dl 0 x - dl 1 x) := rfl
include h0 h1 h2 h3 in
theorem chk_upB : chkB 2 (upB lo hi n) = 0 := by
  have w0 : wayE 2 ⟨0, 1, lo, hi⟩ = 0 := by simp [wayE]; omega
  have w1 : wayE 2 ⟨0, 1, 0, n⟩ = 0 := by simp [wayE]; omega
  have w2 : wayE 2 ⟨1, 0, n, n⟩ = 0 := by simp [wayE]; omega
  have e : waysE 2 (upB lo hi n) 3 = 0 := by
    show (if (if (if (0 : Int) = 0 then wayE 2 ⟨0, 1, lo, hi⟩ else 0) = 0 then wayE 2 ⟨0, 1, 0, n⟩ else (if (0 : Int) = 0 then wayE 2 ⟨0, 1, lo, hi⟩ else 0)) = 0 then wayE 2 ⟨1, 0, n, n⟩ else _) = 0
    rw [w0, w1, w2]; rfl
  unfold chkB
  rw [if_neg (by decide), if_neg (show ¬ 12 < (upB lo hi n).length from by show ¬ 12 < 3; decide)]
  exact e
theorem flow_upB {l : List Int} (h : Flow (upB lo hi n) l) : ∃ a, l = [a, n - a, n] ∧ lo ≤ a ∧ a ≤ hi := by
  have hl : l.length = 3 := h.len
  match l, hl with
  | [a, b, c], _ =>
    have l0 : lo ≤ a := h.lo 0 (show 0 < 3 by decide)
    have m0 : a ≤ hi := h.hi 0 (show 0 < 3 by decide)
    have l2 : n ≤ c := h.lo 2 (show 2 < 3 by decide)
    have m2 : c ≤ n := h.hi 2 (show 2 < 3 by decide)
    have k0 := h.kp 0
    rw [kept_upB] at k0
    have e1 : dl 1 0 = 0 := rfl
    have e2 : dl 0 0 = 1 := rfl
    rw [e1, e2] at k0
    obtain rfl : c = n := by omega
    obtain rfl : b = c - a := by omega
    exact ⟨a, rfl, l0, m0⟩
include h2 h0 in
theorem flow_upB_mk {a : Int} (ha : lo ≤ a) (hb : a ≤ hi) : Flow (upB lo hi n) [a, n - a, n] := by
  refine ⟨⟨rfl, ?_, ?_⟩, ?_⟩
  · intro i hi'
    have hi' : i < 3 := hi'
    match i, hi' with
    | 0, _ => exact ha
    | 1, _ => show 0 ≤ n - a; omega
    | 2, _ => exact Int.le_refl _
  · intro i hi'
    have hi' : i < 3 := hi'
    match i, hi' with
    | 0, _ => exact hb
    | 1, _ => show n - a ≤ n; omega
    | 2, _ => exact Int.le_refl _
  · intro x
    rw [kept_upB]
    generalize dl 1 x = p
    generalize dl 0 x = q
    rw [Int.sub_mul, show n * (q - p) = - (n * (p - q)) by rw [← Int.mul_neg, Int.neg_sub]]
    omega
include h0 h1 h2
theorem spans_upB : spansTo (upB lo hi n) (upB lo hi n).length = [(lo, hi), (n - hi, n - lo), (n, n)] := by
  have ex : ∃ l, Flow (upB lo hi n) l := ⟨_, flow_upB_mk h0 h2 (Int.le_refl _) h1⟩
  have fl := flow_upB_mk (n := n) h0 h2 (Int.le_refl _) h1
  have fh := flow_upB_mk (n := n) h0 h2 h1 (Int.le_refl _)
  have L : ∀ i v, i < 3 → IsLo (upB lo hi n) i v → loOf (upB lo hi n) i = v := fun i v hi h => (loOf_is ex hi).uniq h
  have H : ∀ i v, i < 3 → IsHi (upB lo hi n) i v → hiOf (upB lo hi n) i = v := fun i v hi h => (hiOf_is ex hi).uniq h
  have l0 := L 0 lo (by decide) ⟨⟨_, fl, rfl⟩, fun m hm => by obtain ⟨a, rfl, ha, hb⟩ := flow_upB hm; exact ha⟩
  have l1 := L 1 (n - hi) (by decide) ⟨⟨_, fh, rfl⟩, fun m hm => by obtain ⟨a, rfl, ha, hb⟩ := flow_upB hm; show n - hi ≤ n - a; omega⟩
  have l2 := L 2 n (by decide) ⟨⟨_, fl, rfl⟩, fun m hm => by obtain ⟨a, rfl, ha, hb⟩ := flow_upB hm; exact Int.le_refl _⟩
  have u0 := H 0 hi (by decide) ⟨⟨_, fh, rfl⟩, fun m hm => by obtain ⟨a, rfl, ha, hb⟩ := flow_upB hm; exact hb⟩
  have u1 := H 1 (n - lo) (by decide) ⟨⟨_, fl, rfl⟩, fun m hm => by obtain ⟨a, rfl, ha, hb⟩ := flow_upB hm; show n - a ≤ n - lo; omega⟩
  have u2 := H 2 n (by decide) ⟨⟨_, fl, rfl⟩, fun m hm => by obtain ⟨a, rfl, ha, hb⟩ := flow_upB hm; exact Int.le_refl _⟩
  show [(loOf _ 0, hiOf _ 0), (loOf _ 1, hiOf _ 1), (loOf _ 2, hiOf _ 2)] = _
  rw [l0, l1, l2, u0, u1, u2]
include h3
theorem agree_upB : agreeE 2 (upB lo hi n) = 0 := agree_flow (chk_upB h0 h1 h2 h3) (flow_upB_mk h0 h2 (Int.le_refl _) h1)
theorem ver_upB {a : Int} (ha : lo ≤ a) (hb : a ≤ hi) : verE 2 (upB lo hi n) [a, n - a, n] = 0 := by
  have hf := flow_upB_mk (n := n) h0 h2 ha hb
  unfold verE
  rw [chk_upB h0 h1 h2 h3, if_neg (by simp), if_neg (show ¬ ([a, n - a, n] : List Int).length ≠ (upB lo hi n).length from fun q => q rfl), if_neg, if_neg]
  · have : zeroB (2 : Int).toNat (upB lo hi n) [a, n - a, n] = true := by
      unfold zeroB
      rw [List.all_eq_true]
      intro x _
      exact decide_eq_true (hf.kp _)
    rw [this]; simp
  · have : withinB (upB lo hi n) [a, n - a, n] = true := withinB_iff.2 fun i hi' => ⟨hf.lo i hi', hf.hi i hi'⟩
    rw [this]; simp
end
/-- How many of the first cards are upright. -/
def upTo (l : List (Nat × Bool)) (i : Nat) : Nat := ((l.take i).filter fun x => !x.2).length
theorem upTo_yes {l : List (Nat × Bool)} {i : Nat} (hi : i < l.length) (h : (l.getD i default).2 = false) : upTo l (i + 1) = upTo l i + 1 := by
  unfold upTo
  rw [List.getD_eq_getElem?_getD, List.getElem?_eq_getElem hi, Option.getD_some] at h
  rw [List.take_add_one, List.getElem?_eq_getElem hi, List.filter_append, List.length_append]
  simp [h]
theorem upTo_no {l : List (Nat × Bool)} {i : Nat} (hi : i < l.length) (h : (l.getD i default).2 = true) : upTo l (i + 1) = upTo l i := by
  unfold upTo
  rw [List.getD_eq_getElem?_getD, List.getElem?_eq_getElem hi, Option.getD_some] at h
  rw [List.take_add_one, List.getElem?_eq_getElem hi, List.filter_append, List.length_append]
  simp [h]
theorem upTo_all (l : List (Nat × Bool)) : upTo l l.length = (l.filter fun x => !x.2).length := by unfold upTo; rw [List.take_length]
theorem upTo_le (l : List (Nat × Bool)) (i : Nat) : upTo l i ≤ i := by
  unfold upTo
  exact Nat.le_trans (List.length_filter_le ..) (List.length_take_le ..)
/-- What the law needs of a sheet. -/
theorem good_of {r c l w : Nat} (hr : r < 6) (hc : c < 5) (hl : l < 4) (hw : w < 3) : Sht.good ⟨r + 1, c + 1, l + 1, w + 1⟩ = true := by
  have h := List.all_eq_true.1 all_good r (List.mem_range.2 hr)
  have h := List.all_eq_true.1 h c (List.mem_range.2 hc)
  have h := List.all_eq_true.1 h l (List.mem_range.2 hl)
  exact List.all_eq_true.1 h w (List.mem_range.2 hw)
theorem good_facts {s : Sht} (hs : s.Ok) (hn : s.n ≤ 30) (hg : s.good = true) {lo hi : Nat} (hu : s.uprS 0 = some (lo, hi)) :
    (s.fill 31 0).length = s.n / (s.l * s.w) ∧ lo ≤ upTo (s.fill 31 0) (s.fill 31 0).length ∧ upTo (s.fill 31 0) (s.fill 31 0).length ≤ hi ∧ hi ≤ (s.fill 31 0).length := by
  have e : s.upr 31 0 = some (lo, hi) := by rw [← hu]; exact Sht.upr_fuel hs _ 0 (Nat.two_pow_pos _) rfl 31 40 (by omega) (by omega)
  unfold Sht.good at hg
  rw [e] at hg
  rw [upTo_all]
  exact of_decide_eq_true hg
end Go.Am

namespace Go.Am
section
variable {P : Program} {n : Nat} {ops : Array Oper} {ex : List Nat} {Q : KF → AHeap → Prop} {k : Nat} {os : List Oper} {K : KF} {h : AHeap} {d : Nat} {ty : TypeId} {pos : String} {after : Array Edge}
theorem KOps.eqlPair {t t' e : TypeId} {x y : Operand} {a b c f : Int} [hx : EvK h.globs n K x (.agg [.int .i64 a, .int .i64 b])] [hy : EvK h.globs n K y (.agg [.int .i64 c, .int .i64 f])] (h1 : arrA P t = some (2, e)) (h2 : intA P e = some .i64) (h3 : P.eqGuardType P.depth t = false) (h4 : szA P e = some 1)
    (hk : KOps P n ops ex Q (k + 1) os ((d, .bool (decide (a = c ∧ b = f))) :: K) h) : KOps P n ops ex Q k (⟨some d, .binOp .eql t x y t', ty, pos, after, none⟩ :: os) K h := by
  refine KOps.pure rfl ?_ hk
  simp only [apure, hx.eq, hy.eq, abin, aarr, h1, h2, h3, h4, alits, if_true, Option.map_some, List.length_cons, List.length_nil, true_and, and_self]
  congr 2
  rw [Bool.eq_iff_iff, beq_iff_eq, decide_eq_true_iff]
  simp
end
theorem same_no {a b : List Int} {i : Nat} (hi : i < a.length) (h : ¬ a.getD i 0 = b.getD i 0) : decide (a = b) = false := decide_eq_false fun e => h (by rw [e])
theorem same_yes {a b : List Int} (hl : a.length = b.length) (h : ∀ j, j < a.length → a.getD j 0 = b.getD j 0) : decide (a = b) = true := decide_eq_true (extJ hl fun i => by
  by_cases hi : i < a.length
  · exact h i hi
  · rw [List.getD_eq_getElem?_getD, List.getD_eq_getElem?_getD, List.getElem?_eq_none (by omega), List.getElem?_eq_none (by omega)])
def wT : List W := [⟨0, 1, 5, 9⟩, ⟨1, 2, 0, 7⟩, ⟨2, 0, 4, 6⟩]
theorem agrWT : agreeE 3 wT = 0 := by decide +kernel
theorem verWT : verE 3 wT [5, 5, 5] = 0 := by decide +kernel
theorem flowWT {n : List Int} (h : Flow wT n) : ∃ v, n = [v, v, v] ∧ 5 ≤ v ∧ v ≤ 6 := by
  have hl : n.length = 3 := h.len
  match n, hl with
  | [a, b, c], _ =>
    have l0 : (5 : Int) ≤ a := h.lo 0 (by decide)
    have m0 : a ≤ 9 := h.hi 0 (by decide)
    have l2 : (4 : Int) ≤ c := h.lo 2 (by decide)
    have m2 : c ≤ 6 := h.hi 2 (by decide)
    have k0 := h.kp 0
    have k1 := h.kp 1
    have e0 : kept wT [a, b, c] 0 = 0 + a * (0 - 1) + b * (0 - 0) + c * (1 - 0) := rfl
    have e1 : kept wT [a, b, c] 1 = 0 + a * (1 - 0) + b * (0 - 1) + c * (0 - 0) := rfl
    rw [e0] at k0
    rw [e1] at k1
    have h1 : b = a := by omega
    have h2 : c = a := by omega
    subst h1 h2
    exact ⟨_, rfl, l0, m2⟩
theorem flowWT5 : Flow wT [5, 5, 5] := (verE_flow verWT).2
theorem lexWT : firstOf wT = [5, 5, 5] := by
  refine (firstOf_is ⟨_, flowWT5⟩).uniq ⟨flowWT5, fun m hm i hi _ => ?_⟩
  obtain ⟨v, rfl, h1, h2⟩ := flowWT hm
  have hi : i < 3 := hi
  match i, hi with
  | 0, _ => exact h1
  | 1, _ => exact h1
  | 2, _ => exact h1
theorem ok45 : (⟨4, 5, 2, 1⟩ : Sht).Ok := ⟨by decide, by decide, by decide, by decide⟩
theorem cnt45 : (⟨4, 5, 2, 1⟩ : Sht).cntS 0 = 95 := by decide +kernel

theorem list_c {h : AHeap} {v : AV} : ACalls Go.Proofs.Try.prog 10 [v] h (fun q h' => q = v ∧ h = h') := by
  refine KA.fn 4 [.tmp 2] Go.Proofs.Try.func10 rfl (by decide) rfl rfl (Nat.le_of_ble_eq_true rfl) ?_
  show KA _ 4 _ _ [(0, v)] _
  refine KA.seq ?_
  refine KA.region rfl ?_
  refine KOps.assign ?_
  refine KOps.done ?_
  refine sqQ.normal ?_
  refine KA.sub (Sub.cons (t := 0) Look.eq (Sub.nil _)) ?_
  refine KA.seq ?_
  refine KA.region rfl ?_
  refine KOps.move ?_
  refine KOps.assign ?_
  refine KOps.done ?_
  refine sqQ.normal ?_
  refine KA.sub (Sub.cons (t := 2) Look.eq (Sub.nil _)) ?_
  refine KA.ret ?_
  refine fnQ.ret1 ?_
  exact ⟨rfl, rfl⟩

theorem same_c {h : AHeap} {v u : AV} {a b : List Int} (hv : Row h v a) (hu : Row h u b) (hla : a.length ≤ 1000000) : ACalls Go.Proofs.Try.prog 14 [v, u] h (fun q h' => q = .bool (decide (a = b)) ∧ h = h') := by
  refine KA.fn 26 [.tmp 4] Go.Proofs.Try.func14 rfl (by decide) rfl rfl (Nat.le_of_ble_eq_true rfl) ?_
  show KA _ 26 _ _ [(0, v), (1, u)] _
  refine KA.seq ?_
  refine KA.region rfl ?_
  refine KOps.assign ?_
  refine KOps.done ?_
  refine sqQ.normal ?_
  refine KA.sub (Sub.cons (t := 0) Look.eq (Sub.cons (t := 1) Look.eq (Sub.nil _))) ?_
  refine KA.seq ?_
  refine KA.seq ?_
  refine KA.region rfl ?_
  refine KOps.move ?_
  refine KOps.lenI hv ?_
  refine KOps.move ?_
  refine KOps.lenI hu ?_
  refine KOps.neq ?_
  refine KOps.done ?_
  refine sqQ.normal ?_
  refine KA.sub (Sub.cons (t := 0) Look.eq (Sub.cons (t := 1) Look.eq (Sub.cons (t := 10) Look.eq (Sub.nil _)))) ?_
  refine KA.condN ?_ ?_
  · intro c10
    refine KA.seq ?_
    refine KA.region rfl ?_
    refine KOps.assign ?_
    refine KOps.done ?_
    refine sqQ.normal ?_
    refine KA.sub (Sub.cons (t := 4) Look.eq (Sub.nil _)) ?_
    refine KA.ret ?_
    refine sqQ.ret ?_
    refine fnQ.ret1 ?_
    refine ⟨congrArg AV.bool (decide_eq_false fun e => ?_).symm, rfl⟩
    subst e
    omega
  · intro c10
    have hlab : a.length = b.length := by omega
    refine KA.skip ?_
    refine sqQ.normal ?_
    refine KA.sub (Sub.cons (t := 0) Look.eq (Sub.cons (t := 1) Look.eq (Sub.nil _))) ?_
    refine KA.seq ?_
    refine KA.seq ?_
    refine KA.region rfl ?_
    refine KOps.move ?_
    refine KOps.lenI hv ?_
    refine KOps.move ?_
    refine KOps.done ?_
    refine sqQ.normal ?_
    refine KA.sub (Sub.cons (t := 0) Look.eq (Sub.cons (t := 1) Look.eq (Sub.cons (t := 12) Look.eq (Sub.cons (t := 13) Look.eq (Sub.nil _))))) ?_
    refine KA.block ?_
    refine KA.loop (X := Nat) (fun i => [(0, v), (1, u), (12, .int .i64 (a.length : Int)), (13, .int .i64 (i : Int))]) (fun i h' => h = h' ∧ i ≤ a.length ∧ ∀ j, j < i → a.getD j 0 = b.getD j 0) (fun i => a.length - i) 0 (by repeat (first | exact Sub.nil _ | refine Sub.cons Look.eq ?_ | refine Sub.cons (Eq.trans Look.eq (congrArg (AV.int _) (by first | omega | (dsimp only; omega)))) ?_)) ?_ ?_
    · exact ⟨rfl, Nat.zero_le _, fun j hj => by omega⟩
    rintro i _ ⟨rfl, hi, hj⟩
    refine KA.seq ?_
    refine KA.region rfl ?_
    refine KOps.lss ?_
    refine KOps.done ?_
    refine sqQ.normal ?_
    refine KA.seq ?_
    refine KA.condD ?_ ?_
    · intro c14
      refine KA.skip ?_
      refine sqQ.normal ?_
      refine KA.sub (Sub.cons (t := 0) Look.eq (Sub.cons (t := 1) Look.eq (Sub.cons (t := 12) Look.eq (Sub.cons (t := 13) Look.eq (Sub.nil _))))) ?_
      refine KA.seq ?_
      refine KA.block ?_
      refine KA.seq ?_
      refine KA.region rfl ?_
      refine KOps.move ?_
      refine KOps.assign ?_
      refine KOps.done ?_
      refine sqQ.normal ?_
      refine KA.sub (Sub.cons (t := 0) Look.eq (Sub.cons (t := 1) Look.eq (Sub.cons (t := 5) Look.eq (Sub.cons (t := 12) Look.eq (Sub.cons (t := 13) Look.eq (Sub.nil _)))))) ?_
      refine KA.seq ?_
      refine KA.draw [] mixed rfl (by kernel_rfl) ?_
      refine KOps.move ?_
      refine KOps.move ?_
      refine KOps.indexIJ hv (j := i) rfl (by first | omega | (simp; done) | (simp; omega)) ?_
      intro p18 hp18
      refine KOps.loadI hp18 hv (by first | omega | (simp; done) | (simp; omega)) ?_
      refine KOps.move ?_
      refine KOps.move ?_
      refine KOps.indexIJ hu (j := i) rfl (by first | omega | (simp; done) | (simp; omega)) ?_
      intro p22 hp22
      refine KOps.loadI hp22 hu (by first | omega | (simp; done) | (simp; omega)) ?_
      refine KOps.neq ?_
      refine KOps.done ?_
      refine sqQ.normal ?_
      refine KA.sub (Sub.cons (t := 0) Look.eq (Sub.cons (t := 1) Look.eq (Sub.cons (t := 12) Look.eq (Sub.cons (t := 13) Look.eq (Sub.cons (t := 24) Look.eq (Sub.nil _)))))) ?_
      refine KA.condN ?_ ?_
      · intro c24
        refine KA.seq ?_
        refine KA.region rfl ?_
        refine KOps.assign ?_
        refine KOps.done ?_
        refine sqQ.normal ?_
        refine KA.sub (Sub.cons (t := 4) Look.eq (Sub.nil _)) ?_
        refine KA.ret ?_
        refine blQ.ret ?_
        refine sqQ.ret ?_
        refine lpQ.ret ?_
        refine blQ.ret ?_
        refine sqQ.ret ?_
        refine fnQ.ret1 ?_
        exact ⟨congrArg AV.bool (same_no (i := i) (by omega) (by omega)).symm, rfl⟩
      · intro c24
        refine KA.skip ?_
        refine blQ.normal ?_
        refine sqQ.normal ?_
        refine KA.sub (Sub.cons (t := 0) Look.eq (Sub.cons (t := 1) Look.eq (Sub.cons (t := 12) Look.eq (Sub.cons (t := 13) Look.eq (Sub.nil _))))) ?_
        refine KA.region rfl ?_
        refine KOps.add (by first | omega | (simp; omega)) (by first | omega | (simp; omega)) ?_
        refine KOps.move ?_
        refine KOps.done ?_
        refine lpQ.normal (i + 1) (by repeat (first | exact Sub.nil _ | refine Sub.cons Look.eq ?_ | refine Sub.cons (Eq.trans Look.eq (congrArg (AV.int _) (by first | omega | (dsimp only; omega)))) ?_)) ⟨rfl, by omega, ?_⟩ (by omega)
        intro j hj2
        rcases Nat.lt_succ_iff_lt_or_eq.1 hj2 with h3 | rfl
        · exact hj j h3
        · omega
    · intro c14
      refine KA.exit ?_
      refine sqQ.exit ?_
      refine lpQ.exit ?_
      refine blQ.here ?_
      refine sqQ.normal ?_
      refine KA.sub (Sub.nil _) ?_
      refine KA.seq ?_
      refine KA.region rfl ?_
      refine KOps.assign ?_
      refine KOps.done ?_
      refine sqQ.normal ?_
      refine KA.ret ?_
      refine fnQ.ret1 ?_
      exact ⟨congrArg AV.bool (same_yes (by omega) (fun j h3 => hj j (by omega))).symm, rfl⟩

theorem works_c {h : AHeap} : ACalls Go.Proofs.Try.prog 7 [] h (fun q h' => q = .bool true ∧ Keeps h h') := by
  refine KA.fn 35 [.tmp 0] Go.Proofs.Try.func7 rfl (by decide) rfl rfl (Nat.le_of_ble_eq_true rfl) ?_
  have hS := St.refl h
  show KA _ 35 _ _ [] _
  refine KA.seq ?_
  refine KA.region rfl ?_
  refine KOps.assign ?_
  refine KOps.done ?_
  refine sqQ.normal ?_
  refine KA.sub (Sub.nil _) ?_
  refine KA.seq ?_
  refine KA.region rfl ?_
  refine KOps.buildG (zs := [.int .i64 0, .int .i64 0, .int .i64 0, .int .i64 0]) (cs := [_, _, _, _]) (by kernel_rfl) (by rfl) (by kernel_rfl) (.cons (off := 0) (s := 1) (by kernel_rfl) (AV.cells_one (by first | rfl | assumption)) rfl (by decide) (.cons (off := 1) (s := 1) (by kernel_rfl) (AV.cells_one (by first | rfl | assumption)) rfl (by decide) (.cons (off := 2) (s := 1) (by kernel_rfl) (AV.cells_one (by first | rfl | assumption)) rfl (by decide) (.cons (off := 3) (s := 1) (by kernel_rfl) (AV.cells_one (by first | rfl | assumption)) rfl (by decide) .nil)))) (by rfl) ?_
  refine KOps.call rfl (cutCount_c ok45) ?_
  rintro _ hx ⟨rfl, hK⟩
  have hS0 : St _ _ _ := St.trans hS (St.ofK hK)
  clear hS
  have hS := hS0
  clear hS0
  simp only [List.nil_append] at hS
  refine KOps.move ?_
  refine KOps.extract ?_
  refine KOps.extract ?_
  refine KOps.assign ?_
  refine KOps.assign ?_
  refine KOps.done ?_
  refine sqQ.normal ?_
  refine KA.sub (Sub.cons (t := 1) Look.eq (Sub.cons (t := 2) Look.eq (Sub.nil _))) ?_
  refine KA.seq ?_
  refine KA.region rfl ?_
  refine KOps.buildG (zs := [.int .i64 0, .int .i64 0, .int .i64 0, .int .i64 0]) (cs := [_, _, _, _]) (by kernel_rfl) (by rfl) (by kernel_rfl) (.cons (off := 0) (s := 1) (by kernel_rfl) (AV.cells_one (by first | rfl | assumption)) rfl (by decide) (.cons (off := 1) (s := 1) (by kernel_rfl) (AV.cells_one (by first | rfl | assumption)) rfl (by decide) (.cons (off := 2) (s := 1) (by kernel_rfl) (AV.cells_one (by first | rfl | assumption)) rfl (by decide) (.cons (off := 3) (s := 1) (by kernel_rfl) (AV.cells_one (by first | rfl | assumption)) rfl (by decide) .nil)))) (by rfl) ?_
  refine KOps.buildG (zs := [.int .i64 0, .int .i64 0, .int .i64 0, .int .i64 0]) (cs := [_, _, _, _]) (by kernel_rfl) (by rfl) (by kernel_rfl) (.cons (off := 0) (s := 1) (by kernel_rfl) (AV.cells_one (by first | rfl | assumption)) rfl (by decide) (.cons (off := 1) (s := 1) (by kernel_rfl) (AV.cells_one (by first | rfl | assumption)) rfl (by decide) (.cons (off := 2) (s := 1) (by kernel_rfl) (AV.cells_one (by first | rfl | assumption)) rfl (by decide) (.cons (off := 3) (s := 1) (by kernel_rfl) (AV.cells_one (by first | rfl | assumption)) rfl (by decide) .nil)))) (by rfl) ?_
  refine KOps.buildG (zs := [.int .i64 0, .int .i64 0, .int .i64 0, .int .i64 0]) (cs := [_, _, _, _]) (by kernel_rfl) (by rfl) (by kernel_rfl) (.cons (off := 0) (s := 1) (by kernel_rfl) (AV.cells_one (by first | rfl | assumption)) rfl (by decide) (.cons (off := 1) (s := 1) (by kernel_rfl) (AV.cells_one (by first | rfl | assumption)) rfl (by decide) (.cons (off := 2) (s := 1) (by kernel_rfl) (AV.cells_one (by first | rfl | assumption)) rfl (by decide) (.cons (off := 3) (s := 1) (by kernel_rfl) (AV.cells_one (by first | rfl | assumption)) rfl (by decide) .nil)))) (by rfl) ?_
  refine KOps.buildSliceS (cs := flr wc wT) hS rfl rfl rfl (by decide) ?_
  intro v14 h' hS
  have hv14 : v14.one = true := St.one hS (k := 0) rfl
  refine KOps.buildG (zs := [.int .i64 0, .nils]) (cs := [_, _]) (by kernel_rfl) (by rfl) (by kernel_rfl) (.cons (off := 0) (s := 1) (by kernel_rfl) (AV.cells_one (by first | rfl | assumption)) rfl (by decide) (.cons (off := 1) (s := 1) (by kernel_rfl) (AV.cells_one (by first | rfl | assumption)) rfl (by decide) .nil)) (by rfl) ?_
  refine KOps.call rfl (stFirst_c (ws := wT) (hS.rd 0 rfl)) ?_
  rintro _ h16 ⟨v16, rfl, hS16⟩
  have hS0 : St _ _ (_ :: _) := St.trans hS hS16
  clear hS
  have hS := hS0
  clear hS0
  refine KOps.move ?_
  refine KOps.extract ?_
  refine KOps.extract ?_
  refine KOps.assign ?_
  refine KOps.assign ?_
  refine KOps.done ?_
  refine sqQ.normal ?_
  refine KA.sub (Sub.cons (t := 1) Look.eq (Sub.cons (t := 2) Look.eq (Sub.cons (t := 3) Look.eq (Sub.cons (t := 4) Look.eq (Sub.nil _))))) ?_
  refine KA.seq ?_
  refine KA.region rfl ?_
  refine KOps.move ?_
  refine KOps.eql ?_
  refine KOps.move ?_
  refine KOps.guardB (dj := 21) rfl rfl true false rfl ?_ ?_
  · intro g21
    have g21 := of_decide_eq_true g21
    refine KOps.move ?_
    refine KOps.guardYes (dj := 21) rfl rfl ?_
    refine KOps.eql ?_
    refine KOps.pickT ?_
    refine KOps.move ?_
    refine KOps.guardB (dj := 25) rfl rfl true false rfl ?_ ?_
    · intro g25
      have g25 := of_decide_eq_true g25
      refine KOps.move ?_
      refine KOps.guardYes (dj := 25) rfl rfl ?_
      refine KOps.eql ?_
      refine KOps.pickT ?_
      refine KOps.move ?_
      refine KOps.guardB (dj := 29) rfl rfl true false rfl ?_ ?_
      · intro g29
        have g29 := of_decide_eq_true g29
        refine KOps.move ?_
        refine KOps.guardYes (dj := 29) rfl rfl ?_
        refine KOps.buildSlice hS rfl (by decide) rfl ?_
        intro v31 h' hS
        refine KOps.guardYes (dj := 29) rfl rfl ?_
        refine KOps.call rfl list_c ?_
        rintro _ _ ⟨rfl, rfl⟩
        refine KOps.guardYes (dj := 29) rfl rfl ?_
        refine KOps.call rfl (same_c (b := [5, 5, 5]) (hS.rd 1 rfl) (hS.rd 0 rfl) (by rw [agrWT, if_pos rfl, lexWT]; decide)) ?_
        rintro _ _ ⟨rfl, rfl⟩
        refine KOps.pickT ?_
        refine KOps.assign ?_
        refine KOps.done ?_
        refine sqQ.normal ?_
        refine KA.sub (Sub.cons (t := 0) Look.eq (Sub.nil _)) ?_
        refine KA.ret ?_
        refine fnQ.ret1 ?_
        refine ⟨congrArg AV.bool ?_, hS.keeps⟩
        rw [agrWT, if_pos rfl, lexWT]
        rfl
      · intro g29
        have g29 := of_decide_eq_false g29
        exact absurd (congrArg (Nat.cast : Nat → Int) cnt45) g29
    · intro g25
      have g25 := of_decide_eq_false g25
      exact absurd agrWT g25
  · intro g21
    have g21 := of_decide_eq_false g21
    exact absurd rfl g21

end Go.Am

namespace Go.Am
theorem law_uprights {h : AHeap} {s : Sht} {a b c d : Nat} (ha : a ≤ 255) (hb : b ≤ 255) (hc : c ≤ 255) (hd : d ≤ 255) (hr : 1 + a % 6 = s.r) (hcc : 1 + b % 5 = s.c) (hl : 1 + c % 4 = s.l) (hw : 1 + d % 3 = s.w) (hg : s.good = true) : ACalls Go.Proofs.Try.prog 3 [.int .u8 (a : Int), .int .u8 (b : Int), .int .u8 (c : Int), .int .u8 (d : Int)] h (fun q _ => q = .bool true) := by
  refine KA.fn 179 [.tmp 8] Go.Proofs.Try.func3 rfl (by decide) rfl rfl (Nat.le_of_ble_eq_true rfl) ?_
  have hS := St.refl h
  have hs : s.Ok := ⟨by omega, by omega, by omega, by omega⟩
  have hn30 : s.n ≤ 30 := Nat.mul_le_mul (show s.r ≤ 6 by omega) (show s.c ≤ 5 by omega)
  have hlw : 1 ≤ s.l * s.w ∧ s.l * s.w ≤ 12 := ⟨Nat.mul_le_mul (show 1 ≤ s.l by omega) (show 1 ≤ s.w by omega), Nat.mul_le_mul (show s.l ≤ 4 by omega) (show s.w ≤ 3 by omega)⟩
  have hnn : s.n / (s.l * s.w) ≤ 30 := Nat.le_trans (Nat.div_le_self ..) hn30
  show KA _ 179 _ _ [(0, .int .u8 (a : Int)), (1, .int .u8 (b : Int)), (2, .int .u8 (c : Int)), (3, .int .u8 (d : Int))] _
  refine KA.seq ?_
  refine KA.region rfl ?_
  refine KOps.assign ?_
  refine KOps.done ?_
  refine sqQ.normal ?_
  refine KA.sub (Sub.cons (t := 0) Look.eq (Sub.cons (t := 1) Look.eq (Sub.cons (t := 2) Look.eq (Sub.cons (t := 3) Look.eq (Sub.nil _))))) ?_
  refine KA.seq ?_
  refine KA.region rfl ?_
  refine KOps.move ?_
  refine KOps.convIn (wrap64 (by omega) (by omega)) ?_
  refine KOps.modN a 6 rfl rfl (by decide) (by omega) ?_
  refine KOps.addN (1) (a % 6) rfl rfl (Nat.lt_of_le_of_lt (show 1 + a % 6 ≤ 6 by omega) (by decide)) ?_
  rw [hr]
  refine KOps.move ?_
  refine KOps.convIn (wrap64 (by omega) (by omega)) ?_
  refine KOps.modN b 5 rfl rfl (by decide) (by omega) ?_
  refine KOps.addN (1) (b % 5) rfl rfl (Nat.lt_of_le_of_lt (show 1 + b % 5 ≤ 5 by omega) (by decide)) ?_
  rw [hcc]
  refine KOps.move ?_
  refine KOps.convIn (wrap64 (by omega) (by omega)) ?_
  refine KOps.modN c 4 rfl rfl (by decide) (by omega) ?_
  refine KOps.addN (1) (c % 4) rfl rfl (Nat.lt_of_le_of_lt (show 1 + c % 4 ≤ 4 by omega) (by decide)) ?_
  rw [hl]
  refine KOps.move ?_
  refine KOps.convIn (wrap64 (by omega) (by omega)) ?_
  refine KOps.modN d 3 rfl rfl (by decide) (by omega) ?_
  refine KOps.addN (1) (d % 3) rfl rfl (Nat.lt_of_le_of_lt (show 1 + d % 3 ≤ 3 by omega) (by decide)) ?_
  rw [hw]
  refine KOps.buildG (zs := [.int .i64 0, .int .i64 0, .int .i64 0, .int .i64 0]) (cs := [_, _, _, _]) (by kernel_rfl) (by rfl) (by kernel_rfl) (.cons (off := 0) (s := 1) (by kernel_rfl) (AV.cells_one (by first | rfl | assumption)) rfl (by decide) (.cons (off := 1) (s := 1) (by kernel_rfl) (AV.cells_one (by first | rfl | assumption)) rfl (by decide) (.cons (off := 2) (s := 1) (by kernel_rfl) (AV.cells_one (by first | rfl | assumption)) rfl (by decide) (.cons (off := 3) (s := 1) (by kernel_rfl) (AV.cells_one (by first | rfl | assumption)) rfl (by decide) .nil)))) (by rfl) ?_
  refine KOps.alloc hS ?_
  intro p9 h' hp9 hS
  refine KOps.storeAll hS rfl (i := 0) rfl hp9 (by first | rfl | (simp [AV.one]; done) | (simp [AV.one]; assumption) | (simp [AV.one, *]; done)) (by rfl) (by rfl) (by decide) ?_
  intro h' hS
  simp only [List.set_cons_zero, List.set_cons_succ, Nat.zero_add] at hS
  refine KOps.done ?_
  refine sqQ.normal ?_
  refine KA.sub (Sub.cons (t := 9) Look.eq (Sub.nil _)) ?_
  refine KA.seq ?_
  refine KA.region rfl ?_
  refine KOps.fieldAddr hp9 ?_
  intro p39 hp39
  refine KOps.load hp39 (hS.rd 0 rfl) rfl ?_
  refine KOps.fieldAddr hp9 ?_
  intro p41 hp41
  refine KOps.load hp41 (hS.rd 0 rfl) rfl ?_
  refine KOps.mulN (s.r) (s.c) rfl rfl (Nat.lt_of_le_of_lt hn30 (by decide)) ?_
  refine KOps.fieldAddr hp9 ?_
  intro p44 hp44
  refine KOps.load hp44 (hS.rd 0 rfl) rfl ?_
  refine KOps.fieldAddr hp9 ?_
  intro p46 hp46
  refine KOps.load hp46 (hS.rd 0 rfl) rfl ?_
  refine KOps.mulN (s.l) (s.w) rfl rfl (Nat.lt_of_le_of_lt hlw.2 (by decide)) ?_
  refine KOps.divN s.n (s.l * s.w) rfl rfl (by omega) (by omega) ?_
  refine KOps.assign ?_
  refine KOps.done ?_
  refine sqQ.normal ?_
  refine KA.sub (Sub.cons (t := 9) Look.eq (Sub.cons (t := 10) Look.eq (Sub.nil _))) ?_
  refine KA.seq ?_
  refine KA.region rfl ?_
  refine KOps.loadAll hS (i := 0) rfl hp9 (by rfl) (by decide) ?_
  refine KOps.call rfl (uprightP_c hs) ?_
  rintro _ hx ⟨rfl, hK⟩
  have hS0 : St _ _ _ := St.trans hS (St.ofK hK)
  clear hS
  have hS := hS0
  clear hS0
  simp only [List.nil_append] at hS
  refine KOps.move ?_
  refine KOps.extract ?_
  refine KOps.extract ?_
  refine KOps.extract ?_
  refine KOps.assign ?_
  refine KOps.assign ?_
  refine KOps.assign ?_
  refine KOps.done ?_
  refine sqQ.normal ?_
  refine KA.sub (Sub.cons (t := 9) Look.eq (Sub.cons (t := 10) Look.eq (Sub.cons (t := 11) Look.eq (Sub.cons (t := 12) Look.eq (Sub.cons (t := 13) Look.eq (Sub.nil _)))))) ?_
  refine KA.seq ?_
  refine KA.region rfl ?_
  refine KOps.loadAll hS (i := 0) rfl hp9 (by rfl) (by decide) ?_
  refine KOps.call rfl (fillP_c hs hn30) ?_
  rintro _ h58 ⟨v58, rfl, hS58⟩
  have hS0 : St _ _ (_ :: _) := St.trans hS hS58
  clear hS
  have hS := hS0
  clear hS0
  refine KOps.move ?_
  refine KOps.extract ?_
  refine KOps.extract ?_
  refine KOps.assign ?_
  refine KOps.assign ?_
  refine KOps.done ?_
  refine sqQ.normal ?_
  refine KA.sub (Sub.cons (t := 10) Look.eq (Sub.cons (t := 11) Look.eq (Sub.cons (t := 12) Look.eq (Sub.cons (t := 13) Look.eq (Sub.cons (t := 14) Look.eq (Sub.cons (t := 15) Look.eq (Sub.nil _))))))) ?_
  refine KA.seq ?_
  refine KA.seq ?_
  refine KA.region rfl ?_
  refine KOps.move ?_
  refine KOps.eql ?_
  refine KOps.done ?_
  refine sqQ.normal ?_
  refine KA.sub (Sub.cons (t := 10) Look.eq (Sub.cons (t := 11) Look.eq (Sub.cons (t := 12) Look.eq (Sub.cons (t := 13) Look.eq (Sub.cons (t := 14) Look.eq (Sub.cons (t := 15) Look.eq (Sub.cons (t := 62) Look.eq (Sub.nil _)))))))) ?_
  refine KA.condD ?_ ?_
  · intro c62
    have hno : s.uprS 0 = none := by
      cases hu : s.uprS 0 with
      | none => rfl
      | some p => rw [hu] at c62; exact absurd c62 (by simp)
    rw [hno] at hS ⊢
    refine KA.seq ?_
    refine KA.region rfl ?_
    refine KOps.move ?_
    refine KOps.eql ?_
    refine KOps.move ?_
    refine KOps.guardB (dj := 65) rfl rfl true false rfl ?_ ?_
    · intro g65
      have g65 := of_decide_eq_true g65
      refine KOps.move ?_
      refine KOps.guardYes (dj := 65) rfl rfl ?_
      refine KOps.lenF cdF_len (hS.rd 0 rfl) ?_
      refine KOps.guardYes (dj := 65) rfl rfl ?_
      refine KOps.eql ?_
      refine KOps.pickT ?_
      refine KOps.move ?_
      refine KOps.guardB (dj := 70) rfl rfl true false rfl ?_ ?_
      · intro g70
        have g70 := of_decide_eq_true g70
        refine KOps.call rfl (works_c) ?_
        rintro _ hx ⟨rfl, hK⟩
        have hS0 : St _ _ _ := St.trans hS (St.ofK hK)
        clear hS
        have hS := hS0
        clear hS0
        simp only [List.nil_append] at hS
        refine KOps.pickT ?_
        refine KOps.assign ?_
        refine KOps.done ?_
        refine sqQ.normal ?_
        refine KA.sub (Sub.cons (t := 8) Look.eq (Sub.nil _)) ?_
        refine KA.ret ?_
        refine sqQ.ret ?_
        refine fnQ.ret1 ?_
        rfl
      · intro g70
        have g70 := of_decide_eq_false g70
        exact absurd (by simp) g70
    · intro g65
      have g65 := of_decide_eq_false g65
      exact absurd (by decide) g65
  · intro c62
    obtain ⟨⟨lo, hi⟩, hu⟩ : ∃ p, s.uprS 0 = some p := by
      cases hu : s.uprS 0 with
      | none => rw [hu] at c62; exact absurd (by decide) c62
      | some p => exact ⟨p, rfl⟩
    obtain ⟨hlen, hlo, hup, hhi⟩ := good_facts hs hn30 hg hu
    rw [hu] at hS ⊢
    simp only [Option.getD_some, Option.isSome_some, if_true] at hS ⊢
    have hul := upTo_le (s.fill 31 0) (s.fill 31 0).length
    have hlohi : lo ≤ hi := Nat.le_trans hlo hup
    have hag := agree_upB (lo := (lo : Int)) (hi := hi) (n := ((s.n / (s.l * s.w) : Nat) : Int)) (by omega) (by omega) (by omega) (by omega)
    have hsp := spans_upB (lo := (lo : Int)) (hi := hi) (n := ((s.n / (s.l * s.w) : Nat) : Int)) (by omega) (by omega) (by omega)
    have hver := ver_upB (lo := (lo : Int)) (hi := hi) (n := ((s.n / (s.l * s.w) : Nat) : Int)) (by omega) (by omega) (by omega) (by omega) (a := (upTo (s.fill 31 0) (s.fill 31 0).length : Int)) (by omega) (by omega)
    refine KA.skip ?_
    refine sqQ.normal ?_
    refine KA.sub (Sub.cons (t := 10) Look.eq (Sub.cons (t := 11) Look.eq (Sub.cons (t := 12) Look.eq (Sub.cons (t := 13) Look.eq (Sub.cons (t := 14) Look.eq (Sub.cons (t := 15) Look.eq (Sub.nil _))))))) ?_
    refine KA.seq ?_
    refine KA.seq ?_
    refine KA.region rfl ?_
    refine KOps.move ?_
    refine KOps.neq ?_
    refine KOps.move ?_
    refine KOps.guardB (dj := 75) rfl rfl false true rfl ?_ ?_
    · intro g75
      have g75 := of_not_decide g75
      refine KOps.move ?_
      refine KOps.guardYes (dj := 75) rfl rfl ?_
      refine KOps.neq ?_
      refine KOps.pickF ?_
      refine KOps.move ?_
      refine KOps.guardB (dj := 79) rfl rfl false true rfl ?_ ?_
      · intro g79
        have g79 := of_not_decide g79
        refine KOps.move ?_
        refine KOps.guardYes (dj := 79) rfl rfl ?_
        refine KOps.lss ?_
        refine KOps.pickF ?_
        refine KOps.move ?_
        refine KOps.guardB (dj := 83) rfl rfl false true rfl ?_ ?_
        · intro g83
          have g83 := of_decide_eq_false g83
          refine KOps.move ?_
          refine KOps.guardYes (dj := 83) rfl rfl ?_
          refine KOps.move ?_
          refine KOps.guardYes (dj := 83) rfl rfl ?_
          refine KOps.gtr ?_
          refine KOps.pickF ?_
          refine KOps.move ?_
          refine KOps.guardB (dj := 88) rfl rfl false true rfl ?_ ?_
          · intro g88
            have g88 := of_decide_eq_false g88
            refine KOps.move ?_
            refine KOps.guardYes (dj := 88) rfl rfl ?_
            refine KOps.move ?_
            refine KOps.guardYes (dj := 88) rfl rfl ?_
            refine KOps.gtr ?_
            refine KOps.pickF ?_
            refine KOps.move ?_
            refine KOps.guardB (dj := 93) rfl rfl false true rfl ?_ ?_
            · intro g93
              have g93 := of_decide_eq_false g93
              refine KOps.move ?_
              refine KOps.guardYes (dj := 93) rfl rfl ?_
              refine KOps.lenF cdF_len (hS.rd 0 rfl) ?_
              refine KOps.guardYes (dj := 93) rfl rfl ?_
              refine KOps.move ?_
              refine KOps.guardYes (dj := 93) rfl rfl ?_
              refine KOps.neq ?_
              refine KOps.pickF ?_
              refine KOps.done ?_
              refine sqQ.normal ?_
              refine KA.sub (Sub.cons (t := 10) Look.eq (Sub.cons (t := 11) Look.eq (Sub.cons (t := 12) Look.eq (Sub.cons (t := 14) Look.eq (Sub.cons (t := 98) Look.eq (Sub.nil _)))))) ?_
              refine KA.condN ?_ ?_
              · intro c98
                exact absurd (by rw [hlen]) c98
              · intro c98
                refine KA.skip ?_
                refine sqQ.normal ?_
                refine KA.sub (Sub.cons (t := 10) Look.eq (Sub.cons (t := 11) Look.eq (Sub.cons (t := 12) Look.eq (Sub.cons (t := 14) Look.eq (Sub.nil _))))) ?_
                refine KA.seq ?_
                refine KA.region rfl ?_
                refine KOps.move ?_
                refine KOps.move ?_
                refine KOps.buildG (zs := [.int .i64 0, .int .i64 0, .int .i64 0, .int .i64 0]) (cs := [_, _, _, _]) (by kernel_rfl) (by rfl) (by kernel_rfl) (.cons (off := 0) (s := 1) (by kernel_rfl) (AV.cells_one (by first | rfl | assumption)) rfl (by decide) (.cons (off := 1) (s := 1) (by kernel_rfl) (AV.cells_one (by first | rfl | assumption)) rfl (by decide) (.cons (off := 2) (s := 1) (by kernel_rfl) (AV.cells_one (by first | rfl | assumption)) rfl (by decide) (.cons (off := 3) (s := 1) (by kernel_rfl) (AV.cells_one (by first | rfl | assumption)) rfl (by decide) .nil)))) (by rfl) ?_
                refine KOps.move ?_
                refine KOps.buildG (zs := [.int .i64 0, .int .i64 0, .int .i64 0, .int .i64 0]) (cs := [_, _, _, _]) (by kernel_rfl) (by rfl) (by kernel_rfl) (.cons (off := 0) (s := 1) (by kernel_rfl) (AV.cells_one (by first | rfl | assumption)) rfl (by decide) (.cons (off := 1) (s := 1) (by kernel_rfl) (AV.cells_one (by first | rfl | assumption)) rfl (by decide) (.cons (off := 2) (s := 1) (by kernel_rfl) (AV.cells_one (by first | rfl | assumption)) rfl (by decide) (.cons (off := 3) (s := 1) (by kernel_rfl) (AV.cells_one (by first | rfl | assumption)) rfl (by decide) .nil)))) (by rfl) ?_
                refine KOps.move ?_
                refine KOps.move ?_
                refine KOps.buildG (zs := [.int .i64 0, .int .i64 0, .int .i64 0, .int .i64 0]) (cs := [_, _, _, _]) (by kernel_rfl) (by rfl) (by kernel_rfl) (.cons (off := 0) (s := 1) (by kernel_rfl) (AV.cells_one (by first | rfl | assumption)) rfl (by decide) (.cons (off := 1) (s := 1) (by kernel_rfl) (AV.cells_one (by first | rfl | assumption)) rfl (by decide) (.cons (off := 2) (s := 1) (by kernel_rfl) (AV.cells_one (by first | rfl | assumption)) rfl (by decide) (.cons (off := 3) (s := 1) (by kernel_rfl) (AV.cells_one (by first | rfl | assumption)) rfl (by decide) .nil)))) (by rfl) ?_
                refine KOps.buildSliceS (cs := flr wc (upB lo hi (s.n / (s.l * s.w) : Nat))) hS rfl rfl rfl (by decide) ?_
                intro v107 h' hS
                have hv107 : v107.one = true := St.one hS (k := 0) rfl
                refine KOps.buildG (zs := [.int .i64 0, .nils]) (cs := [_, _]) (by kernel_rfl) (by rfl) (by kernel_rfl) (.cons (off := 0) (s := 1) (by kernel_rfl) (AV.cells_one (by first | rfl | assumption)) rfl (by decide) (.cons (off := 1) (s := 1) (by kernel_rfl) (AV.cells_one (by first | rfl | assumption)) rfl (by decide) .nil)) (by rfl) ?_
                refine KOps.alloc hS ?_
                intro p16 h' hp16 hS
                refine KOps.storeAll hS rfl (i := 0) rfl hp16 (by first | rfl | (simp [AV.one]; done) | (simp [AV.one]; assumption) | (simp [AV.one, *]; done)) (by rfl) (by rfl) (by decide) ?_
                intro h' hS
                simp only [List.set_cons_zero, List.set_cons_succ, Nat.zero_add] at hS
                refine KOps.done ?_
                refine sqQ.normal ?_
                refine KA.sub (Sub.cons (t := 10) Look.eq (Sub.cons (t := 11) Look.eq (Sub.cons (t := 12) Look.eq (Sub.cons (t := 14) Look.eq (Sub.cons (t := 16) Look.eq (Sub.nil _)))))) ?_
                refine KA.seq ?_
                refine KA.region rfl ?_
                refine KOps.loadAll hS (i := 0) rfl hp16 (by rfl) (by decide) ?_
                refine KOps.call rfl (stSpans_c (ws := upB lo hi (s.n / (s.l * s.w) : Nat)) (hS.rd 1 rfl)) ?_
                rintro _ h111 ⟨v111, rfl, hS111⟩
                have hS0 : St _ _ (_ :: _) := St.trans hS hS111
                clear hS
                have hS := hS0
                clear hS0
                rw [hag, if_pos rfl, hsp] at hS
                rw [hag]
                refine KOps.move ?_
                refine KOps.extract ?_
                refine KOps.extract ?_
                refine KOps.assign ?_
                refine KOps.assign ?_
                refine KOps.done ?_
                refine sqQ.normal ?_
                refine KA.sub (Sub.cons (t := 10) Look.eq (Sub.cons (t := 11) Look.eq (Sub.cons (t := 12) Look.eq (Sub.cons (t := 14) Look.eq (Sub.cons (t := 16) Look.eq (Sub.cons (t := 17) Look.eq (Sub.cons (t := 18) Look.eq (Sub.nil _)))))))) ?_
                refine KA.seq ?_
                refine KA.region rfl ?_
                refine KOps.assign ?_
                refine KOps.done ?_
                refine sqQ.normal ?_
                refine KA.seq ?_
                refine KA.seq ?_
                refine KA.region rfl ?_
                refine KOps.move ?_
                refine KOps.lenF cdF_len (hS.rd 3 rfl) ?_
                refine KOps.move ?_
                refine KOps.done ?_
                refine sqQ.normal ?_
                refine KA.sub (Sub.cons (t := 10) Look.eq (Sub.cons (t := 11) Look.eq (Sub.cons (t := 12) Look.eq (Sub.cons (t := 16) Look.eq (Sub.cons (t := 17) Look.eq (Sub.cons (t := 18) Look.eq (Sub.cons (t := 19) Look.eq (Sub.cons (t := 114) Look.eq (Sub.cons (t := 115) Look.eq (Sub.cons (t := 116) Look.eq (Sub.nil _))))))))))) ?_
                refine KA.block ?_
                refine KA.loop (X := Nat) (fun i => [(10, .int .i64 ((s.n / (s.l * s.w) : Nat) : Int)), (11, .int .i64 (lo : Int)), (12, .int .i64 (hi : Int)), (16, p16), (17, v111), (18, .int .i64 0), (19, .int .i64 (upTo (s.fill 31 0) i : Int)), (114, v58), (115, .int .i64 ((s.fill 31 0).length : Int)), (116, .int .i64 (i : Int))]) (fun i h' => i ≤ (s.fill 31 0).length ∧ St h h' [⟨v111, 2, flr pc [((lo : Int), (hi : Int)), (((s.n / (s.l * s.w) : Nat) : Int) - (hi : Int), ((s.n / (s.l * s.w) : Nat) : Int) - (lo : Int)), (((s.n / (s.l * s.w) : Nat) : Int), ((s.n / (s.l * s.w) : Nat) : Int))], true⟩, ⟨p16, 0, [.int .i64 2, v107], true⟩, ⟨v107, 4, flr wc (upB lo hi ((s.n / (s.l * s.w) : Nat) : Int)), true⟩, ⟨v58, 3, flr (cdF s.c) (s.fill 31 0), true⟩]) (fun i => (s.fill 31 0).length - i) 0 (by repeat (first | exact Sub.nil _ | refine Sub.cons Look.eq ?_ | refine Sub.cons (Eq.trans Look.eq (congrArg (AV.int _) (by first | omega | (dsimp only; omega)))) ?_)) ?_ ?_
                · exact ⟨Nat.zero_le _, St.keep (B := [_]) hS⟩
                rintro i h2 ⟨hii, hS⟩
                have hui := upTo_le (s.fill 31 0) i
                refine KA.seq ?_
                refine KA.region rfl ?_
                refine KOps.lss ?_
                refine KOps.done ?_
                refine sqQ.normal ?_
                refine KA.seq ?_
                refine KA.condD ?_ ?_
                · intro c117
                  refine KA.skip ?_
                  refine sqQ.normal ?_
                  refine KA.sub (Sub.cons (t := 10) Look.eq (Sub.cons (t := 11) Look.eq (Sub.cons (t := 12) Look.eq (Sub.cons (t := 16) Look.eq (Sub.cons (t := 17) Look.eq (Sub.cons (t := 18) Look.eq (Sub.cons (t := 19) Look.eq (Sub.cons (t := 114) Look.eq (Sub.cons (t := 115) Look.eq (Sub.cons (t := 116) Look.eq (Sub.nil _))))))))))) ?_
                  refine KA.seq ?_
                  refine KA.block ?_
                  refine KA.seq ?_
                  refine KA.region rfl ?_
                  refine KOps.indexF cdF_len (hS.rd 3 rfl) (j := i) rfl (by first | omega | (simp; done) | (simp; omega)) ?_
                  intro p118 hp118
                  refine KOps.loadFl cdF_len (by decide) hp118 (hS.rd 3 rfl) (by first | omega | (simp; done) | (simp; omega)) ?_
                  refine KOps.alloc hS ?_
                  intro p21 h' hp21 hS
                  refine KOps.storeAll hS rfl (i := 0) rfl hp21 (by first | rfl | (simp [AV.one]; done) | (simp [AV.one]; assumption) | (simp [AV.one, *]; done)) (by rfl) (by rfl) (by decide) ?_
                  intro h' hS
                  simp only [List.set_cons_zero, List.set_cons_succ, Nat.zero_add] at hS
                  refine KOps.done ?_
                  refine sqQ.normal ?_
                  refine KA.sub (Sub.cons (t := 10) Look.eq (Sub.cons (t := 11) Look.eq (Sub.cons (t := 12) Look.eq (Sub.cons (t := 16) Look.eq (Sub.cons (t := 17) Look.eq (Sub.cons (t := 18) Look.eq (Sub.cons (t := 19) Look.eq (Sub.cons (t := 21) Look.eq (Sub.cons (t := 114) Look.eq (Sub.cons (t := 115) Look.eq (Sub.cons (t := 116) Look.eq (Sub.nil _)))))))))))) ?_
                  refine KA.seq ?_
                  refine KA.region rfl ?_
                  refine KOps.fieldAddr hp21 ?_
                  intro p120 hp120
                  refine KOps.load hp120 (hS.rd 0 rfl) rfl ?_
                  refine KOps.not ?_
                  refine KOps.done ?_
                  refine sqQ.normal ?_
                  refine KA.sub (Sub.cons (t := 10) Look.eq (Sub.cons (t := 11) Look.eq (Sub.cons (t := 12) Look.eq (Sub.cons (t := 16) Look.eq (Sub.cons (t := 17) Look.eq (Sub.cons (t := 18) Look.eq (Sub.cons (t := 19) Look.eq (Sub.cons (t := 114) Look.eq (Sub.cons (t := 115) Look.eq (Sub.cons (t := 116) Look.eq (Sub.cons (t := 122) Look.eq (Sub.nil _)))))))))))) ?_
                  refine KA.condB ?_ ?_
                  · intro c122
                    refine KA.region rfl ?_
                    refine KOps.move ?_
                    refine KOps.add (by first | omega | (simp; omega)) (by first | omega | (simp; omega)) ?_
                    refine KOps.assign ?_
                    refine KOps.done ?_
                    refine blQ.normal ?_
                    refine sqQ.normal ?_
                    refine KA.sub (Sub.cons (t := 10) Look.eq (Sub.cons (t := 11) Look.eq (Sub.cons (t := 12) Look.eq (Sub.cons (t := 16) Look.eq (Sub.cons (t := 17) Look.eq (Sub.cons (t := 18) Look.eq (Sub.cons (t := 19) Look.eq (Sub.cons (t := 114) Look.eq (Sub.cons (t := 115) Look.eq (Sub.cons (t := 116) Look.eq (Sub.nil _))))))))))) ?_
                    refine KA.region rfl ?_
                    refine KOps.add (by first | omega | (simp; omega)) (by first | omega | (simp; omega)) ?_
                    refine KOps.move ?_
                    refine KOps.done ?_
                    exact lpQ.normal (i + 1) (by repeat (first | exact Sub.nil _ | refine Sub.cons Look.eq ?_ | refine Sub.cons (Eq.trans Look.eq (congrArg (AV.int _) (by first | omega | (dsimp only; omega)))) ?_ | refine Sub.cons (Eq.trans Look.eq (congrArg (AV.int _) (by rw [upTo_yes (by omega) (by simpa using c122)]; omega))) ?_)) ⟨by omega, St.tail hS⟩ (by omega)
                  · intro c122
                    refine KA.skip ?_
                    refine blQ.normal ?_
                    refine sqQ.normal ?_
                    refine KA.sub (Sub.cons (t := 10) Look.eq (Sub.cons (t := 11) Look.eq (Sub.cons (t := 12) Look.eq (Sub.cons (t := 16) Look.eq (Sub.cons (t := 17) Look.eq (Sub.cons (t := 18) Look.eq (Sub.cons (t := 19) Look.eq (Sub.cons (t := 114) Look.eq (Sub.cons (t := 115) Look.eq (Sub.cons (t := 116) Look.eq (Sub.nil _))))))))))) ?_
                    refine KA.region rfl ?_
                    refine KOps.add (by first | omega | (simp; omega)) (by first | omega | (simp; omega)) ?_
                    refine KOps.move ?_
                    refine KOps.done ?_
                    exact lpQ.normal (i + 1) (by repeat (first | exact Sub.nil _ | refine Sub.cons Look.eq ?_ | refine Sub.cons (Eq.trans Look.eq (congrArg (AV.int _) (by first | omega | (dsimp only; omega)))) ?_ | refine Sub.cons (Eq.trans Look.eq (congrArg (fun n : Nat => AV.int .i64 (n : Int)) (upTo_no (by omega) (by simpa using c122)).symm)) ?_)) ⟨by omega, St.tail hS⟩ (by omega)
                · intro c117
                  obtain rfl : i = (s.fill 31 0).length := by omega
                  refine KA.exit ?_
                  refine sqQ.exit ?_
                  refine lpQ.exit ?_
                  refine blQ.here ?_
                  refine sqQ.normal ?_
                  refine KA.sub (Sub.cons (t := 10) Look.eq (Sub.cons (t := 11) Look.eq (Sub.cons (t := 12) Look.eq (Sub.cons (t := 16) Look.eq (Sub.cons (t := 17) Look.eq (Sub.cons (t := 18) Look.eq (Sub.cons (t := 19) Look.eq (Sub.nil _)))))))) ?_
                  refine KA.seq ?_
                  refine KA.draw [46] mixed rfl (by kernel_rfl) ?_
                  refine KOps.move ?_
                  refine KOps.eql ?_
                  refine KOps.move ?_
                  refine KOps.guardB (dj := 128) rfl rfl true false rfl ?_ ?_
                  · intro g128
                    have g128 := of_decide_eq_true g128
                    refine KOps.move ?_
                    refine KOps.guardYes (dj := 128) rfl rfl ?_
                    refine KOps.lenF pc_len (hS.rd 0 rfl) ?_
                    refine KOps.guardYes (dj := 128) rfl rfl ?_
                    refine KOps.eql ?_
                    refine KOps.pickT ?_
                    refine KOps.move ?_
                    refine KOps.guardB (dj := 133) rfl rfl true false rfl ?_ ?_
                    · intro g133
                      have g133 := of_decide_eq_true g133
                      refine KOps.move ?_
                      refine KOps.guardYes (dj := 133) rfl rfl ?_
                      refine KOps.indexF pc_len (hS.rd 0 rfl) (j := 0) rfl (by first | omega | (simp; done) | (simp; omega)) ?_
                      intro p135 hp135
                      refine KOps.guardYes (dj := 133) rfl rfl ?_
                      refine KOps.loadFl pc_len (by decide) hp135 (hS.rd 0 rfl) (by first | omega | (simp; done) | (simp; omega)) ?_
                      show KOps _ _ _ _ _ _ _ ((136, .agg [.int .i64 ((lo : Int)), .int .i64 ((hi : Int))]) :: _) _
                      refine KOps.guardYes (dj := 133) rfl rfl ?_
                      refine KOps.move ?_
                      refine KOps.guardYes (dj := 133) rfl rfl ?_
                      refine KOps.move ?_
                      refine KOps.guardYes (dj := 133) rfl rfl ?_
                      refine KOps.buildG (zs := [.int .i64 0, .int .i64 0]) (cs := [_, _]) (by kernel_rfl) (by rfl) (by kernel_rfl) (.cons (off := 0) (s := 1) (by kernel_rfl) (AV.cells_one (by first | rfl | assumption)) rfl (by decide) (.cons (off := 1) (s := 1) (by kernel_rfl) (AV.cells_one (by first | rfl | assumption)) rfl (by decide) .nil)) (by rfl) ?_
                      refine KOps.guardYes (dj := 133) rfl rfl ?_
                      refine KOps.eqlPair (e := 3) (by kernel_rfl) (by kernel_rfl) (by kernel_rfl) (by kernel_rfl) ?_
                      refine KOps.pickT ?_
                      refine KOps.move ?_
                      refine KOps.guardB (dj := 142) rfl rfl true false rfl ?_ ?_
                      · intro g142
                        have g142 := of_decide_eq_true g142
                        refine KOps.move ?_
                        refine KOps.guardYes (dj := 142) rfl rfl ?_
                        refine KOps.indexF pc_len (hS.rd 0 rfl) (j := 1) rfl (by first | omega | (simp; done) | (simp; omega)) ?_
                        intro p144 hp144
                        refine KOps.guardYes (dj := 142) rfl rfl ?_
                        refine KOps.loadFl pc_len (by decide) hp144 (hS.rd 0 rfl) (by first | omega | (simp; done) | (simp; omega)) ?_
                        show KOps _ _ _ _ _ _ _ ((145, .agg [.int .i64 (((s.n / (s.l * s.w) : Nat) : Int) - (hi : Int)), .int .i64 (((s.n / (s.l * s.w) : Nat) : Int) - (lo : Int))]) :: _) _
                        refine KOps.guardYes (dj := 142) rfl rfl ?_
                        refine KOps.move ?_
                        refine KOps.guardYes (dj := 142) rfl rfl ?_
                        refine KOps.move ?_
                        refine KOps.guardYes (dj := 142) rfl rfl ?_
                        refine KOps.sub (by first | omega | (simp; omega)) (by first | omega | (simp; omega)) ?_
                        refine KOps.guardYes (dj := 142) rfl rfl ?_
                        refine KOps.move ?_
                        refine KOps.guardYes (dj := 142) rfl rfl ?_
                        refine KOps.move ?_
                        refine KOps.guardYes (dj := 142) rfl rfl ?_
                        refine KOps.sub (by first | omega | (simp; omega)) (by first | omega | (simp; omega)) ?_
                        refine KOps.guardYes (dj := 142) rfl rfl ?_
                        refine KOps.buildG (zs := [.int .i64 0, .int .i64 0]) (cs := [_, _]) (by kernel_rfl) (by rfl) (by kernel_rfl) (.cons (off := 0) (s := 1) (by kernel_rfl) (AV.cells_one (by first | rfl | assumption)) rfl (by decide) (.cons (off := 1) (s := 1) (by kernel_rfl) (AV.cells_one (by first | rfl | assumption)) rfl (by decide) .nil)) (by rfl) ?_
                        refine KOps.guardYes (dj := 142) rfl rfl ?_
                        refine KOps.eqlPair (e := 3) (by kernel_rfl) (by kernel_rfl) (by kernel_rfl) (by kernel_rfl) ?_
                        refine KOps.pickT ?_
                        refine KOps.move ?_
                        refine KOps.guardB (dj := 155) rfl rfl true false rfl ?_ ?_
                        · intro g155
                          have g155 := of_decide_eq_true g155
                          refine KOps.move ?_
                          refine KOps.guardYes (dj := 155) rfl rfl ?_
                          refine KOps.indexF pc_len (hS.rd 0 rfl) (j := 2) rfl (by first | omega | (simp; done) | (simp; omega)) ?_
                          intro p157 hp157
                          refine KOps.guardYes (dj := 155) rfl rfl ?_
                          refine KOps.loadFl pc_len (by decide) hp157 (hS.rd 0 rfl) (by first | omega | (simp; done) | (simp; omega)) ?_
                          show KOps _ _ _ _ _ _ _ ((158, .agg [.int .i64 (((s.n / (s.l * s.w) : Nat) : Int)), .int .i64 (((s.n / (s.l * s.w) : Nat) : Int))]) :: _) _
                          refine KOps.guardYes (dj := 155) rfl rfl ?_
                          refine KOps.move ?_
                          refine KOps.guardYes (dj := 155) rfl rfl ?_
                          refine KOps.move ?_
                          refine KOps.guardYes (dj := 155) rfl rfl ?_
                          refine KOps.buildG (zs := [.int .i64 0, .int .i64 0]) (cs := [_, _]) (by kernel_rfl) (by rfl) (by kernel_rfl) (.cons (off := 0) (s := 1) (by kernel_rfl) (AV.cells_one (by first | rfl | assumption)) rfl (by decide) (.cons (off := 1) (s := 1) (by kernel_rfl) (AV.cells_one (by first | rfl | assumption)) rfl (by decide) .nil)) (by rfl) ?_
                          refine KOps.guardYes (dj := 155) rfl rfl ?_
                          refine KOps.eqlPair (e := 3) (by kernel_rfl) (by kernel_rfl) (by kernel_rfl) (by kernel_rfl) ?_
                          refine KOps.pickT ?_
                          refine KOps.move ?_
                          refine KOps.guardB (dj := 164) rfl rfl true false rfl ?_ ?_
                          · intro g164
                            have g164 := of_decide_eq_true g164
                            refine KOps.loadAll hS (i := 1) rfl hp16 (by rfl) (by decide) ?_
                            refine KOps.guardYes (dj := 164) rfl rfl ?_
                            refine KOps.move ?_
                            refine KOps.guardYes (dj := 164) rfl rfl ?_
                            refine KOps.move ?_
                            refine KOps.guardYes (dj := 164) rfl rfl ?_
                            refine KOps.move ?_
                            refine KOps.guardYes (dj := 164) rfl rfl ?_
                            refine KOps.sub (by first | omega | (simp; omega)) (by first | omega | (simp; omega)) ?_
                            refine KOps.guardYes (dj := 164) rfl rfl ?_
                            refine KOps.move ?_
                            refine KOps.guardYes (dj := 164) rfl rfl ?_
                            refine KOps.buildSlice hS rfl (by decide) rfl ?_
                            intro v171 h' hS
                            refine KOps.guardYes (dj := 164) rfl rfl ?_
                            refine KOps.callK (by rintro _ _ ⟨_, rfl⟩; exact Keeps.refl _) list_c ?_
                            rintro _ _ ⟨rfl, rfl⟩
                            refine KOps.guardYes (dj := 164) rfl rfl ?_
                            refine KOps.call rfl (verify_c (rm := 2) (ws := upB lo hi (s.n / (s.l * s.w) : Nat)) (l := [(upTo (s.fill 31 0) (s.fill 31 0).length : Int), ((s.n / (s.l * s.w) : Nat) : Int) - (upTo (s.fill 31 0) (s.fill 31 0).length : Int), ((s.n / (s.l * s.w) : Nat) : Int)]) (hS.rd 3 rfl) (hS.rd 0 rfl)) ?_
                            rintro _ hx ⟨rfl, hK⟩
                            have hS0 : St _ _ _ := St.trans hS (St.ofK hK)
                            clear hS
                            have hS := hS0
                            clear hS0
                            simp only [List.nil_append] at hS
                            refine KOps.guardYes (dj := 164) rfl rfl ?_
                            refine KOps.eql ?_
                            refine KOps.pickT ?_
                            refine KOps.move ?_
                            refine KOps.guardB (dj := 176) rfl rfl true false rfl ?_ ?_
                            · intro g176
                              have g176 := of_decide_eq_true g176
                              refine KOps.call rfl (works_c) ?_
                              rintro _ hx ⟨rfl, hK⟩
                              have hS0 : St _ _ _ := St.trans hS (St.ofK hK)
                              clear hS
                              have hS := hS0
                              clear hS0
                              simp only [List.nil_append] at hS
                              refine KOps.pickT ?_
                              refine KOps.assign ?_
                              refine KOps.done ?_
                              refine sqQ.normal ?_
                              refine KA.sub (Sub.cons (t := 8) Look.eq (Sub.nil _)) ?_
                              refine KA.ret ?_
                              refine fnQ.ret1 ?_
                              rfl
                            · intro g176
                              have g176 := of_decide_eq_false g176
                              exact absurd hver g176
                          · intro g164
                            have g164 := of_decide_eq_false g164
                            exact absurd ⟨rfl, rfl⟩ g164
                        · intro g155
                          have g155 := of_decide_eq_false g155
                          exact absurd ⟨rfl, rfl⟩ g155
                      · intro g142
                        have g142 := of_decide_eq_false g142
                        exact absurd ⟨rfl, rfl⟩ g142
                    · intro g133
                      have g133 := of_decide_eq_false g133
                      exact absurd rfl g133
                  · intro g128
                    have g128 := of_decide_eq_false g128
                    exact absurd rfl g128
            · intro g93
              have g93 := of_decide_eq_true g93
              exfalso
              omega
          · intro g88
            have g88 := of_decide_eq_true g88
            exfalso
            omega
        · intro g83
          have g83 := of_decide_eq_true g83
          exfalso
          omega
      · intro g79
        have g79 := not_of_not_decide g79
        exact absurd rfl g79
    · intro g75
      have g75 := not_of_not_decide g75
      exact absurd rfl g75

theorem law_uprights_i {h : AHeap} {a b c d : Int} (ha0 : 0 ≤ a) (ha : a ≤ 255) (hb0 : 0 ≤ b) (hb : b ≤ 255) (hc0 : 0 ≤ c) (hc : c ≤ 255) (hd0 : 0 ≤ d) (hd : d ≤ 255) : ACalls Go.Proofs.Try.prog 3 [.int .u8 a, .int .u8 b, .int .u8 c, .int .u8 d] h (fun q _ => q = .bool true) := by
  obtain ⟨a, rfl⟩ := Int.eq_ofNat_of_zero_le ha0
  obtain ⟨b, rfl⟩ := Int.eq_ofNat_of_zero_le hb0
  obtain ⟨c, rfl⟩ := Int.eq_ofNat_of_zero_le hc0
  obtain ⟨d, rfl⟩ := Int.eq_ofNat_of_zero_le hd0
  have hg := good_of (r := a % 6) (c := b % 5) (l := c % 4) (w := d % 3) (Nat.mod_lt _ (by decide)) (Nat.mod_lt _ (by decide)) (Nat.mod_lt _ (by decide)) (Nat.mod_lt _ (by decide))
  exact law_uprights (s := ⟨a % 6 + 1, b % 5 + 1, c % 4 + 1, d % 3 + 1⟩) (by omega) (by omega) (by omega) (by omega) (Nat.add_comm ..) (Nat.add_comm ..) (Nat.add_comm ..) (Nat.add_comm ..) hg
end Go.Am
