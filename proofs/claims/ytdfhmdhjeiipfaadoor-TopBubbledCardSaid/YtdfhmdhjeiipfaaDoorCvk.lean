/-
  Tops: small packs: rows compared, packs by numbers.
  Conditions: none.
-/
import Derived.Test.YtdfhmdhjeiipfaaDoorVt
namespace Go.Am
theorem same_no {a b : List Int} {i : Nat} (hi : i < a.length) (h : ¬ a.getD i 0 = b.getD i 0) : decide (a = b) = false := decide_eq_false fun e => h (by rw [e])
theorem same_yes {a b : List Int} (hl : a.length = b.length) (h : ∀ j, j < a.length → a.getD j 0 = b.getD j 0) : decide (a = b) = true := decide_eq_true (List.ext_getElem hl fun i h1 h2 => by
  have := h i h1
  rwa [List.getD_eq_getElem?_getD, List.getD_eq_getElem?_getD, List.getElem?_eq_getElem h1, List.getElem?_eq_getElem h2] at this)
theorem rangeI (i : Nat) : nI (List.range i) ++ [(i : Int)] = nI (List.range (i + 1)) := by rw [List.range_succ, nI, nI, List.map_append]; rfl
theorem nI_gt {l : List Nat} {k : Nat} (hk : k < l.length) : (nI l).getD k 0 = ((l.getD k 0 : Nat) : Int) := by
  rw [nI, List.getD_eq_getElem?_getD, List.getD_eq_getElem?_getD, List.getElem?_map, List.getElem?_eq_getElem hk]; rfl
theorem nI_push {o l : List Nat} {k : Nat} (hk : k < l.length) : nI o ++ [(nI l).getD k 0] = nI (o ++ [l.getD k 0]) := by rw [nI_gt hk, nI, nI, List.map_append]; rfl
theorem nI_erase {l : List Nat} {k : Nat} : ([] ++ ints ((nI l).take k)) ++ ints (((nI l).drop (k + 1)).take (l.length - (k + 1))) = ints (nI (l.eraseIdx k)) := by
  rw [List.nil_append, List.take_of_length_le (l := (nI l).drop (k + 1)) (by rw [List.length_drop, nI, List.length_map]; exact Nat.le_refl _), List.eraseIdx_eq_take_drop_succ]
  simp only [ints, nI, List.map_append, List.map_take, List.map_drop]
theorem mix_step {n k : Nat} {l o : List Nat} (hk : k < l.length) (hp : ∀ q ∈ perms l.length l, o ++ q ∈ packs n) : ∀ q ∈ perms (l.eraseIdx k).length (l.eraseIdx k), (o ++ [l.getD k 0]) ++ q ∈ packs n := by
  intro q hq
  rw [List.length_eraseIdx_of_lt hk] at hq
  rw [List.append_assoc]
  refine hp _ ?_
  obtain ⟨m, hm⟩ : ∃ m, l.length = m + 1 := ⟨l.length - 1, by omega⟩
  rw [hm] at hq ⊢
  unfold perms
  exact List.mem_flatMap.2 ⟨k, List.mem_range.2 hk, List.mem_map.2 ⟨q, by simpa using hq, rfl⟩⟩

theorem same_c {h : AHeap} {v u : AV} {a b : List Int} (hv : Row h v a) (hu : Row h u b) (hla : a.length ≤ 1000000) : ACalls Go.Proofs.Tryd.prog 11 [v, u] h (fun q h' => q = .bool (decide (a = b)) ∧ h = h') := by
  refine KA.fn 26 [.tmp 4] Go.Proofs.Tryd.func11 rfl (by decide) rfl rfl (Nat.le_of_ble_eq_true rfl) ?_
  show KA _ 26 _ _ [(0, v), (1, u)] _
  refine KA.seq ?_
  refine KA.region rfl ?_
  refine KOps.assign ?_
  refine KOps.done ?_
  refine sqQ.normal ?_
  refine KA.sub (Sub.cons (t := 0) Look.eq (Sub.cons (t := 1) Look.eq (Sub.nil _))) ?_
  refine KA.seq ?_
  refine KA.seq ?_
  refine KA.region rfl ?_
  refine KOps.move ?_
  refine KOps.lenI hv ?_
  refine KOps.move ?_
  refine KOps.lenI hu ?_
  refine KOps.neq ?_
  refine KOps.done ?_
  refine sqQ.normal ?_
  refine KA.sub (Sub.cons (t := 0) Look.eq (Sub.cons (t := 1) Look.eq (Sub.cons (t := 10) Look.eq (Sub.nil _)))) ?_
  refine KA.condN ?_ ?_
  · intro c10
    refine KA.seq ?_
    refine KA.region rfl ?_
    refine KOps.assign ?_
    refine KOps.done ?_
    refine sqQ.normal ?_
    refine KA.sub (Sub.cons (t := 4) Look.eq (Sub.nil _)) ?_
    refine KA.ret ?_
    refine sqQ.ret ?_
    refine fnQ.ret1 ?_
    refine ⟨congrArg AV.bool (decide_eq_false fun e => ?_).symm, rfl⟩
    subst e
    omega
  · intro c10
    have hlab : a.length = b.length := by omega
    refine KA.skip ?_
    refine sqQ.normal ?_
    refine KA.sub (Sub.cons (t := 0) Look.eq (Sub.cons (t := 1) Look.eq (Sub.nil _))) ?_
    refine KA.seq ?_
    refine KA.seq ?_
    refine KA.region rfl ?_
    refine KOps.move ?_
    refine KOps.lenI hv ?_
    refine KOps.move ?_
    refine KOps.done ?_
    refine sqQ.normal ?_
    refine KA.sub (Sub.cons (t := 0) Look.eq (Sub.cons (t := 1) Look.eq (Sub.cons (t := 12) Look.eq (Sub.cons (t := 13) Look.eq (Sub.nil _))))) ?_
    refine KA.block ?_
    refine KA.loop (X := Nat) (fun i => [(0, v), (1, u), (12, .int .i64 (a.length : Int)), (13, .int .i64 (i : Int))]) (fun i h' => h = h' ∧ i ≤ a.length ∧ ∀ j, j < i → a.getD j 0 = b.getD j 0) (fun i => a.length - i) 0 (by repeat (first | exact Sub.nil _ | refine Sub.cons Look.eq ?_ | refine Sub.cons (Eq.trans Look.eq (congrArg (AV.int _) (by first | omega | (dsimp only; omega)))) ?_)) ?_ ?_
    · exact ⟨rfl, Nat.zero_le _, fun j hj => by omega⟩
    rintro i _ ⟨rfl, hi, hj⟩
    refine KA.seq ?_
    refine KA.region rfl ?_
    refine KOps.lss ?_
    refine KOps.done ?_
    refine sqQ.normal ?_
    refine KA.seq ?_
    refine KA.condD ?_ ?_
    · intro c14
      refine KA.skip ?_
      refine sqQ.normal ?_
      refine KA.sub (Sub.cons (t := 0) Look.eq (Sub.cons (t := 1) Look.eq (Sub.cons (t := 12) Look.eq (Sub.cons (t := 13) Look.eq (Sub.nil _))))) ?_
      refine KA.seq ?_
      refine KA.block ?_
      refine KA.seq ?_
      refine KA.region rfl ?_
      refine KOps.move ?_
      refine KOps.assign ?_
      refine KOps.done ?_
      refine sqQ.normal ?_
      refine KA.sub (Sub.cons (t := 0) Look.eq (Sub.cons (t := 1) Look.eq (Sub.cons (t := 5) Look.eq (Sub.cons (t := 12) Look.eq (Sub.cons (t := 13) Look.eq (Sub.nil _)))))) ?_
      refine KA.seq ?_
      refine KA.draw [] mixed rfl (by kernel_rfl) ?_
      refine KOps.move ?_
      refine KOps.move ?_
      refine KOps.indexIJ hv (j := i) rfl (by first | omega | (simp; done) | (simp; omega)) ?_
      intro p18 hp18
      refine KOps.loadI hp18 hv (by first | omega | (simp; done) | (simp; omega)) ?_
      refine KOps.move ?_
      refine KOps.move ?_
      refine KOps.indexIJ hu (j := i) rfl (by first | omega | (simp; done) | (simp; omega)) ?_
      intro p22 hp22
      refine KOps.loadI hp22 hu (by first | omega | (simp; done) | (simp; omega)) ?_
      refine KOps.neq ?_
      refine KOps.done ?_
      refine sqQ.normal ?_
      refine KA.sub (Sub.cons (t := 0) Look.eq (Sub.cons (t := 1) Look.eq (Sub.cons (t := 12) Look.eq (Sub.cons (t := 13) Look.eq (Sub.cons (t := 24) Look.eq (Sub.nil _)))))) ?_
      refine KA.condN ?_ ?_
      · intro c24
        refine KA.seq ?_
        refine KA.region rfl ?_
        refine KOps.assign ?_
        refine KOps.done ?_
        refine sqQ.normal ?_
        refine KA.sub (Sub.cons (t := 4) Look.eq (Sub.nil _)) ?_
        refine KA.ret ?_
        refine blQ.ret ?_
        refine sqQ.ret ?_
        refine lpQ.ret ?_
        refine blQ.ret ?_
        refine sqQ.ret ?_
        refine fnQ.ret1 ?_
        exact ⟨congrArg AV.bool (same_no (i := i) (by omega) (by omega)).symm, rfl⟩
      · intro c24
        refine KA.skip ?_
        refine blQ.normal ?_
        refine sqQ.normal ?_
        refine KA.sub (Sub.cons (t := 0) Look.eq (Sub.cons (t := 1) Look.eq (Sub.cons (t := 12) Look.eq (Sub.cons (t := 13) Look.eq (Sub.nil _))))) ?_
        refine KA.region rfl ?_
        refine KOps.add (by first | omega | (simp; omega)) (by first | omega | (simp; omega)) ?_
        refine KOps.move ?_
        refine KOps.done ?_
        refine lpQ.normal (i + 1) (by repeat (first | exact Sub.nil _ | refine Sub.cons Look.eq ?_ | refine Sub.cons (Eq.trans Look.eq (congrArg (AV.int _) (by first | omega | (dsimp only; omega)))) ?_)) ⟨rfl, by omega, ?_⟩ (by omega)
        intro j hj2
        rcases Nat.lt_succ_iff_lt_or_eq.1 hj2 with h3 | rfl
        · exact hj j h3
        · omega
    · intro c14
      refine KA.exit ?_
      refine sqQ.exit ?_
      refine lpQ.exit ?_
      refine blQ.here ?_
      refine sqQ.normal ?_
      refine KA.sub (Sub.nil _) ?_
      refine KA.seq ?_
      refine KA.region rfl ?_
      refine KOps.assign ?_
      refine KOps.done ?_
      refine sqQ.normal ?_
      refine KA.ret ?_
      refine fnQ.ret1 ?_
      exact ⟨congrArg AV.bool (same_yes (by omega) (fun j h3 => hj j (by omega))).symm, rfl⟩

theorem mixed_c {h : AHeap} {v : AV} {n : Nat} {bs : List Int} (hn : n ≤ 5) (hv : Rd h v 1 (bs.map (AV.int .u8))) (hbs : ∀ x ∈ bs, 0 ≤ x ∧ x ≤ 255) (hlen : bs.length ≤ 9223372036854775807) : ACalls Go.Proofs.Tryd.prog 8 [.int .i64 (n : Int), v] h (fun q h' => ∃ p, p ∈ packs n ∧ St h h' [⟨q, 1, ints (nI p), true⟩]) := by
  refine KA.fn 54 [.tmp 4] Go.Proofs.Tryd.func8 rfl (by decide) rfl rfl (Nat.le_of_ble_eq_true rfl) ?_
  have hS := St.refl h
  show KA _ 54 _ _ [(0, .int .i64 (n : Int)), (1, v)] _
  refine KA.seq ?_
  refine KA.region rfl ?_
  refine KOps.assign ?_
  refine KOps.done ?_
  refine sqQ.normal ?_
  refine KA.sub (Sub.cons (t := 0) Look.eq (Sub.cons (t := 1) Look.eq (Sub.nil _))) ?_
  refine KA.seq ?_
  refine KA.region rfl ?_
  refine KOps.assign ?_
  refine KOps.assign ?_
  refine KOps.done ?_
  refine sqQ.normal ?_
  refine KA.seq ?_
  refine KA.seq ?_
  refine KA.region rfl ?_
  refine KOps.move ?_
  refine KOps.move ?_
  refine KOps.done ?_
  refine sqQ.normal ?_
  refine KA.sub (Sub.cons (t := 1) Look.eq (Sub.cons (t := 5) Look.eq (Sub.cons (t := 6) Look.eq (Sub.cons (t := 10) Look.eq (Sub.cons (t := 11) Look.eq (Sub.nil _)))))) ?_
  refine KA.block ?_
  refine KA.loop (X := Nat × AV) (fun x => [(1, v), (5, x.2), (6, .nils), (10, .int .i64 (n : Int)), (11, .int .i64 (x.1 : Int))]) (fun x h' => x.1 ≤ n ∧ St h h' [⟨x.2, 1, ints (nI (List.range x.1)), true⟩]) (fun x => n - x.1) (0, .nils) (by repeat (first | exact Sub.nil _ | refine Sub.cons Look.eq ?_ | refine Sub.cons (Eq.trans Look.eq (congrArg (AV.int _) (by first | omega | (dsimp only; omega)))) ?_)) ?_ ?_
  · exact ⟨Nat.zero_le _, hS.nil 1⟩
  rintro ⟨i, vL⟩ h5 ⟨hi, hS⟩
  dsimp only at hi hS ⊢
  refine KA.seq ?_
  refine KA.region rfl ?_
  refine KOps.lss ?_
  refine KOps.done ?_
  refine sqQ.normal ?_
  refine KA.seq ?_
  refine KA.condD ?_ ?_
  · intro c12
    refine KA.skip ?_
    refine sqQ.normal ?_
    refine KA.sub (Sub.cons (t := 1) Look.eq (Sub.cons (t := 5) Look.eq (Sub.cons (t := 6) Look.eq (Sub.cons (t := 10) Look.eq (Sub.cons (t := 11) Look.eq (Sub.nil _)))))) ?_
    refine KA.seq ?_
    refine KA.block ?_
    refine KA.seq ?_
    refine KA.region rfl ?_
    refine KOps.move ?_
    refine KOps.assign ?_
    refine KOps.done ?_
    refine sqQ.normal ?_
    refine KA.sub (Sub.cons (t := 1) Look.eq (Sub.cons (t := 5) Look.eq (Sub.cons (t := 6) Look.eq (Sub.cons (t := 7) Look.eq (Sub.cons (t := 10) Look.eq (Sub.cons (t := 11) Look.eq (Sub.nil _))))))) ?_
    refine KA.region rfl ?_
    refine KOps.move ?_
    refine KOps.move ?_
    refine KOps.buildSlice hS rfl (by decide) rfl ?_
    intro v16 h' hS
    refine KOps.appendI hS (fun _ => rfl) (i := 0) rfl (by first | omega | (simp; done) | (simp; omega)) ?_
    intro r17 h' hr17 hS
    refine KOps.assign ?_
    refine KOps.done ?_
    refine blQ.normal ?_
    refine sqQ.normal ?_
    refine KA.sub (Sub.cons (t := 1) Look.eq (Sub.cons (t := 5) Look.eq (Sub.cons (t := 6) Look.eq (Sub.cons (t := 10) Look.eq (Sub.cons (t := 11) Look.eq (Sub.nil _)))))) ?_
    refine KA.region rfl ?_
    refine KOps.add (by first | omega | (simp; omega)) (by first | omega | (simp; omega)) ?_
    refine KOps.move ?_
    refine KOps.done ?_
    rw [rangeI] at hS
    exact lpQ.normal (i + 1, _) (by repeat (first | exact Sub.nil _ | refine Sub.cons Look.eq ?_ | refine Sub.cons (Eq.trans Look.eq (congrArg (AV.int _) (by first | omega | (dsimp only; omega)))) ?_)) ⟨by dsimp only; omega, hS⟩ (by dsimp only; omega)
  · intro c12
    obtain rfl : n = i := by omega
    refine KA.exit ?_
    refine sqQ.exit ?_
    refine lpQ.exit ?_
    refine blQ.here ?_
    refine sqQ.normal ?_
    refine KA.sub (Sub.cons (t := 1) Look.eq (Sub.cons (t := 5) Look.eq (Sub.cons (t := 6) Look.eq (Sub.nil _)))) ?_
    refine KA.seq ?_
    refine KA.seq ?_
    refine KA.region rfl ?_
    refine KOps.assign ?_
    refine KOps.done ?_
    refine sqQ.normal ?_
    refine KA.block ?_
    refine KA.loop (X := Nat × List Nat × List Nat × AV × AV) (fun x => [(1, v), (5, x.2.2.2.1), (6, x.2.2.2.2), (8, .int .i64 (x.1 : Int))]) (fun x h' => x.1 + x.2.1.length = n ∧ x.2.2.1.length = x.1 ∧ (∀ q ∈ perms x.2.1.length x.2.1, x.2.2.1 ++ q ∈ packs n) ∧ St h h' [⟨x.2.2.2.2, 1, ints (nI x.2.2.1), true⟩, ⟨x.2.2.2.1, 1, ints (nI x.2.1), true⟩]) (fun x => x.2.1.length) (0, List.range n, [], vL, .nils) (by repeat (first | exact Sub.nil _ | refine Sub.cons Look.eq ?_ | refine Sub.cons (Eq.trans Look.eq (congrArg (AV.int _) (by first | omega | (dsimp only; omega)))) ?_)) ?_ ?_
    · exact ⟨by dsimp only; rw [List.length_range]; omega, rfl, fun q hq => by dsimp only at hq; rwa [List.length_range] at hq, hS.nil 1⟩
    rintro ⟨i, lf, ou, vL, vO⟩ h5 ⟨hi, ho, hp, hS⟩
    dsimp only at hi ho hp hS ⊢
    have hnl : (nI lf).length = lf.length := List.length_map ..
    refine KA.seq ?_
    refine KA.seq ?_
    refine KA.region rfl ?_
    refine KOps.move ?_
    refine KOps.lenI (hS.rd 1 rfl) ?_
    refine KOps.gtr ?_
    refine KOps.done ?_
    refine sqQ.normal ?_
    refine KA.sub (Sub.cons (t := 1) Look.eq (Sub.cons (t := 5) Look.eq (Sub.cons (t := 6) Look.eq (Sub.cons (t := 8) Look.eq (Sub.cons (t := 21) Look.eq (Sub.nil _)))))) ?_
    refine KA.condD ?_ ?_
    · intro c21
      have hl0 : 0 < lf.length := by omega
      refine KA.skip ?_
      refine sqQ.normal ?_
      refine KA.sub (Sub.cons (t := 1) Look.eq (Sub.cons (t := 5) Look.eq (Sub.cons (t := 6) Look.eq (Sub.cons (t := 8) Look.eq (Sub.nil _))))) ?_
      refine KA.seq ?_
      refine KA.block ?_
      refine KA.seq ?_
      refine KA.region rfl ?_
      obtain ⟨k, hk0⟩ : ∃ k : Nat, k = 0 := ⟨0, rfl⟩
      have hkL : k < lf.length := by omega
      refine KOps.assign (v := .int .i64 (k : Int)) (hx := ⟨by rw [hk0]; rfl⟩) ?_
      refine KOps.done ?_
      refine sqQ.normal ?_
      refine KA.seq ?_
      refine KA.seq ?_
      refine KA.region rfl ?_
      refine KOps.move ?_
      refine KOps.move ?_
      refine KOps.lenI (Rd.ext hS.keeps hv) ?_
      refine KOps.lss ?_
      refine KOps.done ?_
      refine sqQ.normal ?_
      refine KA.sub (Sub.cons (t := 1) Look.eq (Sub.cons (t := 5) Look.eq (Sub.cons (t := 6) Look.eq (Sub.cons (t := 8) Look.eq (Sub.cons (t := 9) Look.eq (Sub.cons (t := 27) Look.eq (Sub.nil _))))))) ?_
      refine KA.condD ?_ ?_
      · intro c27
        refine KA.region rfl ?_
        refine KOps.move ?_
        refine KOps.move ?_
        refine KOps.indexIJ (Rd.ext hS.keeps hv) (j := i) rfl (by first | omega | (simp; done) | (simp; omega)) ?_
        intro p30 hp30
        refine KOps.load hp30 (Rd.ext hS.keeps hv) (show (bs.map (AV.int .u8))[i]? = some (.int .u8 (bs.getD i 0)) by simp [List.getElem?_map, List.getElem?_eq_getElem (show i < bs.length by omega), List.getD_eq_getElem?_getD]) ?_
        obtain ⟨y, hy, hy2⟩ : ∃ y : Nat, bs.getD i 0 = (y : Int) ∧ y < 256 := by
          have hm : bs.getD i 0 ∈ bs := by
            rw [List.getD_eq_getElem?_getD, List.getElem?_eq_getElem (by omega : i < bs.length)]; exact List.getElem_mem _
          have := hbs _ hm
          exact ⟨(bs.getD i 0).toNat, by omega, by omega⟩
        rw [hy]
        refine KOps.convU (by omega) (by omega) ?_
        refine KOps.move ?_
        refine KOps.lenI (hS.rd 1 rfl) ?_
        rw [hnl]
        refine KOps.remN (i := y) (j := lf.length) rfl rfl (by omega) (by omega) ?_
        have hkL := Nat.mod_lt y (show lf.length > 0 by omega)
        obtain ⟨k, hk⟩ : ∃ k, k = y % lf.length := ⟨_, rfl⟩
        rw [← hk] at hkL ⊢
        refine KOps.assign ?_
        refine KOps.done ?_
        refine sqQ.normal ?_
        refine KA.sub (Sub.cons (t := 1) Look.eq (Sub.cons (t := 5) Look.eq (Sub.cons (t := 6) Look.eq (Sub.cons (t := 8) Look.eq (Sub.cons (t := 9) Look.eq (Sub.nil _)))))) ?_
        refine KA.seq ?_
        refine KA.region rfl ?_
        refine KOps.move ?_
        refine KOps.move ?_
        refine KOps.move ?_
        refine KOps.indexIJ (hS.rd 1 rfl) (j := k) (by first | omega | (simp; omega)) (by first | omega | (simp; done) | (simp; omega)) ?_
        intro p39 hp39
        refine KOps.loadI hp39 (hS.rd 1 rfl) (by first | omega | (simp; done) | (simp; omega)) ?_
        refine KOps.buildSlice hS rfl (by decide) rfl ?_
        intro v41 h' hS
        refine KOps.appendI hS (fun _ => rfl) (i := 0) rfl (by first | omega | (simp; done) | (simp; omega)) ?_
        intro r42 h' hr42 hS
        refine KOps.assign ?_
        refine KOps.done ?_
        refine sqQ.normal ?_
        refine KA.sub (Sub.cons (t := 1) Look.eq (Sub.cons (t := 5) Look.eq (Sub.cons (t := 6) Look.eq (Sub.cons (t := 8) Look.eq (Sub.cons (t := 9) Look.eq (Sub.nil _)))))) ?_
        refine KA.draw [4, 9] mixed rfl (by kernel_rfl) ?_
        refine KOps.buildSlice hS rfl (by decide) rfl ?_
        intro v43 h' hS
        refine KOps.move ?_
        refine KOps.move ?_
        refine KOps.sliceHi (hS.rd 2 rfl) (m := lf.length) (by simp [ints]) (by omega) (by omega) ?_
        intro v46 hv46
        rw [Int.toNat_natCast] at hv46
        refine KOps.append hS (fun _ => rfl) (i := 0) rfl (a := 0) (by simp [ints]; try omega) (Row.take (hS.rd 2 rfl) hv46) (b := k) (by simp [ints]; try omega) (by rw [ints, List.all_map]; exact List.all_eq_true.2 fun _ _ => rfl) (by omega) ?_
        intro r47 h' hS
        simp only [List.set_cons_zero, List.set_cons_succ, Nat.zero_add] at hS
        refine KOps.move ?_
        refine KOps.move ?_
        refine KOps.add (by first | omega | (simp; omega)) (by first | omega | (simp; omega)) ?_
        refine KOps.sliceLo (hS.rd 2 rfl) (m := lf.length) (by simp [ints]) (by omega) (by omega) ?_
        intro v51 hv51
        rw [show ((k : Int) + 1).toNat = k + 1 by omega] at hv51
        refine KOps.append hS (fun _ => rfl) (i := 0) rfl (a := k) (by simp [ints]; try omega) (Row.part (hS.rd 2 rfl) hv51 (by omega)) (b := lf.length - (k + 1)) (by simp [ints]; try omega) (by rw [ints, List.all_map]; exact List.all_eq_true.2 fun _ _ => rfl) (by omega) ?_
        intro r52 h' hS
        simp only [List.set_cons_zero, List.set_cons_succ, Nat.zero_add] at hS
        rw [nI_erase] at hS
        refine KOps.assign ?_
        refine KOps.done ?_
        refine blQ.normal ?_
        refine sqQ.normal ?_
        refine KA.sub (Sub.cons (t := 1) Look.eq (Sub.cons (t := 5) Look.eq (Sub.cons (t := 6) Look.eq (Sub.cons (t := 8) Look.eq (Sub.nil _))))) ?_
        refine KA.region rfl ?_
        refine KOps.move ?_
        refine KOps.add (by first | omega | (simp; omega)) (by first | omega | (simp; omega)) ?_
        refine KOps.assign ?_
        refine KOps.done ?_
        rw [nI_push (by omega)] at hS
        exact lpQ.normal (i + 1, _, _, _, _) (by repeat (first | exact Sub.nil _ | refine Sub.cons Look.eq ?_ | refine Sub.cons (Eq.trans Look.eq (congrArg (AV.int _) (by first | omega | (dsimp only; omega)))) ?_)) ⟨by dsimp only; rw [List.length_eraseIdx_of_lt hkL]; omega, by dsimp only; rw [List.length_append, ho]; rfl, mix_step hkL hp, St.pick [1, 0] (by decide) rfl hS⟩ (by dsimp only; rw [List.length_eraseIdx_of_lt hkL]; omega)
      · intro c27
        refine KA.skip ?_
        refine sqQ.normal ?_
        refine KA.sub (Sub.cons (t := 1) Look.eq (Sub.cons (t := 5) Look.eq (Sub.cons (t := 6) Look.eq (Sub.cons (t := 8) Look.eq (Sub.cons (t := 9) Look.eq (Sub.nil _)))))) ?_
        refine KA.seq ?_
        refine KA.region rfl ?_
        refine KOps.move ?_
        refine KOps.move ?_
        refine KOps.move ?_
        refine KOps.indexIJ (hS.rd 1 rfl) (j := k) (by first | omega | (simp; omega)) (by first | omega | (simp; done) | (simp; omega)) ?_
        intro p39 hp39
        refine KOps.loadI hp39 (hS.rd 1 rfl) (by first | omega | (simp; done) | (simp; omega)) ?_
        refine KOps.buildSlice hS rfl (by decide) rfl ?_
        intro v41 h' hS
        refine KOps.appendI hS (fun _ => rfl) (i := 0) rfl (by first | omega | (simp; done) | (simp; omega)) ?_
        intro r42 h' hr42 hS
        refine KOps.assign ?_
        refine KOps.done ?_
        refine sqQ.normal ?_
        refine KA.sub (Sub.cons (t := 1) Look.eq (Sub.cons (t := 5) Look.eq (Sub.cons (t := 6) Look.eq (Sub.cons (t := 8) Look.eq (Sub.cons (t := 9) Look.eq (Sub.nil _)))))) ?_
        refine KA.draw [4, 9] mixed rfl (by kernel_rfl) ?_
        refine KOps.buildSlice hS rfl (by decide) rfl ?_
        intro v43 h' hS
        refine KOps.move ?_
        refine KOps.move ?_
        refine KOps.sliceHi (hS.rd 2 rfl) (m := lf.length) (by simp [ints]) (by omega) (by omega) ?_
        intro v46 hv46
        rw [Int.toNat_natCast] at hv46
        refine KOps.append hS (fun _ => rfl) (i := 0) rfl (a := 0) (by simp [ints]; try omega) (Row.take (hS.rd 2 rfl) hv46) (b := k) (by simp [ints]; try omega) (by rw [ints, List.all_map]; exact List.all_eq_true.2 fun _ _ => rfl) (by omega) ?_
        intro r47 h' hS
        simp only [List.set_cons_zero, List.set_cons_succ, Nat.zero_add] at hS
        refine KOps.move ?_
        refine KOps.move ?_
        refine KOps.add (by first | omega | (simp; omega)) (by first | omega | (simp; omega)) ?_
        refine KOps.sliceLo (hS.rd 2 rfl) (m := lf.length) (by simp [ints]) (by omega) (by omega) ?_
        intro v51 hv51
        rw [show ((k : Int) + 1).toNat = k + 1 by omega] at hv51
        refine KOps.append hS (fun _ => rfl) (i := 0) rfl (a := k) (by simp [ints]; try omega) (Row.part (hS.rd 2 rfl) hv51 (by omega)) (b := lf.length - (k + 1)) (by simp [ints]; try omega) (by rw [ints, List.all_map]; exact List.all_eq_true.2 fun _ _ => rfl) (by omega) ?_
        intro r52 h' hS
        simp only [List.set_cons_zero, List.set_cons_succ, Nat.zero_add] at hS
        rw [nI_erase] at hS
        refine KOps.assign ?_
        refine KOps.done ?_
        refine blQ.normal ?_
        refine sqQ.normal ?_
        refine KA.sub (Sub.cons (t := 1) Look.eq (Sub.cons (t := 5) Look.eq (Sub.cons (t := 6) Look.eq (Sub.cons (t := 8) Look.eq (Sub.nil _))))) ?_
        refine KA.region rfl ?_
        refine KOps.move ?_
        refine KOps.add (by first | omega | (simp; omega)) (by first | omega | (simp; omega)) ?_
        refine KOps.assign ?_
        refine KOps.done ?_
        rw [nI_push (by omega)] at hS
        exact lpQ.normal (i + 1, _, _, _, _) (by repeat (first | exact Sub.nil _ | refine Sub.cons Look.eq ?_ | refine Sub.cons (Eq.trans Look.eq (congrArg (AV.int _) (by first | omega | (dsimp only; omega)))) ?_)) ⟨by dsimp only; rw [List.length_eraseIdx_of_lt hkL]; omega, by dsimp only; rw [List.length_append, ho]; rfl, mix_step hkL hp, St.pick [1, 0] (by decide) rfl hS⟩ (by dsimp only; rw [List.length_eraseIdx_of_lt hkL]; omega)
    · intro c21
      refine KA.exit ?_
      refine sqQ.exit ?_
      refine lpQ.exit ?_
      refine blQ.here ?_
      refine sqQ.normal ?_
      refine KA.sub (Sub.cons (t := 6) Look.eq (Sub.nil _)) ?_
      refine KA.seq ?_
      refine KA.region rfl ?_
      refine KOps.move ?_
      refine KOps.assign ?_
      refine KOps.done ?_
      refine sqQ.normal ?_
      refine KA.sub (Sub.cons (t := 4) Look.eq (Sub.nil _)) ?_
      refine KA.ret ?_
      refine fnQ.ret1 ?_
      obtain rfl : lf = [] := List.eq_nil_of_length_eq_zero (by omega)
      exact ⟨ou, by have := hp [] (List.mem_singleton.2 rfl); rwa [List.append_nil] at this, St.pick [0] (by decide) rfl hS⟩

end Go.Am

namespace Go.Am
def trP (n : Nat) (p : List Nat) : Tray := ⟨n, nI p, nI (List.range n)⟩
def okPack (n : Nat) (p : List Nat) : Bool := decide (p.length = n) && (p.all fun x => decide (x < n)) && ((List.range (n - 1)).all fun a => (packs n).contains (passP a p)) && decide ((bubE n p).1 = List.range n) && decide ((trP n p).chk = 0) && decide ((trP n p).fewS ≤ ((bubE n p).2.length : Nat))
theorem ok_packs14 : ((List.range 5).all fun n => (packs n).all (okPack n)) = true := by kernel_rfl
theorem ok_packs5 : (packs 5).all (okPack 5) = true := by kernel_rfl
end Go.Am

namespace Go.Am
noncomputable def okNear1 (n : Nat) (p : List Nat) : Bool := runsG Go.Proofs.Tryd.prog 4000 12 [.agg [.int .i64 (n : Int), .slc 0 0 n 1 false, .slc 1 0 n 1 false]] [natI p, natI (List.range n)] [] (fun r _ => AV.isP 3 r (.tup [.int .i64 ((bubE n p).2.length : Int), .int .i64 0]))
theorem run_near5a : (((packs 5).drop 0).take 30).all (okNear1 5) = true := by kernel_rfl
theorem run_near5b : (((packs 5).drop 30).take 30).all (okNear1 5) = true := by kernel_rfl
theorem run_near5c : (((packs 5).drop 60).take 30).all (okNear1 5) = true := by kernel_rfl
theorem run_near5d : (((packs 5).drop 90).take 30).all (okNear1 5) = true := by kernel_rfl
theorem run_mends4 : okMends 4 = true := by kernel_rfl
end Go.Am

namespace Go.Am
theorem run_mends5f0 : (((packs 5).drop 0).take 10).all (okMend 5) = true := by kernel_rfl
theorem run_mends5f1 : (((packs 5).drop 10).take 10).all (okMend 5) = true := by kernel_rfl
theorem run_mends5f2 : (((packs 5).drop 20).take 10).all (okMend 5) = true := by kernel_rfl
theorem run_mends5f3 : (((packs 5).drop 30).take 10).all (okMend 5) = true := by kernel_rfl
end Go.Am

namespace Go.Am
theorem run_mends5g0 : (((packs 5).drop 40).take 10).all (okMend 5) = true := by kernel_rfl
theorem run_mends5g1 : (((packs 5).drop 50).take 10).all (okMend 5) = true := by kernel_rfl
theorem run_mends5g2 : (((packs 5).drop 60).take 10).all (okMend 5) = true := by kernel_rfl
theorem run_mends5g3 : (((packs 5).drop 70).take 10).all (okMend 5) = true := by kernel_rfl
end Go.Am

namespace Go.Am
theorem run_mends5h0 : (((packs 5).drop 80).take 10).all (okMend 5) = true := by kernel_rfl
theorem run_mends5h1 : (((packs 5).drop 90).take 10).all (okMend 5) = true := by kernel_rfl
theorem run_mends5h2 : (((packs 5).drop 100).take 10).all (okMend 5) = true := by kernel_rfl
theorem run_mends5h3 : (((packs 5).drop 110).take 10).all (okMend 5) = true := by kernel_rfl
end Go.Am

namespace Go.Am
theorem pack_ok {n : Nat} {p : List Nat} (hn : n ≤ 5) (hp : p ∈ packs n) : p.length = n ∧ (∀ x ∈ p, x < n) ∧ (∀ a, a < n - 1 → passP a p ∈ packs n) ∧ (bubE n p).1 = List.range n ∧ (trP n p).chk = 0 ∧ (trP n p).fewS ≤ ((bubE n p).2.length : Nat) := by
  have h : okPack n p = true := by
    rcases Nat.lt_or_ge n 5 with h | h
    · exact List.all_eq_true.1 (List.all_eq_true.1 ok_packs14 n (List.mem_range.2 h)) p hp
    · obtain rfl : n = 5 := by omega
      exact List.all_eq_true.1 ok_packs5 p hp
  unfold okPack at h
  simp only [Bool.and_eq_true, decide_eq_true_eq, List.all_eq_true, List.contains_iff_mem] at h
  obtain ⟨⟨⟨⟨⟨h1, h2⟩, h3⟩, h4⟩, h5⟩, h6⟩ := h
  exact ⟨h1, h2, fun a ha => h3 a (List.mem_range.2 ha), h4, h5, h6⟩
theorem all4 {α : Type} {f : α → Bool} {l : List α} {a b c d : List α} (hl : l = a ++ (b ++ (c ++ d))) (ha : a.all f = true) (hb : b.all f = true) (hc : c.all f = true) (hd : d.all f = true) : ∀ x ∈ l, f x = true := by
  subst hl
  intro x hx
  rcases List.mem_append.1 hx with h | h
  · exact List.all_eq_true.1 ha x h
  · rcases List.mem_append.1 h with h | h
    · exact List.all_eq_true.1 hb x h
    · rcases List.mem_append.1 h with h | h
      · exact List.all_eq_true.1 hc x h
      · exact List.all_eq_true.1 hd x h
theorem cut4 {α : Type} (l : List α) (i s : Nat) : (l.drop i).take (s + (s + (s + s))) = (l.drop i).take s ++ ((l.drop (i + s)).take s ++ ((l.drop (i + 2 * s)).take s ++ (l.drop (i + 3 * s)).take s)) := by
  rw [List.take_add, List.take_add, List.take_add, List.drop_drop, List.drop_drop, List.drop_drop]
  rw [show i + s + s = i + 2 * s by omega, show i + 2 * s + s = i + 3 * s by omega]
theorem packs5_len : (packs 5).length = 120 := by decide +kernel
theorem near5_all {p : List Nat} (hp : p ∈ packs 5) : okNear1 5 p = true := by
  have e := cut4 (packs 5) 0 30
  rw [List.drop_zero, List.take_of_length_le (by rw [packs5_len]; decide)] at e
  exact all4 e run_near5a run_near5b run_near5c run_near5d p hp
theorem mends5_all {p : List Nat} (hp : p ∈ packs 5) : okMend 5 p = true := by
  have ef := cut4 (packs 5) 0 10
  have eg := cut4 (packs 5) 40 10
  have eh := cut4 (packs 5) 80 10
  have h := List.take_append_drop 40 (packs 5)
  have h2 := List.take_append_drop 40 ((packs 5).drop 40)
  rw [List.drop_drop] at h2
  have h3 : ((packs 5).drop 80).take 40 = (packs 5).drop 80 := List.take_of_length_le (by rw [List.length_drop, packs5_len]; decide)
  rw [← h] at hp
  rcases List.mem_append.1 hp with hp | hp
  · rw [List.drop_zero] at ef
    exact all4 ef run_mends5f0 run_mends5f1 run_mends5f2 run_mends5f3 p hp
  · rw [← h2] at hp
    rcases List.mem_append.1 hp with hp | hp
    · exact all4 eg run_mends5g0 run_mends5g1 run_mends5g2 run_mends5g3 p hp
    · have hp : p ∈ (packs 5).drop 80 := hp
      rw [← h3] at hp
      exact all4 eh run_mends5h0 run_mends5h1 run_mends5h2 run_mends5h3 p hp
theorem mend_all {n : Nat} {p : List Nat} (h1 : 1 ≤ n) (hn : n ≤ 5) (hp : p ∈ packs n) : okMend n p = true := by
  match n, h1, hn with
  | 1, _, _ => exact List.all_eq_true.1 run_mends1 p hp
  | 2, _, _ => exact List.all_eq_true.1 run_mends2 p hp
  | 3, _, _ => exact List.all_eq_true.1 run_mends3 p hp
  | 4, _, _ => exact List.all_eq_true.1 run_mends4 p hp
  | 5, _, _ => exact mends5_all hp
theorem near_all {n : Nat} {p : List Nat} (h1 : 1 ≤ n) (hn : n ≤ 5) (hp : p ∈ packs n) : okNear1 n p = true := by
  match n, h1, hn with
  | 1, _, _ => exact List.all_eq_true.1 run_near1 p hp
  | 2, _, _ => exact List.all_eq_true.1 run_near2 p hp
  | 3, _, _ => exact List.all_eq_true.1 run_near3 p hp
  | 4, _, _ => exact List.all_eq_true.1 run_near4 p hp
  | 5, _, _ => exact near5_all hp
theorem natI_plain (p : List Nat) : (natI p).all AV.plain = true := by rw [natI, ints, List.all_map]; exact List.all_eq_true.2 fun _ _ => rfl
theorem natI_len (p : List Nat) : (natI p).length = p.length := by rw [natI, ints, List.length_map, List.length_map]
theorem natI_ne {p : List Nat} (h : 0 < p.length) : natI p ≠ [] := fun e => by have := natI_len p; rw [e] at this; simp only [List.length_nil] at this; omega
theorem pairL_len (l : List Nat) : (pairL l).length = l.length * 2 := by
  induction l with
  | nil => rfl
  | cons a l ih => rw [pairL, List.flatMap_cons, List.length_append, ← pairL, ih, List.length_cons]; simp only [List.length_cons, List.length_nil]; omega
theorem pairL_plain (l : List Nat) : (pairL l).all AV.plain = true := by
  induction l with
  | nil => rfl
  | cons a l ih => rw [pairL, List.flatMap_cons, List.all_append, ← pairL, ih]; rfl
theorem near_c {h : AHeap} {n : Nat} {p : List Nat} {v u : AV} (h1 : 1 ≤ n) (hn : n ≤ 5) (hp : p ∈ packs n) (hv : Row h v (nI p)) (hu : Row h u (nI (List.range n))) : ACalls Go.Proofs.Tryd.prog 12 [.agg [.int .i64 (n : Int), v, u]] h (fun q h' => q = .tup [.int .i64 ((bubE n p).2.length : Int), .int .i64 0] ∧ Keeps h h') := by
  have hl := (pack_ok hn hp).1
  exact over_runG mixed (near_all h1 hn hp) [⟨v, 1, natI p, natI p⟩, ⟨u, 1, natI (List.range n), natI (List.range n)⟩] rfl (okGs_cons (okG_plain hv (by decide) (natI_ne (by omega)) (natI_plain p)) (okGs_cons (okG_plain hu (by decide) (natI_ne (by rw [List.length_range]; omega)) (natI_plain _)) okGs_nil)) hgs_nil rfl
    (imG_cons (.agg _ _ rfl (imG_cons (.plain _ rfl) (imG_cons (imG_slc rfl (by decide) (by rw [natI_len, hl, Nat.mul_one])) (imG_cons (imG_slc rfl (by decide) (by rw [natI_len, List.length_range, Nat.mul_one])) imG_nil)))) imG_nil) (fun _ _ => rfl)
theorem mends_c {h : AHeap} {n : Nat} {p : List Nat} {v u w : AV} (h1 : 1 ≤ n) (hn : n ≤ 5) (hp : p ∈ packs n) (hv : Row h v (nI p)) (hu : Row h u (nI (List.range n))) (hw : Rd h w 2 (pairL (bubE n p).2)) (hw0 : (bubE n p).2 = [] → w = .nils) : ACalls Go.Proofs.Tryd.prog 13 [.agg [.int .i64 (n : Int), v, u], w] h (fun q h' => q = .int .i64 0 ∧ Keeps h h') := by
  have hl := (pack_ok hn hp).1
  have hm := mend_all h1 hn hp
  unfold okMend at hm
  split at hm
  · rename_i e
    rw [hw0 e]
    exact over_runG mixed hm [⟨v, 1, natI p, natI p⟩, ⟨u, 1, natI (List.range n), natI (List.range n)⟩] rfl (okGs_cons (okG_plain hv (by decide) (natI_ne (by omega)) (natI_plain p)) (okGs_cons (okG_plain hu (by decide) (natI_ne (by rw [List.length_range]; omega)) (natI_plain _)) okGs_nil)) hgs_nil rfl
      (imG_cons (.agg _ _ rfl (imG_cons (.plain _ rfl) (imG_cons (imG_slc rfl (by decide) (by rw [natI_len, hl, Nat.mul_one])) (imG_cons (imG_slc rfl (by decide) (by rw [natI_len, List.length_range, Nat.mul_one])) imG_nil)))) (imG_cons (.plain _ rfl) imG_nil)) (fun _ _ => rfl)
  · rename_i d e
    have hne : pairL (bubE n p).2 ≠ [] := fun z => by
      have := pairL_len (bubE n p).2
      rw [z] at this
      exact e (List.length_eq_zero_iff.1 (by simp only [List.length_nil] at this; omega))
    exact over_runG mixed hm [⟨v, 1, natI p, natI p⟩, ⟨u, 1, natI (List.range n), natI (List.range n)⟩, ⟨w, 2, pairL (bubE n p).2, pairL (bubE n p).2⟩] rfl (okGs_cons (okG_plain hv (by decide) (natI_ne (by omega)) (natI_plain p)) (okGs_cons (okG_plain hu (by decide) (natI_ne (by rw [List.length_range]; omega)) (natI_plain _)) (okGs_cons (okG_plain hw (by decide) hne (pairL_plain _)) okGs_nil))) hgs_nil rfl
      (imG_cons (.agg _ _ rfl (imG_cons (.plain _ rfl) (imG_cons (imG_slc rfl (by decide) (by rw [natI_len, hl, Nat.mul_one])) (imG_cons (imG_slc rfl (by decide) (by rw [natI_len, List.length_range, Nat.mul_one])) imG_nil)))) (imG_cons (imG_slc rfl (by decide) (pairL_len _)) imG_nil)) (fun _ _ => rfl)
theorem trP_ok {n : Nat} {p : List Nat} (h1 : 1 ≤ n) (hn : n ≤ 5) (hp : p ∈ packs n) : (trP n p).Ok := by
  obtain ⟨hl, hx, _⟩ := pack_ok hn hp
  have g : ∀ (l : List Nat), l.length = n → (∀ x ∈ l, x < n) → ∀ i, i < n → 0 ≤ (nI l).getD i 0 ∧ (nI l).getD i 0 < (n : Int) := by
    intro l hl hx i hi
    rw [nI_gt (by omega : i < l.length)]
    have := hx (l.getD i 0) (by rw [List.getD_eq_getElem?_getD, List.getElem?_eq_getElem (by omega : i < l.length)]; exact List.getElem_mem _)
    omega
  have e1 : (nI p).length = n := by rw [nI, List.length_map, hl]
  have e2 : (nI (List.range n)).length = n := by rw [nI, List.length_map, List.length_range]
  refine ⟨⟨h1, hn⟩, ⟨by show 1 ≤ (nI p).length; omega, by show (nI p).length ≤ 10; omega⟩, by show (nI (List.range n)).length = (nI p).length; omega, fun i hi => g p hl hx i (by have hi : i < (nI p).length := hi; omega), fun i hi => g (List.range n) List.length_range (fun x hx => List.mem_range.1 hx) i (by have hi : i < (nI p).length := hi; omega)⟩
end Go.Am

namespace Go.Am
abbrev pC (a : Nat) : List AV := [.int .i64 (a : Int), .int .i64 ((a + 1 : Nat) : Int)]
theorem pC_len (a : Nat) : (pC a).length = 2 := rfl
theorem run_check : ((List.range 6).all fun n => (List.range (n - 1)).all fun a => runsG Go.Proofs.Tryd.prog 4000 20 [.agg [.int .i64 (n : Int), .slc 0 0 1 2 false]] [pairL [a]] [] (fun r _ => AV.isP 3 r (.int .i64 0))) = true := by kernel_rfl
theorem checkT_c {h : AHeap} {n a : Nat} {v : AV} (ha : a < n - 1) (hn : n ≤ 5) (hv : Rd h v 2 (pairL [a])) : ACalls Go.Proofs.Tryd.prog 20 [.agg [.int .i64 (n : Int), v]] h (fun q h' => q = .int .i64 0 ∧ Keeps h h') :=
  over_runG mixed (List.all_eq_true.1 (List.all_eq_true.1 run_check n (List.mem_range.2 (by omega))) a (List.mem_range.2 ha)) [⟨v, 2, pairL [a], pairL [a]⟩] rfl (okGs_cons (okG_plain hv (by decide) (by simp [pairL]) rfl) okGs_nil) hgs_nil rfl
    (imG_cons (.agg _ _ rfl (imG_cons (.plain _ rfl) (imG_cons (imG_slc rfl (by decide) rfl) imG_nil))) imG_nil) (fun _ _ => rfl)
theorem passI {p : List Nat} {a : Nat} (ha : a + 1 < p.length) : ((nI p).set a (min ((nI p).getD a 0) ((nI p).getD (a + 1) 0))).set (a + 1) (max ((nI p).getD a 0) ((nI p).getD (a + 1) 0)) = nI (passP a p) := by
  rw [nI_gt (by omega : a < p.length), nI_gt ha, passP, nI, nI, List.map_set, List.map_set]
  congr 1
  · congr 1; omega
  · omega

theorem cloneI_c {h : AHeap} {v : AV} {l : List Int} (hv : Row h v l) (hne : l ≠ []) (hl : l.length ≤ 4096) : ACalls Go.Proofs.Tryd.prog 21 [v] h (fun u h' => St h h' [⟨u, 1, ints l, true⟩]) := by
  refine KA.fn 8 [.tmp 2] Go.Proofs.Tryd.func21 rfl (by decide) rfl rfl (Nat.le_of_ble_eq_true rfl) ?_
  have hS := St.refl h
  show KA _ 8 _ _ [(0, v)] _
  refine KA.seq ?_
  refine KA.region rfl ?_
  refine KOps.assign ?_
  refine KOps.done ?_
  refine sqQ.normal ?_
  refine KA.sub (Sub.cons (t := 0) Look.eq (Sub.nil _)) ?_
  refine KA.seq ?_
  refine KA.seq ?_
  refine KA.region rfl ?_
  refine KOps.move ?_
  refine KOps.slcEq hv (by decide) (by intro he; exact hne (by simpa [ints] using he)) ?_
  refine KOps.done ?_
  refine sqQ.normal ?_
  refine KA.sub (Sub.cons (t := 0) Look.eq (Sub.cons (t := 4) Look.eq (Sub.nil _))) ?_
  refine KA.condF ?_
  refine KA.skip ?_
  refine sqQ.normal ?_
  refine KA.sub (Sub.cons (t := 0) Look.eq (Sub.nil _)) ?_
  refine KA.seq ?_
  refine KA.region rfl ?_
  refine KOps.buildSlice hS rfl (by decide) rfl ?_
  intro v5 h' hS
  refine KOps.move ?_
  refine KOps.append hS (fun _ => rfl) (i := 0) rfl (a := 0) rfl (Rd.ext hS.keeps hv) (b := l.length) (by simp [ints]) (by rw [ints, List.all_map]; exact List.all_eq_true.2 fun _ _ => rfl) (by omega) ?_
  intro v7 h' hS
  simp only [List.set_cons_zero, List.set_cons_succ, Nat.zero_add] at hS
  refine KOps.assign ?_
  refine KOps.done ?_
  refine sqQ.normal ?_
  refine KA.sub (Sub.cons (t := 2) Look.eq (Sub.nil _)) ?_
  refine KA.ret ?_
  refine fnQ.ret1 ?_
  exact hS

theorem pass_c2 {h : AHeap} {n a : Nat} {p : List Nat} {v u : AV} (ha : a < n - 1) (hn : n ≤ 5) (hl : p.length = n) (hv : Rd h v 2 (pairL [a])) (hu : Row h u (nI p)) : ACalls Go.Proofs.Tryd.prog 10 [.agg [.int .i64 (n : Int), v], u] h (fun q h' => ∃ x, q = .tup [x, .int .i64 0] ∧ St h h' [⟨x, 1, ints (nI (passP a p)), true⟩]) := by
  refine KA.fn 63 [.tmp 4, .tmp 5] Go.Proofs.Tryd.func10 rfl (by decide) rfl rfl (Nat.le_of_ble_eq_true rfl) ?_
  have hS := St.refl h
  have hvo : v.one = true := Rd.one hv
  have hnl : (nI p).length = p.length := List.length_map ..
  show KA _ 63 _ _ [(0, .agg [.int .i64 (n : Int), v]), (1, u)] _
  refine KA.seq ?_
  refine KA.region rfl ?_
  refine KOps.boxAll hS (by first | rfl | (simp [AV.one]; done) | (simp [AV.one]; assumption) | (simp [AV.one, *]; done)) ?_
  intro p2 h' hp2 hS
  refine KOps.assign ?_
  refine KOps.assign ?_
  refine KOps.done ?_
  refine sqQ.normal ?_
  refine KA.sub (Sub.cons (t := 1) Look.eq (Sub.cons (t := 2) Look.eq (Sub.nil _))) ?_
  refine KA.seq ?_
  refine KA.region rfl ?_
  refine KOps.loadAll hS (i := 0) rfl hp2 (by rfl) (by decide) ?_
  refine KOps.call rfl (checkT_c ha hn (Rd.ext hS.keeps hv)) ?_
  rintro _ hx ⟨rfl, hK⟩
  have hS0 : St _ _ _ := St.trans hS (St.ofK hK)
  clear hS
  have hS := hS0
  clear hS0
  simp only [List.nil_append] at hS
  refine KOps.assign ?_
  refine KOps.done ?_
  refine sqQ.normal ?_
  refine KA.sub (Sub.cons (t := 1) Look.eq (Sub.cons (t := 2) Look.eq (Sub.cons (t := 6) Look.eq (Sub.nil _)))) ?_
  refine KA.seq ?_
  refine KA.block ?_
  refine KA.seq ?_
  refine KA.region rfl ?_
  refine KOps.move ?_
  refine KOps.neq ?_
  refine KOps.assign ?_
  refine KOps.done ?_
  refine sqQ.normal ?_
  refine KA.sub (Sub.cons (t := 1) Look.eq (Sub.cons (t := 2) Look.eq (Sub.cons (t := 6) Look.eq (Sub.cons (t := 12) Look.eq (Sub.nil _))))) ?_
  refine KA.condN ?_ ?_
  · intro c12
    exact absurd rfl c12
  · intro c12
    refine KA.seq ?_
    refine KA.region rfl ?_
    refine KOps.move ?_
    refine KOps.lenI (Rd.ext hS.keeps hu) ?_
    refine KOps.fieldAddr hp2 ?_
    intro p19 hp19
    refine KOps.load hp19 (hS.rd 0 rfl) rfl ?_
    refine KOps.neq ?_
    refine KOps.assign ?_
    refine KOps.done ?_
    refine sqQ.normal ?_
    refine KA.sub (Sub.cons (t := 1) Look.eq (Sub.cons (t := 2) Look.eq (Sub.cons (t := 16) Look.eq (Sub.nil _)))) ?_
    refine KA.condN ?_ ?_
    · intro c16
      exact absurd (by omega) c16
    · intro c16
      refine KA.skip ?_
      refine blQ.normal ?_
      refine sqQ.normal ?_
      refine KA.sub (Sub.cons (t := 1) Look.eq (Sub.cons (t := 2) Look.eq (Sub.nil _))) ?_
      refine KA.seq ?_
      refine KA.region rfl ?_
      refine KOps.move ?_
      refine KOps.call rfl (cloneI_c (Rd.ext hS.keeps hu) (fun e => by rw [e] at hnl; simp only [List.length_nil] at hnl; omega) (by omega)) ?_
      rintro v23 h23 hS23
      have hS0 : St _ _ (_ :: _) := St.trans hS hS23
      clear hS
      have hS := hS0
      clear hS0
      refine KOps.assign ?_
      refine KOps.done ?_
      refine sqQ.normal ?_
      refine KA.sub (Sub.cons (t := 2) Look.eq (Sub.cons (t := 7) Look.eq (Sub.nil _))) ?_
      refine KA.seq ?_
      refine KA.seq ?_
      refine KA.region rfl ?_
      refine KOps.fieldAddr hp2 ?_
      intro p24 hp24
      refine KOps.load hp24 (hS.rd 1 rfl) rfl ?_
      refine KOps.lenF pC_len (show Rd _ v 2 (flr pC [a]) from Rd.ext hS.keeps hv) ?_
      refine KOps.move ?_
      refine KOps.done ?_
      refine sqQ.normal ?_
      refine KA.sub (Sub.cons (t := 7) Look.eq (Sub.cons (t := 25) Look.eq (Sub.cons (t := 26) Look.eq (Sub.cons (t := 27) Look.eq (Sub.nil _))))) ?_
      refine KA.block ?_
      refine KA.loop (X := Nat × AV) (fun x => [(7, x.2), (25, v), (26, .int .i64 (([a] : List Nat).length : Int)), (27, .int .i64 (x.1 : Int))]) (fun x h' => x.1 ≤ 1 ∧ St h h' [⟨x.2, 1, ints (nI (if x.1 = 0 then p else passP a p)), true⟩, ⟨p2, 0, [.int .i64 (n : Int), v], true⟩]) (fun x => 1 - x.1) (0, v23) (by repeat (first | exact Sub.nil _ | refine Sub.cons Look.eq ?_ | refine Sub.cons (Eq.trans Look.eq (congrArg (AV.int _) (by first | omega | (dsimp only; omega)))) ?_)) ?_ ?_
      · exact ⟨Nat.zero_le _, hS⟩
      rintro ⟨j, vO⟩ h5 ⟨hj, hS⟩
      dsimp only at hj hS ⊢
      refine KA.seq ?_
      refine KA.region rfl ?_
      refine KOps.lss ?_
      refine KOps.done ?_
      refine sqQ.normal ?_
      refine KA.seq ?_
      refine KA.condD ?_ ?_
      · intro c28
        obtain rfl : j = 0 := by
          have : ((j : Nat) : Int) < ((1 : Nat) : Int) := c28
          omega
        rw [if_pos rfl] at hS
        refine KA.skip ?_
        refine sqQ.normal ?_
        refine KA.sub (Sub.cons (t := 7) Look.eq (Sub.cons (t := 25) Look.eq (Sub.cons (t := 26) Look.eq (Sub.cons (t := 27) Look.eq (Sub.nil _))))) ?_
        refine KA.seq ?_
        refine KA.block ?_
        refine KA.seq ?_
        refine KA.region rfl ?_
        refine KOps.indexF pC_len (show Rd _ v 2 (flr pC [a]) from Rd.ext hS.keeps hv) (j := 0) (by first | omega | (simp; omega)) (by first | omega | (simp; done) | (simp; omega)) ?_
        intro p29 hp29
        refine KOps.loadFl pC_len (by decide) hp29 (show Rd _ v 2 (flr pC [a]) from Rd.ext hS.keeps hv) (by first | omega | (simp; done) | (simp; omega)) ?_
        change KOps _ _ _ _ _ _ _ ((30, AV.agg [AV.int .i64 (a : Int), AV.int .i64 ((a + 1 : Nat) : Int)]) :: _) _
        refine KOps.alloc hS ?_
        intro p9 h' hp9 hS
        refine KOps.storeAll hS rfl (i := 0) rfl hp9 (by first | rfl | (simp [AV.one]; done) | (simp [AV.one]; assumption) | (simp [AV.one, *]; done)) (by rfl) (by rfl) (by decide) ?_
        intro h' hS
        simp only [List.set_cons_zero, List.set_cons_succ, Nat.zero_add] at hS
        refine KOps.done ?_
        refine sqQ.normal ?_
        refine KA.sub (Sub.cons (t := 7) Look.eq (Sub.cons (t := 9) Look.eq (Sub.cons (t := 25) Look.eq (Sub.cons (t := 26) Look.eq (Sub.cons (t := 27) Look.eq (Sub.nil _)))))) ?_
        refine KA.drawS (c := 29) (r := 5) (t := 3) (a := 35) (d := 36) [] mixed rfl rfl rfl (by kernel_rfl) rfl rfl rfl (by decide) (by decide) (by kernel_rfl) ?_
        refine KOps.move ?_
        refine KOps.indexAt hp9 (j := 0) rfl (by decide) ?_
        intro p32 hp32
        refine KOps.load hp32 (hS.rd 0 rfl) rfl ?_
        refine KOps.move ?_
        refine KOps.indexAt hp9 (j := 1) rfl (by decide) ?_
        intro p35 hp35
        refine KOps.load hp35 (hS.rd 0 rfl) rfl ?_
        refine KOps.move ?_
        refine KOps.indexAt hp9 (j := 0) rfl (by decide) ?_
        intro p38 hp38
        refine KOps.load hp38 (hS.rd 0 rfl) rfl ?_
        refine KOps.indexIJ (hS.rd 1 rfl) (j := _) rfl (by first | omega | (simp; done) | (simp; omega)) ?_
        intro p40 hp40
        refine KOps.loadI hp40 (hS.rd 1 rfl) (by first | omega | (simp; done) | (simp; omega)) ?_
        refine KOps.move ?_
        refine KOps.indexAt hp9 (j := 1) rfl (by decide) ?_
        intro p43 hp43
        refine KOps.load hp43 (hS.rd 0 rfl) rfl ?_
        refine KOps.indexIJ (hS.rd 1 rfl) (j := _) rfl (by first | omega | (simp; done) | (simp; omega)) ?_
        intro p45 hp45
        refine KOps.loadI hp45 (hS.rd 1 rfl) (by first | omega | (simp; done) | (simp; omega)) ?_
        refine KOps.min ?_
        refine KOps.move ?_
        refine KOps.indexAt hp9 (j := 0) rfl (by decide) ?_
        intro p49 hp49
        refine KOps.load hp49 (hS.rd 0 rfl) rfl ?_
        refine KOps.indexIJ (hS.rd 1 rfl) (j := _) rfl (by first | omega | (simp; done) | (simp; omega)) ?_
        intro p51 hp51
        refine KOps.loadI hp51 (hS.rd 1 rfl) (by first | omega | (simp; done) | (simp; omega)) ?_
        refine KOps.move ?_
        refine KOps.indexAt hp9 (j := 1) rfl (by decide) ?_
        intro p54 hp54
        refine KOps.load hp54 (hS.rd 0 rfl) rfl ?_
        refine KOps.indexIJ (hS.rd 1 rfl) (j := _) rfl (by first | omega | (simp; done) | (simp; omega)) ?_
        intro p56 hp56
        refine KOps.loadI hp56 (hS.rd 1 rfl) (by first | omega | (simp; done) | (simp; omega)) ?_
        refine KOps.max ?_
        refine KOps.indexIJ (hS.rd 1 rfl) (j := _) rfl (by first | omega | (simp; done) | (simp; omega)) ?_
        intro p59 hp59
        refine KOps.storeI hS rfl (i := 1) rfl hp59 (by first | omega | (simp; done) | (simp; omega)) ?_
        intro h' hS
        refine KOps.doneS rfl rfl hp35 (hS.rd 0 rfl) rfl ?_
        refine KOps.indexIJ (hS.rd 1 rfl) (j := _) rfl (by first | omega | (simp; done) | (simp; omega)) ?_
        intro p60 hp60
        refine KOps.storeI hS rfl (i := 1) rfl hp60 (by first | omega | (simp; done) | (simp; omega)) ?_
        intro h' hS
        refine KOps.done ?_
        refine blQ.normal ?_
        refine sqQ.normal ?_
        refine KA.sub (Sub.cons (t := 7) Look.eq (Sub.cons (t := 25) Look.eq (Sub.cons (t := 26) Look.eq (Sub.cons (t := 27) Look.eq (Sub.nil _))))) ?_
        refine KA.region rfl ?_
        refine KOps.add (by first | omega | (simp; omega)) (by first | omega | (simp; omega)) ?_
        refine KOps.move ?_
        refine KOps.done ?_
        rw [passI (by omega)] at hS
        exact lpQ.normal (1, _) (by repeat (first | exact Sub.nil _ | refine Sub.cons Look.eq ?_ | refine Sub.cons (Eq.trans Look.eq (congrArg (AV.int _) (by first | omega | (dsimp only; omega)))) ?_)) ⟨Nat.le_refl _, St.pick [1, 2] (by decide) rfl hS⟩ (by dsimp only; omega)
      · intro c28
        obtain rfl : j = 1 := by
          have : ¬ ((j : Nat) : Int) < ((1 : Nat) : Int) := c28
          omega
        rw [if_neg (by decide)] at hS
        refine KA.exit ?_
        refine sqQ.exit ?_
        refine lpQ.exit ?_
        refine blQ.here ?_
        refine sqQ.normal ?_
        refine KA.sub (Sub.cons (t := 7) Look.eq (Sub.nil _)) ?_
        refine KA.seq ?_
        refine KA.region rfl ?_
        refine KOps.move ?_
        refine KOps.assign ?_
        refine KOps.assign ?_
        refine KOps.done ?_
        refine sqQ.normal ?_
        refine KA.sub (Sub.cons (t := 4) Look.eq (Sub.cons (t := 5) Look.eq (Sub.nil _))) ?_
        refine KA.ret ?_
        refine fnQ.retN ?_
        exact ⟨_, rfl, St.pick [0] (by decide) rfl hS⟩

end Go.Am

namespace Go.Am
/-- The first passes. -/
def bubT (n m : Nat) : List Nat := (List.range m).flatMap fun j => List.range (n - 1 - j)
theorem bubT_succ {n k : Nat} (h2 : 2 ≤ k) (hk : k ≤ n) : bubT n (n - k) ++ List.range (k - 1) = bubT n (n - (k - 1)) := by
  rw [show n - (k - 1) = (n - k) + 1 by omega, bubT, bubT, List.range_succ, List.flatMap_append, List.flatMap_cons, List.flatMap_nil, List.append_nil, show n - 1 - (n - k) = k - 1 by omega]
theorem flr_push {l : List Nat} {a : Nat} : flr pC l ++ pC a = flr pC (l ++ [a]) := by simp [flr, List.flatMap_append]
theorem bub_push {l : List Nat} {a : Nat} : flr pC (l ++ List.range a) ++ pC a = flr pC (l ++ List.range (a + 1)) := by rw [flr_push, List.append_assoc, ← List.range_succ]
theorem bubT_len {n m : Nat} : (bubT n m).length ≤ m * n := by
  induction m with
  | zero => simp [bubT]
  | succ m ih =>
    have e : bubT n (m + 1) = bubT n m ++ List.range (n - 1 - m) := by rw [bubT, bubT, List.range_succ, List.flatMap_append, List.flatMap_cons, List.flatMap_nil, List.append_nil]
    rw [e, List.length_append, List.length_range, Nat.succ_mul]
    omega

theorem laid_o {h : AHeap} {n : Nat} (h1 : 1 ≤ n) (hn : n ≤ 5) : ACalls Go.Proofs.Tryd.prog 9 [.int .i64 (n : Int), .nils, .int .i64 0, .bool true] h (fun q h' => ∃ b, q = .agg [.int .i64 (n : Int), b] ∧ St h h' [⟨b, 2, flr pC (bubL n), true⟩]) := by
  refine KA.fnH 83 [.cell 8 37] Go.Proofs.Tryd.func9 rfl (by decide) rfl rfl (Nat.le_of_ble_eq_true rfl) ?_
  have hS := St.refl h
  show KA _ 83 _ _ [(0, .int .i64 (n : Int)), (1, .nils), (2, .int .i64 0), (3, .bool true)] _
  refine KA.seq ?_
  refine KA.region rfl ?_
  refine KOps.alloc hS ?_
  intro p8 h' hp8 hS
  refine KOps.done ?_
  refine sqQ.normal ?_
  refine KA.seq ?_
  refine KA.region rfl ?_
  refine KOps.move ?_
  refine KOps.buildG (zs := [.int .i64 0, .nils]) (cs := [_, _]) (by kernel_rfl) (by rfl) (by kernel_rfl) (.cons (off := 0) (s := 1) (by kernel_rfl) (AV.cells_one (by first | rfl | assumption)) rfl (by decide) .nil) (by rfl) ?_
  refine KOps.alloc hS ?_
  intro p9 h' hp9 hS
  refine KOps.storeAll hS rfl (i := 0) rfl hp9 (by first | rfl | (simp [AV.one]; done) | (simp [AV.one]; assumption) | (simp [AV.one, *]; done)) (by rfl) (by rfl) (by decide) ?_
  intro h' hS
  simp only [List.set_cons_zero, List.set_cons_succ, Nat.zero_add] at hS
  refine KOps.done ?_
  refine sqQ.normal ?_
  refine KA.sub (Sub.cons (t := 0) Look.eq (Sub.cons (t := 1) Look.eq (Sub.cons (t := 2) Look.eq (Sub.cons (t := 3) Look.eq (Sub.cons (t := 8) Look.eq (Sub.cons (t := 9) Look.eq (Sub.nil _))))))) ?_
  refine KA.seq ?_
  refine KA.seq ?_
  refine KA.region rfl ?_
  refine KOps.move ?_
  refine KOps.done ?_
  refine sqQ.normal ?_
  refine KA.sub (Sub.cons (t := 0) Look.eq (Sub.cons (t := 1) Look.eq (Sub.cons (t := 2) Look.eq (Sub.cons (t := 8) Look.eq (Sub.cons (t := 9) Look.eq (Sub.cons (t := 16) Look.eq (Sub.nil _))))))) ?_
  refine KA.condB ?_ ?_
  · intro c16
    refine KA.seq ?_
    refine KA.region rfl ?_
    refine KOps.move ?_
    refine KOps.assign ?_
    refine KOps.done ?_
    refine sqQ.normal ?_
    refine KA.sub (Sub.cons (t := 0) Look.eq (Sub.cons (t := 1) Look.eq (Sub.cons (t := 2) Look.eq (Sub.cons (t := 8) Look.eq (Sub.cons (t := 9) Look.eq (Sub.cons (t := 10) Look.eq (Sub.nil _))))))) ?_
    refine KA.block ?_
    refine KA.loop (X := Nat × AV) (fun x => [(0, .int .i64 (n : Int)), (1, .nils), (2, .int .i64 0), (8, p8), (9, p9), (10, .int .i64 (x.1 : Int))]) (fun x h' => 1 ≤ x.1 ∧ x.1 ≤ n ∧ St h h' [⟨p9, 0, [.int .i64 (n : Int), x.2], true⟩, ⟨p8, 0, [.int .i64 0, .nils], true⟩, ⟨x.2, 2, flr pC (bubT n (n - x.1)), true⟩]) (fun x => x.1) (n, .nils) (by repeat (first | exact Sub.nil _ | refine Sub.cons Look.eq ?_ | refine Sub.cons (Eq.trans Look.eq (congrArg (AV.int _) (by first | omega | (dsimp only; omega)))) ?_)) ?_ ?_
    · exact ⟨h1, Nat.le_refl _, by dsimp only; rw [Nat.sub_self]; exact St.pick [1, 2, 0] (by decide) rfl (hS.nil 2)⟩
    rintro ⟨k, vC⟩ h5 ⟨hk1, hkn, hS⟩
    dsimp only at hk1 hkn hS ⊢
    refine KA.seq ?_
    refine KA.seq ?_
    refine KA.region rfl ?_
    refine KOps.move ?_
    refine KOps.gtr ?_
    refine KOps.done ?_
    refine sqQ.normal ?_
    refine KA.sub (Sub.cons (t := 0) Look.eq (Sub.cons (t := 1) Look.eq (Sub.cons (t := 2) Look.eq (Sub.cons (t := 8) Look.eq (Sub.cons (t := 9) Look.eq (Sub.cons (t := 10) Look.eq (Sub.cons (t := 19) Look.eq (Sub.nil _)))))))) ?_
    refine KA.condD ?_ ?_
    · intro c19
      refine KA.skip ?_
      refine sqQ.normal ?_
      refine KA.sub (Sub.cons (t := 0) Look.eq (Sub.cons (t := 1) Look.eq (Sub.cons (t := 2) Look.eq (Sub.cons (t := 8) Look.eq (Sub.cons (t := 9) Look.eq (Sub.cons (t := 10) Look.eq (Sub.nil _))))))) ?_
      refine KA.seq ?_
      refine KA.block ?_
      refine KA.seq ?_
      refine KA.region rfl ?_
      refine KOps.assign ?_
      refine KOps.done ?_
      refine sqQ.normal ?_
      refine KA.block ?_
      refine KA.loop (X := Nat × AV) (fun y => [(0, .int .i64 (n : Int)), (1, .nils), (2, .int .i64 0), (8, p8), (9, p9), (10, .int .i64 (k : Int)), (11, .int .i64 (y.1 : Int))]) (fun y h' => y.1 + 1 ≤ k ∧ St h h' [⟨p9, 0, [.int .i64 (n : Int), y.2], true⟩, ⟨p8, 0, [.int .i64 0, .nils], true⟩, ⟨y.2, 2, flr pC (bubT n (n - k) ++ List.range y.1), true⟩]) (fun y => k - y.1) (0, vC) (by repeat (first | exact Sub.nil _ | refine Sub.cons Look.eq ?_ | refine Sub.cons (Eq.trans Look.eq (congrArg (AV.int _) (by first | omega | (dsimp only; omega)))) ?_)) ?_ ?_
      · exact ⟨by dsimp only; omega, by dsimp only; rw [List.range_zero, List.append_nil]; exact hS⟩
      rintro ⟨a, vD⟩ h6 ⟨hak, hS⟩
      dsimp only at hak hS ⊢
      refine KA.seq ?_
      refine KA.seq ?_
      refine KA.region rfl ?_
      refine KOps.move ?_
      refine KOps.addN (a) (1) rfl rfl (by show a + 1 < 9223372036854775808; omega) ?_
      refine KOps.move ?_
      refine KOps.lss ?_
      refine KOps.done ?_
      refine sqQ.normal ?_
      refine KA.sub (Sub.cons (t := 0) Look.eq (Sub.cons (t := 1) Look.eq (Sub.cons (t := 2) Look.eq (Sub.cons (t := 8) Look.eq (Sub.cons (t := 9) Look.eq (Sub.cons (t := 10) Look.eq (Sub.cons (t := 11) Look.eq (Sub.cons (t := 25) Look.eq (Sub.nil _))))))))) ?_
      refine KA.condD ?_ ?_
      · intro c25
        have hbl : (bubT n (n - k) ++ List.range a).length ≤ 30 := by
          rw [List.length_append, List.length_range]
          have h3 := bubT_len (n := n) (m := n - k)
          have h4 : (n - k) * n ≤ 4 * 5 := Nat.mul_le_mul (by omega) hn
          omega
        refine KA.skip ?_
        refine sqQ.normal ?_
        refine KA.sub (Sub.cons (t := 0) Look.eq (Sub.cons (t := 1) Look.eq (Sub.cons (t := 2) Look.eq (Sub.cons (t := 8) Look.eq (Sub.cons (t := 9) Look.eq (Sub.cons (t := 10) Look.eq (Sub.cons (t := 11) Look.eq (Sub.nil _)))))))) ?_
        refine KA.seq ?_
        refine KA.block ?_
        refine KA.region rfl ?_
        refine KOps.fieldAddr hp9 ?_
        intro p28 hp28
        refine KOps.load hp28 (hS.rd 0 rfl) rfl ?_
        refine KOps.move ?_
        refine KOps.move ?_
        refine KOps.addN (a) (1) rfl rfl (by show a + 1 < 9223372036854775808; omega) ?_
        refine KOps.buildG (zs := [.int .i64 0, .int .i64 0]) (cs := [_, _]) (by kernel_rfl) (by rfl) (by kernel_rfl) (.cons (off := 0) (s := 1) (by kernel_rfl) (AV.cells_one (by first | rfl | assumption)) rfl (by decide) (.cons (off := 1) (s := 1) (by kernel_rfl) (AV.cells_one (by first | rfl | assumption)) rfl (by decide) .nil)) (by rfl) ?_
        refine KOps.buildSliceS (cs := pC a) hS rfl rfl rfl (by decide) ?_
        intro v34 h' hS
        refine KOps.append hS (fun _ => rfl) (i := 3) rfl (a := (bubT n (n - k) ++ List.range a).length) (flr_len pC_len (bubT n (n - k) ++ List.range a)) (hS.rd 0 rfl) (b := 1) rfl rfl (by omega) ?_
        intro r35 h' hS
        simp only [List.set_cons_zero, List.set_cons_succ, Nat.zero_add] at hS
        have hr35 : r35.one = true := St.one hS (k := 3) rfl
        have hS0 := St.tail hS
        clear hS
        have hS := hS0
        clear hS0
        rw [bub_push] at hS
        refine KOps.fieldAddr hp9 ?_
        intro p36 hp36
        refine KOps.store hS rfl (i := 0) rfl hp36 (by first | rfl | assumption) (by first | decide | simp) ?_
        intro h' hS
        simp only [List.set_cons_zero, List.set_cons_succ, Nat.zero_add] at hS
        refine KOps.done ?_
        refine blQ.normal ?_
        refine sqQ.normal ?_
        refine KA.sub (Sub.cons (t := 0) Look.eq (Sub.cons (t := 1) Look.eq (Sub.cons (t := 2) Look.eq (Sub.cons (t := 8) Look.eq (Sub.cons (t := 9) Look.eq (Sub.cons (t := 10) Look.eq (Sub.cons (t := 11) Look.eq (Sub.nil _)))))))) ?_
        refine KA.region rfl ?_
        refine KOps.move ?_
        refine KOps.addN (a) (1) rfl rfl (by show a + 1 < 9223372036854775808; omega) ?_
        refine KOps.assign ?_
        refine KOps.done ?_
        exact lpQ.normal (a + 1, _) (by repeat (first | exact Sub.nil _ | refine Sub.cons Look.eq ?_ | refine Sub.cons (Eq.trans Look.eq (congrArg (AV.int _) (by first | omega | (dsimp only; omega)))) ?_)) ⟨by dsimp only; omega, hS⟩ (by dsimp only; omega)
      · intro c25
        have hka : a = k - 1 := by omega
        rw [hka, bubT_succ (by omega) (by omega)] at hS
        refine KA.exit ?_
        refine sqQ.exit ?_
        refine lpQ.exit ?_
        refine blQ.here ?_
        refine blQ.normal ?_
        refine sqQ.normal ?_
        refine KA.sub (Sub.cons (t := 0) Look.eq (Sub.cons (t := 1) Look.eq (Sub.cons (t := 2) Look.eq (Sub.cons (t := 8) Look.eq (Sub.cons (t := 9) Look.eq (Sub.cons (t := 10) Look.eq (Sub.nil _))))))) ?_
        refine KA.region rfl ?_
        refine KOps.move ?_
        refine KOps.subN (k) (1) rfl rfl (by show 1 ≤ k; omega) (by first | assumption | decide | omega | (simp only [topK, IntKind.bits]; omega)) ?_
        refine KOps.assign ?_
        refine KOps.done ?_
        exact lpQ.normal (k - 1, _) (by repeat (first | exact Sub.nil _ | refine Sub.cons Look.eq ?_ | refine Sub.cons (Eq.trans Look.eq (congrArg (AV.int _) (by first | omega | (dsimp only; omega)))) ?_)) ⟨by dsimp only; omega, by dsimp only; omega, hS⟩ (by dsimp only; omega)
    · intro c19
      obtain rfl : k = 1 := by omega
      refine KA.exit ?_
      refine sqQ.exit ?_
      refine lpQ.exit ?_
      refine blQ.here ?_
      refine sqQ.normal ?_
      refine KA.sub (Sub.cons (t := 0) Look.eq (Sub.cons (t := 1) Look.eq (Sub.cons (t := 2) Look.eq (Sub.cons (t := 8) Look.eq (Sub.cons (t := 9) Look.eq (Sub.nil _)))))) ?_
      refine KA.seq ?_
      refine KA.seq ?_
      refine KA.region rfl ?_
      refine KOps.assign ?_
      refine KOps.done ?_
      refine sqQ.normal ?_
      refine KA.block ?_
      refine KA.loop (X := Nat) (fun z => [(0, .int .i64 (n : Int)), (1, .nils), (2, .int .i64 0), (8, p8), (9, p9), (12, .int .i64 0)]) (fun z h' => St h h' [⟨p9, 0, [.int .i64 (n : Int), vC], true⟩, ⟨p8, 0, [.int .i64 0, .nils], true⟩, ⟨vC, 2, flr pC (bubT n (n - 1)), true⟩]) (fun z => z) 0 (by repeat (first | exact Sub.nil _ | refine Sub.cons Look.eq ?_ | refine Sub.cons (Eq.trans Look.eq (congrArg (AV.int _) (by first | omega | (dsimp only; omega)))) ?_)) ?_ ?_
      · exact hS
      rintro z h7 hS
      have hvC : vC.one = true := St.one hS (k := 2) rfl
      refine KA.seq ?_
      refine KA.seq ?_
      refine KA.region rfl ?_
      refine KOps.move ?_
      refine KOps.move ?_
      refine KOps.len (e := 51) (m := 0) (xs := []) (.inl ⟨rfl, rfl⟩ : Rd _ .nils 2 []) rfl ?_
      refine KOps.lss ?_
      refine KOps.move ?_
      refine KOps.guardB (dj := 41) rfl rfl true false rfl ?_ ?_
      · intro g41
        have g41 := of_decide_eq_true g41
        exact absurd g41 (by decide)
      · intro g41
        have g41 := of_decide_eq_false g41
        refine KOps.guardNo (dj := 41) rfl rfl rfl ?_
        refine KOps.guardNo (dj := 41) rfl rfl rfl ?_
        refine KOps.pickF ?_
        refine KOps.move ?_
        refine KOps.guardNo (dj := 46) rfl rfl rfl ?_
        refine KOps.guardNo (dj := 46) rfl rfl rfl ?_
        refine KOps.pickF ?_
        refine KOps.done ?_
        refine sqQ.normal ?_
        refine KA.sub (Sub.cons (t := 0) Look.eq (Sub.cons (t := 1) Look.eq (Sub.cons (t := 2) Look.eq (Sub.cons (t := 8) Look.eq (Sub.cons (t := 9) Look.eq (Sub.cons (t := 12) Look.eq (Sub.cons (t := 42) Look.eq (Sub.cons (t := 43) Look.eq (Sub.cons (t := 44) Look.eq (Sub.cons (t := 47) Look.eq (Sub.cons (t := 48) Look.eq (Sub.cons (t := 49) Look.eq (Sub.nil _))))))))))))) ?_
        refine KA.condF ?_
        refine KA.exit ?_
        refine sqQ.exit ?_
        refine lpQ.exit ?_
        refine blQ.here ?_
        refine sqQ.normal ?_
        refine KA.sub (Sub.cons (t := 8) Look.eq (Sub.cons (t := 9) Look.eq (Sub.nil _))) ?_
        refine KA.seq ?_
        refine KA.region rfl ?_
        refine KOps.loadAll hS (i := 0) rfl hp9 (by rfl) (by decide) ?_
        refine KOps.storeAll hS rfl (i := 1) rfl hp8 (by first | rfl | (simp [AV.one]; done) | (simp [AV.one]; assumption) | (simp [AV.one, *]; done)) (by rfl) (by rfl) (by decide) ?_
        intro h' hS
        simp only [List.set_cons_zero, List.set_cons_succ, Nat.zero_add] at hS
        refine KOps.done ?_
        refine sqQ.normal ?_
        refine KA.sub (Sub.cons (t := 8) Look.eq (Sub.nil _)) ?_
        refine KA.ret ?_
        refine fnC.retC hS (i := 1) rfl hp8 (by rfl) (by simp) ?_
        exact ⟨_, rfl, St.pick [2] (by decide) rfl hS⟩
  · intro c16
    cases c16

end Go.Am

namespace Go.Am
section
variable {P : Program} {n : Nat} {ops : Array Oper} {ex : List Nat} {Q : KF → AHeap → Prop} {k : Nat} {os : List Oper} {K : KF} {h : AHeap} {d : Nat} {ty : TypeId} {pos : String} {after : Array Edge}
/-- A field of a struct that is a value. hf: the field's offset, and whether it is a struct. -/
theorem KOps.fieldG {x : Operand} {t : TypeId} {i off : Nat} {xs : List AV} {v : AV} [hx : EvK h.globs n K x (.agg xs)]
    (hf : ((fieldsA P t).bind fun fs => fs[i]?.bind fun f => (aggA P f.type).bind fun g => (szA P f.type).map fun _ => (f.offset, g)) = some (off, false)) (hv : xs[off]? = some v)
    (hk : KOps P n ops ex Q (k + 1) os ((d, v) :: K) h) : KOps P n ops ex Q k (⟨some d, .field t x i, ty, pos, after, none⟩ :: os) K h := by
  refine KOps.pure rfl (v := v) ?_ hk
  obtain ⟨fs, h1, hf⟩ := Option.bind_eq_some_iff.1 hf
  obtain ⟨f, h2, hf⟩ := Option.bind_eq_some_iff.1 hf
  obtain ⟨g, h3, hf⟩ := Option.bind_eq_some_iff.1 hf
  obtain ⟨s, h4, hf⟩ := Option.map_eq_some_iff.1 hf
  cases hf
  simp only [apure, hx.eq, afield, h1, h2, apart, h3, h4, Option.bind_eq_bind, Option.bind_some]
  rw [if_neg (by decide)]
  exact hv
end
theorem bubP_succ {n j : Nat} {p : List Nat} (hj : j < (bubL n).length) : bubP n (j + 1) p = bubS (bubP n j p) ((bubL n).getD j 0) := by
  rw [bubP, bubP, List.take_add_one, List.getElem?_eq_getElem hj, List.foldl_append, List.getD_eq_getElem?_getD, List.getElem?_eq_getElem hj]; rfl
theorem bubP_all {n : Nat} {p : List Nat} : bubP n (bubL n).length p = bubE n p := by rw [bubP, List.take_length]; rfl
theorem bubS_no {s : List Nat × List Nat} {a : Nat} (h : ¬ passP a s.1 = s.1) : bubS s a = (passP a s.1, s.2 ++ [a]) := by rw [bubS, if_neg h]
theorem bubS_yes {s : List Nat × List Nat} {a : Nat} (h : passP a s.1 = s.1) : bubS s a = (passP a s.1, s.2) := by rw [bubS, if_pos h]
theorem nI_inj {a b : List Nat} (h : nI a = nI b) : a = b := by
  have := congrArg (List.map Int.toNat) h
  simpa [nI, List.map_map, Function.comp_def] using this
theorem bubL_lt {n j : Nat} (hj : j < (bubL n).length) : (bubL n).getD j 0 < n - 1 := by
  have hm : (bubL n).getD j 0 ∈ bubL n := by rw [List.getD_eq_getElem?_getD, List.getElem?_eq_getElem hj]; exact List.getElem_mem _
  generalize (bubL n).getD j 0 = a at hm ⊢
  obtain ⟨k, hk, ha⟩ := List.mem_flatMap.1 hm
  have := List.mem_range.1 ha
  omega
theorem bubL_len5 {n : Nat} (hn : n ≤ 5) : (bubL n).length ≤ 10 := by
  match n, hn with
  | 0, _ => decide
  | 1, _ => decide
  | 2, _ => decide
  | 3, _ => decide
  | 4, _ => decide
  | 5, _ => decide
theorem bubP_pack {n : Nat} {p : List Nat} (hn : n ≤ 5) (hp : p ∈ packs n) : ∀ j, j ≤ (bubL n).length → (bubP n j p).1 ∈ packs n ∧ (bubP n j p).2.length ≤ j := by
  intro j
  induction j with
  | zero => exact fun _ => ⟨hp, Nat.le_refl _⟩
  | succ j ih =>
    intro hj
    obtain ⟨h1, h2⟩ := ih (by omega)
    rw [bubP_succ (by omega)]
    refine ⟨(pack_ok hn h1).2.2.1 _ (bubL_lt (by omega)), ?_⟩
    rw [bubS]
    split
    · dsimp only; omega
    · rw [List.length_append, List.length_singleton]; omega
theorem rd_pre {h hx : AHeap} {pre l : List Obj} (k : Nat) {o : Obj} (hk : l[k]? = some o) (st : St h hx (pre ++ l)) : Rd hx o.v o.s o.xs := st.rd (pre.length + k) (by rw [List.getElem?_append_right (Nat.le_add_right _ _), Nat.add_sub_cancel_left]; exact hk)

set_option maxRecDepth 100000 in
theorem law_bubbled {h : AHeap} {v : AV} {c n : Nat} {bs : List Int} (hc : c ≤ 255) (hnn : 1 + c % 5 = n) (hv : Rd h v 1 (bs.map (AV.int .u8))) (hbs : ∀ x ∈ bs, 0 ≤ x ∧ x ≤ 255) (hlen : bs.length ≤ 9223372036854775807) (hT : Tabs h) : ACalls Go.Proofs.Tryd.prog 4 [.int .u8 (c : Int), v] h (fun q _ => q = .bool true) := by
  refine KA.fn 118 [.tmp 4] Go.Proofs.Tryd.func4 rfl (by decide) rfl rfl (Nat.le_of_ble_eq_true rfl) ?_
  have hS := St.refl h
  have h1n : 1 ≤ n := by omega
  have hn5 : n ≤ 5 := by omega
  have hbl := bubL_len5 hn5
  show KA _ 118 _ _ [(0, .int .u8 (c : Int)), (1, v)] _
  refine KA.seq ?_
  refine KA.region rfl ?_
  refine KOps.assign ?_
  refine KOps.done ?_
  refine sqQ.normal ?_
  refine KA.sub (Sub.cons (t := 0) Look.eq (Sub.cons (t := 1) Look.eq (Sub.nil _))) ?_
  refine KA.seq ?_
  refine KA.region rfl ?_
  refine KOps.move ?_
  refine KOps.convIn (wrap64 (by omega) (by omega)) ?_
  refine KOps.modN c 5 rfl rfl (by decide) (by omega) ?_
  refine KOps.addN (1) (c % 5) rfl rfl (by show 1 + c % 5 < 9223372036854775808; omega) ?_
  rw [hnn]
  refine KOps.move ?_
  refine KOps.call rfl (mixed_c hn5 (Rd.ext hS.keeps hv) hbs hlen) ?_
  rintro v25 h25 ⟨p, hp, hS25⟩
  have hS0 : St _ _ (_ :: _) := St.trans hS hS25
  clear hS
  have hS := hS0
  clear hS0
  obtain ⟨hpl, hpx, hpc, hbe, hchk, hfew⟩ := pack_ok hn5 hp
  have hnl : (nI p).length = n := by rw [nI, List.length_map, hpl]
  refine KOps.assign ?_
  refine KOps.done ?_
  refine sqQ.normal ?_
  refine KA.sub (Sub.cons (t := 5) Look.eq (Sub.nil _)) ?_
  refine KA.seq ?_
  refine KA.region rfl ?_
  refine KOps.move ?_
  refine KOps.lenI (hS.rd 0 rfl) ?_
  rw [hnl]
  refine KOps.assign ?_
  refine KOps.done ?_
  refine sqQ.normal ?_
  refine KA.sub (Sub.cons (t := 5) Look.eq (Sub.cons (t := 6) Look.eq (Sub.nil _))) ?_
  refine KA.seq ?_
  refine KA.region rfl ?_
  refine KOps.assign ?_
  refine KOps.done ?_
  refine sqQ.normal ?_
  refine KA.seq ?_
  refine KA.seq ?_
  refine KA.region rfl ?_
  refine KOps.move ?_
  refine KOps.move ?_
  refine KOps.done ?_
  refine sqQ.normal ?_
  refine KA.block ?_
  refine KA.loop (X := Nat × AV) (fun x => [(5, v25), (6, .int .i64 (n : Int)), (7, x.2), (28, .int .i64 (n : Int)), (29, .int .i64 (x.1 : Int))]) (fun x h' => x.1 ≤ n ∧ St h h' [⟨x.2, 1, ints (nI (List.range x.1)), true⟩, ⟨v25, 1, ints (nI p), true⟩]) (fun x => n - x.1) (0, .nils) (by repeat (first | exact Sub.nil _ | refine Sub.cons Look.eq ?_ | refine Sub.cons (Eq.trans Look.eq (congrArg (AV.int _) (by first | omega | (dsimp only; omega)))) ?_)) ?_ ?_
  · exact ⟨Nat.zero_le _, hS.nil 1⟩
  rintro ⟨i, vS⟩ h5 ⟨hi, hS⟩
  dsimp only at hi hS ⊢
  refine KA.seq ?_
  refine KA.region rfl ?_
  refine KOps.lss ?_
  refine KOps.done ?_
  refine sqQ.normal ?_
  refine KA.seq ?_
  refine KA.condD ?_ ?_
  · intro c30
    refine KA.skip ?_
    refine sqQ.normal ?_
    refine KA.sub (Sub.cons (t := 5) Look.eq (Sub.cons (t := 6) Look.eq (Sub.cons (t := 7) Look.eq (Sub.cons (t := 28) Look.eq (Sub.cons (t := 29) Look.eq (Sub.nil _)))))) ?_
    refine KA.seq ?_
    refine KA.block ?_
    refine KA.seq ?_
    refine KA.region rfl ?_
    refine KOps.move ?_
    refine KOps.assign ?_
    refine KOps.done ?_
    refine sqQ.normal ?_
    refine KA.sub (Sub.cons (t := 5) Look.eq (Sub.cons (t := 6) Look.eq (Sub.cons (t := 7) Look.eq (Sub.cons (t := 8) Look.eq (Sub.cons (t := 28) Look.eq (Sub.cons (t := 29) Look.eq (Sub.nil _))))))) ?_
    refine KA.region rfl ?_
    refine KOps.move ?_
    refine KOps.move ?_
    refine KOps.buildSlice hS rfl (by decide) rfl ?_
    intro v34 h' hS
    refine KOps.appendI hS (fun _ => rfl) (i := 0) rfl (by first | omega | (simp; done) | (simp; omega)) ?_
    intro r35 h' hr35 hS
    refine KOps.assign ?_
    refine KOps.done ?_
    refine blQ.normal ?_
    refine sqQ.normal ?_
    refine KA.sub (Sub.cons (t := 5) Look.eq (Sub.cons (t := 6) Look.eq (Sub.cons (t := 7) Look.eq (Sub.cons (t := 28) Look.eq (Sub.cons (t := 29) Look.eq (Sub.nil _)))))) ?_
    refine KA.region rfl ?_
    refine KOps.add (by first | omega | (simp; omega)) (by first | omega | (simp; omega)) ?_
    refine KOps.move ?_
    refine KOps.done ?_
    rw [rangeI] at hS
    exact lpQ.normal (i + 1, _) (by repeat (first | exact Sub.nil _ | refine Sub.cons Look.eq ?_ | refine Sub.cons (Eq.trans Look.eq (congrArg (AV.int _) (by first | omega | (dsimp only; omega)))) ?_)) ⟨by dsimp only; omega, hS⟩ (by dsimp only; omega)
  · intro c30
    obtain rfl : n = i := by omega
    have hvP : v25.one = true := St.one hS (k := 1) rfl
    have hvS : vS.one = true := St.one hS (k := 0) rfl
    refine KA.exit ?_
    refine sqQ.exit ?_
    refine lpQ.exit ?_
    refine blQ.here ?_
    refine sqQ.normal ?_
    refine KA.sub (Sub.cons (t := 5) Look.eq (Sub.cons (t := 6) Look.eq (Sub.cons (t := 7) Look.eq (Sub.nil _)))) ?_
    refine KA.seq ?_
    refine KA.region rfl ?_
    refine KOps.move ?_
    refine KOps.move ?_
    refine KOps.move ?_
    refine KOps.buildG (zs := [.int .i64 0, .nils, .nils]) (cs := [_, _, _]) (by kernel_rfl) (by rfl) (by kernel_rfl) (.cons (off := 0) (s := 1) (by kernel_rfl) (AV.cells_one (by first | rfl | assumption)) rfl (by decide) (.cons (off := 1) (s := 1) (by kernel_rfl) (AV.cells_one (by first | rfl | assumption)) rfl (by decide) (.cons (off := 2) (s := 1) (by kernel_rfl) (AV.cells_one (by first | rfl | assumption)) rfl (by decide) .nil))) (by rfl) ?_
    refine KOps.alloc hS ?_
    intro p9 h' hp9 hS
    refine KOps.storeAll hS rfl (i := 0) rfl hp9 (by show (true && (v25.one && (vS.one && true))) = true; rw [hvP, hvS]; rfl) (by rfl) (by rfl) (by decide) ?_
    intro h' hS
    simp only [List.set_cons_zero, List.set_cons_succ, Nat.zero_add] at hS
    refine KOps.done ?_
    refine sqQ.normal ?_
    refine KA.sub (Sub.cons (t := 5) Look.eq (Sub.cons (t := 6) Look.eq (Sub.cons (t := 7) Look.eq (Sub.cons (t := 9) Look.eq (Sub.nil _))))) ?_
    refine KA.seq ?_
    refine KA.region rfl ?_
    refine KOps.move ?_
    refine KOps.assign ?_
    refine KOps.done ?_
    refine sqQ.normal ?_
    refine KA.sub (Sub.cons (t := 6) Look.eq (Sub.cons (t := 7) Look.eq (Sub.cons (t := 9) Look.eq (Sub.cons (t := 10) Look.eq (Sub.nil _))))) ?_
    refine KA.seq ?_
    refine KA.region rfl ?_
    refine KOps.assign ?_
    refine KOps.done ?_
    refine sqQ.normal ?_
    refine KA.seq ?_
    refine KA.seq ?_
    refine KA.region rfl ?_
    refine KOps.move ?_
    refine KOps.call rfl (laid_o h1n hn5) ?_
    rintro _ h43 ⟨vL, rfl, hS43⟩
    have hS0 : St _ _ (_ :: _) := St.trans hS hS43
    clear hS
    have hS := hS0
    clear hS0
    refine KOps.fieldG (off := 1) (by kernel_rfl) rfl ?_
    refine KOps.lenF pC_len (hS.rd 0 rfl) ?_
    refine KOps.move ?_
    refine KOps.done ?_
    refine sqQ.normal ?_
    refine KA.sub (Sub.cons (t := 6) Look.eq (Sub.cons (t := 7) Look.eq (Sub.cons (t := 9) Look.eq (Sub.cons (t := 10) Look.eq (Sub.cons (t := 11) Look.eq (Sub.cons (t := 44) Look.eq (Sub.cons (t := 45) Look.eq (Sub.cons (t := 46) Look.eq (Sub.nil _))))))))) ?_
    refine KA.block ?_
    refine KA.loop (X := Nat × AV × AV) (fun x => [(6, .int .i64 (n : Int)), (7, vS), (9, p9), (10, if x.1 = 0 then v25 else x.2.1), (11, x.2.2), (44, vL), (45, .int .i64 ((bubL n).length : Int)), (46, .int .i64 (x.1 : Int))]) (fun x h' => x.1 ≤ (bubL n).length ∧ ((bubP n x.1 p).2 = [] → x.2.2 = .nils) ∧ St h h' [⟨p9, 0, [.int .i64 (n : Int), v25, vS], true⟩, ⟨x.2.2, 2, flr pC (bubP n x.1 p).2, true⟩, ⟨x.2.1, 1, ints (nI (if x.1 = 0 then [] else (bubP n x.1 p).1)), true⟩, ⟨vL, 2, flr pC (bubL n), true⟩, ⟨vS, 1, ints (nI (List.range n)), true⟩, ⟨v25, 1, ints (nI p), true⟩]) (fun x => (bubL n).length - x.1) (0, .nils, .nils) (by repeat (first | exact Sub.nil _ | refine Sub.cons Look.eq ?_ | refine Sub.cons (Eq.trans Look.eq (congrArg (AV.int _) (by first | omega | (dsimp only; omega)))) ?_ | refine Sub.cons (Eq.trans Look.eq ((if_pos rfl).symm)) ?_)) ?_ ?_
    · exact ⟨Nat.zero_le _, fun _ => rfl, St.pick [3, 0, 1, 2, 4, 5] (by decide) rfl ((hS.nil 1).nil 2)⟩
    rintro ⟨j, vM, vD⟩ h6 ⟨hj, hnil, hS⟩
    dsimp only at hj hnil hS ⊢
    have hNow : ∀ (hx : AHeap) (pre : List Obj), St h hx (pre ++ [⟨p9, 0, [.int .i64 (n : Int), v25, vS], true⟩, ⟨vD, 2, flr pC (bubP n j p).2, true⟩, ⟨vM, 1, ints (nI (if j = 0 then [] else (bubP n j p).1)), true⟩, ⟨vL, 2, flr pC (bubL n), true⟩, ⟨vS, 1, ints (nI (List.range n)), true⟩, ⟨v25, 1, ints (nI p), true⟩]) → Row hx (if j = 0 then v25 else vM) (nI (bubP n j p).1) := by
      intro hx pre st
      by_cases hj0 : j = 0
      · subst hj0
        rw [if_pos rfl]
        exact rd_pre 5 rfl st
      · have := rd_pre 2 rfl st
        rw [if_neg hj0] at this ⊢
        exact this
    generalize (if j = 0 then v25 else vM) = vN at hNow ⊢
    obtain ⟨hpj, hdj⟩ := bubP_pack hn5 hp j hj
    refine KA.seq ?_
    refine KA.region rfl ?_
    refine KOps.lss ?_
    refine KOps.done ?_
    refine sqQ.normal ?_
    refine KA.seq ?_
    refine KA.condD ?_ ?_
    · intro c47
      have hjl : j < (bubL n).length := by omega
      have ha := bubL_lt hjl
      have hpl2 := (pack_ok hn5 hpj).1
      have hpq := (pack_ok hn5 hpj).2.2.1 _ ha
      have hnl2 : (nI (passP ((bubL n).getD j 0) (bubP n j p).1)).length = n := by rw [nI, List.length_map]; exact (pack_ok hn5 hpq).1
      refine KA.skip ?_
      refine sqQ.normal ?_
      refine KA.sub (Sub.cons (t := 6) Look.eq (Sub.cons (t := 7) Look.eq (Sub.cons (t := 9) Look.eq (Sub.cons (t := 10) Look.eq (Sub.cons (t := 11) Look.eq (Sub.cons (t := 44) Look.eq (Sub.cons (t := 45) Look.eq (Sub.cons (t := 46) Look.eq (Sub.nil _))))))))) ?_
      refine KA.seq ?_
      refine KA.block ?_
      refine KA.seq ?_
      refine KA.region rfl ?_
      refine KOps.indexF pC_len (hS.rd 3 rfl) (j := j) rfl (by first | omega | (simp; done) | (simp; omega)) ?_
      intro p48 hp48
      refine KOps.loadFl pC_len (by decide) hp48 (hS.rd 3 rfl) (by first | omega | (simp; done) | (simp; omega)) ?_
      refine KOps.alloc hS ?_
      intro p13 h' hp13 hS
      refine KOps.storeAll hS rfl (i := 0) rfl hp13 (by first | rfl | (simp [AV.one]; done) | (simp [AV.one]; assumption) | (simp [AV.one, *]; done)) (by rfl) (by rfl) (by decide) ?_
      intro h' hS
      simp only [List.set_cons_zero, List.set_cons_succ, Nat.zero_add] at hS
      refine KOps.done ?_
      refine sqQ.normal ?_
      refine KA.sub (Sub.cons (t := 6) Look.eq (Sub.cons (t := 7) Look.eq (Sub.cons (t := 9) Look.eq (Sub.cons (t := 10) Look.eq (Sub.cons (t := 11) Look.eq (Sub.cons (t := 13) Look.eq (Sub.cons (t := 44) Look.eq (Sub.cons (t := 45) Look.eq (Sub.cons (t := 46) Look.eq (Sub.nil _)))))))))) ?_
      refine KA.seq ?_
      refine KA.region rfl ?_
      refine KOps.move ?_
      refine KOps.loadAll hS (i := 0) rfl hp13 (by rfl) (by decide) ?_
      refine KOps.buildSliceS (cs := pC ((bubL n).getD j 0)) hS rfl rfl rfl (by decide) ?_
      intro v53 h' hS
      have hv53 : v53.one = true := St.one hS (k := 0) rfl
      refine KOps.buildG (zs := [.int .i64 0, .nils]) (cs := [_, _]) (by kernel_rfl) (by rfl) (by kernel_rfl) (.cons (off := 0) (s := 1) (by kernel_rfl) (AV.cells_one (by first | rfl | assumption)) rfl (by decide) (.cons (off := 1) (s := 1) (by kernel_rfl) (AV.cells_one (by first | rfl | assumption)) rfl (by decide) .nil)) (by rfl) ?_
      refine KOps.move ?_
      refine KOps.call rfl (pass_c2 (a := ((bubL n).getD j 0)) ha hn5 hpl2 (hS.rd 0 rfl) (hNow _ [_, _] hS)) ?_
      rintro _ h56 ⟨vN2, rfl, hS56⟩
      have hS0 : St _ _ (_ :: _) := St.trans hS hS56
      clear hS
      have hS := hS0
      clear hS0
      refine KOps.move ?_
      refine KOps.extract ?_
      refine KOps.extract ?_
      refine KOps.assign ?_
      refine KOps.assign ?_
      refine KOps.done ?_
      refine sqQ.normal ?_
      refine KA.sub (Sub.cons (t := 6) Look.eq (Sub.cons (t := 7) Look.eq (Sub.cons (t := 9) Look.eq (Sub.cons (t := 10) Look.eq (Sub.cons (t := 11) Look.eq (Sub.cons (t := 13) Look.eq (Sub.cons (t := 14) Look.eq (Sub.cons (t := 15) Look.eq (Sub.cons (t := 44) Look.eq (Sub.cons (t := 45) Look.eq (Sub.cons (t := 46) Look.eq (Sub.nil _)))))))))))) ?_
      refine KA.seq ?_
      refine KA.seq ?_
      refine KA.region rfl ?_
      refine KOps.move ?_
      refine KOps.neq ?_
      refine KOps.move ?_
      refine KOps.guardB (dj := 61) rfl rfl false true rfl ?_ ?_
      · intro g61
        have g61 := of_not_decide g61
        refine KOps.move ?_
        refine KOps.guardYes (dj := 61) rfl rfl ?_
        refine KOps.lenI (hS.rd 0 rfl) ?_
        rw [hnl2]
        refine KOps.guardYes (dj := 61) rfl rfl ?_
        refine KOps.move ?_
        refine KOps.guardYes (dj := 61) rfl rfl ?_
        refine KOps.neq ?_
        refine KOps.pickF ?_
        refine KOps.done ?_
        refine sqQ.normal ?_
        refine KA.sub (Sub.cons (t := 6) Look.eq (Sub.cons (t := 7) Look.eq (Sub.cons (t := 9) Look.eq (Sub.cons (t := 10) Look.eq (Sub.cons (t := 11) Look.eq (Sub.cons (t := 13) Look.eq (Sub.cons (t := 14) Look.eq (Sub.cons (t := 44) Look.eq (Sub.cons (t := 45) Look.eq (Sub.cons (t := 46) Look.eq (Sub.cons (t := 62) Look.eq (Sub.cons (t := 63) Look.eq (Sub.cons (t := 64) Look.eq (Sub.cons (t := 65) Look.eq (Sub.cons (t := 66) Look.eq (Sub.nil _)))))))))))))))) ?_
        refine KA.condN ?_ ?_
        · intro c66
          exact absurd rfl c66
        · intro c66
          refine KA.skip ?_
          refine sqQ.normal ?_
          refine KA.sub (Sub.cons (t := 6) Look.eq (Sub.cons (t := 7) Look.eq (Sub.cons (t := 9) Look.eq (Sub.cons (t := 10) Look.eq (Sub.cons (t := 11) Look.eq (Sub.cons (t := 13) Look.eq (Sub.cons (t := 14) Look.eq (Sub.cons (t := 44) Look.eq (Sub.cons (t := 45) Look.eq (Sub.cons (t := 46) Look.eq (Sub.cons (t := 62) Look.eq (Sub.cons (t := 63) Look.eq (Sub.cons (t := 64) Look.eq (Sub.cons (t := 65) Look.eq (Sub.nil _))))))))))))))) ?_
          refine KA.seq ?_
          refine KA.seq ?_
          refine KA.region rfl ?_
          refine KOps.move ?_
          refine KOps.move ?_
          refine KOps.call rfl (same_c (hS.rd 0 rfl) (hNow _ [_, _, _] hS) (by omega)) ?_
          rintro _ _ ⟨rfl, rfl⟩
          refine KOps.not ?_
          refine KOps.done ?_
          refine sqQ.normal ?_
          refine KA.sub (Sub.cons (t := 6) Look.eq (Sub.cons (t := 7) Look.eq (Sub.cons (t := 9) Look.eq (Sub.cons (t := 11) Look.eq (Sub.cons (t := 13) Look.eq (Sub.cons (t := 14) Look.eq (Sub.cons (t := 44) Look.eq (Sub.cons (t := 45) Look.eq (Sub.cons (t := 46) Look.eq (Sub.cons (t := 62) Look.eq (Sub.cons (t := 63) Look.eq (Sub.cons (t := 64) Look.eq (Sub.cons (t := 65) Look.eq (Sub.cons (t := 70) Look.eq (Sub.nil _))))))))))))))) ?_
          refine KA.condN ?_ ?_
          · intro c70
            have hne : ¬ passP ((bubL n).getD j 0) (bubP n j p).1 = (bubP n j p).1 := fun e => c70 (by rw [e])
            refine KA.region rfl ?_
            refine KOps.move ?_
            refine KOps.loadAll hS (i := 2) rfl hp13 (by rfl) (by decide) ?_
            refine KOps.buildSliceS (cs := pC ((bubL n).getD j 0)) hS rfl rfl rfl (by decide) ?_
            intro v73 h' hS
            refine KOps.append hS (fun _ => rfl) (i := 5) rfl (a := (bubP n j p).2.length) (flr_len pC_len _) (hS.rd 0 rfl) (b := 1) rfl rfl (by omega) ?_
            intro r74 h' hS
            simp only [List.set_cons_zero, List.set_cons_succ, Nat.zero_add] at hS
            have hr74 : r74.one = true := St.one hS (k := 5) rfl
            have hS0 := St.tail hS
            clear hS
            have hS := hS0
            clear hS0
            rw [flr_push] at hS
            refine KOps.assign ?_
            refine KOps.done ?_
            refine sqQ.normal ?_
            refine KA.sub (Sub.cons (t := 6) Look.eq (Sub.cons (t := 7) Look.eq (Sub.cons (t := 9) Look.eq (Sub.cons (t := 11) Look.eq (Sub.cons (t := 14) Look.eq (Sub.cons (t := 44) Look.eq (Sub.cons (t := 45) Look.eq (Sub.cons (t := 46) Look.eq (Sub.cons (t := 62) Look.eq (Sub.cons (t := 63) Look.eq (Sub.cons (t := 64) Look.eq (Sub.cons (t := 65) Look.eq (Sub.nil _))))))))))))) ?_
            refine KA.region rfl ?_
            refine KOps.move ?_
            refine KOps.assign ?_
            refine KOps.done ?_
            refine blQ.normal ?_
            refine sqQ.normal ?_
            refine KA.sub (Sub.cons (t := 6) Look.eq (Sub.cons (t := 7) Look.eq (Sub.cons (t := 9) Look.eq (Sub.cons (t := 10) Look.eq (Sub.cons (t := 11) Look.eq (Sub.cons (t := 44) Look.eq (Sub.cons (t := 45) Look.eq (Sub.cons (t := 46) Look.eq (Sub.cons (t := 62) Look.eq (Sub.cons (t := 63) Look.eq (Sub.cons (t := 64) Look.eq (Sub.cons (t := 65) Look.eq (Sub.nil _))))))))))))) ?_
            refine KA.region rfl ?_
            refine KOps.add (by first | omega | (simp; omega)) (by first | omega | (simp; omega)) ?_
            refine KOps.move ?_
            refine KOps.done ?_
            refine lpQ.normal (j + 1, vN2, r74) (by repeat (first | exact Sub.nil _ | refine Sub.cons Look.eq ?_ | refine Sub.cons (Eq.trans Look.eq (congrArg (AV.int _) (by first | omega | (dsimp only; omega)))) ?_ | refine Sub.cons (Eq.trans Look.eq ((if_neg (Nat.succ_ne_zero _)).symm)) ?_)) ⟨by dsimp only; omega, fun he => ?_, ?_⟩ (by dsimp only; omega)
            · dsimp only at he
              rw [bubP_succ hjl, bubS_no hne] at he
              exact absurd (List.append_eq_nil_iff.1 he).2 (by simp)
            · dsimp only
              rw [if_neg (Nat.succ_ne_zero j), bubP_succ hjl, bubS_no hne]
              exact St.pick [3, 4, 0, 6, 7, 8] (by decide) rfl hS
          · intro c70
            have hye : passP ((bubL n).getD j 0) (bubP n j p).1 = (bubP n j p).1 := nI_inj c70
            refine KA.skip ?_
            refine sqQ.normal ?_
            refine KA.sub (Sub.cons (t := 6) Look.eq (Sub.cons (t := 7) Look.eq (Sub.cons (t := 9) Look.eq (Sub.cons (t := 11) Look.eq (Sub.cons (t := 14) Look.eq (Sub.cons (t := 44) Look.eq (Sub.cons (t := 45) Look.eq (Sub.cons (t := 46) Look.eq (Sub.cons (t := 62) Look.eq (Sub.cons (t := 63) Look.eq (Sub.cons (t := 64) Look.eq (Sub.cons (t := 65) Look.eq (Sub.nil _))))))))))))) ?_
            refine KA.region rfl ?_
            refine KOps.move ?_
            refine KOps.assign ?_
            refine KOps.done ?_
            refine blQ.normal ?_
            refine sqQ.normal ?_
            refine KA.sub (Sub.cons (t := 6) Look.eq (Sub.cons (t := 7) Look.eq (Sub.cons (t := 9) Look.eq (Sub.cons (t := 10) Look.eq (Sub.cons (t := 11) Look.eq (Sub.cons (t := 44) Look.eq (Sub.cons (t := 45) Look.eq (Sub.cons (t := 46) Look.eq (Sub.cons (t := 62) Look.eq (Sub.cons (t := 63) Look.eq (Sub.cons (t := 64) Look.eq (Sub.cons (t := 65) Look.eq (Sub.nil _))))))))))))) ?_
            refine KA.region rfl ?_
            refine KOps.add (by first | omega | (simp; omega)) (by first | omega | (simp; omega)) ?_
            refine KOps.move ?_
            refine KOps.done ?_
            refine lpQ.normal (j + 1, vN2, vD) (by repeat (first | exact Sub.nil _ | refine Sub.cons Look.eq ?_ | refine Sub.cons (Eq.trans Look.eq (congrArg (AV.int _) (by first | omega | (dsimp only; omega)))) ?_ | refine Sub.cons (Eq.trans Look.eq ((if_neg (Nat.succ_ne_zero _)).symm)) ?_)) ⟨by dsimp only; omega, fun he => ?_, ?_⟩ (by dsimp only; omega)
            · dsimp only at he
              rw [bubP_succ hjl, bubS_yes hye] at he
              exact hnil he
            · dsimp only
              rw [if_neg (Nat.succ_ne_zero j), bubP_succ hjl, bubS_yes hye]
              exact St.pick [3, 4, 0, 6, 7, 8] (by decide) rfl hS
      · intro g61
        have g61 := not_of_not_decide g61
        exact absurd rfl g61
    · intro c47
      obtain rfl : j = (bubL n).length := by omega
      simp only [bubP_all, hbe] at hNow hnil hS
      refine KA.exit ?_
      refine sqQ.exit ?_
      refine lpQ.exit ?_
      refine blQ.here ?_
      refine sqQ.normal ?_
      refine KA.sub (Sub.cons (t := 7) Look.eq (Sub.cons (t := 9) Look.eq (Sub.cons (t := 10) Look.eq (Sub.cons (t := 11) Look.eq (Sub.nil _))))) ?_
      refine KA.seq ?_
      refine KA.region rfl ?_
      refine KOps.loadAll hS (i := 0) rfl hp9 (by rfl) (by decide) ?_
      refine KOps.call rfl (near_c h1n hn5 hp (hS.rd 5 rfl) (hS.rd 4 rfl)) ?_
      rintro _ hx ⟨rfl, hK⟩
      have hS0 : St _ _ _ := St.trans hS (St.ofK hK)
      clear hS
      have hS := hS0
      clear hS0
      simp only [List.nil_append] at hS
      refine KOps.move ?_
      refine KOps.extract ?_
      refine KOps.extract ?_
      refine KOps.assign ?_
      refine KOps.assign ?_
      refine KOps.done ?_
      refine sqQ.normal ?_
      refine KA.sub (Sub.cons (t := 7) Look.eq (Sub.cons (t := 9) Look.eq (Sub.cons (t := 10) Look.eq (Sub.cons (t := 11) Look.eq (Sub.cons (t := 16) Look.eq (Sub.cons (t := 17) Look.eq (Sub.nil _))))))) ?_
      refine KA.seq ?_
      refine KA.region rfl ?_
      refine KOps.loadAll hS (i := 0) rfl hp9 (by rfl) (by decide) ?_
      refine KOps.call rfl (fewestP_c (t := trP n p) (trP_ok h1n hn5 hp) (hS.rd 5 rfl) (hS.rd 4 rfl) (hT.1.ext hS.keeps)) ?_
      rintro _ hx ⟨rfl, hK⟩
      have hS0 : St _ _ _ := St.trans hS (St.ofK hK)
      clear hS
      have hS := hS0
      clear hS0
      simp only [List.nil_append] at hS
      rw [hchk, if_pos rfl]
      refine KOps.move ?_
      refine KOps.extract ?_
      refine KOps.extract ?_
      refine KOps.assign ?_
      refine KOps.assign ?_
      refine KOps.done ?_
      refine sqQ.normal ?_
      refine KA.sub (Sub.cons (t := 7) Look.eq (Sub.cons (t := 9) Look.eq (Sub.cons (t := 10) Look.eq (Sub.cons (t := 11) Look.eq (Sub.cons (t := 16) Look.eq (Sub.cons (t := 17) Look.eq (Sub.cons (t := 18) Look.eq (Sub.cons (t := 19) Look.eq (Sub.nil _))))))))) ?_
      refine KA.seq ?_
      refine KA.region rfl ?_
      refine KOps.move ?_
      refine KOps.eql ?_
      refine KOps.move ?_
      refine KOps.guardB (dj := 89) rfl rfl true false rfl ?_ ?_
      · intro g89
        have g89 := of_decide_eq_true g89
        refine KOps.move ?_
        refine KOps.guardYes (dj := 89) rfl rfl ?_
        refine KOps.eql ?_
        refine KOps.pickT ?_
        refine KOps.move ?_
        refine KOps.guardB (dj := 93) rfl rfl true false rfl ?_ ?_
        · intro g93
          have g93 := of_decide_eq_true g93
          refine KOps.move ?_
          refine KOps.guardYes (dj := 93) rfl rfl ?_
          refine KOps.move ?_
          refine KOps.guardYes (dj := 93) rfl rfl ?_
          refine KOps.lenF pC_len (hS.rd 1 rfl) ?_
          refine KOps.guardYes (dj := 93) rfl rfl ?_
          refine KOps.eql ?_
          refine KOps.pickT ?_
          refine KOps.move ?_
          refine KOps.guardB (dj := 99) rfl rfl true false rfl ?_ ?_
          · intro g99
            have g99 := of_decide_eq_true g99
            refine KOps.move ?_
            refine KOps.guardYes (dj := 99) rfl rfl ?_
            refine KOps.move ?_
            refine KOps.guardYes (dj := 99) rfl rfl ?_
            refine KOps.leq ?_
            refine KOps.pickT ?_
            refine KOps.move ?_
            refine KOps.guardB (dj := 104) rfl rfl true false rfl ?_ ?_
            · intro g104
              have g104 := of_decide_eq_true g104
              refine KOps.move ?_
              refine KOps.guardYes (dj := 104) rfl rfl ?_
              refine KOps.move ?_
              refine KOps.guardYes (dj := 104) rfl rfl ?_
              refine KOps.call rfl (same_c (hNow _ [] hS) (hS.rd 4 rfl) (by rw [nI, List.length_map, List.length_range]; omega)) ?_
              rintro _ _ ⟨rfl, rfl⟩
              refine KOps.pickT ?_
              refine KOps.move ?_
              refine KOps.guardB (dj := 109) rfl rfl true false rfl ?_ ?_
              · intro g109
                have g109 := of_decide_eq_true g109
                refine KOps.loadAll hS (i := 0) rfl hp9 (by rfl) (by decide) ?_
                refine KOps.guardYes (dj := 109) rfl rfl ?_
                refine KOps.move ?_
                refine KOps.guardYes (dj := 109) rfl rfl ?_
                refine KOps.call rfl (mends_c h1n hn5 hp (hS.rd 5 rfl) (hS.rd 4 rfl) (hS.rd 1 rfl) hnil) ?_
                rintro _ hx ⟨rfl, hK⟩
                have hS0 : St _ _ _ := St.trans hS (St.ofK hK)
                clear hS
                have hS := hS0
                clear hS0
                simp only [List.nil_append] at hS
                refine KOps.guardYes (dj := 109) rfl rfl ?_
                refine KOps.eql ?_
                refine KOps.pickT ?_
                refine KOps.move ?_
                refine KOps.guardB (dj := 115) rfl rfl true false rfl ?_ ?_
                · intro g115
                  have g115 := of_decide_eq_true g115
                  refine KOps.call rfl (mendWorks_c (hT.ext hS.keeps)) ?_
                  rintro _ hx ⟨rfl, hK⟩
                  have hS0 : St _ _ _ := St.trans hS (St.ofK hK)
                  clear hS
                  have hS := hS0
                  clear hS0
                  simp only [List.nil_append] at hS
                  refine KOps.pickT ?_
                  refine KOps.assign ?_
                  refine KOps.done ?_
                  refine sqQ.normal ?_
                  refine KA.sub (Sub.cons (t := 4) Look.eq (Sub.nil _)) ?_
                  refine KA.ret ?_
                  refine fnQ.ret1 ?_
                  rfl
                · intro g115
                  have g115 := of_decide_eq_false g115
                  exact absurd rfl g115
              · intro g109
                have g109 := of_decide_eq_false g109
                exact absurd rfl g109
            · intro g104
              have g104 := of_decide_eq_false g104
              exact absurd hfew g104
          · intro g99
            have g99 := of_decide_eq_false g99
            exact absurd rfl g99
        · intro g93
          have g93 := of_decide_eq_false g93
          exact absurd rfl g93
      · intro g89
        have g89 := of_decide_eq_false g89
        exact absurd rfl g89

theorem law_bubbled_i {h : AHeap} {v : AV} {c : Int} {bs : List Int} (h0 : 0 ≤ c) (h1 : c ≤ 255) (hv : Rd h v 1 (bs.map (AV.int .u8))) (hbs : ∀ x ∈ bs, 0 ≤ x ∧ x ≤ 255) (hlen : (bs.map (AV.int .u8)).length ≤ 9223372036854775807) (hT : Tabs h) : ACalls Go.Proofs.Tryd.prog 4 [.int .u8 c, v] h (fun q _ => q = .bool true) := by
  obtain ⟨c, rfl⟩ := Int.eq_ofNat_of_zero_le h0
  rw [List.length_map] at hlen
  exact law_bubbled (by omega) rfl hv hbs hlen hT
theorem vrel_len {φ : Emb} {h : AHeap} {v : AV} {u : Value} {xs : List AV} (hv : VRel φ v u) (hr : Rd h v 1 xs) : xs.length ≤ 9223372036854775807 := by
  rcases hr with ⟨rfl, rfl⟩ | ⟨b, o, F, p, cs, hw, _, _, _⟩ | ⟨b, F, x, _, h0, _⟩
  · exact Nat.zero_le _
  · rcases hw with ⟨n, full, rfl, hl, _⟩ | ⟨h0, _⟩
    · cases hv with
      | slc _ _ _ _ _ a c hn hc hf hh =>
        have hm : maxLen ≤ 9223372036854775807 := by decide
        omega
    · cases h0
  · cases h0

end Go.Am
