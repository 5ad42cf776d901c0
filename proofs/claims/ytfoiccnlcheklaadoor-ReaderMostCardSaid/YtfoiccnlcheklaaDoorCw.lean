/-
  Layer 08: rows of numbers copied; all sets of safe words.
  Conditions: none.
-/
import Derived.Test.YtfoiccnlcheklaaDoorWv
namespace Go.Am
theorem cloneN_c {h : AHeap} : ACalls Go.Proofs.Tryd.prog 45 [.nils] h (fun u h' => u = .nils ∧ h = h') := by
  refine KA.fn 8 [.tmp 2] Go.Proofs.Tryd.func45 rfl (by decide) rfl rfl (Nat.le_of_ble_eq_true rfl) ?_
  show KA _ 8 _ _ [(0, .nils)] _
  refine KA.seq ?_
  refine KA.region rfl ?_
  refine KOps.assign ?_
  refine KOps.done ?_
  refine sqQ.normal ?_
  refine KA.sub (Sub.cons (t := 0) Look.eq (Sub.nil _)) ?_
  refine KA.seq ?_
  refine KA.seq ?_
  refine KA.region rfl ?_
  refine KOps.move ?_
  refine KOps.nilEq ?_
  refine KOps.done ?_
  refine sqQ.normal ?_
  refine KA.sub (Sub.cons (t := 0) Look.eq (Sub.cons (t := 4) Look.eq (Sub.nil _))) ?_
  refine KA.condT ?_
  refine KA.seq ?_
  refine KA.region rfl ?_
  refine KOps.assign ?_
  refine KOps.done ?_
  refine sqQ.normal ?_
  refine KA.sub (Sub.cons (t := 2) Look.eq (Sub.nil _)) ?_
  refine KA.ret ?_
  refine sqQ.ret ?_
  refine fnQ.ret1 ?_
  exact ⟨rfl, rfl⟩

theorem cloneI_c {h : AHeap} {v : AV} {l : List Nat} (hv : Rd h v 1 ((li l).map (AV.int .i64))) (hne : l ≠ []) (hl : l.length ≤ 4096) : ACalls Go.Proofs.Tryd.prog 45 [v] h (fun u h' => St h h' [⟨u, 1, (li (l)).map (AV.int .i64), true⟩]) := by
  refine KA.fn 8 [.tmp 2] Go.Proofs.Tryd.func45 rfl (by decide) rfl rfl (Nat.le_of_ble_eq_true rfl) ?_
  have hS := St.refl h
  show KA _ 8 _ _ [(0, v)] _
  refine KA.seq ?_
  refine KA.region rfl ?_
  refine KOps.assign ?_
  refine KOps.done ?_
  refine sqQ.normal ?_
  refine KA.sub (Sub.cons (t := 0) Look.eq (Sub.nil _)) ?_
  refine KA.seq ?_
  refine KA.seq ?_
  refine KA.region rfl ?_
  refine KOps.move ?_
  refine KOps.slcEq hv (by decide) (by intro he; exact hne (by simpa [li] using he)) ?_
  refine KOps.done ?_
  refine sqQ.normal ?_
  refine KA.sub (Sub.cons (t := 0) Look.eq (Sub.cons (t := 4) Look.eq (Sub.nil _))) ?_
  refine KA.condF ?_
  refine KA.skip ?_
  refine sqQ.normal ?_
  refine KA.sub (Sub.cons (t := 0) Look.eq (Sub.nil _)) ?_
  refine KA.seq ?_
  refine KA.region rfl ?_
  refine KOps.buildSlice hS rfl (by decide) rfl ?_
  intro v5 h' hS
  refine KOps.move ?_
  refine KOps.append hS (fun _ => rfl) (i := 0) rfl (a := 0) rfl (Rd.ext hS.keeps hv) (b := l.length) (by simp [li]) (by simp [AV.one, li]) (by omega) ?_
  intro v7 h' hS
  simp only [List.set_cons_zero, List.set_cons_succ, Nat.zero_add] at hS
  refine KOps.assign ?_
  refine KOps.done ?_
  refine sqQ.normal ?_
  refine KA.sub (Sub.cons (t := 2) Look.eq (Sub.nil _)) ?_
  refine KA.ret ?_
  refine fnQ.ret1 ?_
  exact hS

theorem clone_c {h : AHeap} {v : AV} {l : List Nat} (hv : Rd h v 1 ((li l).map (AV.int .i64))) (h0 : l = [] → v = .nils) (hl : l.length ≤ 4096) : ACalls Go.Proofs.Tryd.prog 45 [v] h (fun u h' => St h h' [⟨u, 1, (li (l)).map (AV.int .i64), true⟩]) := by
  by_cases he : l = []
  · subst he
    rw [h0 rfl]
    refine ACalls.mono cloneN_c ?_
    rintro u h' ⟨rfl, rfl⟩
    exact (St.refl _).nil 1
  · exact cloneI_c hv he hl

theorem all_sets_c {h0 : AHeap} {p2 p3 p4 p5 w : AV} {bm : Nat} {W : List (List Bool)} {L : List ((Nat × Nat) × Bool)} {sf : Nat → Nat → Bool} (hp2 : AddrOf p2 p2 0 0) (hp3 : AddrOf p3 p3 0 0) (hp4 : AddrOf p4 p4 0 0) (hp5 : AddrOf p5 p5 0 0) (hW : W.length ≤ 64) (hL : ∀ a b, a < W.length → b < W.length → gp L a b = !sf a b) (d : Nat) : ∀ {h : AHeap} {i0 b : Nat} {l : List Nat} {v : AV} {F : List Obj}, W.length - i0 = d → i0 ≤ W.length → (∀ j ∈ l, j < W.length) → l.length ≤ i0 → (l = [] → v = .nils) → St h0 h (⟨p2, 0, [.int .i64 ((b : Nat) : Int)], true⟩ :: ⟨p3, 0, [w], true⟩ :: ⟨w, 1, wcs W, true⟩ :: ⟨p4, 0, [.mp bm], true⟩ :: mapO (.mp bm) (pairE L) :: ⟨p5, 0, [.fn 44 [p2, p3, p4, p5]], true⟩ :: ⟨v, 1, (li (l)).map (AV.int .i64), true⟩ :: F) →
    ACalls Go.Proofs.Tryd.prog 44 [.int .i64 (i0 : Int), v, p2, p3, p4, p5] h (fun _ h' => St h0 h' (⟨p2, 0, [.int .i64 ((max b (l.length + misL sf (cand sf W.length i0 l)) : Nat) : Int)], true⟩ :: ⟨p3, 0, [w], true⟩ :: ⟨w, 1, wcs W, true⟩ :: ⟨p4, 0, [.mp bm], true⟩ :: mapO (.mp bm) (pairE L) :: ⟨p5, 0, [.fn 44 [p2, p3, p4, p5]], true⟩ :: ⟨v, 1, (li (l)).map (AV.int .i64), true⟩ :: F)) := by
  induction d using Nat.strongRecOn
  rename_i d ih
  intro h i0 b l v F hd hi0 hlm hll hnil hS
  refine KA.fn 49 [] Go.Proofs.Tryd.func44 rfl (by decide) rfl rfl (Nat.le_of_ble_eq_true rfl) ?_
  show KA _ 49 _ _ [(0, .int .i64 (i0 : Int)), (1, v), (2, p2), (3, p3), (4, p4), (5, p5)] _
  refine KA.seq ?_
  refine KA.region rfl ?_
  refine KOps.loadBox hS (i := 0) rfl hp2 ?_
  refine KOps.move ?_
  refine KOps.lenI (hS.rd 6 rfl) ?_
  refine KOps.max ?_
  refine KOps.storeBox hS rfl (i := 0) rfl hp2 (by first | rfl | assumption) ?_
  intro h' hS
  simp only [List.set_cons_zero, List.set_cons_succ, Nat.zero_add] at hS
  rw [show (Max.max (b : Int) ((li l).length : Int)) = ((max b l.length : Nat) : Int) by rw [List.length_map]; omega] at hS
  refine KOps.done ?_
  refine sqQ.normal ?_
  refine KA.sub (Sub.cons (t := 0) Look.eq (Sub.cons (t := 1) Look.eq (Sub.cons (t := 3) Look.eq (Sub.cons (t := 4) Look.eq (Sub.cons (t := 5) Look.eq (Sub.nil _)))))) ?_
  refine KA.seq ?_
  refine KA.region rfl ?_
  refine KOps.move ?_
  refine KOps.assign ?_
  refine KOps.done ?_
  refine sqQ.normal ?_
  refine KA.sub (Sub.cons (t := 1) Look.eq (Sub.cons (t := 3) Look.eq (Sub.cons (t := 4) Look.eq (Sub.cons (t := 5) Look.eq (Sub.cons (t := 8) Look.eq (Sub.nil _)))))) ?_
  refine KA.block ?_
  refine KA.loop (X := Nat × Nat) (fun x_ => [(1, v), (3, p3), (4, p4), (5, p5), (8, .int .i64 (x_.1 : Int))]) (fun x_ h' => x_.1 ≤ W.length ∧ i0 ≤ x_.1 ∧ l.length ≤ x_.2 ∧ max x_.2 (l.length + misL sf (cand sf W.length x_.1 l)) = max b (l.length + misL sf (cand sf W.length i0 l)) ∧ St h0 h' (⟨p2, 0, [.int .i64 ((x_.2 : Nat) : Int)], true⟩ :: ⟨p3, 0, [w], true⟩ :: ⟨w, 1, wcs W, true⟩ :: ⟨p4, 0, [.mp bm], true⟩ :: mapO (.mp bm) (pairE L) :: ⟨p5, 0, [.fn 44 [p2, p3, p4, p5]], true⟩ :: ⟨v, 1, (li (l)).map (AV.int .i64), true⟩ :: F)) (fun x_ => W.length - x_.1) (i0, max b l.length) (by repeat (first | exact Sub.nil _ | refine Sub.cons Look.eq ?_ | refine Sub.cons (Eq.trans Look.eq (congrArg (AV.int _) (by first | omega | (dsimp only; omega)))) ?_)) ?_ ?_
  · exact ⟨hi0, Nat.le_refl _, by dsimp only; omega, by dsimp only; omega, hS⟩
  rintro ⟨i, b1⟩ h5 ⟨hi, hii, hlb, hme, hS⟩
  dsimp only at hi hii hlb hme hS ⊢
  refine KA.seq ?_
  refine KA.seq ?_
  refine KA.region rfl ?_
  refine KOps.move ?_
  refine KOps.loadBox hS (i := 1) rfl hp3 ?_
  refine KOps.lenI (hS.rd 2 rfl) ?_
  refine KOps.lss ?_
  refine KOps.done ?_
  refine sqQ.normal ?_
  refine KA.sub (Sub.cons (t := 1) Look.eq (Sub.cons (t := 3) Look.eq (Sub.cons (t := 4) Look.eq (Sub.cons (t := 5) Look.eq (Sub.cons (t := 8) Look.eq (Sub.cons (t := 20) Look.eq (Sub.nil _))))))) ?_
  refine KA.condD ?_ ?_
  · intro c20
    have hil : i < W.length := by omega
    refine KA.skip ?_
    refine sqQ.normal ?_
    refine KA.sub (Sub.cons (t := 1) Look.eq (Sub.cons (t := 3) Look.eq (Sub.cons (t := 4) Look.eq (Sub.cons (t := 5) Look.eq (Sub.cons (t := 8) Look.eq (Sub.nil _)))))) ?_
    refine KA.seq ?_
    refine KA.block ?_
    refine KA.seq ?_
    refine KA.region rfl ?_
    refine KOps.assign ?_
    refine KOps.done ?_
    refine sqQ.normal ?_
    refine KA.seq ?_
    refine KA.seq ?_
    refine KA.region rfl ?_
    refine KOps.move ?_
    refine KOps.lenI (hS.rd 6 rfl) ?_
    refine KOps.move ?_
    refine KOps.done ?_
    refine sqQ.normal ?_
    refine KA.block ?_
    refine KA.loop (X := Nat) (fun q => [(1, v), (3, p3), (4, p4), (5, p5), (8, .int .i64 (i : Int)), (9, .bool ((l.take q).all fun j => sf j i)), (23, v), (24, .int .i64 (l.length : Int)), (25, .int .i64 (q : Int))]) (fun q h' => q ≤ l.length ∧ St h0 h' (⟨p2, 0, [.int .i64 ((b1 : Nat) : Int)], true⟩ :: ⟨p3, 0, [w], true⟩ :: ⟨w, 1, wcs W, true⟩ :: ⟨p4, 0, [.mp bm], true⟩ :: mapO (.mp bm) (pairE L) :: ⟨p5, 0, [.fn 44 [p2, p3, p4, p5]], true⟩ :: ⟨v, 1, (li (l)).map (AV.int .i64), true⟩ :: F)) (fun q => l.length - q) 0 (by repeat (first | exact Sub.nil _ | refine Sub.cons Look.eq ?_ | refine Sub.cons (Eq.trans Look.eq (congrArg (AV.int _) (by first | omega | (dsimp only; omega)))) ?_ | refine Sub.cons (Eq.trans Look.eq (congrArg (fun x : Nat => AV.int .i64 (x : Int)) (List.length_map ..))) ?_)) ?_ ?_
    · exact ⟨Nat.zero_le _, hS⟩
    rintro q h6 ⟨hq, hS⟩
    refine KA.seq ?_
    refine KA.region rfl ?_
    refine KOps.lss ?_
    refine KOps.done ?_
    refine sqQ.normal ?_
    refine KA.seq ?_
    refine KA.condD ?_ ?_
    · intro c26
      refine KA.skip ?_
      refine sqQ.normal ?_
      refine KA.sub (Sub.cons (t := 1) Look.eq (Sub.cons (t := 3) Look.eq (Sub.cons (t := 4) Look.eq (Sub.cons (t := 5) Look.eq (Sub.cons (t := 8) Look.eq (Sub.cons (t := 9) Look.eq (Sub.cons (t := 23) Look.eq (Sub.cons (t := 24) Look.eq (Sub.cons (t := 25) Look.eq (Sub.nil _)))))))))) ?_
      refine KA.seq ?_
      refine KA.block ?_
      refine KA.seq ?_
      refine KA.region rfl ?_
      refine KOps.indexIJ (hS.rd 6 rfl) (j := q) rfl (by first | omega | (simp; done) | (simp; omega)) ?_
      intro p27 hp27
      refine KOps.loadI hp27 (hS.rd 6 rfl) (by first | omega | (simp; done) | (simp; omega)) ?_
      refine KOps.assign ?_
      refine KOps.done ?_
      refine sqQ.normal ?_
      refine KA.sub (Sub.cons (t := 1) Look.eq (Sub.cons (t := 3) Look.eq (Sub.cons (t := 4) Look.eq (Sub.cons (t := 5) Look.eq (Sub.cons (t := 8) Look.eq (Sub.cons (t := 9) Look.eq (Sub.cons (t := 11) Look.eq (Sub.cons (t := 23) Look.eq (Sub.cons (t := 24) Look.eq (Sub.cons (t := 25) Look.eq (Sub.nil _))))))))))) ?_
      refine KA.region rfl ?_
      have hql : q < l.length := by omega
      have hlv : (li l).getD q 0 = ((l.getD q 0 : Nat) : Int) := by
        rw [List.getD_eq_getElem?_getD, List.getD_eq_getElem?_getD, List.getElem?_map, List.getElem?_eq_getElem hql]; rfl
      have hlq : l.getD q 0 < W.length := by
        rw [List.getD_eq_getElem?_getD, List.getElem?_eq_getElem hql]; exact hlm _ (List.getElem_mem _)
      rw [hlv]
      refine KOps.move ?_
      refine KOps.move ?_
      refine KOps.guardB (dj := 30) rfl rfl true false rfl ?_ ?_
      · intro g30
        refine KOps.loadBox hS (i := 3) rfl hp4 ?_
        refine KOps.guardYes (dj := 30) rfl rfl ?_
        refine KOps.move ?_
        refine KOps.guardYes (dj := 30) rfl rfl ?_
        refine KOps.move ?_
        refine KOps.guardYes (dj := 30) rfl rfl ?_
        refine KOps.buildS2 (z0 := .int .i64 0) (z1 := .int .i64 0) (by kernel_rfl) (by rfl) (by kernel_rfl) (by kernel_rfl) (by kernel_rfl) (by first | rfl | assumption) (by first | rfl | assumption) ?_
        refine KOps.guardYes (dj := 30) rfl rfl ?_
        refine KOps.hasP (a := l.getD q 0) (b := i) (St.rdM hS 4 rfl ⟨_, rfl⟩) ?_
        refine KOps.guardYes (dj := 30) rfl rfl ?_
        refine KOps.not ?_
        refine KOps.pickT ?_
        refine KOps.assign ?_
        refine KOps.done ?_
        refine blQ.normal ?_
        refine sqQ.normal ?_
        refine KA.sub (Sub.cons (t := 1) Look.eq (Sub.cons (t := 3) Look.eq (Sub.cons (t := 4) Look.eq (Sub.cons (t := 5) Look.eq (Sub.cons (t := 8) Look.eq (Sub.cons (t := 9) Look.eq (Sub.cons (t := 23) Look.eq (Sub.cons (t := 24) Look.eq (Sub.cons (t := 25) Look.eq (Sub.cons (t := 31) Look.eq (Sub.cons (t := 32) Look.eq (Sub.cons (t := 33) Look.eq (Sub.cons (t := 34) Look.eq (Sub.cons (t := 35) Look.eq (Sub.cons (t := 36) Look.eq (Sub.nil _)))))))))))))))) ?_
        refine KA.region rfl ?_
        refine KOps.add (by first | omega | (simp; omega)) (by first | omega | (simp; omega)) ?_
        refine KOps.move ?_
        refine KOps.done ?_
        exact lpQ.normal (q + 1) (by repeat (first | exact Sub.nil _ | refine Sub.cons Look.eq ?_ | refine Sub.cons (Eq.trans Look.eq (congrArg (AV.int _) (by first | omega | (dsimp only; omega)))) ?_ | refine Sub.cons (Eq.trans Look.eq (congrArg AV.bool (by rw [all_take hql, g30, hL _ _ hlq hil]; simp))) ?_)) ⟨by omega, hS⟩ (by omega)
      · intro g30
        refine KOps.guardNo (dj := 30) rfl rfl rfl ?_
        refine KOps.guardNo (dj := 30) rfl rfl rfl ?_
        refine KOps.guardNo (dj := 30) rfl rfl rfl ?_
        refine KOps.guardNo (dj := 30) rfl rfl rfl ?_
        refine KOps.guardNo (dj := 30) rfl rfl rfl ?_
        refine KOps.pickF ?_
        refine KOps.assign ?_
        refine KOps.done ?_
        refine blQ.normal ?_
        refine sqQ.normal ?_
        refine KA.sub (Sub.cons (t := 1) Look.eq (Sub.cons (t := 3) Look.eq (Sub.cons (t := 4) Look.eq (Sub.cons (t := 5) Look.eq (Sub.cons (t := 8) Look.eq (Sub.cons (t := 9) Look.eq (Sub.cons (t := 23) Look.eq (Sub.cons (t := 24) Look.eq (Sub.cons (t := 25) Look.eq (Sub.cons (t := 31) Look.eq (Sub.cons (t := 32) Look.eq (Sub.cons (t := 33) Look.eq (Sub.cons (t := 34) Look.eq (Sub.cons (t := 35) Look.eq (Sub.cons (t := 36) Look.eq (Sub.nil _)))))))))))))))) ?_
        refine KA.region rfl ?_
        refine KOps.add (by first | omega | (simp; omega)) (by first | omega | (simp; omega)) ?_
        refine KOps.move ?_
        refine KOps.done ?_
        exact lpQ.normal (q + 1) (by repeat (first | exact Sub.nil _ | refine Sub.cons Look.eq ?_ | refine Sub.cons (Eq.trans Look.eq (congrArg (AV.int _) (by first | omega | (dsimp only; omega)))) ?_ | refine Sub.cons (Eq.trans Look.eq (congrArg AV.bool (by rw [all_take hql, g30]; rfl))) ?_)) ⟨by omega, hS⟩ (by omega)
    · intro c26
      refine KA.exit ?_
      refine sqQ.exit ?_
      refine lpQ.exit ?_
      refine blQ.here ?_
      refine sqQ.normal ?_
      refine KA.sub (Sub.cons (t := 1) Look.eq (Sub.cons (t := 3) Look.eq (Sub.cons (t := 4) Look.eq (Sub.cons (t := 5) Look.eq (Sub.cons (t := 8) Look.eq (Sub.cons (t := 9) Look.eq (Sub.nil _))))))) ?_
      refine KA.seq ?_
      refine KA.region rfl ?_
      refine KOps.move ?_
      refine KOps.done ?_
      refine sqQ.normal ?_
      refine KA.sub (Sub.cons (t := 1) Look.eq (Sub.cons (t := 3) Look.eq (Sub.cons (t := 4) Look.eq (Sub.cons (t := 5) Look.eq (Sub.cons (t := 8) Look.eq (Sub.cons (t := 39) Look.eq (Sub.nil _))))))) ?_
      refine KA.condB ?_ ?_
      · intro c39
        obtain rfl : q = l.length := by omega
        rw [List.take_length] at c39
        have hfree := c39
        refine KA.draw [4, 7] mixed rfl (by kernel_rfl) ?_
        refine KOps.loadBox hS (i := 5) rfl hp5 ?_
        refine KOps.move ?_
        refine KOps.add (by first | omega | (simp; omega)) (by first | omega | (simp; omega)) ?_
        refine KOps.move ?_
        refine KOps.callK (by intro _ _ hr; exact hr.keeps) (clone_c (l := l) (hS.rd 6 rfl) hnil (by omega)) ?_
        rintro v44 h' hS44
        have hS0 : St _ _ (_ :: _) := St.trans hS hS44
        clear hS
        have hS := hS0
        clear hS0
        refine KOps.move ?_
        refine KOps.buildSlice hS rfl (by decide) rfl ?_
        intro v46 h' hS
        refine KOps.appendI hS (fun _ => rfl) (i := 0) rfl (by first | omega | (simp; done) | (simp; omega)) ?_
        intro r47 h' hr47 hS
        simp only [List.set_cons_zero, List.set_cons_succ, Nat.zero_add] at hS
        have hli : li (l ++ [i]) = li l ++ [(i : Int)] := List.map_append
        rw [show ints (li l ++ [(i : Int)]) = (li (l ++ [i])).map (AV.int .i64) by rw [hli]] at hS
        have hlm2 : ∀ j ∈ l ++ [i], j < W.length := fun j hj => (List.mem_append.1 hj).elim (hlm j) fun q => (List.mem_singleton.1 q) ▸ hil
        refine KOps.call rfl (ih (W.length - (i + 1)) (by omega) (i0 := i + 1) (b := b1) (l := l ++ [i]) (v := r47) (F := ⟨v, 1, (li l).map (AV.int .i64), true⟩ :: F) rfl (by omega) hlm2 (by rw [List.length_append, List.length_singleton]; omega) (fun q => absurd q (by simp)) (St.pickT (A := [_, _, _, _, _, _, _, _]) (A' := [_, _, _, _, _, _, _, _]) 8 [1, 2, 3, 4, 5, 6, 0, 7] rfl (by decide) (by decide) rfl hS)) ?_
        rintro _ h9 hS9
        clear hS
        have hS := St.pickT (A := [_, _, _, _, _, _, _, _]) (A' := [_, _, _, _, _, _, _]) 8 [0, 1, 2, 3, 4, 5, 7] rfl (by decide) (by decide) rfl hS9
        refine KOps.done ?_
        refine blQ.normal ?_
        refine sqQ.normal ?_
        refine KA.sub (Sub.cons (t := 1) Look.eq (Sub.cons (t := 3) Look.eq (Sub.cons (t := 4) Look.eq (Sub.cons (t := 5) Look.eq (Sub.cons (t := 8) Look.eq (Sub.nil _)))))) ?_
        refine KA.region rfl ?_
        refine KOps.move ?_
        refine KOps.add (by first | omega | (simp; omega)) (by first | omega | (simp; omega)) ?_
        refine KOps.assign ?_
        refine KOps.done ?_
        rw [cand_step hil, if_pos hfree, misL_cons, cand_push] at hme
        exact lpQ.normal (i + 1, _) (by repeat (first | exact Sub.nil _ | refine Sub.cons Look.eq ?_ | refine Sub.cons (Eq.trans Look.eq (congrArg (AV.int _) (by first | omega | (dsimp only; omega)))) ?_)) ⟨by dsimp only; omega, by dsimp only; omega, by dsimp only; omega, by dsimp only; rw [← hme]; rw [List.length_append, List.length_singleton]; omega, hS⟩ (by dsimp only; omega)
      · intro c39
        obtain rfl : q = l.length := by omega
        rw [List.take_length] at c39
        refine KA.skip ?_
        refine blQ.normal ?_
        refine sqQ.normal ?_
        refine KA.sub (Sub.cons (t := 1) Look.eq (Sub.cons (t := 3) Look.eq (Sub.cons (t := 4) Look.eq (Sub.cons (t := 5) Look.eq (Sub.cons (t := 8) Look.eq (Sub.nil _)))))) ?_
        refine KA.region rfl ?_
        refine KOps.move ?_
        refine KOps.add (by first | omega | (simp; omega)) (by first | omega | (simp; omega)) ?_
        refine KOps.assign ?_
        refine KOps.done ?_
        rw [cand_step hil, if_neg (by rw [c39]; decide)] at hme
        exact lpQ.normal (i + 1, b1) (by repeat (first | exact Sub.nil _ | refine Sub.cons Look.eq ?_ | refine Sub.cons (Eq.trans Look.eq (congrArg (AV.int _) (by first | omega | (dsimp only; omega)))) ?_)) ⟨by dsimp only; omega, by dsimp only; omega, by dsimp only; omega, by dsimp only; exact hme, hS⟩ (by dsimp only; omega)
  · intro c20
    refine KA.exit ?_
    refine sqQ.exit ?_
    refine lpQ.exit ?_
    refine blQ.here ?_
    refine fnQ.norm0 ?_
    rw [cand_end (by omega), misL_nil, Nat.add_zero, Nat.max_eq_left hlb] at hme
    rw [← hme]
    exact hS

end Go.Am

namespace Go.Am
def wsN (k n : Nat) : List (List Bool) := (List.range k).map fun x => wordN x n
theorem wsN_len (k n : Nat) : (wsN k n).length = k := by rw [wsN, List.length_map, List.length_range]
theorem wsN_get {k n i : Nat} (h : i < k) : (wsN k n).getD i [] = wordN i n := by
  rw [wsN, List.getD_eq_getElem?_getD, List.getElem?_map, List.getElem?_range h]; rfl
theorem wsN_succ (k n : Nat) : wsN (k + 1) n = wsN k n ++ [wordN k n] := by rw [wsN, wsN, List.range_succ, List.map_append]; rfl
theorem shl16 : ∀ a : Nat, a < 11 → IntKind.u16.wrap (1 * 2 ^ Min.min (a : Int).toNat (IntKind.bits .u16)) = ((2 ^ a : Nat) : Int) := by decide +kernel
def clG (ws : List (List Bool)) (i k : Nat) : Bool := clashW (ws.getD i []) (ws.getD k [])
theorem safe_fst {ws : List (List Bool)} {m : Nat} (hm : 0 < m ∧ m ≤ 10) (hl : ∀ w ∈ ws, w.length = m) (hn : ws.Nodup) (h40 : ws.length ≤ 40) :
    ∃ A C e : Int, safeV (ws.map wd) = .tup [.int .i64 A, .int .i64 C, .int .i64 e] ∧
      ((∃ p : Nat × Nat, IsFst ws.length (clG ws) p ∧ A = (p.1 : Int) ∧ C = (p.2 : Int) ∧ e = 13) ∨ ((∀ i k, i < k → k < ws.length → clG ws i k = false) ∧ A = 0 ∧ C = 0 ∧ e = 0)) := by
  have he := errTo_words hm hl hn
  have hlen : (ws.map wd).length = ws.length := List.length_map ..
  have hcl : ∀ i k, i < k → k < ws.length → clS (ws.map wd) i k = clG ws i k := fun i k hik hk => clS_words (by omega) hk
  by_cases hx : ∃ p, IsFst ws.length (clG ws) p
  · obtain ⟨p, hp⟩ := hx
    have hq : IsFst (ws.map wd).length (clS (ws.map wd)) p := by
      rw [hlen]
      exact ⟨hp.1, hp.2.1, by rw [hcl _ _ hp.1 hp.2.1]; exact hp.2.2.1, fun i k h1 h2 h3 => by rw [hcl i k h1 h2]; exact hp.2.2.2 i k h1 h2 h3⟩
    exact ⟨_, _, _, safe_clash (i := p.1) (k := p.2) (by omega) he hq, .inl ⟨p, hp, rfl, rfl, rfl⟩⟩
  · have hno : ∀ i k, i < k → k < ws.length → clG ws i k = false := by
      intro i k hik hk
      cases hc : clG ws i k with
      | false => rfl
      | true =>
        exfalso
        obtain ⟨n, ⟨⟨b, hb⟩, hmin⟩⟩ : ∃ n, (∃ b, n < b ∧ b < ws.length ∧ clG ws n b = true) ∧ ∀ n', n' < n → ¬ ∃ b, n' < b ∧ b < ws.length ∧ clG ws n' b = true := least ⟨i, k, hik, hk, hc⟩
        obtain ⟨c, hcc, hcm⟩ := least (P := fun c => n < c ∧ c < ws.length ∧ clG ws n c = true) ⟨b, hb⟩
        refine hx ⟨(n, c), hcc.1, hcc.2.1, hcc.2.2, fun a d h1 h2 h3 => ?_⟩
        cases hq : clG ws a d with
        | false => rfl
        | true =>
          rcases h3 with h3 | ⟨h3, h4⟩
          · exact absurd ⟨d, h1, h2, hq⟩ (hmin a h3)
          · have h3 : a = n := h3
            subst h3
            exact absurd ⟨h1, h2, hq⟩ (hcm d h4)
    exact ⟨_, _, _, safe_none (by omega) he (fun i k hik hk => by rw [hcl i k hik (by omega)]; exact hno i k hik (by omega)), .inr ⟨hno, rfl, rfl, rfl⟩⟩
/-- The first two, where two were found and none before. -/
theorem fst_at {ws : List (List Bool)} {A C e : Int} {a b : Nat} (h : (∃ p : Nat × Nat, IsFst ws.length (clG ws) p ∧ A = (p.1 : Int) ∧ C = (p.2 : Int) ∧ e = 13) ∨ ((∀ i k, i < k → k < ws.length → clG ws i k = false) ∧ A = 0 ∧ C = 0 ∧ e = 0))
    (hab : a < b) (hb : b < ws.length) (hc : clG ws a b = true) (h1 : ∀ i k, i < a → i < k → k < ws.length → clG ws i k = false) (h2 : ∀ k, a < k → k < b → clG ws a k = false) : A = (a : Int) ∧ C = (b : Int) ∧ e = 13 := by
  have hf : IsFst ws.length (clG ws) (a, b) := ⟨hab, hb, hc, fun i k h3 h4 h5 => by
    rcases h5 with h5 | ⟨h5, h6⟩
    · exact h1 i k h5 h3 h4
    · have h5 : i = a := h5
      subst h5
      exact h2 k h3 h6⟩
  rcases h with ⟨p, hp, rfl, rfl, rfl⟩ | ⟨hno, _⟩
  · rw [fst_unique hp hf]; exact ⟨rfl, rfl, rfl⟩
  · rw [hno a b hab hb] at hc; cases hc
theorem fst_not {ws : List (List Bool)} {A C e : Int} (h : (∃ p : Nat × Nat, IsFst ws.length (clG ws) p ∧ A = (p.1 : Int) ∧ C = (p.2 : Int) ∧ e = 13) ∨ ((∀ i k, i < k → k < ws.length → clG ws i k = false) ∧ A = 0 ∧ C = 0 ∧ e = 0))
    (h1 : ∀ i k, i < k → k < ws.length → clG ws i k = false) : A = 0 ∧ C = 0 ∧ e = 0 := by
  rcases h with ⟨p, hp, _⟩ | ⟨_, h⟩
  · have := h1 _ _ hp.1 hp.2.1
    rw [hp.2.2.1] at this; cases this
  · exact h
end Go.Am

namespace Go.Am
theorem row_start {n i : Nat} {L : List ((Nat × Nat) × Bool)} (h : ∀ a b, a < 2 ^ n → b < 2 ^ n → gp L a b = (decide (a < i) && clW n a b)) (a b : Nat) (ha : a < 2 ^ n) (hb : b < 2 ^ n) : gp L a b = if a = i then (decide (b < 0) && clW n a b) else (decide (a < i) && clW n a b) := by
  rw [h a b ha hb]
  by_cases he : a = i
  · subst he; simp
  · rw [if_neg he]
theorem row_next {n i : Nat} {L : List ((Nat × Nat) × Bool)} (h : ∀ a b, a < 2 ^ n → b < 2 ^ n → gp L a b = if a = i then (decide (b < 2 ^ n) && clW n a b) else (decide (a < i) && clW n a b)) (a b : Nat) (ha : a < 2 ^ n) (hb : b < 2 ^ n) : gp L a b = (decide (a < i + 1) && clW n a b) := by
  rw [h a b ha hb]
  by_cases he : a = i
  · subst he; rw [if_pos rfl, decide_eq_true hb, decide_eq_true (by omega)]
  · rw [if_neg he]
    exact congrArg (· && clW n a b) (decide_eq_decide.2 (by omega))
theorem cell_next {n i j : Nat} {L L2 : List ((Nat × Nat) × Bool)} {P : List (List Bool)} {D : List Nat} (hi : i < 2 ^ n) (hj : j < 2 ^ n) (h1 : gp L2 i j = true ↔ ∃ q ∈ D, ∃ z, P[q]? = some z ∧ isDel (wordN j n) z = true) (h2 : ∀ a b, a < 2 ^ n → b < 2 ^ n → ¬ (a = i ∧ b = j) → gp L2 a b = gp L a b)
    {m : Nat} (hall : ∀ q, q < m → q ∈ D) (hm : m = P.length) (hP : ∀ z, z ∈ P ↔ isDel (wordN i n) z = true) (hL : ∀ a b, a < 2 ^ n → b < 2 ^ n → gp L a b = if a = i then (decide (b < j) && clW n a b) else (decide (a < i) && clW n a b)) (a b : Nat) (ha : a < 2 ^ n) (hb : b < 2 ^ n) :
    gp L2 a b = if a = i then (decide (b < j + 1) && clW n a b) else (decide (a < i) && clW n a b) := by
  by_cases he : a = i ∧ b = j
  · obtain ⟨rfl, rfl⟩ := he
    rw [if_pos rfl, decide_eq_true (by omega), Bool.true_and]
    have : gp L2 a b = true ↔ clW n a b = true := by
      rw [h1]
      unfold clW
      rw [clash_iff]
      constructor
      · rintro ⟨q, hq, z, hz, hzb⟩
        exact ⟨z, (hP z).1 (List.mem_of_getElem? hz), hzb⟩
      · rintro ⟨z, hza, hzb⟩
        obtain ⟨q, hq, he⟩ := List.getElem_of_mem ((hP z).2 hza)
        exact ⟨q, hall q (by omega), z, by rw [List.getElem?_eq_getElem hq, he], hzb⟩
    exact Bool.eq_iff_iff.2 this
  · rw [h2 a b ha hb he, hL a b ha hb]
    by_cases ha : a = i
    · subst ha
      have hbj : b ≠ j := fun q => he ⟨rfl, q⟩
      rw [if_pos rfl, if_pos rfl]
      exact congrArg (· && clW n a b) (decide_eq_decide.2 (by omega))
    · rw [if_neg ha, if_neg ha]
theorem set_yes {n i j : Nat} {L2 : List ((Nat × Nat) × Bool)} {P : List (List Bool)} {D : List Nat} {nj : Nat} (h : ∃ q ∈ D, ∃ z, P[q]? = some z ∧ isDel (wordN j n) z = true) : gp (mput L2 (i, j) true) i j = true ↔ ∃ q ∈ D ++ [nj], ∃ z, P[q]? = some z ∧ isDel (wordN j n) z = true := by
  rw [gp_put, if_pos ⟨rfl, rfl⟩]
  obtain ⟨q, hq, h⟩ := h
  exact ⟨fun _ => ⟨q, List.mem_append.2 (.inl hq), h⟩, fun _ => rfl⟩
theorem set_new {n i j : Nat} {L2 : List ((Nat × Nat) × Bool)} {P R : List (List Bool)} {D : List Nat} {nj : Nat} {z : List Bool} (h : gp L2 i j = true ↔ ∃ q ∈ D, ∃ z, P[q]? = some z ∧ isDel (wordN j n) z = true) (hf : gp L2 i j = false) (hz : P[nj]? = some z) (hR : ∀ z, z ∈ R ↔ isDel (wordN j n) z = true) :
    gp (mput L2 (i, j) (decide (z ∈ R))) i j = true ↔ ∃ q ∈ D ++ [nj], ∃ z, P[q]? = some z ∧ isDel (wordN j n) z = true := by
  rw [gp_put, if_pos ⟨rfl, rfl⟩, decide_eq_true_iff, hR]
  constructor
  · intro q
    exact ⟨nj, by simp, z, hz, q⟩
  · rintro ⟨q, hq, u, hu, hd⟩
    rcases List.mem_append.1 hq with hq | hq
    · have := h.2 ⟨q, hq, u, hu, hd⟩
      rw [hf] at this; cases this
    · rw [List.mem_singleton.1 hq, hz] at hu
      cases hu
      exact hd
set_option synthInstance.maxSize 4000
set_option synthInstance.maxHeartbeats 2000000
set_option maxHeartbeats 4000000 in
theorem law_most {h : AHeap} {x a0 : Nat} (hTab : Tab h) (ha0 : a0 < 256) (hx16 : x < 65536) : NCalls Go.Proofs.Tryd.prog 11 [.int .u8 (a0 : Int), .int .u16 (x : Int)] h (fun r _ => r = .bool true) := by
  refine NA.fn 201 [.tmp 4] Go.Proofs.Tryd.func11 rfl rfl rfl (Nat.le_of_ble_eq_true rfl) ?_
  have hS := St.refl h
  have hn4 : a0 % 4 < 4 := Nat.mod_lt _ (by decide)
  show NA _ 201 _ _ [(0, .int .u8 (a0 : Int)), (1, .int .u16 (x : Int))] _
  refine NA.seq ?_
  refine NA.region rfl ?_
  refine KOps.assign ?_
  refine KOps.done ?_
  refine sqN.normal ?_
  refine NA.sub (Sub.cons (t := 0) Look.eq (Sub.cons (t := 1) Look.eq (Sub.nil _))) ?_
  refine NA.seq ?_
  refine NA.region rfl ?_
  refine KOps.move ?_
  refine KOps.convU (by omega) (by omega) ?_
  refine KOps.remN (i := a0) (j := 4) rfl rfl (by omega) (by omega) ?_
  refine KOps.add (by omega) (by omega) ?_
  obtain ⟨n, hN⟩ : ∃ n : Nat, 1 + ((a0 % 4 : Nat) : Int) = (n : Int) := ⟨1 + a0 % 4, by omega⟩
  rw [hN]
  refine KOps.assign ?_
  refine KOps.done ?_
  refine sqN.normal ?_
  refine NA.sub (Sub.cons (t := 1) Look.eq (Sub.cons (t := 5) Look.eq (Sub.nil _))) ?_
  refine NA.seq ?_
  refine NA.region rfl ?_
  have hn14 : 1 ≤ n ∧ n ≤ 4 := by omega
  have hpw : 2 ^ n ≤ 2 ^ 4 := Nat.pow_le_pow_right (by decide) hn14.2
  have hmw := most_words hn14
  refine KOps.move ?_
  refine KOps.call rfl (mostP_c (hTab.ext hS.keeps)) ?_
  rintro _ hx ⟨rfl, hK⟩
  have hS0 : St _ _ _ := St.trans hS (St.ofK hK)
  clear hS
  have hS := hS0
  clear hS0
  simp only [List.nil_append] at hS
  refine KOps.move ?_
  refine KOps.extract ?_
  refine KOps.extract ?_
  refine KOps.assign ?_
  refine KOps.assign ?_
  refine KOps.done ?_
  refine sqN.normal ?_
  refine NA.sub (Sub.cons (t := 1) Look.eq (Sub.cons (t := 5) Look.eq (Sub.cons (t := 6) Look.eq (Sub.cons (t := 7) Look.eq (Sub.nil _))))) ?_
  refine NA.seq ?_
  refine NA.region rfl ?_
  refine KOps.move ?_
  refine KOps.call rfl (sizePF_c (n := (n : Int)) (k := ((0 : Nat) : Int))) ?_
  rintro _ _ ⟨rfl, rfl⟩
  refine KOps.move ?_
  refine KOps.extract ?_
  refine KOps.extract ?_
  refine KOps.assign ?_
  refine KOps.assign ?_
  refine KOps.done ?_
  refine sqN.normal ?_
  refine NA.sub (Sub.cons (t := 1) Look.eq (Sub.cons (t := 5) Look.eq (Sub.cons (t := 6) Look.eq (Sub.cons (t := 7) Look.eq (Sub.cons (t := 8) Look.eq (Sub.cons (t := 9) Look.eq (Sub.nil _))))))) ?_
  refine NA.seq ?_
  refine NA.seq ?_
  refine NA.region rfl ?_
  rw [(mostE_nat (n := n) (by omega)).1, (mostE_nat (n := n) (by omega)).2, codeS_nat (a := n) (b := 0) (by omega) (by omega), codeE_nat (a := n) (b := 0) (by omega) (by omega), hmw.2]
  refine KOps.move ?_
  refine KOps.neqF (rfl) ?_
  refine KOps.move ?_
  refine KOps.guardYes (dj := 45) rfl rfl ?_
  refine KOps.move ?_
  refine KOps.guardYes (dj := 45) rfl rfl ?_
  refine KOps.neqF (rfl) ?_
  refine KOps.pickF ?_
  refine KOps.move ?_
  refine KOps.guardYes (dj := 49) rfl rfl ?_
  refine KOps.move ?_
  refine KOps.guardYes (dj := 49) rfl rfl ?_
  refine KOps.move ?_
  refine KOps.guardYes (dj := 49) rfl rfl ?_
  refine KOps.neqF (rfl) ?_
  refine KOps.pickF ?_
  refine KOps.done ?_
  refine sqN.normal ?_
  refine NA.sub (Sub.cons (t := 1) Look.eq (Sub.cons (t := 5) Look.eq (Sub.cons (t := 6) Look.eq (Sub.cons (t := 53) Look.eq (Sub.nil _))))) ?_
  refine NA.condF ?_
  refine NA.skip ?_
  refine sqN.normal ?_
  refine NA.sub (Sub.cons (t := 1) Look.eq (Sub.cons (t := 5) Look.eq (Sub.cons (t := 6) Look.eq (Sub.nil _)))) ?_
  refine NA.seq ?_
  refine NA.region rfl ?_
  refine KOps.alloc hS ?_
  intro p10 h' hp10 hS
  refine KOps.done ?_
  refine sqN.normal ?_
  refine NA.seq ?_
  refine NA.seq ?_
  refine NA.region rfl ?_
  refine KOps.move ?_
  refine KOps.shl (by omega) ?_
  rw [shl16 n (by omega)]
  refine KOps.move ?_
  refine KOps.done ?_
  refine sqN.normal ?_
  refine NA.sub (Sub.cons (t := 1) Look.eq (Sub.cons (t := 5) Look.eq (Sub.cons (t := 6) Look.eq (Sub.cons (t := 10) Look.eq (Sub.cons (t := 55) Look.eq (Sub.cons (t := 56) Look.eq (Sub.nil _))))))) ?_
  refine NA.block ?_
  refine NA.loop (X := Nat × AV) (fun x_ => [(1, .int .u16 (x : Int)), (5, .int .i64 (n : Int)), (6, .int .i64 ((mostN n : Nat) : Int)), (10, p10), (55, .int .u16 ((2 ^ n : Nat) : Int)), (56, .int .u16 (x_.1 : Int))]) (fun x_ h' => x_.1 ≤ 2 ^ n ∧ St h h' [⟨p10, 0, [x_.2], true⟩, ⟨x_.2, 1, wcs (wsN x_.1 n), true⟩]) (fun x_ => 2 ^ n - x_.1) (0, .nils) (by repeat (first | exact Sub.nil _ | refine Sub.cons Look.eq ?_ | refine Sub.cons (Eq.trans Look.eq (congrArg (AV.int _) (by first | omega | (dsimp only; omega)))) ?_)) ?_ ?_
  · exact ⟨Nat.zero_le _, St.pick [1, 0] (by decide) rfl (hS.nil 1)⟩
  rintro ⟨i, vo⟩ h2 ⟨hi, hS⟩
  dsimp only at hi hS ⊢
  have hwn := wsN_len i n
  refine NA.seq ?_
  refine NA.region rfl ?_
  refine KOps.lss ?_
  refine KOps.done ?_
  refine sqN.normal ?_
  refine NA.seq ?_
  refine NA.condD ?_ ?_
  · intro c57
    refine NA.skip ?_
    refine sqN.normal ?_
    refine NA.sub (Sub.cons (t := 1) Look.eq (Sub.cons (t := 5) Look.eq (Sub.cons (t := 6) Look.eq (Sub.cons (t := 10) Look.eq (Sub.cons (t := 55) Look.eq (Sub.cons (t := 56) Look.eq (Sub.nil _))))))) ?_
    refine NA.seq ?_
    refine NA.block ?_
    refine NA.seq ?_
    refine NA.region rfl ?_
    refine KOps.move ?_
    refine KOps.assign ?_
    refine KOps.done ?_
    refine sqN.normal ?_
    refine NA.sub (Sub.cons (t := 1) Look.eq (Sub.cons (t := 5) Look.eq (Sub.cons (t := 6) Look.eq (Sub.cons (t := 10) Look.eq (Sub.cons (t := 11) Look.eq (Sub.cons (t := 55) Look.eq (Sub.cons (t := 56) Look.eq (Sub.nil _)))))))) ?_
    refine NA.draw [3, 5] mixed rfl (by kernel_rfl) ?_
    refine KOps.loadBox hS (i := 0) rfl hp10 ?_
    refine KOps.move ?_
    refine KOps.move ?_
    refine KOps.callK (by intro _ _ hr; exact hr.2 ▸ Keeps.refl _) (word_c (x := i) (n := n) (by omega) (by omega)) ?_
    rintro _ _ ⟨rfl, rfl⟩
    refine KOps.buildSlice hS rfl (by decide) rfl ?_
    intro v63 h' hS
    refine KOps.appendW1 hS (fun _ => rfl) (i := 1) rfl (by first | omega | (simp; done) | (simp; omega)) ?_
    intro r64 h' hr64 hS
    refine KOps.storeBox hS rfl (i := 0) rfl hp10 (by first | rfl | assumption | exact St.one hS (k := 1) rfl) ?_
    intro h' hS
    refine KOps.done ?_
    refine blQ.normal ?_
    refine sqN.normal ?_
    refine NA.sub (Sub.cons (t := 1) Look.eq (Sub.cons (t := 5) Look.eq (Sub.cons (t := 6) Look.eq (Sub.cons (t := 10) Look.eq (Sub.cons (t := 55) Look.eq (Sub.cons (t := 56) Look.eq (Sub.nil _))))))) ?_
    refine NA.region rfl ?_
    refine KOps.addK (wrapU16 (by first | omega | (simp; omega)) (by first | omega | (simp; omega))) ?_
    refine KOps.move ?_
    refine KOps.done ?_
    rw [← wsN_succ] at hS
    exact lpQ.normal (i + 1, _) (by repeat (first | exact Sub.nil _ | refine Sub.cons Look.eq ?_ | refine Sub.cons (Eq.trans Look.eq (congrArg (AV.int _) (by first | omega | (dsimp only; omega)))) ?_)) ⟨by dsimp only; omega, hS⟩ (by dsimp only; omega)
  · intro c57
    refine NA.exit ?_
    refine sqN.exit ?_
    refine lpQ.exit ?_
    refine blQ.here ?_
    refine sqN.normal ?_
    refine NA.sub (Sub.cons (t := 1) Look.eq (Sub.cons (t := 5) Look.eq (Sub.cons (t := 6) Look.eq (Sub.cons (t := 10) Look.eq (Sub.nil _))))) ?_
    refine NA.seq ?_
    refine NA.region rfl ?_
    have hin : i = 2 ^ n := by omega
    subst hin
    obtain ⟨vw, hvw⟩ : ∃ u, u = vo := ⟨_, rfl⟩
    rw [← hvw] at hS
    clear hvw
    refine KOps.makeMap hS rfl ?_
    intro v66 h' hv66 hS
    obtain ⟨bm, rfl⟩ := hv66
    refine KOps.alloc hS ?_
    intro p12 h' hp12 hS
    refine KOps.storeBox hS rfl (i := 0) rfl hp12 (by first | rfl | assumption | exact St.one hS (k := 1) rfl) ?_
    intro h' hS
    refine KOps.done ?_
    refine sqN.normal ?_
    refine NA.sub (Sub.cons (t := 1) Look.eq (Sub.cons (t := 5) Look.eq (Sub.cons (t := 6) Look.eq (Sub.cons (t := 10) Look.eq (Sub.cons (t := 12) Look.eq (Sub.nil _)))))) ?_
    refine NA.seq ?_
    refine NA.seq ?_
    refine NA.region rfl ?_
    refine KOps.loadBox hS (i := 2) rfl hp10 ?_
    refine KOps.lenI (hS.rd 3 rfl) ?_
    refine KOps.move ?_
    refine KOps.done ?_
    refine sqN.normal ?_
    refine NA.block ?_
    refine NA.loop (X := Nat × List ((Nat × Nat) × Bool)) (fun x_ => [(1, .int .u16 (x : Int)), (5, .int .i64 (n : Int)), (6, .int .i64 ((mostN n : Nat) : Int)), (10, p10), (12, p12), (67, vw), (68, .int .i64 ((2 ^ n : Nat) : Int)), (69, .int .i64 (x_.1 : Int))]) (fun x_ h' => x_.1 ≤ 2 ^ n ∧ (∀ a b, a < 2 ^ n → b < 2 ^ n → gp x_.2 a b = (decide (a < x_.1) && clW n a b)) ∧ St h h' [mapO (.mp bm) (pairE x_.2), ⟨p12, 0, [.mp bm], true⟩, ⟨p10, 0, [vw], true⟩, ⟨vw, 1, wcs (wsN (2 ^ n) n), true⟩]) (fun x_ => 2 ^ n - x_.1) (0, []) (by repeat (first | exact Sub.nil _ | refine Sub.cons Look.eq ?_ | refine Sub.cons (Eq.trans Look.eq (congrArg (AV.int _) (by first | omega | (dsimp only; omega)))) ?_ | refine Sub.cons (Eq.trans Look.eq (congrArg (fun x : Nat => AV.int .i64 (x : Int)) (wsN_len _ _))) ?_)) ?_ ?_
    · exact ⟨Nat.zero_le _, fun a b _ _ => by rw [decide_eq_false (Nat.not_lt_zero _)]; rfl, St.pick [1, 0, 2, 3] (by decide) rfl hS⟩
    rintro ⟨i, L⟩ h3 ⟨hi, hL, hS⟩
    dsimp only at hi hL hS ⊢
    have hwl2 := wsN_len (2 ^ n) n
    refine NA.seq ?_
    refine NA.region rfl ?_
    refine KOps.lss ?_
    refine KOps.done ?_
    refine sqN.normal ?_
    refine NA.seq ?_
    refine NA.condD ?_ ?_
    · intro c70
      refine NA.skip ?_
      refine sqN.normal ?_
      refine NA.sub (Sub.cons (t := 1) Look.eq (Sub.cons (t := 5) Look.eq (Sub.cons (t := 6) Look.eq (Sub.cons (t := 10) Look.eq (Sub.cons (t := 12) Look.eq (Sub.cons (t := 67) Look.eq (Sub.cons (t := 68) Look.eq (Sub.cons (t := 69) Look.eq (Sub.nil _))))))))) ?_
      refine NA.seq ?_
      refine NA.block ?_
      refine NA.seq ?_
      refine NA.region rfl ?_
      refine KOps.move ?_
      refine KOps.indexIJ (hS.rd 3 rfl) (j := i) rfl (by first | omega | (simp; done) | (simp; omega)) ?_
      intro p72 hp72
      refine KOps.loadW hp72 (hS.rd 3 rfl) (by first | omega | (simp; done) | (simp; omega)) ?_
      refine KOps.assign ?_
      refine KOps.assign ?_
      refine KOps.done ?_
      refine sqN.normal ?_
      refine NA.sub (Sub.cons (t := 1) Look.eq (Sub.cons (t := 5) Look.eq (Sub.cons (t := 6) Look.eq (Sub.cons (t := 10) Look.eq (Sub.cons (t := 12) Look.eq (Sub.cons (t := 13) Look.eq (Sub.cons (t := 14) Look.eq (Sub.cons (t := 67) Look.eq (Sub.cons (t := 68) Look.eq (Sub.cons (t := 69) Look.eq (Sub.nil _))))))))))) ?_
      refine NA.seq ?_
      refine NA.region rfl ?_
      have hin : i < 2 ^ n := by omega
      rw [wsN_get hin]
      refine KOps.loadBox hS (i := 2) rfl hp10 ?_
      refine KOps.lenI (hS.rd 3 rfl) ?_
      refine KOps.move ?_
      refine KOps.done ?_
      refine sqN.normal ?_
      refine NA.block ?_
      refine NA.loop (X := Nat × List ((Nat × Nat) × Bool)) (fun x_ => [(1, .int .u16 (x : Int)), (5, .int .i64 (n : Int)), (6, .int .i64 ((mostN n : Nat) : Int)), (10, p10), (12, p12), (13, .int .i64 (i : Int)), (14, .str (wd (wordN i n))), (67, vw), (68, .int .i64 ((2 ^ n : Nat) : Int)), (69, .int .i64 (i : Int)), (74, vw), (75, .int .i64 ((2 ^ n : Nat) : Int)), (76, .int .i64 (x_.1 : Int))]) (fun x_ h' => x_.1 ≤ 2 ^ n ∧ (∀ a b, a < 2 ^ n → b < 2 ^ n → gp x_.2 a b = if a = i then (decide (b < x_.1) && clW n a b) else (decide (a < i) && clW n a b)) ∧ St h h' [mapO (.mp bm) (pairE x_.2), ⟨p12, 0, [.mp bm], true⟩, ⟨p10, 0, [vw], true⟩, ⟨vw, 1, wcs (wsN (2 ^ n) n), true⟩]) (fun x_ => 2 ^ n - x_.1) (0, L) (by repeat (first | exact Sub.nil _ | refine Sub.cons Look.eq ?_ | refine Sub.cons (Eq.trans Look.eq (congrArg (AV.int _) (by first | omega | (dsimp only; omega)))) ?_ | refine Sub.cons (Eq.trans Look.eq (congrArg (fun x : Nat => AV.int .i64 (x : Int)) (wsN_len _ _))) ?_)) ?_ ?_
      · exact ⟨Nat.zero_le _, row_start hL, hS⟩
      rintro ⟨j, L⟩ h4 ⟨hj, hL, hS⟩
      dsimp only at hj hL hS ⊢
      refine NA.seq ?_
      refine NA.region rfl ?_
      refine KOps.lss ?_
      refine KOps.done ?_
      refine sqN.normal ?_
      refine NA.seq ?_
      refine NA.condD ?_ ?_
      · intro c77
        refine NA.skip ?_
        refine sqN.normal ?_
        refine NA.sub (Sub.cons (t := 1) Look.eq (Sub.cons (t := 5) Look.eq (Sub.cons (t := 6) Look.eq (Sub.cons (t := 10) Look.eq (Sub.cons (t := 12) Look.eq (Sub.cons (t := 13) Look.eq (Sub.cons (t := 14) Look.eq (Sub.cons (t := 67) Look.eq (Sub.cons (t := 68) Look.eq (Sub.cons (t := 69) Look.eq (Sub.cons (t := 74) Look.eq (Sub.cons (t := 75) Look.eq (Sub.cons (t := 76) Look.eq (Sub.nil _)))))))))))))) ?_
        refine NA.seq ?_
        refine NA.block ?_
        refine NA.seq ?_
        refine NA.region rfl ?_
        refine KOps.move ?_
        refine KOps.indexIJ (hS.rd 3 rfl) (j := j) rfl (by first | omega | (simp; done) | (simp; omega)) ?_
        intro p79 hp79
        refine KOps.loadW hp79 (hS.rd 3 rfl) (by first | omega | (simp; done) | (simp; omega)) ?_
        refine KOps.assign ?_
        refine KOps.assign ?_
        refine KOps.done ?_
        refine sqN.normal ?_
        refine NA.sub (Sub.cons (t := 1) Look.eq (Sub.cons (t := 5) Look.eq (Sub.cons (t := 6) Look.eq (Sub.cons (t := 10) Look.eq (Sub.cons (t := 12) Look.eq (Sub.cons (t := 13) Look.eq (Sub.cons (t := 14) Look.eq (Sub.cons (t := 15) Look.eq (Sub.cons (t := 16) Look.eq (Sub.cons (t := 67) Look.eq (Sub.cons (t := 68) Look.eq (Sub.cons (t := 69) Look.eq (Sub.cons (t := 74) Look.eq (Sub.cons (t := 75) Look.eq (Sub.cons (t := 76) Look.eq (Sub.nil _)))))))))))))))) ?_
        refine NA.seq ?_
        refine NA.region rfl ?_
        have hjn : j < 2 ^ n := by omega
        rw [wsN_get hjn]
        have hLij : gp L i j = false := by rw [hL i j hin hjn, if_pos rfl, decide_eq_false (Nat.lt_irrefl _)]; rfl
        refine KOps.move ?_
        refine KOps.call rfl (shorts_c (by rw [wordN_len]; omega)) ?_
        rintro v82 h82 ⟨P82, hv82, hnd82, hm82, hS82⟩
        obtain ⟨bm82, rfl⟩ := hv82
        have hS0 : St _ _ (_ :: _) := St.trans hS hS82
        clear hS
        have hS := hS0
        clear hS0
        refine KOps.mrange hS (St.rdM hS 0 rfl ⟨_, rfl⟩) ?_
        intro v83 h' hv83 hS
        refine KOps.done ?_
        refine sqN.normal ?_
        refine NA.sub (Sub.cons (t := 1) Look.eq (Sub.cons (t := 5) Look.eq (Sub.cons (t := 6) Look.eq (Sub.cons (t := 10) Look.eq (Sub.cons (t := 12) Look.eq (Sub.cons (t := 13) Look.eq (Sub.cons (t := 14) Look.eq (Sub.cons (t := 15) Look.eq (Sub.cons (t := 16) Look.eq (Sub.cons (t := 67) Look.eq (Sub.cons (t := 68) Look.eq (Sub.cons (t := 69) Look.eq (Sub.cons (t := 74) Look.eq (Sub.cons (t := 75) Look.eq (Sub.cons (t := 76) Look.eq (Sub.cons (t := 83) Look.eq (Sub.nil _))))))))))))))))) ?_
        refine NA.block ?_
        refine NA.loop (X := List Nat × List ((Nat × Nat) × Bool)) (fun x_ => [(1, .int .u16 (x : Int)), (5, .int .i64 (n : Int)), (6, .int .i64 ((mostN n : Nat) : Int)), (10, p10), (12, p12), (13, .int .i64 (i : Int)), (14, .str (wd (wordN i n))), (15, .int .i64 (j : Int)), (16, .str (wd (wordN j n))), (67, vw), (68, .int .i64 ((2 ^ n : Nat) : Int)), (69, .int .i64 (i : Int)), (74, vw), (75, .int .i64 ((2 ^ n : Nat) : Int)), (76, .int .i64 (j : Int)), (83, v83)]) (fun x_ h' => OkD (setE P82).length x_.1 ∧ (gp x_.2 i j = true ↔ ∃ q ∈ x_.1, ∃ z, P82[q]? = some z ∧ isDel (wordN j n) z = true) ∧ (∀ a b, a < 2 ^ n → b < 2 ^ n → ¬ (a = i ∧ b = j) → gp x_.2 a b = gp L a b) ∧ St h h' [mwalkO v83 bm82 (setE P82).length x_.1, setO (.mp bm82) P82, mapO (.mp bm) (pairE x_.2), ⟨p12, 0, [.mp bm], true⟩, ⟨p10, 0, [vw], true⟩, ⟨vw, 1, wcs (wsN (2 ^ n) n), true⟩]) (fun x_ => (setE P82).length + 1 - x_.1.length) ([], L) (by repeat (first | exact Sub.nil _ | refine Sub.cons Look.eq ?_ | refine Sub.cons (Eq.trans Look.eq (congrArg (AV.int _) (by first | omega | (dsimp only; omega)))) ?_)) ?_ ?_
        · exact ⟨OkD.nil _, ⟨fun q => (by rw [hLij] at q; cases q), fun ⟨q, hq, _⟩ => (by cases hq)⟩, fun a b _ _ _ => rfl, hS⟩
        rintro ⟨D, L2⟩ h5 ⟨hD, hg1, hg2, hS⟩
        dsimp only at hD hg1 hg2 hS ⊢
        have hDl := hD.len
        refine NA.seq ?_
        refine NA.regionNext (es := setE P82) (D := D) rfl hD hS hv83 (i := 0) rfl (St.rdM hS 1 rfl ⟨_, rfl⟩) ?_ ?_
        · intro nj nk nu hnj hnk h' hS
          simp only [List.set_cons_zero, List.set_cons_succ, Nat.zero_add] at hS
          obtain ⟨z, hz, rfl, rfl⟩ := set_at hnk
          refine KOps.extract ?_
          refine KOps.done ?_
          refine sqN.normal ?_
          refine NA.sub (Sub.cons (t := 1) Look.eq (Sub.cons (t := 5) Look.eq (Sub.cons (t := 6) Look.eq (Sub.cons (t := 10) Look.eq (Sub.cons (t := 12) Look.eq (Sub.cons (t := 13) Look.eq (Sub.cons (t := 14) Look.eq (Sub.cons (t := 15) Look.eq (Sub.cons (t := 16) Look.eq (Sub.cons (t := 67) Look.eq (Sub.cons (t := 68) Look.eq (Sub.cons (t := 69) Look.eq (Sub.cons (t := 74) Look.eq (Sub.cons (t := 75) Look.eq (Sub.cons (t := 76) Look.eq (Sub.cons (t := 83) Look.eq (Sub.cons (t := 85) Look.eq (Sub.nil _)))))))))))))))))) ?_
          refine NA.seq ?_
          refine NA.condT ?_
          refine NA.skip ?_
          refine sqN.normal ?_
          refine NA.sub (Sub.cons (t := 1) Look.eq (Sub.cons (t := 5) Look.eq (Sub.cons (t := 6) Look.eq (Sub.cons (t := 10) Look.eq (Sub.cons (t := 12) Look.eq (Sub.cons (t := 13) Look.eq (Sub.cons (t := 14) Look.eq (Sub.cons (t := 15) Look.eq (Sub.cons (t := 16) Look.eq (Sub.cons (t := 67) Look.eq (Sub.cons (t := 68) Look.eq (Sub.cons (t := 69) Look.eq (Sub.cons (t := 74) Look.eq (Sub.cons (t := 75) Look.eq (Sub.cons (t := 76) Look.eq (Sub.cons (t := 83) Look.eq (Sub.nil _))))))))))))))))) ?_
          refine NA.block ?_
          refine NA.seq ?_
          refine NA.region rfl ?_
          refine KOps.mentry hS hv83 (i := 0) rfl (St.rdM hS 1 rfl ⟨_, rfl⟩) rfl hnk ?_
          refine KOps.extract ?_
          refine KOps.assign ?_
          refine KOps.done ?_
          refine sqN.normal ?_
          refine NA.sub (Sub.cons (t := 1) Look.eq (Sub.cons (t := 5) Look.eq (Sub.cons (t := 6) Look.eq (Sub.cons (t := 10) Look.eq (Sub.cons (t := 12) Look.eq (Sub.cons (t := 13) Look.eq (Sub.cons (t := 14) Look.eq (Sub.cons (t := 15) Look.eq (Sub.cons (t := 16) Look.eq (Sub.cons (t := 17) Look.eq (Sub.cons (t := 67) Look.eq (Sub.cons (t := 68) Look.eq (Sub.cons (t := 69) Look.eq (Sub.cons (t := 74) Look.eq (Sub.cons (t := 75) Look.eq (Sub.cons (t := 76) Look.eq (Sub.cons (t := 83) Look.eq (Sub.nil _)))))))))))))))))) ?_
          refine NA.draw [8, 11, 13] mixed rfl (by kernel_rfl) ?_
          refine KOps.loadBox hS (i := 3) rfl hp12 ?_
          refine KOps.move ?_
          refine KOps.move ?_
          refine KOps.buildS2 (z0 := .int .i64 0) (z1 := .int .i64 0) (by kernel_rfl) (by rfl) (by kernel_rfl) (by kernel_rfl) (by kernel_rfl) (by first | rfl | assumption) (by first | rfl | assumption) ?_
          refine KOps.loadBox hS (i := 3) rfl hp12 ?_
          refine KOps.move ?_
          refine KOps.move ?_
          refine KOps.buildS2 (z0 := .int .i64 0) (z1 := .int .i64 0) (by kernel_rfl) (by rfl) (by kernel_rfl) (by kernel_rfl) (by kernel_rfl) (by first | rfl | assumption) (by first | rfl | assumption) ?_
          refine KOps.hasP (a := i) (b := j) (St.rdM hS 2 rfl ⟨_, rfl⟩) ?_
          refine KOps.move ?_
          refine KOps.guardB (dj := 97) rfl rfl false true rfl ?_ ?_
          · intro g97
            refine KOps.move ?_
            refine KOps.guardYes (dj := 97) rfl rfl ?_
            refine KOps.callK (by intro _ _ hr; obtain ⟨_, _, _, _, hSx⟩ := hr; exact hSx.keeps) (shorts_c (by rw [wordN_len]; omega)) ?_
            rintro v99 h99 ⟨P99, hv99, hnd99, hm99, hS99⟩
            obtain ⟨bm99, rfl⟩ := hv99
            have hS0 : St _ _ (_ :: _) := St.trans hS hS99
            clear hS
            have hS := hS0
            clear hS0
            refine KOps.guardYes (dj := 97) rfl rfl ?_
            refine KOps.move ?_
            refine KOps.guardYes (dj := 97) rfl rfl ?_
            refine KOps.setHasE (St.rdM hS 0 rfl ⟨_, rfl⟩) ?_
            refine KOps.pickF ?_
            first
             | refine KOps.putP (a := i) (b := j) (L := L2) hS ⟨_, rfl⟩ (i := 3) rfl rfl ?_
             | refine KOps.putP (a := i) (b := j) (L := L2) hS ⟨_, rfl⟩ (i := 2) rfl rfl ?_
            intro h' hS
            simp only [List.set_cons_zero, List.set_cons_succ, Nat.zero_add] at hS
            refine KOps.done ?_
            refine blQ.normal ?_
            have hDs := hD.snoc hnj (List.getElem?_eq_some_iff.1 hnk).1
            have hDl2 := hDs.len
            rw [List.length_append] at hDl2
            refine lpQ.normal (D ++ [nj], mput L2 (i, j) (decide (z ∈ P99))) (by repeat (first | exact Sub.nil _ | refine Sub.cons Look.eq ?_ | refine Sub.cons (Eq.trans Look.eq (congrArg (AV.int _) (by first | omega | (dsimp only; omega)))) ?_)) ⟨hDs, set_new hg1 (by simpa using g97) hz hm99, fun a b ha hb hne => by rw [gp_put, if_neg hne]; exact hg2 a b ha hb hne, St.drop (A := [_]) hS⟩ (by dsimp only; rw [List.length_append]; simp only [List.length_cons, List.length_nil] at hDl2 ⊢; omega)
          · intro g97
            refine KOps.guardNo (dj := 97) rfl rfl rfl ?_
            refine KOps.guardNo (dj := 97) rfl rfl rfl ?_
            refine KOps.guardNo (dj := 97) rfl rfl rfl ?_
            refine KOps.pickT ?_
            first
             | refine KOps.putP (a := i) (b := j) (L := L2) hS ⟨_, rfl⟩ (i := 3) rfl rfl ?_
             | refine KOps.putP (a := i) (b := j) (L := L2) hS ⟨_, rfl⟩ (i := 2) rfl rfl ?_
            intro h' hS
            simp only [List.set_cons_zero, List.set_cons_succ, Nat.zero_add] at hS
            refine KOps.done ?_
            refine blQ.normal ?_
            have hDs := hD.snoc hnj (List.getElem?_eq_some_iff.1 hnk).1
            have hDl2 := hDs.len
            rw [List.length_append] at hDl2
            refine lpQ.normal (D ++ [nj], mput L2 (i, j) true) (by repeat (first | exact Sub.nil _ | refine Sub.cons Look.eq ?_ | refine Sub.cons (Eq.trans Look.eq (congrArg (AV.int _) (by first | omega | (dsimp only; omega)))) ?_)) ⟨hDs, set_yes (hg1.1 g97), fun a b ha hb hne => by rw [gp_put, if_neg hne]; exact hg2 a b ha hb hne, hS⟩ (by dsimp only; rw [List.length_append]; simp only [List.length_cons, List.length_nil] at hDl2 ⊢; omega)
        · intro hall
          refine KOps.extract ?_
          refine KOps.done ?_
          refine sqN.normal ?_
          refine NA.sub (Sub.cons (t := 1) Look.eq (Sub.cons (t := 5) Look.eq (Sub.cons (t := 6) Look.eq (Sub.cons (t := 10) Look.eq (Sub.cons (t := 12) Look.eq (Sub.cons (t := 13) Look.eq (Sub.cons (t := 14) Look.eq (Sub.cons (t := 15) Look.eq (Sub.cons (t := 16) Look.eq (Sub.cons (t := 67) Look.eq (Sub.cons (t := 68) Look.eq (Sub.cons (t := 69) Look.eq (Sub.cons (t := 74) Look.eq (Sub.cons (t := 75) Look.eq (Sub.cons (t := 76) Look.eq (Sub.cons (t := 83) Look.eq (Sub.cons (t := 85) Look.eq (Sub.nil _)))))))))))))))))) ?_
          refine NA.seq ?_
          refine NA.condF ?_
          refine NA.exit ?_
          refine sqN.exit ?_
          refine lpQ.exit ?_
          refine blQ.here ?_
          refine blQ.normal ?_
          refine sqN.normal ?_
          refine NA.sub (Sub.cons (t := 1) Look.eq (Sub.cons (t := 5) Look.eq (Sub.cons (t := 6) Look.eq (Sub.cons (t := 10) Look.eq (Sub.cons (t := 12) Look.eq (Sub.cons (t := 13) Look.eq (Sub.cons (t := 14) Look.eq (Sub.cons (t := 67) Look.eq (Sub.cons (t := 68) Look.eq (Sub.cons (t := 69) Look.eq (Sub.cons (t := 74) Look.eq (Sub.cons (t := 75) Look.eq (Sub.cons (t := 76) Look.eq (Sub.nil _)))))))))))))) ?_
          refine NA.region rfl ?_
          refine KOps.add (by first | omega | (simp; omega)) (by first | omega | (simp; omega)) ?_
          refine KOps.move ?_
          refine KOps.done ?_
          exact lpQ.normal (j + 1, L2) (by repeat (first | exact Sub.nil _ | refine Sub.cons Look.eq ?_ | refine Sub.cons (Eq.trans Look.eq (congrArg (AV.int _) (by first | omega | (dsimp only; omega)))) ?_)) ⟨by dsimp only; omega, cell_next hin hjn hg1 hg2 hall (by rw [setE_len]) hm82 hL, St.pick [2, 3, 4, 5] (by decide) rfl hS⟩ (by dsimp only; omega)
      · intro c77
        refine NA.exit ?_
        refine sqN.exit ?_
        refine lpQ.exit ?_
        refine blQ.here ?_
        refine blQ.normal ?_
        refine sqN.normal ?_
        refine NA.sub (Sub.cons (t := 1) Look.eq (Sub.cons (t := 5) Look.eq (Sub.cons (t := 6) Look.eq (Sub.cons (t := 10) Look.eq (Sub.cons (t := 12) Look.eq (Sub.cons (t := 67) Look.eq (Sub.cons (t := 68) Look.eq (Sub.cons (t := 69) Look.eq (Sub.nil _))))))))) ?_
        refine NA.region rfl ?_
        refine KOps.add (by first | omega | (simp; omega)) (by first | omega | (simp; omega)) ?_
        refine KOps.move ?_
        refine KOps.done ?_
        have hje : j = 2 ^ n := by omega
        subst hje
        exact lpQ.normal (i + 1, L) (by repeat (first | exact Sub.nil _ | refine Sub.cons Look.eq ?_ | refine Sub.cons (Eq.trans Look.eq (congrArg (AV.int _) (by first | omega | (dsimp only; omega)))) ?_)) ⟨by dsimp only; omega, row_next hL, hS⟩ (by dsimp only; omega)
    · intro c70
      refine NA.exit ?_
      refine sqN.exit ?_
      refine lpQ.exit ?_
      refine blQ.here ?_
      refine sqN.normal ?_
      refine NA.sub (Sub.cons (t := 1) Look.eq (Sub.cons (t := 5) Look.eq (Sub.cons (t := 6) Look.eq (Sub.cons (t := 10) Look.eq (Sub.cons (t := 12) Look.eq (Sub.nil _)))))) ?_
      refine NA.seq ?_
      refine NA.region rfl ?_
      refine KOps.alloc hS ?_
      intro p18 h' hp18 hS
      refine KOps.storeBox hS rfl (i := 0) rfl hp18 (by first | rfl | assumption) ?_
      intro h' hS
      refine KOps.done ?_
      refine sqN.normal ?_
      refine NA.seq ?_
      refine NA.region rfl ?_
      refine KOps.alloc hS ?_
      intro p19 h' hp19 hS
      refine KOps.done ?_
      refine sqN.normal ?_
      refine NA.seq ?_
      refine NA.region rfl ?_
      refine KOps.makeFunc ?_
      refine KOps.storeBox hS rfl (i := 0) rfl hp19 (by first | rfl | assumption) ?_
      intro h' hS
      refine KOps.done ?_
      refine sqN.normal ?_
      refine NA.sub (Sub.cons (t := 1) Look.eq (Sub.cons (t := 5) Look.eq (Sub.cons (t := 6) Look.eq (Sub.cons (t := 18) Look.eq (Sub.cons (t := 19) Look.eq (Sub.nil _)))))) ?_
      refine NA.seq ?_
      refine NA.region rfl ?_
      refine KOps.loadBox hS (i := 0) rfl hp19 ?_
      refine KOps.call rfl (all_sets_c hp18 hp10 hp12 hp19 (W := wsN (2 ^ n) n) (L := L) (sf := sfW n) (by rw [wsN_len]; omega) (fun a b ha hb => by
        rw [wsN_len] at ha hb
        rw [hL a b ha hb, decide_eq_true (by omega), Bool.true_and]; unfold sfW; rw [Bool.not_not]) _ (i0 := 0) (b := 0) (l := []) (v := .nils) (F := []) rfl (Nat.zero_le _) (fun j hj => by cases hj) (Nat.le_refl _) (fun _ => rfl) (St.pick [2, 5, 6, 4, 3, 1, 0] (by decide) rfl (hS.nil 1))) ?_
      rintro _ h9 hS9
      clear hS
      have hS := hS9
      have hbest : max 0 (([] : List Nat).length + misL (sfW n) (cand (sfW n) (wsN (2 ^ n) n).length 0 [])) = mostN n := by rw [wsN_len, cand_all, hmw.1]; simp
      rw [hbest] at hS
      refine KOps.done ?_
      refine sqN.normal ?_
      refine NA.sub (Sub.cons (t := 1) Look.eq (Sub.cons (t := 5) Look.eq (Sub.cons (t := 6) Look.eq (Sub.cons (t := 18) Look.eq (Sub.nil _))))) ?_
      refine NA.seq ?_
      refine NA.region rfl ?_
      refine KOps.assign ?_
      refine KOps.done ?_
      refine sqN.normal ?_
      refine NA.seq ?_
      refine NA.seq ?_
      refine NA.region rfl ?_
      refine KOps.move ?_
      refine KOps.done ?_
      refine sqN.normal ?_
      refine NA.block ?_
      refine NA.loop (X := Nat × AV × List (List Bool)) (fun x_ => [(1, .int .u16 (x : Int)), (5, .int .i64 (n : Int)), (6, .int .i64 ((mostN n : Nat) : Int)), (18, p18), (20, x_.2.1), (108, .int .i64 (x_.1 : Int))]) (fun x_ h' => x_.1 ≤ 4 ∧ x_.2.2.length ≤ x_.1 ∧ x_.2.2.Nodup ∧ (∀ w ∈ x_.2.2, w.length = n) ∧ St h h' [⟨x_.2.1, 1, wcs x_.2.2, true⟩, ⟨p18, 0, [.int .i64 ((mostN n : Nat) : Int)], true⟩]) (fun x_ => 4 - x_.1) (0, .nils, []) (by repeat (first | exact Sub.nil _ | refine Sub.cons Look.eq ?_ | refine Sub.cons (Eq.trans Look.eq (congrArg (AV.int _) (by first | omega | (dsimp only; omega)))) ?_)) ?_ ?_
      · exact ⟨Nat.zero_le _, Nat.le_refl _, List.nodup_nil, fun w hw => (by cases hw), (St.pick [0] (by decide) rfl hS).nil 1⟩
      rintro ⟨c, vs, ws⟩ h6 ⟨hc, hwl, hnd, hwn, hS⟩
      dsimp only at hc hwl hnd hwn hS ⊢
      refine NA.seq ?_
      refine NA.region rfl ?_
      refine KOps.lss ?_
      refine KOps.done ?_
      refine sqN.normal ?_
      refine NA.seq ?_
      refine NA.condD ?_ ?_
      · intro c109
        refine NA.skip ?_
        refine sqN.normal ?_
        refine NA.sub (Sub.cons (t := 1) Look.eq (Sub.cons (t := 5) Look.eq (Sub.cons (t := 6) Look.eq (Sub.cons (t := 18) Look.eq (Sub.cons (t := 20) Look.eq (Sub.cons (t := 108) Look.eq (Sub.nil _))))))) ?_
        refine NA.seq ?_
        refine NA.block ?_
        refine NA.seq ?_
        refine NA.region rfl ?_
        refine KOps.move ?_
        refine KOps.assign ?_
        refine KOps.done ?_
        refine sqN.normal ?_
        refine NA.sub (Sub.cons (t := 1) Look.eq (Sub.cons (t := 5) Look.eq (Sub.cons (t := 6) Look.eq (Sub.cons (t := 18) Look.eq (Sub.cons (t := 20) Look.eq (Sub.cons (t := 21) Look.eq (Sub.cons (t := 108) Look.eq (Sub.nil _)))))))) ?_
        refine NA.seq ?_
        refine NA.region rfl ?_
        have hxs : x >>> (3 * c) < 65536 := by
          rw [Nat.shiftRight_eq_div_pow]
          exact Nat.lt_of_le_of_lt (Nat.div_le_self ..) hx16
        refine KOps.move ?_
        refine KOps.move ?_
        refine KOps.mul (by omega) (by omega) ?_
        rw [show (3 : Int) * (c : Int) = ((3 * c : Nat) : Int) by omega]
        refine KOps.shr (by omega) ?_
        rw [shrU x (3 * c) .u16 (show 3 * c ≤ 16 by omega)]
        refine KOps.move ?_
        refine KOps.call rfl (word_c (x := x >>> (3 * c)) (n := n) hxs (by omega)) ?_
        rintro _ _ ⟨rfl, rfl⟩
        refine KOps.assign ?_
        refine KOps.done ?_
        refine sqN.normal ?_
        refine NA.sub (Sub.cons (t := 1) Look.eq (Sub.cons (t := 5) Look.eq (Sub.cons (t := 6) Look.eq (Sub.cons (t := 18) Look.eq (Sub.cons (t := 20) Look.eq (Sub.cons (t := 22) Look.eq (Sub.cons (t := 108) Look.eq (Sub.nil _)))))))) ?_
        refine NA.seq ?_
        refine NA.region rfl ?_
        refine KOps.move ?_
        refine KOps.move ?_
        refine KOps.call rfl (containsS_c (WRow.s (hS.rd 0 rfl)) (by rw [List.length_map]; omega)) ?_
        rintro _ _ ⟨rfl, rfl⟩
        rw [anyS_words]
        refine KOps.not ?_
        refine KOps.done ?_
        refine sqN.normal ?_
        refine NA.sub (Sub.cons (t := 1) Look.eq (Sub.cons (t := 5) Look.eq (Sub.cons (t := 6) Look.eq (Sub.cons (t := 18) Look.eq (Sub.cons (t := 20) Look.eq (Sub.cons (t := 22) Look.eq (Sub.cons (t := 108) Look.eq (Sub.cons (t := 120) Look.eq (Sub.nil _))))))))) ?_
        refine NA.condN ?_ ?_
        · intro c120
          refine NA.region rfl ?_
          refine KOps.move ?_
          refine KOps.move ?_
          refine KOps.buildSlice hS rfl (by decide) rfl ?_
          intro v123 h' hS
          refine KOps.appendW1 hS (fun _ => rfl) (i := 0) rfl (by first | omega | (simp; done) | (simp; omega)) ?_
          intro r124 h' hr124 hS
          refine KOps.assign ?_
          refine KOps.done ?_
          refine blQ.normal ?_
          refine sqN.normal ?_
          refine NA.sub (Sub.cons (t := 1) Look.eq (Sub.cons (t := 5) Look.eq (Sub.cons (t := 6) Look.eq (Sub.cons (t := 18) Look.eq (Sub.cons (t := 20) Look.eq (Sub.cons (t := 108) Look.eq (Sub.nil _))))))) ?_
          refine NA.region rfl ?_
          refine KOps.add (by first | omega | (simp; omega)) (by first | omega | (simp; omega)) ?_
          refine KOps.move ?_
          refine KOps.done ?_
          refine lpQ.normal (c + 1, _, ws ++ [wordN (x >>> (3 * c)) n]) (by repeat (first | exact Sub.nil _ | refine Sub.cons Look.eq ?_ | refine Sub.cons (Eq.trans Look.eq (congrArg (AV.int _) (by first | omega | (dsimp only; omega)))) ?_)) ⟨by dsimp only; omega, by dsimp only; rw [List.length_append, List.length_singleton]; omega, List.nodup_append.2 ⟨hnd, by simp, by
            rintro z hz u hu rfl
            exact c120 (List.mem_singleton.1 hu ▸ hz)⟩, fun w hw => ?_, hS⟩ (by dsimp only; omega)
          rcases List.mem_append.1 hw with hw | hw
          · exact hwn w hw
          · rw [List.mem_singleton.1 hw]; exact wordN_len _ _
        · intro c120
          refine NA.skip ?_
          refine blQ.normal ?_
          refine sqN.normal ?_
          refine NA.sub (Sub.cons (t := 1) Look.eq (Sub.cons (t := 5) Look.eq (Sub.cons (t := 6) Look.eq (Sub.cons (t := 18) Look.eq (Sub.cons (t := 20) Look.eq (Sub.cons (t := 108) Look.eq (Sub.nil _))))))) ?_
          refine NA.region rfl ?_
          refine KOps.add (by first | omega | (simp; omega)) (by first | omega | (simp; omega)) ?_
          refine KOps.move ?_
          refine KOps.done ?_
          exact lpQ.normal (c + 1, vs, ws) (by repeat (first | exact Sub.nil _ | refine Sub.cons Look.eq ?_ | refine Sub.cons (Eq.trans Look.eq (congrArg (AV.int _) (by first | omega | (dsimp only; omega)))) ?_)) ⟨by dsimp only; omega, by dsimp only; omega, hnd, hwn, hS⟩ (by dsimp only; omega)
      · intro c109
        refine NA.exit ?_
        refine sqN.exit ?_
        refine lpQ.exit ?_
        refine blQ.here ?_
        refine sqN.normal ?_
        refine NA.sub (Sub.cons (t := 6) Look.eq (Sub.cons (t := 18) Look.eq (Sub.cons (t := 20) Look.eq (Sub.nil _)))) ?_
        refine NA.seq ?_
        refine NA.region rfl ?_
        obtain ⟨A, C, e, hsv, hac⟩ := safe_fst (ws := ws) (m := n) (by omega) hwn hnd (by omega)
        refine KOps.move ?_
        refine KOps.call rfl (safeP_c (ss := ws.map wd) (WRow.s (hS.rd 0 rfl)) (by rw [List.length_map]; omega)) ?_
        rintro _ hx ⟨rfl, hK⟩
        have hS0 : St _ _ _ := St.trans hS (St.ofK hK)
        clear hS
        have hS := hS0
        clear hS0
        simp only [List.nil_append] at hS
        rw [hsv]
        refine KOps.move ?_
        refine KOps.extract ?_
        refine KOps.extract ?_
        refine KOps.extract ?_
        refine KOps.assign ?_
        refine KOps.assign ?_
        refine KOps.assign ?_
        refine KOps.done ?_
        refine sqN.normal ?_
        refine NA.sub (Sub.cons (t := 6) Look.eq (Sub.cons (t := 18) Look.eq (Sub.cons (t := 20) Look.eq (Sub.cons (t := 23) Look.eq (Sub.cons (t := 24) Look.eq (Sub.cons (t := 25) Look.eq (Sub.nil _))))))) ?_
        refine NA.seq ?_
        refine NA.seq ?_
        refine NA.region rfl ?_
        refine KOps.move ?_
        refine KOps.lenI (hS.rd 0 rfl) ?_
        refine KOps.move ?_
        refine KOps.done ?_
        refine sqN.normal ?_
        refine NA.sub (Sub.cons (t := 6) Look.eq (Sub.cons (t := 18) Look.eq (Sub.cons (t := 20) Look.eq (Sub.cons (t := 23) Look.eq (Sub.cons (t := 24) Look.eq (Sub.cons (t := 25) Look.eq (Sub.cons (t := 133) Look.eq (Sub.cons (t := 134) Look.eq (Sub.nil _))))))))) ?_
        refine NA.block ?_
        refine NA.loop (X := Nat) (fun a => [(6, .int .i64 ((mostN n : Nat) : Int)), (18, p18), (20, vs), (23, .int .i64 A), (24, .int .i64 C), (25, .int .i64 e), (133, .int .i64 (ws.length : Int)), (134, .int .i64 (a : Int))]) (fun a h' => a ≤ ws.length ∧ (∀ i k, i < a → i < k → k < ws.length → clG ws i k = false) ∧ St h h' [⟨vs, 1, wcs ws, true⟩, ⟨p18, 0, [.int .i64 ((mostN n : Nat) : Int)], true⟩]) (fun a => ws.length - a) 0 (by repeat (first | exact Sub.nil _ | refine Sub.cons Look.eq ?_ | refine Sub.cons (Eq.trans Look.eq (congrArg (AV.int _) (by first | omega | (dsimp only; omega)))) ?_)) ?_ ?_
        · exact ⟨Nat.zero_le _, fun i k q => absurd q (Nat.not_lt_zero _), hS⟩
        rintro a h7 ⟨ha, hA1, hS⟩
        refine NA.seq ?_
        refine NA.region rfl ?_
        refine KOps.lss ?_
        refine KOps.done ?_
        refine sqN.normal ?_
        refine NA.seq ?_
        refine NA.condD ?_ ?_
        · intro c135
          refine NA.skip ?_
          refine sqN.normal ?_
          refine NA.sub (Sub.cons (t := 6) Look.eq (Sub.cons (t := 18) Look.eq (Sub.cons (t := 20) Look.eq (Sub.cons (t := 23) Look.eq (Sub.cons (t := 24) Look.eq (Sub.cons (t := 25) Look.eq (Sub.cons (t := 133) Look.eq (Sub.cons (t := 134) Look.eq (Sub.nil _))))))))) ?_
          refine NA.seq ?_
          refine NA.block ?_
          refine NA.seq ?_
          refine NA.region rfl ?_
          refine KOps.move ?_
          refine KOps.assign ?_
          refine KOps.done ?_
          refine sqN.normal ?_
          refine NA.sub (Sub.cons (t := 6) Look.eq (Sub.cons (t := 18) Look.eq (Sub.cons (t := 20) Look.eq (Sub.cons (t := 23) Look.eq (Sub.cons (t := 24) Look.eq (Sub.cons (t := 25) Look.eq (Sub.cons (t := 26) Look.eq (Sub.cons (t := 133) Look.eq (Sub.cons (t := 134) Look.eq (Sub.nil _)))))))))) ?_
          refine NA.seq ?_
          refine NA.region rfl ?_
          refine KOps.move ?_
          refine KOps.add (by first | omega | (simp; omega)) (by first | omega | (simp; omega)) ?_
          refine KOps.assign ?_
          refine KOps.done ?_
          refine sqN.normal ?_
          refine NA.sub (Sub.cons (t := 6) Look.eq (Sub.cons (t := 18) Look.eq (Sub.cons (t := 20) Look.eq (Sub.cons (t := 23) Look.eq (Sub.cons (t := 24) Look.eq (Sub.cons (t := 25) Look.eq (Sub.cons (t := 26) Look.eq (Sub.cons (t := 27) Look.eq (Sub.cons (t := 133) Look.eq (Sub.cons (t := 134) Look.eq (Sub.nil _))))))))))) ?_
          refine NA.block ?_
          refine NA.loop (X := Nat) (fun b => [(6, .int .i64 ((mostN n : Nat) : Int)), (18, p18), (20, vs), (23, .int .i64 A), (24, .int .i64 C), (25, .int .i64 e), (26, .int .i64 (a : Int)), (27, .int .i64 (b : Int)), (133, .int .i64 (ws.length : Int)), (134, .int .i64 (a : Int))]) (fun b h' => a < b ∧ b ≤ ws.length ∧ (∀ k, a < k → k < b → clG ws a k = false) ∧ St h h' [⟨vs, 1, wcs ws, true⟩, ⟨p18, 0, [.int .i64 ((mostN n : Nat) : Int)], true⟩]) (fun b => ws.length - b) (a + 1) (by repeat (first | exact Sub.nil _ | refine Sub.cons Look.eq ?_ | refine Sub.cons (Eq.trans Look.eq (congrArg (AV.int _) (by first | omega | (dsimp only; omega)))) ?_)) ?_ ?_
          · exact ⟨by omega, by omega, fun k q1 q2 => absurd q2 (by omega), hS⟩
          rintro b h8 ⟨hab, hb, hA2, hS⟩
          refine NA.seq ?_
          refine NA.seq ?_
          refine NA.region rfl ?_
          refine KOps.move ?_
          refine KOps.move ?_
          refine KOps.lenI (hS.rd 0 rfl) ?_
          refine KOps.lss ?_
          refine KOps.done ?_
          refine sqN.normal ?_
          refine NA.sub (Sub.cons (t := 6) Look.eq (Sub.cons (t := 18) Look.eq (Sub.cons (t := 20) Look.eq (Sub.cons (t := 23) Look.eq (Sub.cons (t := 24) Look.eq (Sub.cons (t := 25) Look.eq (Sub.cons (t := 26) Look.eq (Sub.cons (t := 27) Look.eq (Sub.cons (t := 133) Look.eq (Sub.cons (t := 134) Look.eq (Sub.cons (t := 142) Look.eq (Sub.nil _)))))))))))) ?_
          refine NA.condD ?_ ?_
          · intro c142
            refine NA.skip ?_
            refine sqN.normal ?_
            refine NA.sub (Sub.cons (t := 6) Look.eq (Sub.cons (t := 18) Look.eq (Sub.cons (t := 20) Look.eq (Sub.cons (t := 23) Look.eq (Sub.cons (t := 24) Look.eq (Sub.cons (t := 25) Look.eq (Sub.cons (t := 26) Look.eq (Sub.cons (t := 27) Look.eq (Sub.cons (t := 133) Look.eq (Sub.cons (t := 134) Look.eq (Sub.nil _))))))))))) ?_
            refine NA.seq ?_
            refine NA.block ?_
            refine NA.seq ?_
            refine NA.region rfl ?_
            have hwla : (ws.getD a []).length = n := hwn _ (by rw [List.getD_eq_getElem?_getD, List.getElem?_eq_getElem (show a < ws.length by omega)]; exact List.getElem_mem _)
            have hwlb : (ws.getD b []).length = n := hwn _ (by rw [List.getD_eq_getElem?_getD, List.getElem?_eq_getElem (show b < ws.length by omega)]; exact List.getElem_mem _)
            refine KOps.move ?_
            refine KOps.move ?_
            refine KOps.indexIJ (hS.rd 0 rfl) (j := a) rfl (by first | omega | (simp; done) | (simp; omega)) ?_
            intro p147 hp147
            refine KOps.loadW hp147 (hS.rd 0 rfl) (by first | omega | (simp; done) | (simp; omega)) ?_
            refine KOps.call rfl (shorts_c (by omega)) ?_
            rintro v149 h149 ⟨P149, hv149, hnd149, hm149, hS149⟩
            obtain ⟨bm149, rfl⟩ := hv149
            have hS0 : St _ _ (_ :: _) := St.trans hS hS149
            clear hS
            have hS := hS0
            clear hS0
            refine KOps.mrange hS (St.rdM hS 0 rfl ⟨_, rfl⟩) ?_
            intro v150 h' hv150 hS
            refine KOps.done ?_
            refine sqN.normal ?_
            refine NA.sub (Sub.cons (t := 6) Look.eq (Sub.cons (t := 18) Look.eq (Sub.cons (t := 20) Look.eq (Sub.cons (t := 23) Look.eq (Sub.cons (t := 24) Look.eq (Sub.cons (t := 25) Look.eq (Sub.cons (t := 26) Look.eq (Sub.cons (t := 27) Look.eq (Sub.cons (t := 133) Look.eq (Sub.cons (t := 134) Look.eq (Sub.cons (t := 150) Look.eq (Sub.nil _)))))))))))) ?_
            refine NA.block ?_
            refine NA.loop (X := List Nat) (fun x_ => [(6, .int .i64 ((mostN n : Nat) : Int)), (18, p18), (20, vs), (23, .int .i64 A), (24, .int .i64 C), (25, .int .i64 e), (26, .int .i64 (a : Int)), (27, .int .i64 (b : Int)), (133, .int .i64 (ws.length : Int)), (134, .int .i64 (a : Int)), (150, v150)]) (fun x_ h' => OkD (setE P149).length x_ ∧ (∀ q ∈ x_, ∀ z, P149[q]? = some z → isDel (ws.getD b []) z = false) ∧ St h h' [mwalkO v150 bm149 (setE P149).length x_, setO (.mp bm149) P149, ⟨vs, 1, wcs ws, true⟩, ⟨p18, 0, [.int .i64 ((mostN n : Nat) : Int)], true⟩]) (fun x_ => (setE P149).length + 1 - x_.length) [] (by repeat (first | exact Sub.nil _ | refine Sub.cons Look.eq ?_ | refine Sub.cons (Eq.trans Look.eq (congrArg (AV.int _) (by first | omega | (dsimp only; omega)))) ?_)) ?_ ?_
            · exact ⟨OkD.nil _, fun q hq => (by cases hq), hS⟩
            rintro D h9 ⟨hD, hDn, hS⟩
            have hDl := hD.len
            refine NA.seq ?_
            refine NA.regionNext (es := setE P149) (D := D) rfl hD hS hv150 (i := 0) rfl (St.rdM hS 1 rfl ⟨_, rfl⟩) ?_ ?_
            · intro nj nk nu hnj hnk h' hS
              simp only [List.set_cons_zero, List.set_cons_succ, Nat.zero_add] at hS
              obtain ⟨z, hz, rfl, rfl⟩ := set_at hnk
              refine KOps.extract ?_
              refine KOps.done ?_
              refine sqN.normal ?_
              refine NA.sub (Sub.cons (t := 6) Look.eq (Sub.cons (t := 18) Look.eq (Sub.cons (t := 20) Look.eq (Sub.cons (t := 23) Look.eq (Sub.cons (t := 24) Look.eq (Sub.cons (t := 25) Look.eq (Sub.cons (t := 26) Look.eq (Sub.cons (t := 27) Look.eq (Sub.cons (t := 133) Look.eq (Sub.cons (t := 134) Look.eq (Sub.cons (t := 150) Look.eq (Sub.cons (t := 152) Look.eq (Sub.nil _))))))))))))) ?_
              refine NA.seq ?_
              refine NA.condT ?_
              refine NA.skip ?_
              refine sqN.normal ?_
              refine NA.sub (Sub.cons (t := 6) Look.eq (Sub.cons (t := 18) Look.eq (Sub.cons (t := 20) Look.eq (Sub.cons (t := 23) Look.eq (Sub.cons (t := 24) Look.eq (Sub.cons (t := 25) Look.eq (Sub.cons (t := 26) Look.eq (Sub.cons (t := 27) Look.eq (Sub.cons (t := 133) Look.eq (Sub.cons (t := 134) Look.eq (Sub.cons (t := 150) Look.eq (Sub.nil _)))))))))))) ?_
              refine NA.block ?_
              refine NA.seq ?_
              refine NA.region rfl ?_
              refine KOps.mentry hS hv150 (i := 0) rfl (St.rdM hS 1 rfl ⟨_, rfl⟩) rfl hnk ?_
              refine KOps.extract ?_
              refine KOps.assign ?_
              refine KOps.done ?_
              refine sqN.normal ?_
              refine NA.sub (Sub.cons (t := 6) Look.eq (Sub.cons (t := 18) Look.eq (Sub.cons (t := 20) Look.eq (Sub.cons (t := 23) Look.eq (Sub.cons (t := 24) Look.eq (Sub.cons (t := 25) Look.eq (Sub.cons (t := 26) Look.eq (Sub.cons (t := 27) Look.eq (Sub.cons (t := 28) Look.eq (Sub.cons (t := 133) Look.eq (Sub.cons (t := 134) Look.eq (Sub.cons (t := 150) Look.eq (Sub.nil _))))))))))))) ?_
              refine NA.seq ?_
              refine NA.region rfl ?_
              refine KOps.move ?_
              refine KOps.move ?_
              refine KOps.indexIJ (hS.rd 2 rfl) (j := b) rfl (by first | omega | (simp; done) | (simp; omega)) ?_
              intro p157 hp157
              refine KOps.loadW hp157 (hS.rd 2 rfl) (by first | omega | (simp; done) | (simp; omega)) ?_
              refine KOps.call rfl (shorts_c (by omega)) ?_
              rintro v159 h159 ⟨P159, hv159, hnd159, hm159, hS159⟩
              obtain ⟨bm159, rfl⟩ := hv159
              have hS0 : St _ _ (_ :: _) := St.trans hS hS159
              clear hS
              have hS := hS0
              clear hS0
              refine KOps.move ?_
              refine KOps.setHasE (St.rdM hS 0 rfl ⟨_, rfl⟩) ?_
              refine KOps.done ?_
              refine sqN.normal ?_
              refine NA.sub (Sub.cons (t := 6) Look.eq (Sub.cons (t := 18) Look.eq (Sub.cons (t := 20) Look.eq (Sub.cons (t := 23) Look.eq (Sub.cons (t := 24) Look.eq (Sub.cons (t := 25) Look.eq (Sub.cons (t := 26) Look.eq (Sub.cons (t := 27) Look.eq (Sub.cons (t := 133) Look.eq (Sub.cons (t := 134) Look.eq (Sub.cons (t := 150) Look.eq (Sub.cons (t := 161) Look.eq (Sub.nil _))))))))))))) ?_
              refine NA.condD ?_ ?_
              · intro c161
                refine NA.seq ?_
                refine NA.region rfl ?_
                have hcl : clG ws a b = true := clash_iff.2 ⟨z, (hm149 z).1 (List.mem_of_getElem? hz), (hm159 z).1 c161⟩
                obtain ⟨rfl, rfl, rfl⟩ := fst_at hac hab (by omega) hcl hA1 hA2
                refine KOps.move ?_
                refine KOps.eqlY (rfl) ?_
                refine KOps.move ?_
                refine KOps.guardYes (dj := 164) rfl rfl ?_
                refine KOps.move ?_
                refine KOps.guardYes (dj := 164) rfl rfl ?_
                refine KOps.move ?_
                refine KOps.guardYes (dj := 164) rfl rfl ?_
                refine KOps.eqlY (rfl) ?_
                refine KOps.pickT ?_
                refine KOps.move ?_
                refine KOps.guardYes (dj := 169) rfl rfl ?_
                refine KOps.move ?_
                refine KOps.guardYes (dj := 169) rfl rfl ?_
                refine KOps.move ?_
                refine KOps.guardYes (dj := 169) rfl rfl ?_
                refine KOps.eqlY (rfl) ?_
                refine KOps.pickT ?_
                refine KOps.move ?_
                refine KOps.guardYes (dj := 174) rfl rfl ?_
                refine KOps.move ?_
                refine KOps.guardYes (dj := 174) rfl rfl ?_
                refine KOps.loadBox hS (i := 4) rfl hp18 ?_
                refine KOps.guardYes (dj := 174) rfl rfl ?_
                refine KOps.eqlY (rfl) ?_
                refine KOps.pickT ?_
                refine KOps.move ?_
                refine KOps.guardYes (dj := 179) rfl rfl ?_
                refine KOps.call rfl (works_c (hTab.ext hS.keeps)) ?_
                rintro _ hx ⟨rfl, hK⟩
                have hS0 : St _ _ _ := St.trans hS (St.ofK hK)
                clear hS
                have hS := hS0
                clear hS0
                simp only [List.nil_append] at hS
                refine KOps.pickT ?_
                refine KOps.assign ?_
                refine KOps.done ?_
                refine sqN.normal ?_
                refine NA.sub (Sub.cons (t := 4) Look.eq (Sub.nil _)) ?_
                refine NA.ret ?_
                refine blQ.ret ?_
                refine lpQ.ret ?_
                refine blQ.ret ?_
                refine blQ.ret ?_
                refine sqN.ret ?_
                refine lpQ.ret ?_
                refine blQ.ret ?_
                refine blQ.ret ?_
                refine sqN.ret ?_
                refine lpQ.ret ?_
                refine blQ.ret ?_
                refine sqN.ret ?_
                refine fnQ.ret1 ?_
                exact rfl
              · intro c161
                refine NA.skip ?_
                refine blQ.normal ?_
                have hDs := hD.snoc hnj (List.getElem?_eq_some_iff.1 hnk).1
                have hDl2 := hDs.len
                rw [List.length_append] at hDl2
                refine lpQ.normal (D ++ [nj]) (by repeat (first | exact Sub.nil _ | refine Sub.cons Look.eq ?_ | refine Sub.cons (Eq.trans Look.eq (congrArg (AV.int _) (by first | omega | (dsimp only; omega)))) ?_)) ⟨hDs, fun q hq u hu => ?_, St.drop (A := [_]) hS⟩ (by rw [List.length_append]; simp only [List.length_cons, List.length_nil] at hDl2 ⊢; omega)
                rcases List.mem_append.1 hq with hq | hq
                · exact hDn q hq u hu
                · rw [List.mem_singleton.1 hq, hz] at hu
                  cases hu
                  exact Bool.eq_false_iff.2 fun q => c161 ((hm159 _).2 q)
            · intro hall
              refine KOps.extract ?_
              refine KOps.done ?_
              refine sqN.normal ?_
              refine NA.sub (Sub.cons (t := 6) Look.eq (Sub.cons (t := 18) Look.eq (Sub.cons (t := 20) Look.eq (Sub.cons (t := 23) Look.eq (Sub.cons (t := 24) Look.eq (Sub.cons (t := 25) Look.eq (Sub.cons (t := 26) Look.eq (Sub.cons (t := 27) Look.eq (Sub.cons (t := 133) Look.eq (Sub.cons (t := 134) Look.eq (Sub.cons (t := 150) Look.eq (Sub.cons (t := 152) Look.eq (Sub.nil _))))))))))))) ?_
              refine NA.seq ?_
              refine NA.condF ?_
              refine NA.exit ?_
              refine sqN.exit ?_
              refine lpQ.exit ?_
              refine blQ.here ?_
              refine blQ.normal ?_
              refine sqN.normal ?_
              refine NA.sub (Sub.cons (t := 6) Look.eq (Sub.cons (t := 18) Look.eq (Sub.cons (t := 20) Look.eq (Sub.cons (t := 23) Look.eq (Sub.cons (t := 24) Look.eq (Sub.cons (t := 25) Look.eq (Sub.cons (t := 26) Look.eq (Sub.cons (t := 27) Look.eq (Sub.cons (t := 133) Look.eq (Sub.cons (t := 134) Look.eq (Sub.nil _))))))))))) ?_
              refine NA.region rfl ?_
              have hnoc : clG ws a b = false := by
                cases hq : clG ws a b with
                | false => rfl
                | true =>
                  obtain ⟨z, hza, hzb⟩ := clash_iff.1 hq
                  obtain ⟨q, hq, he⟩ := List.getElem_of_mem ((hm149 z).2 hza)
                  have := hDn q (hall q (by rw [setE_len]; exact hq)) z (by rw [List.getElem?_eq_getElem hq, he])
                  rw [hzb] at this; cases this
              refine KOps.move ?_
              refine KOps.add (by first | omega | (simp; omega)) (by first | omega | (simp; omega)) ?_
              refine KOps.assign ?_
              refine KOps.done ?_
              exact lpQ.normal (b + 1) (by repeat (first | exact Sub.nil _ | refine Sub.cons Look.eq ?_ | refine Sub.cons (Eq.trans Look.eq (congrArg (AV.int _) (by first | omega | (dsimp only; omega)))) ?_)) ⟨by omega, by omega, fun k q1 q2 => (Nat.lt_succ_iff_lt_or_eq.1 q2).elim (fun q => hA2 k q1 q) (fun q => by subst q; exact hnoc), St.pick [2, 3] (by decide) rfl hS⟩ (by omega)
          · intro c142
            refine NA.exit ?_
            refine sqN.exit ?_
            refine lpQ.exit ?_
            refine blQ.here ?_
            refine blQ.normal ?_
            refine sqN.normal ?_
            refine NA.sub (Sub.cons (t := 6) Look.eq (Sub.cons (t := 18) Look.eq (Sub.cons (t := 20) Look.eq (Sub.cons (t := 23) Look.eq (Sub.cons (t := 24) Look.eq (Sub.cons (t := 25) Look.eq (Sub.cons (t := 133) Look.eq (Sub.cons (t := 134) Look.eq (Sub.nil _))))))))) ?_
            refine NA.region rfl ?_
            refine KOps.add (by first | omega | (simp; omega)) (by first | omega | (simp; omega)) ?_
            refine KOps.move ?_
            refine KOps.done ?_
            exact lpQ.normal (a + 1) (by repeat (first | exact Sub.nil _ | refine Sub.cons Look.eq ?_ | refine Sub.cons (Eq.trans Look.eq (congrArg (AV.int _) (by first | omega | (dsimp only; omega)))) ?_)) ⟨by omega, fun i k q1 q2 q3 => (Nat.lt_succ_iff_lt_or_eq.1 q1).elim (fun q => hA1 i k q q2 q3) (fun q => by subst q; exact hA2 k q2 (by omega)), hS⟩ (by omega)
        · intro c135
          refine NA.exit ?_
          refine sqN.exit ?_
          refine lpQ.exit ?_
          refine blQ.here ?_
          refine sqN.normal ?_
          refine NA.sub (Sub.cons (t := 6) Look.eq (Sub.cons (t := 18) Look.eq (Sub.cons (t := 23) Look.eq (Sub.cons (t := 24) Look.eq (Sub.cons (t := 25) Look.eq (Sub.nil _)))))) ?_
          refine NA.seq ?_
          refine NA.region rfl ?_
          obtain ⟨rfl, rfl, rfl⟩ := fst_not hac (fun i k h1 h2 => hA1 i k (by omega) h1 h2)
          refine KOps.move ?_
          refine KOps.eqlY (rfl) ?_
          refine KOps.move ?_
          refine KOps.guardYes (dj := 185) rfl rfl ?_
          refine KOps.move ?_
          refine KOps.guardYes (dj := 185) rfl rfl ?_
          refine KOps.eqlY (rfl) ?_
          refine KOps.pickT ?_
          refine KOps.move ?_
          refine KOps.guardYes (dj := 189) rfl rfl ?_
          refine KOps.move ?_
          refine KOps.guardYes (dj := 189) rfl rfl ?_
          refine KOps.eqlY (rfl) ?_
          refine KOps.pickT ?_
          refine KOps.move ?_
          refine KOps.guardYes (dj := 193) rfl rfl ?_
          refine KOps.move ?_
          refine KOps.guardYes (dj := 193) rfl rfl ?_
          refine KOps.loadBox hS (i := 1) rfl hp18 ?_
          refine KOps.guardYes (dj := 193) rfl rfl ?_
          refine KOps.eqlY (rfl) ?_
          refine KOps.pickT ?_
          refine KOps.move ?_
          refine KOps.guardYes (dj := 198) rfl rfl ?_
          refine KOps.call rfl (works_c (hTab.ext hS.keeps)) ?_
          rintro _ hx ⟨rfl, hK⟩
          have hS0 : St _ _ _ := St.trans hS (St.ofK hK)
          clear hS
          have hS := hS0
          clear hS0
          simp only [List.nil_append] at hS
          refine KOps.pickT ?_
          refine KOps.assign ?_
          refine KOps.done ?_
          refine sqN.normal ?_
          refine NA.sub (Sub.cons (t := 4) Look.eq (Sub.nil _)) ?_
          refine NA.ret ?_
          refine fnQ.ret1 ?_
          exact rfl

theorem law_most_i {h : AHeap} {a x : Int} (hTab : Tab h) (h0 : 0 ≤ a) (h1 : a ≤ 255) (h4 : 0 ≤ x) (h5 : x ≤ 65535) : NCalls Go.Proofs.Tryd.prog 11 [.int .u8 a, .int .u16 x] h (fun r _ => r = .bool true) := by
  obtain ⟨b, rfl⟩ : ∃ b : Nat, a = (b : Int) := ⟨a.toNat, by omega⟩
  obtain ⟨c, rfl⟩ : ∃ c : Nat, x = (c : Int) := ⟨x.toNat, by omega⟩
  exact law_most hTab (by omega) (by omega)
end Go.Am
