/-
  Tops: heaps drawn as rows of a back: the law.
  Conditions: none.
-/
import Derived.Test.YtdfhmdhjeiipfaaGreatDoorRgf
import Derived.Test.YtdfhmdhjeiipfaaGreatDoorAmL
import Derived.Test.YtdfhmdhjeiipfaaGreatDoorAmY
import Derived.Test.YtdfhmdhjeiipfaaGreatDoorRows
import Derived.MakeChecks
namespace Go.Am
section
variable {P : Program} {n : Nat} {ops : Array Oper} {ex : List Nat} {Q : KF → AHeap → Prop} {k : Nat} {os : List Oper} {K : KF} {h : AHeap} {d : Nat} {ty : TypeId} {pos : String} {after : Array Edge}
/-- An element of an array of small numbers. -/
theorem KOps.indexU {x ix : Operand} {t : TypeId} {m : Nat} {kd : IntKind} {i : Int} {j : Nat} {l : List Int} [hx : EvK h.globs n K x (.agg (bytes l))] [hi : EvK h.globs n K ix (.int kd i)]
    (hf : ((arrA P t).bind fun p => (aggA P p.2).bind fun g => (szA P p.2).map fun s => (p.1, g, s)) = some (m, false, 1)) (hj : i = (j : Int)) (hl : l.length = m) (hlt : j < m)
    (hk : KOps P n ops ex Q (k + 1) os ((d, .int .u8 (l.getD j 0)) :: K) h) : KOps P n ops ex Q k (⟨some d, .index t x ix, ty, pos, after, none⟩ :: os) K h := by
  refine KOps.pure rfl (v := .int .u8 (l.getD j 0)) ?_ hk
  obtain ⟨p, h1, hf⟩ := Option.bind_eq_some_iff.1 hf
  obtain ⟨g, h2, hf⟩ := Option.bind_eq_some_iff.1 hf
  obtain ⟨s, h3, hf⟩ := Option.map_eq_some_iff.1 hf
  obtain ⟨p1, p2⟩ := p
  simp only [Prod.mk.injEq] at hf
  obtain ⟨rfl, rfl, rfl⟩ := hf
  subst hj
  simp only [apure, hx.eq, hi.eq, aindex, h1, apart, h2, h3, Option.bind_eq_bind, Option.bind_some]
  rw [if_pos ⟨by omega, by omega⟩, Int.toNat_natCast, Nat.mul_one]
  simp [bytes, List.getElem?_map, List.getElem?_eq_getElem (show j < l.length by omega), List.getD_eq_getElem?_getD]
end
theorem natI_snoc (l : List Nat) (s : Nat) : ints (nI l ++ [(s : Int)]) = natI (l ++ [s]) := by simp [natI, nI]
theorem nI_tail (l : List Nat) : nI l.tail = (nI l).drop 1 := by simp [nI]

theorem check0_c {h : AHeap} {v : AV} (hv : Row h v []) : ACalls Go.Proofs.Tryz.prog 7 [v] h (fun q h' => q = .int .i64 4 ∧ h = h') := by
  refine KA.fn 32 [.tmp 2] Go.Proofs.Tryz.func7 rfl (by decide) rfl rfl (Nat.le_of_ble_eq_true rfl) ?_
  show KA _ 32 _ _ [(0, v)] _
  refine KA.seq ?_
  refine KA.region rfl ?_
  refine KOps.assign ?_
  refine KOps.done ?_
  refine sqQ.normal ?_
  refine KA.sub (Sub.cons (t := 0) Look.eq (Sub.nil _)) ?_
  refine KA.seq ?_
  refine KA.seq ?_
  refine KA.region rfl ?_
  refine KOps.move ?_
  refine KOps.lenI (by first | assumption | exact Rd.ext hS.keeps (by assumption)) ?_
  refine KOps.eql ?_
  refine KOps.done ?_
  refine sqQ.normal ?_
  refine KA.sub (Sub.cons (t := 0) Look.eq (Sub.cons (t := 9) Look.eq (Sub.nil _))) ?_
  refine KA.condD ?_ ?_
  · intro c9
    refine KA.seq ?_
    refine KA.region rfl ?_
    refine KOps.assign ?_
    refine KOps.done ?_
    refine sqQ.normal ?_
    refine KA.sub (Sub.cons (t := 2) Look.eq (Sub.nil _)) ?_
    refine KA.ret ?_
    refine sqQ.ret ?_
    refine fnQ.ret1 ?_
    exact ⟨rfl, rfl⟩
  · intro c9
    exact absurd rfl c9

theorem law_diagram {h : AHeap} {c : List Nat} (hc : c.length = 4) (hw : ∀ x ∈ c, x ≤ 255) (hT : Tabs h) : ACalls Go.Proofs.Tryz.prog 3 [.agg (bytes (nI c))] h (fun q _ => q = .bool true) := by
  refine KA.fn 155 [.tmp 2] Go.Proofs.Tryz.func3 rfl (by decide) rfl rfl (Nat.le_of_ble_eq_true rfl) ?_
  have hS := St.refl h
  show KA _ 155 _ _ [(0, .agg (bytes (nI c)))] _
  refine KA.seq ?_
  refine KA.region rfl ?_
  refine KOps.boxU hS ?_
  intro p1 h1 hp1 hS
  refine KOps.assign ?_
  refine KOps.done ?_
  refine sqQ.normal ?_
  refine KA.sub (Sub.cons (t := 1) Look.eq (Sub.nil _)) ?_
  refine KA.seq ?_
  refine KA.region rfl ?_
  refine KOps.assign ?_
  refine KOps.done ?_
  refine sqQ.normal ?_
  refine KA.seq ?_
  refine KA.seq ?_
  refine KA.region rfl ?_
  refine KOps.assign ?_
  refine KOps.done ?_
  refine sqQ.normal ?_
  refine KA.block ?_
  refine KA.loop (X := Nat × AV) (fun x => [(1, p1), (3, x.2), (4, .int .i64 (x.1 : Int))]) (fun x h' => x.1 ≤ 4 ∧ St h h' [⟨x.2, 1, natI (hpsA c x.1), true⟩, ⟨p1, 0, bytes (nI c), true⟩]) (fun x => x.1) (4, .nils) (by repeat (first | exact Sub.nil _ | refine Sub.cons Look.eq ?_ | refine Sub.cons (Eq.trans Look.eq (congrArg (AV.int _) (by first | omega | (dsimp only; omega)))) ?_)) ?_ ?_
  · exact ⟨Nat.le_refl _, hS.nil 1⟩
  rintro ⟨s, vH⟩ h5 ⟨hs, hS⟩
  dsimp only at hs hS ⊢
  refine KA.seq ?_
  refine KA.seq ?_
  refine KA.region rfl ?_
  refine KOps.move ?_
  refine KOps.gtr ?_
  refine KOps.done ?_
  refine sqQ.normal ?_
  refine KA.sub (Sub.cons (t := 1) Look.eq (Sub.cons (t := 3) Look.eq (Sub.cons (t := 4) Look.eq (Sub.cons (t := 22) Look.eq (Sub.nil _))))) ?_
  refine KA.condD ?_ ?_
  · intro c22
    refine KA.skip ?_
    refine sqQ.normal ?_
    refine KA.sub (Sub.cons (t := 1) Look.eq (Sub.cons (t := 3) Look.eq (Sub.cons (t := 4) Look.eq (Sub.nil _)))) ?_
    refine KA.seq ?_
    refine KA.block ?_
    refine KA.seq ?_
    refine KA.region rfl ?_
    refine KOps.loadArr hS (i := 1) rfl hp1 (by rw [nI, List.length_map, hc]) (by decide) ?_
    refine KOps.move ?_
    refine KOps.done ?_
    refine sqQ.normal ?_
    refine KA.block ?_
    refine KA.loop (X := Nat × AV) (fun y => [(1, p1), (3, y.2), (4, .int .i64 (s : Int)), (25, .agg (bytes (nI c))), (26, .int .i64 (y.1 : Int))]) (fun y h' => y.1 ≤ 4 ∧ St h h' [⟨y.2, 1, natI (hpsB c s y.1), true⟩, ⟨p1, 0, bytes (nI c), true⟩]) (fun y => 4 - y.1) (0, vH) (by repeat (first | exact Sub.nil _ | refine Sub.cons Look.eq ?_ | refine Sub.cons (Eq.trans Look.eq (congrArg (AV.int _) (by first | omega | (dsimp only; omega)))) ?_)) ?_ ?_
    · exact ⟨Nat.zero_le _, by dsimp only; rw [hpsB_0]; exact hS⟩
    rintro ⟨j, vJ⟩ h6 ⟨hj, hS⟩
    dsimp only at hj hS ⊢
    refine KA.seq ?_
    refine KA.region rfl ?_
    refine KOps.lss ?_
    refine KOps.done ?_
    refine sqQ.normal ?_
    refine KA.seq ?_
    refine KA.condD ?_ ?_
    · intro c27
      have hjc : j < c.length := by omega
      have hcj : c.getD j 0 ≤ 255 := hw _ (by rw [List.getD_eq_getElem?_getD, List.getElem?_eq_getElem hjc]; exact List.getElem_mem hjc)
      have hbl := hpsB_len s j hc
      refine KA.skip ?_
      refine sqQ.normal ?_
      refine KA.sub (Sub.cons (t := 1) Look.eq (Sub.cons (t := 3) Look.eq (Sub.cons (t := 4) Look.eq (Sub.cons (t := 25) Look.eq (Sub.cons (t := 26) Look.eq (Sub.nil _)))))) ?_
      refine KA.seq ?_
      refine KA.block ?_
      refine KA.seq ?_
      refine KA.region rfl ?_
      refine KOps.indexU (by kernel_rfl) rfl (by rw [nI, List.length_map, hc]) (by omega) ?_
      rw [nI_gt hjc]
      refine KOps.assign ?_
      refine KOps.done ?_
      refine sqQ.normal ?_
      refine KA.sub (Sub.cons (t := 1) Look.eq (Sub.cons (t := 3) Look.eq (Sub.cons (t := 4) Look.eq (Sub.cons (t := 6) Look.eq (Sub.cons (t := 25) Look.eq (Sub.cons (t := 26) Look.eq (Sub.nil _))))))) ?_
      refine KA.seq ?_
      refine KA.region rfl ?_
      refine KOps.move ?_
      refine KOps.convU (by omega) (by omega) ?_
      refine KOps.modN (c.getD j 0) 5 rfl rfl (by decide) (by omega) ?_
      refine KOps.move ?_
      refine KOps.eql ?_
      refine KOps.done ?_
      refine sqQ.normal ?_
      refine KA.sub (Sub.cons (t := 1) Look.eq (Sub.cons (t := 3) Look.eq (Sub.cons (t := 4) Look.eq (Sub.cons (t := 25) Look.eq (Sub.cons (t := 26) Look.eq (Sub.cons (t := 33) Look.eq (Sub.nil _))))))) ?_
      refine KA.condD ?_ ?_
      · intro c33
        have hx : c.getD j 0 % 5 = s := by omega
        refine KA.region rfl ?_
        refine KOps.move ?_
        refine KOps.move ?_
        refine KOps.buildSlice hS rfl (by decide) rfl ?_
        intro v36 h' hS
        refine KOps.appendI hS (fun _ => rfl) (i := 0) rfl (by first | omega | (simp; done) | (simp; omega)) ?_
        intro r37 h' hr37 hS
        rw [natI_snoc, ← hpsB_yes hjc hx] at hS
        refine KOps.assign ?_
        refine KOps.done ?_
        refine blQ.normal ?_
        refine sqQ.normal ?_
        refine KA.sub (Sub.cons (t := 1) Look.eq (Sub.cons (t := 3) Look.eq (Sub.cons (t := 4) Look.eq (Sub.cons (t := 25) Look.eq (Sub.cons (t := 26) Look.eq (Sub.nil _)))))) ?_
        refine KA.region rfl ?_
        refine KOps.add (by first | omega | (simp; omega)) (by first | omega | (simp; omega)) ?_
        refine KOps.move ?_
        refine KOps.done ?_
        exact lpQ.normal (j + 1, r37) (by repeat (first | exact Sub.nil _ | refine Sub.cons Look.eq ?_ | refine Sub.cons (Eq.trans Look.eq (congrArg (AV.int _) (by first | omega | (dsimp only; omega)))) ?_)) ⟨by dsimp only; omega, hS⟩ (by dsimp only; omega)
      · intro c33
        refine KA.skip ?_
        refine blQ.normal ?_
        refine sqQ.normal ?_
        refine KA.sub (Sub.cons (t := 1) Look.eq (Sub.cons (t := 3) Look.eq (Sub.cons (t := 4) Look.eq (Sub.cons (t := 25) Look.eq (Sub.cons (t := 26) Look.eq (Sub.nil _)))))) ?_
        refine KA.region rfl ?_
        refine KOps.add (by first | omega | (simp; omega)) (by first | omega | (simp; omega)) ?_
        refine KOps.move ?_
        refine KOps.done ?_
        exact lpQ.normal (j + 1, vJ) (by repeat (first | exact Sub.nil _ | refine Sub.cons Look.eq ?_ | refine Sub.cons (Eq.trans Look.eq (congrArg (AV.int _) (by first | omega | (dsimp only; omega)))) ?_)) ⟨by dsimp only; omega, by dsimp only; rw [hpsB_no hjc (by omega)]; exact hS⟩ (by dsimp only; omega)
    · intro c27
      refine KA.exit ?_
      refine sqQ.exit ?_
      refine lpQ.exit ?_
      refine blQ.here ?_
      refine blQ.normal ?_
      refine sqQ.normal ?_
      refine KA.sub (Sub.cons (t := 1) Look.eq (Sub.cons (t := 3) Look.eq (Sub.cons (t := 4) Look.eq (Sub.nil _)))) ?_
      refine KA.region rfl ?_
      refine KOps.move ?_
      refine KOps.sub (by first | omega | (simp; omega)) (by first | omega | (simp; omega)) ?_
      refine KOps.assign ?_
      refine KOps.done ?_
      obtain rfl : j = 4 := by omega
      rw [hpsB_all hc (by omega) hs] at hS
      exact lpQ.normal (s - 1, vJ) (by repeat (first | exact Sub.nil _ | refine Sub.cons Look.eq ?_ | refine Sub.cons (Eq.trans Look.eq (congrArg (AV.int _) (by first | omega | (dsimp only; omega)))) ?_)) ⟨by dsimp only; omega, hS⟩ (by dsimp only; omega)
  · intro c22
    obtain rfl : s = 0 := by omega
    have hp := hps_parts hc
    generalize hpsA c 0 = p at hp hS
    refine KA.exit ?_
    refine sqQ.exit ?_
    refine lpQ.exit ?_
    refine blQ.here ?_
    refine sqQ.normal ?_
    refine KA.sub (Sub.cons (t := 3) Look.eq (Sub.nil _)) ?_
    refine KA.seq ?_
    refine KA.seq ?_
    refine KA.region rfl ?_
    refine KOps.move ?_
    refine KOps.lenI (hS.rd 0 rfl) ?_
    refine KOps.eql ?_
    refine KOps.done ?_
    refine sqQ.normal ?_
    refine KA.sub (Sub.cons (t := 3) Look.eq (Sub.cons (t := 41) Look.eq (Sub.nil _))) ?_
    refine KA.condD ?_ ?_
    · intro c41
      obtain rfl : p = [] := List.length_eq_zero_iff.1 (by rw [nI, List.length_map] at c41; omega)
      refine KA.seq ?_
      refine KA.region rfl ?_
      refine KOps.move ?_
      refine KOps.call rfl (check0_c (hS.rd 0 rfl)) ?_
      rintro _ _ ⟨rfl, rfl⟩
      refine KOps.eql ?_
      refine KOps.move ?_
      refine KOps.guardB (dj := 45) rfl rfl true false rfl ?_ ?_
      · intro g45
        have g45 := of_decide_eq_true g45
        refine KOps.call rfl (heapWorks_c (hT.ext hS.keeps)) ?_
        rintro _ hx ⟨rfl, hK⟩
        have hS0 : St _ _ _ := St.trans hS (St.ofK hK)
        clear hS
        have hS := hS0
        clear hS0
        simp only [List.nil_append] at hS
        refine KOps.pickT ?_
        refine KOps.assign ?_
        refine KOps.done ?_
        refine sqQ.normal ?_
        refine KA.sub (Sub.cons (t := 2) Look.eq (Sub.nil _)) ?_
        refine KA.ret ?_
        refine sqQ.ret ?_
        refine fnQ.ret1 ?_
        first | rfl | exact absurd hdt (fun e => c89 (by rw [e])) | exact absurd rfl (by assumption) | cases g84
      · intro g45
        have g45 := of_decide_eq_false g45
        exact absurd rfl g45
    · intro c41
      have hne : p ≠ [] := by rintro rfl; exact c41 rfl
      obtain ⟨⟨hp2, hne2, hdt⟩, htl, hbub, hl1, hl2, hl3, hl4⟩ := facts_H p hp hne
      have htp0 : 0 < (turnH p).length := List.length_pos_iff.2 hne2
      refine KA.skip ?_
      refine sqQ.normal ?_
      refine KA.sub (Sub.cons (t := 3) Look.eq (Sub.nil _)) ?_
      refine KA.seq ?_
      refine KA.region rfl ?_
      refine KOps.assign ?_
      refine KOps.done ?_
      refine sqQ.normal ?_
      refine KA.seq ?_
      refine KA.region rfl ?_
      refine KOps.buildSlice hS rfl (by decide) rfl ?_
      intro v48 h' hS
      refine KOps.call rfl list_c ?_
      rintro w48 _ ⟨rfl, rfl⟩
      have hw48 : w48.one = true := St.one hS (k := 0) rfl
      refine KOps.buildG (zs := [.int .i64 0, .int .i64 0, .int .i64 0, .nils]) (cs := [_, _, _, _]) (by kernel_rfl) (by rfl) (by kernel_rfl) (.cons (off := 0) (s := 1) (by kernel_rfl) (AV.cells_one (by first | rfl | assumption)) rfl (by decide) (.cons (off := 1) (s := 1) (by kernel_rfl) (AV.cells_one (by first | rfl | assumption)) rfl (by decide) (.cons (off := 2) (s := 1) (by kernel_rfl) (AV.cells_one (by first | rfl | assumption)) rfl (by decide) (.cons (off := 3) (s := 1) (by kernel_rfl) (AV.cells_one (by first | rfl | assumption)) rfl (by decide) .nil)))) (by rfl) ?_
      refine KOps.alloc hS ?_
      intro p8 h' hp8 hS
      refine KOps.storeAll hS rfl (i := 0) rfl hp8 (by first | rfl | (simp [AV.one]; done) | (simp [AV.one]; assumption) | (simp [AV.one, *]; done)) (by rfl) (by rfl) (by decide) ?_
      intro h' hS
      simp only [List.set_cons_zero, List.set_cons_succ, Nat.zero_add] at hS
      refine KOps.done ?_
      refine sqQ.normal ?_
      refine KA.sub (Sub.cons (t := 3) Look.eq (Sub.cons (t := 7) Look.eq (Sub.cons (t := 8) Look.eq (Sub.nil _)))) ?_
      refine KA.seq ?_
      refine KA.region rfl ?_
      refine KOps.move ?_
      refine KOps.move ?_
      refine KOps.call rfl (draw_c hp hne (hS.rd 2 rfl)) ?_
      rintro _ h15 ⟨vX, rfl, hS15⟩
      have hS0 : St _ _ (_ :: _) := St.trans hS hS15
      clear hS
      have hS := hS0
      clear hS0
      refine KOps.move ?_
      refine KOps.extract ?_
      refine KOps.extract ?_
      refine KOps.assign ?_
      refine KOps.assign ?_
      refine KOps.done ?_
      refine sqQ.normal ?_
      refine KA.sub (Sub.cons (t := 3) Look.eq (Sub.cons (t := 7) Look.eq (Sub.cons (t := 8) Look.eq (Sub.cons (t := 9) Look.eq (Sub.nil _))))) ?_
      refine KA.seq ?_
      refine KA.region rfl ?_
      refine KOps.move ?_
      refine KOps.call rfl (turned_c hp hne (hS.rd 3 rfl)) ?_
      rintro _ h16 ⟨vT, rfl, hS16⟩
      have hS0 : St _ _ (_ :: _) := St.trans hS hS16
      clear hS
      have hS := hS0
      clear hS0
      refine KOps.move ?_
      refine KOps.extract ?_
      refine KOps.extract ?_
      refine KOps.assign ?_
      refine KOps.assign ?_
      refine KOps.done ?_
      refine sqQ.normal ?_
      refine KA.sub (Sub.cons (t := 3) Look.eq (Sub.cons (t := 7) Look.eq (Sub.cons (t := 8) Look.eq (Sub.cons (t := 9) Look.eq (Sub.cons (t := 11) Look.eq (Sub.cons (t := 12) Look.eq (Sub.nil _))))))) ?_
      refine KA.seq ?_
      refine KA.region rfl ?_
      refine KOps.move ?_
      refine KOps.move ?_
      refine KOps.call rfl (draw_c hp2 hne2 (hS.rd 0 rfl)) ?_
      rintro _ h17 ⟨vY, rfl, hS17⟩
      have hS0 : St _ _ (_ :: _) := St.trans hS hS17
      clear hS
      have hS := hS0
      clear hS0
      refine KOps.move ?_
      refine KOps.extract ?_
      refine KOps.extract ?_
      refine KOps.assign ?_
      refine KOps.assign ?_
      refine KOps.done ?_
      refine sqQ.normal ?_
      refine KA.sub (Sub.cons (t := 3) Look.eq (Sub.cons (t := 8) Look.eq (Sub.cons (t := 9) Look.eq (Sub.cons (t := 11) Look.eq (Sub.cons (t := 12) Look.eq (Sub.cons (t := 13) Look.eq (Sub.cons (t := 14) Look.eq (Sub.nil _)))))))) ?_
      refine KA.seq ?_
      refine KA.region rfl ?_
      refine KOps.loadAll hS (i := 3) rfl hp8 (by rfl) (by decide) ?_
      refine KOps.move ?_
      refine KOps.call rfl (turn_c hp (hS.rd 4 rfl) (hS.rd 2 rfl)) ?_
      rintro _ h18 ⟨vZ, rfl, hS18⟩
      have hS0 : St _ _ (_ :: _) := St.trans hS hS18
      clear hS
      have hS := hS0
      clear hS0
      refine KOps.move ?_
      refine KOps.extract ?_
      refine KOps.extract ?_
      refine KOps.assign ?_
      refine KOps.assign ?_
      refine KOps.done ?_
      refine sqQ.normal ?_
      refine KA.sub (Sub.cons (t := 3) Look.eq (Sub.cons (t := 11) Look.eq (Sub.cons (t := 12) Look.eq (Sub.cons (t := 13) Look.eq (Sub.cons (t := 14) Look.eq (Sub.cons (t := 15) Look.eq (Sub.cons (t := 16) Look.eq (Sub.nil _)))))))) ?_
      refine KA.seq ?_
      refine KA.seq ?_
      refine KA.region rfl ?_
      refine KOps.move ?_
      refine KOps.neq ?_
      refine KOps.move ?_
      refine KOps.guardB (dj := 76) rfl rfl false true rfl ?_ ?_
      · intro g76
        have g76 := of_not_decide g76
        refine KOps.move ?_
        refine KOps.guardYes (dj := 76) rfl rfl ?_
        refine KOps.neq ?_
        refine KOps.pickF ?_
        refine KOps.move ?_
        refine KOps.guardB (dj := 80) rfl rfl false true rfl ?_ ?_
        · intro g80
          have g80 := of_not_decide g80
          refine KOps.move ?_
          refine KOps.guardYes (dj := 80) rfl rfl ?_
          refine KOps.not ?_
          refine KOps.pickF ?_
          refine KOps.move ?_
          refine KOps.guardB (dj := 84) rfl rfl false true rfl ?_ ?_
          · intro g84
            refine KOps.move ?_
            refine KOps.guardYes (dj := 84) rfl rfl ?_
            refine KOps.move ?_
            refine KOps.guardYes (dj := 84) rfl rfl ?_
            refine KOps.call rfl (same_c (hS.rd 1 rfl) (hS.rd 0 rfl) (by rw [nI, List.length_map]; simp [drawH])) ?_
            rintro _ _ ⟨rfl, rfl⟩
            refine KOps.guardYes (dj := 84) rfl rfl ?_
            refine KOps.not ?_
            refine KOps.pickF ?_
            refine KOps.done ?_
            refine sqQ.normal ?_
            refine KA.sub (Sub.cons (t := 3) Look.eq (Sub.cons (t := 11) Look.eq (Sub.cons (t := 89) Look.eq (Sub.nil _)))) ?_
            refine KA.condN ?_ ?_
            · intro c89
              refine KA.seq ?_
              refine KA.region rfl ?_
              refine KOps.assign ?_
              refine KOps.done ?_
              refine sqQ.normal ?_
              refine KA.sub (Sub.cons (t := 2) Look.eq (Sub.nil _)) ?_
              refine KA.ret ?_
              refine sqQ.ret ?_
              refine fnQ.ret1 ?_
              first | rfl | exact absurd hdt (fun e => c89 (by rw [e])) | exact absurd rfl (by assumption) | cases g84
            · intro c89
              refine KA.skip ?_
              refine sqQ.normal ?_
              refine KA.sub (Sub.cons (t := 3) Look.eq (Sub.cons (t := 11) Look.eq (Sub.nil _))) ?_
              refine KA.seq ?_
              refine KA.region rfl ?_
              refine KOps.move ?_
              refine KOps.call rfl (round_c hp hne (hS.rd 6 rfl)) ?_
              rintro _ h21 ⟨vO, rfl, hS21⟩
              have hS0 : St _ _ (_ :: _) := St.trans hS hS21
              clear hS
              have hS := hS0
              clear hS0
              refine KOps.move ?_
              refine KOps.extract ?_
              refine KOps.extract ?_
              refine KOps.assign ?_
              refine KOps.assign ?_
              refine KOps.done ?_
              refine sqQ.normal ?_
              refine KA.sub (Sub.cons (t := 11) Look.eq (Sub.cons (t := 17) Look.eq (Sub.cons (t := 18) Look.eq (Sub.nil _)))) ?_
              refine KA.seq ?_
              refine KA.seq ?_
              refine KA.region rfl ?_
              refine KOps.move ?_
              refine KOps.neq ?_
              refine KOps.done ?_
              refine sqQ.normal ?_
              refine KA.sub (Sub.cons (t := 11) Look.eq (Sub.cons (t := 17) Look.eq (Sub.cons (t := 96) Look.eq (Sub.nil _)))) ?_
              refine KA.condN ?_ ?_
              · intro c96
                refine KA.seq ?_
                refine KA.region rfl ?_
                refine KOps.assign ?_
                refine KOps.done ?_
                refine sqQ.normal ?_
                refine KA.sub (Sub.cons (t := 2) Look.eq (Sub.nil _)) ?_
                refine KA.ret ?_
                refine sqQ.ret ?_
                refine fnQ.ret1 ?_
                first | rfl | exact absurd hdt (fun e => c89 (by rw [e])) | exact absurd rfl (by assumption) | cases g84
              · intro c96
                refine KA.skip ?_
                refine sqQ.normal ?_
                refine KA.sub (Sub.cons (t := 11) Look.eq (Sub.cons (t := 17) Look.eq (Sub.nil _))) ?_
                refine KA.seq ?_
                refine KA.region rfl ?_
                refine KOps.assign ?_
                refine KOps.done ?_
                refine sqQ.normal ?_
                refine KA.meet (X := AV) (fun y => [(11, vT), (17, vO), (19, y)]) (fun y h' => St h h' [⟨y, 1, natI (lessH p), true⟩, ⟨vT, 1, natI (turnH p), true⟩, ⟨vO, 1, natI (roundH p), true⟩]) ?_ ?_
                ·
                  refine KA.seq ?_
                  refine KA.region rfl ?_
                  refine KOps.move ?_
                  refine KOps.lenI (hS.rd 3 rfl) ?_
                  refine KOps.gtr ?_
                  refine KOps.done ?_
                  refine sqQ.normal ?_
                  refine KA.sub (Sub.cons (t := 11) Look.eq (Sub.cons (t := 17) Look.eq (Sub.cons (t := 19) Look.eq (Sub.cons (t := 99) Look.eq (Sub.nil _))))) ?_
                  refine KA.condD ?_ ?_
                  · intro c99
                    have h1t : 1 < (turnH p).length := by rw [nI, List.length_map] at c99; omega
                    obtain ⟨hp3, hne3⟩ := htl h1t
                    have hle : lessH p = turnH (turnH p).tail := if_pos h1t
                    refine KA.seq ?_
                    refine KA.region rfl ?_
                    refine KOps.move ?_
                    refine KOps.sliceLo (hS.rd 3 rfl) (m := (turnH p).length) (by simp [natI, ints, nI]) (by omega) (by rw [nI, List.length_map] at c99; omega) ?_
                    intro v102 hp102
                    have hr102 : Row h21 v102 (nI (turnH p).tail) := by
                      have h7 := Row.part (hS.rd 3 rfl : Row h21 vT (nI (turnH p))) hp102 (by first | omega | (simp; omega))
                      rw [List.take_of_length_le (by simp [nI])] at h7
                      rw [nI_tail]
                      exact h7
                    refine KOps.call rfl (turned_c hp3 hne3 hr102) ?_
                    rintro _ h26 ⟨vL, rfl, hS26⟩
                    have hS0 : St _ _ (_ :: _) := St.trans hS hS26
                    clear hS
                    have hS := hS0
                    clear hS0
                    refine KOps.move ?_
                    refine KOps.extract ?_
                    refine KOps.extract ?_
                    refine KOps.assign ?_
                    refine KOps.assign ?_
                    refine KOps.done ?_
                    refine sqQ.normal ?_
                    refine KA.sub (Sub.cons (t := 11) Look.eq (Sub.cons (t := 12) Look.eq (Sub.cons (t := 17) Look.eq (Sub.cons (t := 19) Look.eq (Sub.nil _))))) ?_
                    refine KA.seq ?_
                    refine KA.region rfl ?_
                    refine KOps.move ?_
                    refine KOps.neq ?_
                    refine KOps.done ?_
                    refine sqQ.normal ?_
                    refine KA.sub (Sub.cons (t := 11) Look.eq (Sub.cons (t := 17) Look.eq (Sub.cons (t := 19) Look.eq (Sub.cons (t := 107) Look.eq (Sub.nil _))))) ?_
                    refine KA.condN ?_ ?_
                    · intro c107
                      refine KA.seq ?_
                      refine KA.region rfl ?_
                      refine KOps.assign ?_
                      refine KOps.done ?_
                      refine sqQ.normal ?_
                      refine KA.sub (Sub.cons (t := 2) Look.eq (Sub.nil _)) ?_
                      refine KA.ret ?_
                      refine mtQ.ret ?_
                      refine fnQ.ret1 ?_
                      first | rfl | exact absurd hdt (fun e => c89 (by rw [e])) | exact absurd rfl (by assumption) | cases g84
                    · intro c107
                      refine KA.skip ?_
                      exact mtQ.normal vL (by repeat (first | exact Sub.nil _ | refine Sub.cons Look.eq ?_ | refine Sub.cons (Eq.trans Look.eq (congrArg (AV.int _) (by first | omega | (dsimp only; omega)))) ?_)) (by rw [hle]; exact St.pick [0, 4, 1] (by decide) rfl hS)
                  · intro c99
                    have hle : lessH p = [] := if_neg (by rw [nI, List.length_map] at c99; omega)
                    refine KA.skip ?_
                    exact mtQ.normal .nils (by repeat (first | exact Sub.nil _ | refine Sub.cons Look.eq ?_ | refine Sub.cons (Eq.trans Look.eq (congrArg (AV.int _) (by first | omega | (dsimp only; omega)))) ?_)) (by rw [hle]; exact St.pick [0, 4, 1] (by decide) rfl (hS.nil 1))
                ·
                  rintro vW0 h8 hS
                  refine KA.seq ?_
                  refine KA.region rfl ?_
                  refine KOps.move ?_
                  refine KOps.move ?_
                  refine KOps.indexIJ (hS.rd 1 rfl) (j := 0) rfl (by rw [nI, List.length_map]; exact htp0) ?_
                  intro p110 hp110
                  refine KOps.loadI hp110 (hS.rd 1 rfl) (by rw [nI, List.length_map]; exact htp0) ?_
                  refine KOps.buildSlice hS rfl (by decide) rfl ?_
                  intro v112 h' hS
                  refine KOps.appendI hS (fun _ => rfl) (i := 0) rfl (by first | omega | (simp; done) | (simp; omega)) ?_
                  intro r113 h' hr113 hS
                  have e29 : nI (lessH p) ++ [(nI (turnH p)).getD 0 0] = nI (lessH p ++ [(turnH p).headD 0]) := by
                    rw [nI_gt htp0]; simp [nI, List.headD_eq_head?_getD, List.head?_eq_getElem?, List.getD_eq_getElem?_getD]
                  have hll : (nI (lessH p ++ [(turnH p).headD 0])).length = (lessH p).length + 1 := by simp [nI]
                  simp only [List.set_cons_zero] at hS
                  rw [e29] at hS
                  refine KOps.assign ?_
                  refine KOps.done ?_
                  refine sqQ.normal ?_
                  refine KA.sub (Sub.cons (t := 17) Look.eq (Sub.cons (t := 19) Look.eq (Sub.nil _))) ?_
                  refine KA.seq ?_
                  refine KA.seq ?_
                  refine KA.region rfl ?_
                  refine KOps.move ?_
                  refine KOps.lenI (hS.rd 0 rfl) ?_
                  refine KOps.sub (by first | omega | (simp; omega)) (by first | omega | (simp; omega)) ?_
                  refine KOps.assign ?_
                  refine KOps.done ?_
                  refine sqQ.normal ?_
                  refine KA.sub (Sub.cons (t := 17) Look.eq (Sub.cons (t := 19) Look.eq (Sub.cons (t := 20) Look.eq (Sub.nil _)))) ?_
                  refine KA.block ?_
                  refine KA.loop (X := Nat × List Int) (fun x => [(17, vO), (19, r113), (20, .int .i64 (x.1 : Int))]) (fun x h' => x.1 < x.2.length ∧ x.2.length ≤ 5 ∧ bub x.2 x.1 = nI (roundH p) ∧ St h h' [⟨r113, 1, ints x.2, true⟩, ⟨vO, 1, natI (roundH p), true⟩]) (fun x => x.1) ((lessH p).length, nI (lessH p ++ [(turnH p).headD 0])) (by repeat (first | exact Sub.nil _ | refine Sub.cons Look.eq ?_ | refine Sub.cons (Eq.trans Look.eq (congrArg (AV.int _) (by first | omega | (dsimp only; omega)))) ?_)) ?_ ?_
                  · exact ⟨by dsimp only; omega, by dsimp only; omega, hbub, St.pick [0, 2] (by decide) rfl hS⟩
                  rintro ⟨i, l⟩ h7 ⟨hi, hl5, hb, hS⟩
                  dsimp only at hi hl5 hb hS ⊢
                  refine KA.seq ?_
                  refine KA.seq ?_
                  refine KA.draw [] mixed rfl (by kernel_rfl) ?_
                  refine KOps.move ?_
                  refine KOps.gtr ?_
                  refine KOps.move ?_
                  refine KOps.guardB (dj := 119) rfl rfl true false rfl ?_ ?_
                  · intro g119
                    have g119 := of_decide_eq_true g119
                    refine KOps.move ?_
                    refine KOps.guardYes (dj := 119) rfl rfl ?_
                    refine KOps.move ?_
                    refine KOps.guardYes (dj := 119) rfl rfl ?_
                    refine KOps.indexIJ (hS.rd 0 rfl) (j := i) rfl (by first | omega | (simp; done) | (simp; omega)) ?_
                    intro p122 hp122
                    refine KOps.guardYes (dj := 119) rfl rfl ?_
                    refine KOps.loadI hp122 (hS.rd 0 rfl) (by first | omega | (simp; done) | (simp; omega)) ?_
                    refine KOps.guardYes (dj := 119) rfl rfl ?_
                    refine KOps.move ?_
                    refine KOps.guardYes (dj := 119) rfl rfl ?_
                    refine KOps.move ?_
                    refine KOps.guardYes (dj := 119) rfl rfl ?_
                    refine KOps.sub (by first | omega | (simp; omega)) (by first | omega | (simp; omega)) ?_
                    refine KOps.guardYes (dj := 119) rfl rfl ?_
                    refine KOps.indexIJ (hS.rd 0 rfl) (j := i - 1) (by first | omega | (simp; omega)) (by first | omega | (simp; done) | (simp; omega)) ?_
                    intro p127 hp127
                    refine KOps.guardYes (dj := 119) rfl rfl ?_
                    refine KOps.loadI hp127 (hS.rd 0 rfl) (by first | omega | (simp; done) | (simp; omega)) ?_
                    refine KOps.guardYes (dj := 119) rfl rfl ?_
                    refine KOps.gtr ?_
                    refine KOps.pickT ?_
                    refine KOps.done ?_
                    refine sqQ.normal ?_
                    refine KA.sub (Sub.cons (t := 17) Look.eq (Sub.cons (t := 19) Look.eq (Sub.cons (t := 20) Look.eq (Sub.cons (t := 120) Look.eq (Sub.cons (t := 121) Look.eq (Sub.cons (t := 122) Look.eq (Sub.cons (t := 123) Look.eq (Sub.cons (t := 124) Look.eq (Sub.cons (t := 125) Look.eq (Sub.cons (t := 126) Look.eq (Sub.cons (t := 127) Look.eq (Sub.cons (t := 128) Look.eq (Sub.cons (t := 129) Look.eq (Sub.cons (t := 130) Look.eq (Sub.nil _))))))))))))))) ?_
                    refine KA.condD ?_ ?_
                    · intro c130
                      refine KA.skip ?_
                      refine sqQ.normal ?_
                      refine KA.sub (Sub.cons (t := 17) Look.eq (Sub.cons (t := 19) Look.eq (Sub.cons (t := 20) Look.eq (Sub.cons (t := 120) Look.eq (Sub.cons (t := 121) Look.eq (Sub.cons (t := 122) Look.eq (Sub.cons (t := 123) Look.eq (Sub.cons (t := 124) Look.eq (Sub.cons (t := 125) Look.eq (Sub.cons (t := 126) Look.eq (Sub.cons (t := 127) Look.eq (Sub.cons (t := 128) Look.eq (Sub.cons (t := 129) Look.eq (Sub.nil _)))))))))))))) ?_
                      refine KA.seq ?_
                      refine KA.block ?_
                      refine KA.draw [] mixed rfl (by kernel_rfl) ?_
                      refine KOps.move ?_
                      refine KOps.move ?_
                      refine KOps.move ?_
                      refine KOps.move ?_
                      refine KOps.sub (by first | omega | (simp; omega)) (by first | omega | (simp; omega)) ?_
                      refine KOps.move ?_
                      refine KOps.move ?_
                      refine KOps.sub (by first | omega | (simp; omega)) (by first | omega | (simp; omega)) ?_
                      refine KOps.indexIJ (hS.rd 0 rfl) (j := i - 1) (by first | omega | (simp; omega)) (by first | omega | (simp; done) | (simp; omega)) ?_
                      intro p141 hp141
                      refine KOps.loadI hp141 (hS.rd 0 rfl) (by first | omega | (simp; done) | (simp; omega)) ?_
                      refine KOps.move ?_
                      refine KOps.move ?_
                      refine KOps.indexIJ (hS.rd 0 rfl) (j := i) rfl (by first | omega | (simp; done) | (simp; omega)) ?_
                      intro p145 hp145
                      refine KOps.loadI hp145 (hS.rd 0 rfl) (by first | omega | (simp; done) | (simp; omega)) ?_
                      refine KOps.indexIJ (hS.rd 0 rfl) (j := i) rfl (by first | omega | (simp; done) | (simp; omega)) ?_
                      intro p147 hp147
                      refine KOps.storeI hS rfl (i := 0) rfl hp147 (by first | omega | (simp; done) | (simp; omega)) ?_
                      intro h' hS
                      refine KOps.indexIJ (hS.rd 0 rfl) (j := i - 1) (by first | omega | (simp; omega)) (by first | omega | (simp; done) | (simp; omega)) ?_
                      intro p148 hp148
                      refine KOps.storeI hS rfl (i := 0) rfl hp148 (by first | omega | (simp; done) | (simp; omega)) ?_
                      intro h' hS
                      refine KOps.done ?_
                      refine blQ.normal ?_
                      refine sqQ.normal ?_
                      refine KA.sub (Sub.cons (t := 17) Look.eq (Sub.cons (t := 19) Look.eq (Sub.cons (t := 20) Look.eq (Sub.cons (t := 120) Look.eq (Sub.cons (t := 121) Look.eq (Sub.cons (t := 122) Look.eq (Sub.cons (t := 123) Look.eq (Sub.cons (t := 124) Look.eq (Sub.cons (t := 125) Look.eq (Sub.cons (t := 126) Look.eq (Sub.cons (t := 127) Look.eq (Sub.cons (t := 128) Look.eq (Sub.cons (t := 129) Look.eq (Sub.nil _)))))))))))))) ?_
                      refine KA.region rfl ?_
                      refine KOps.move ?_
                      refine KOps.sub (by first | omega | (simp; omega)) (by first | omega | (simp; omega)) ?_
                      refine KOps.assign ?_
                      refine KOps.done ?_
                      refine lpQ.normal (i - 1, swpI l i) (by repeat (first | exact Sub.nil _ | refine Sub.cons Look.eq ?_ | refine Sub.cons (Eq.trans Look.eq (congrArg (AV.int _) (by first | omega | (dsimp only; omega)))) ?_)) ⟨?_, ?_, ?_, hS⟩ (by dsimp only; omega)
                      · dsimp only [swpI]; rw [List.length_set, List.length_set]; omega
                      · dsimp only [swpI]; rw [List.length_set, List.length_set]; omega
                      · dsimp only; rw [← bub_yes (by omega) c130]; exact hb
                    · intro c130
                      have hlr : l = nI (roundH p) := by rw [← hb, bub_no (fun h => c130 h.2)]
                      subst hlr
                      refine KA.exit ?_
                      refine sqQ.exit ?_
                      refine lpQ.exit ?_
                      refine blQ.here ?_
                      refine sqQ.normal ?_
                      refine KA.sub (Sub.cons (t := 17) Look.eq (Sub.cons (t := 19) Look.eq (Sub.nil _))) ?_
                      refine KA.seq ?_
                      refine KA.region rfl ?_
                      refine KOps.move ?_
                      refine KOps.move ?_
                      refine KOps.call rfl (same_c (hS.rd 1 rfl) (hS.rd 0 rfl) (by rw [nI, List.length_map]; omega)) ?_
                      rintro _ _ ⟨rfl, rfl⟩
                      refine KOps.move ?_
                      refine KOps.guardB (dj := 152) rfl rfl true false rfl ?_ ?_
                      · intro g152
                        have g152 := of_decide_eq_true g152
                        refine KOps.call rfl (heapWorks_c (hT.ext hS.keeps)) ?_
                        rintro _ hx ⟨rfl, hK⟩
                        have hS0 : St _ _ _ := St.trans hS (St.ofK hK)
                        clear hS
                        have hS := hS0
                        clear hS0
                        simp only [List.nil_append] at hS
                        refine KOps.pickT ?_
                        refine KOps.assign ?_
                        refine KOps.done ?_
                        refine sqQ.normal ?_
                        refine KA.sub (Sub.cons (t := 2) Look.eq (Sub.nil _)) ?_
                        refine KA.ret ?_
                        refine fnQ.ret1 ?_
                        first | rfl | exact absurd hdt (fun e => c89 (by rw [e])) | exact absurd rfl (by assumption) | cases g84
                      · intro g152
                        have g152 := of_decide_eq_false g152
                        exact absurd rfl g152
                  · intro g119
                    have g119 := of_decide_eq_false g119
                    have hlr : l = nI (roundH p) := by rw [← hb, bub_no (fun h => g119 (by omega))]
                    subst hlr
                    refine KOps.guardNo (dj := 119) rfl rfl rfl ?_
                    refine KOps.guardNo (dj := 119) rfl rfl rfl ?_
                    refine KOps.guardNo (dj := 119) rfl rfl rfl ?_
                    refine KOps.guardNo (dj := 119) rfl rfl rfl ?_
                    refine KOps.guardNo (dj := 119) rfl rfl rfl ?_
                    refine KOps.guardNo (dj := 119) rfl rfl rfl ?_
                    refine KOps.guardNo (dj := 119) rfl rfl rfl ?_
                    refine KOps.guardNo (dj := 119) rfl rfl rfl ?_
                    refine KOps.guardNo (dj := 119) rfl rfl rfl ?_
                    refine KOps.pickF ?_
                    refine KOps.done ?_
                    refine sqQ.normal ?_
                    refine KA.sub (Sub.cons (t := 17) Look.eq (Sub.cons (t := 19) Look.eq (Sub.cons (t := 20) Look.eq (Sub.cons (t := 120) Look.eq (Sub.cons (t := 121) Look.eq (Sub.cons (t := 122) Look.eq (Sub.cons (t := 123) Look.eq (Sub.cons (t := 124) Look.eq (Sub.cons (t := 125) Look.eq (Sub.cons (t := 126) Look.eq (Sub.cons (t := 127) Look.eq (Sub.cons (t := 128) Look.eq (Sub.cons (t := 129) Look.eq (Sub.cons (t := 130) Look.eq (Sub.nil _))))))))))))))) ?_
                    refine KA.condF ?_
                    refine KA.exit ?_
                    refine sqQ.exit ?_
                    refine lpQ.exit ?_
                    refine blQ.here ?_
                    refine sqQ.normal ?_
                    refine KA.sub (Sub.cons (t := 17) Look.eq (Sub.cons (t := 19) Look.eq (Sub.nil _))) ?_
                    refine KA.seq ?_
                    refine KA.region rfl ?_
                    refine KOps.move ?_
                    refine KOps.move ?_
                    refine KOps.call rfl (same_c (hS.rd 1 rfl) (hS.rd 0 rfl) (by rw [nI, List.length_map]; omega)) ?_
                    rintro _ _ ⟨rfl, rfl⟩
                    refine KOps.move ?_
                    refine KOps.guardB (dj := 152) rfl rfl true false rfl ?_ ?_
                    · intro g152
                      have g152 := of_decide_eq_true g152
                      refine KOps.call rfl (heapWorks_c (hT.ext hS.keeps)) ?_
                      rintro _ hx ⟨rfl, hK⟩
                      have hS0 : St _ _ _ := St.trans hS (St.ofK hK)
                      clear hS
                      have hS := hS0
                      clear hS0
                      simp only [List.nil_append] at hS
                      refine KOps.pickT ?_
                      refine KOps.assign ?_
                      refine KOps.done ?_
                      refine sqQ.normal ?_
                      refine KA.sub (Sub.cons (t := 2) Look.eq (Sub.nil _)) ?_
                      refine KA.ret ?_
                      refine fnQ.ret1 ?_
                      first | rfl | exact absurd hdt (fun e => c89 (by rw [e])) | exact absurd rfl (by assumption) | cases g84
                    · intro g152
                      have g152 := of_decide_eq_false g152
                      exact absurd rfl g152
          · intro g84
            refine KOps.guardNo (dj := 84) rfl rfl rfl ?_
            refine KOps.guardNo (dj := 84) rfl rfl rfl ?_
            refine KOps.guardNo (dj := 84) rfl rfl rfl ?_
            refine KOps.pickT ?_
            refine KOps.done ?_
            refine sqQ.normal ?_
            refine KA.sub (Sub.cons (t := 3) Look.eq (Sub.cons (t := 11) Look.eq (Sub.cons (t := 89) Look.eq (Sub.nil _)))) ?_
            refine KA.condT ?_
            refine KA.seq ?_
            refine KA.region rfl ?_
            refine KOps.assign ?_
            refine KOps.done ?_
            refine sqQ.normal ?_
            refine KA.sub (Sub.cons (t := 2) Look.eq (Sub.nil _)) ?_
            refine KA.ret ?_
            refine sqQ.ret ?_
            refine fnQ.ret1 ?_
            first | rfl | exact absurd hdt (fun e => c89 (by rw [e])) | exact absurd rfl (by assumption) | cases g84
        · intro g80
          have g80 := not_of_not_decide g80
          refine KOps.guardNo (dj := 80) rfl rfl rfl ?_
          refine KOps.pickT ?_
          refine KOps.move ?_
          refine KOps.guardNo (dj := 84) rfl rfl rfl ?_
          refine KOps.guardNo (dj := 84) rfl rfl rfl ?_
          refine KOps.guardNo (dj := 84) rfl rfl rfl ?_
          refine KOps.guardNo (dj := 84) rfl rfl rfl ?_
          refine KOps.pickT ?_
          refine KOps.done ?_
          refine sqQ.normal ?_
          refine KA.sub (Sub.cons (t := 3) Look.eq (Sub.cons (t := 11) Look.eq (Sub.cons (t := 89) Look.eq (Sub.nil _)))) ?_
          refine KA.condT ?_
          refine KA.seq ?_
          refine KA.region rfl ?_
          refine KOps.assign ?_
          refine KOps.done ?_
          refine sqQ.normal ?_
          refine KA.sub (Sub.cons (t := 2) Look.eq (Sub.nil _)) ?_
          refine KA.ret ?_
          refine sqQ.ret ?_
          refine fnQ.ret1 ?_
          first | rfl | exact absurd hdt (fun e => c89 (by rw [e])) | exact absurd rfl (by assumption) | cases g84
      · intro g76
        have g76 := not_of_not_decide g76
        refine KOps.guardNo (dj := 76) rfl rfl rfl ?_
        refine KOps.pickT ?_
        refine KOps.move ?_
        refine KOps.guardNo (dj := 80) rfl rfl rfl ?_
        refine KOps.guardNo (dj := 80) rfl rfl rfl ?_
        refine KOps.pickT ?_
        refine KOps.move ?_
        refine KOps.guardNo (dj := 84) rfl rfl rfl ?_
        refine KOps.guardNo (dj := 84) rfl rfl rfl ?_
        refine KOps.guardNo (dj := 84) rfl rfl rfl ?_
        refine KOps.guardNo (dj := 84) rfl rfl rfl ?_
        refine KOps.pickT ?_
        refine KOps.done ?_
        refine sqQ.normal ?_
        refine KA.sub (Sub.cons (t := 3) Look.eq (Sub.cons (t := 11) Look.eq (Sub.cons (t := 89) Look.eq (Sub.nil _)))) ?_
        refine KA.condT ?_
        refine KA.seq ?_
        refine KA.region rfl ?_
        refine KOps.assign ?_
        refine KOps.done ?_
        refine sqQ.normal ?_
        refine KA.sub (Sub.cons (t := 2) Look.eq (Sub.nil _)) ?_
        refine KA.ret ?_
        refine sqQ.ret ?_
        refine fnQ.ret1 ?_
        first | rfl | exact absurd hdt (fun e => c89 (by rw [e])) | exact absurd rfl (by assumption) | cases g84

theorem law_diagram_i {h : AHeap} {l : List Int} (hl : l.length = 4) (hw : ∀ x ∈ l, (Lit.int .u8 x).wf = true) (hT : Tabs h) : ACalls Go.Proofs.Tryz.prog 3 [.agg (bytes l)] h (fun q _ => q = .bool true) := by
  have hb : ∀ x ∈ l, 0 ≤ x ∧ x ≤ 255 := fun x hx => wf_u8 (hw x hx)
  have e : l = nI (l.map Int.toNat) := by
    rw [nI, List.map_map]
    exact ((List.map_congr_left fun x hx => by have := hb x hx; simp only [Function.comp_apply]; omega).trans (List.map_id' l)).symm
  rw [e]
  refine law_diagram (by rw [List.length_map]; exact hl) ?_ hT
  intro x hx
  obtain ⟨y, hy, rfl⟩ := List.mem_map.1 hx
  have := hb y hy
  omega
end Go.Am

namespace Go.Am
theorem VRels.split {φ : Emb} {a b : List AV} {cs : List Value} {s : Nat} (h1 : VRels φ a (cs.take s)) (h2 : VRels φ b (cs.drop s)) (hs : s ≤ cs.length) : VRels φ (a ++ b) cs ∧ (a ++ b).take s = a ∧ (a ++ b).drop s = b := by
  have ha : a.length = s := by rw [h1.1, List.length_take]; omega
  have h3 := VRels.append h1 h2
  rw [List.take_append_drop] at h3
  exact ⟨h3, by rw [← ha, List.take_left], by rw [← ha, List.drop_left]⟩
end Go.Am

namespace Go.Am
open Go.ChangeShapes Go.WideShapes
def laidL : List (String × DataW Unit) := [("math/bits.deBruijn32tab", Go.Proofs.YtdfhmdhjeiipfaaGreatDoor.Rows.laid_math_bits_deBruijn32tab), ("math/bits.deBruijn64tab", Go.Proofs.YtdfhmdhjeiipfaaGreatDoor.Rows.laid_math_bits_deBruijn64tab)]
def litI : DataW Unit → Option Int
  | .lit (.int .u8 n) => some n
  | _ => none
def aggL : DataW Unit → List (DataW Unit)
  | .agg l => l
  | _ => []
theorem laid_lits : (aggL Go.Proofs.YtdfhmdhjeiipfaaGreatDoor.Rows.laid_math_bits_deBruijn32tab).map litI = tzL.map fun (v : Nat) => some (v : Int) := by kernel_rfl
theorem laid_lits64 : (aggL Go.Proofs.YtdfhmdhjeiipfaaGreatDoor.Rows.laid_math_bits_deBruijn64tab).map litI = tzL64.map fun (v : Nat) => some (v : Int) := by kernel_rfl
theorem Imp.blank {W : World} {φ : Emb} {h : AHeap} (im : Imp W φ h) : Imp W (fun b => if b = h.next then .none else φ b) (h.push (.cells .none 0 [])) := (im.push [] .none (by intro k i z hq; cases hq)).1
/-- Tables, as the package-level variables 2 and 3. -/
theorem Imp.table23 {W : World} {cs ds : List AV} (hcell : ∀ (j : Nat) (x : AV), cs[j]? = some x → ∃ v, W.cell? ⟨2, j, none⟩ = some v ∧ ∀ φ, VRel φ x v) (h2 : 2 < W.heap.size) (hcel1 : ∀ (j : Nat) (x : AV), ds[j]? = some x → ∃ v, W.cell? ⟨3, j, none⟩ = some v ∧ ∀ φ, VRel φ x v) (h3 : 3 < W.heap.size) :
    ∃ φ h, Imp W φ h ∧ (h.globs.contains 2 = true ∧ Rd h (.ptr 2 0) 0 cs) ∧ h.globs.contains 3 = true ∧ Rd h (.ptr 3 0) 0 ds := by
  obtain ⟨im, _⟩ := (Imp.empty W).blank.blank.push cs (some (2, 0, cs.length)) (by
    intro k i z hq
    cases hq
    refine ⟨h2, fun j x hx => ?_⟩
    obtain ⟨v, h1, h2⟩ := hcell j x hx
    exact ⟨v, by rw [Nat.zero_add]; exact h1, h2 _⟩)
  obtain ⟨im2, _⟩ := im.push ds (some (3, 0, ds.length)) (by
    intro k i z hq
    cases hq
    refine ⟨h3, fun j x hx => ?_⟩
    obtain ⟨v, h1, h2⟩ := hcel1 j x hx
    exact ⟨v, by rw [Nat.zero_add]; exact h1, h2 _⟩)
  refine ⟨_, ⟨_, _, [2, 3]⟩, ⟨⟨?_, im2.rel.lt, im2.rel.blk, im2.rel.arr, im2.rel.one, im2.rel.sep, im2.rel.map, im2.rel.ext⟩, im2.ro, im2.out⟩, ⟨rfl, .inr (.inl ⟨2, 0, .none, 0, cs, .inr ⟨rfl, rfl⟩, rfl, rfl, by rw [List.drop_zero, List.take_length]⟩)⟩, rfl, .inr (.inl ⟨3, 0, .none, 0, ds, .inr ⟨rfl, rfl⟩, rfl, rfl, by rw [List.drop_zero, List.take_length]⟩)⟩
  intro g hg
  have hg : g = 2 ∨ g = 3 := by simpa using hg
  rcases hg with rfl | rfl
  · exact ⟨cs.length, rfl⟩
  · exact ⟨ds.length, rfl⟩
/-- The cells of a laid table. -/
theorem table_cells {W : World} {l : List Nat} {lay : DataW Unit} {g t n : Nat} {nm : String} {cs : Array Value} {f : Nat} {p : List MemPlace}
    (hU : Go.Proofs.Tryz.prog.underlying t = some (.array n 5)) (c2 : Go.Proofs.Tryz.prog.cellsOf t = l.length) (hn : n = l.length) (hlits : (aggL lay).map litI = l.map fun (v : Nat) => some (v : Int)) (hl0 : 0 < l.length)
    (hg0 : Go.Proofs.Tryz.prog.globalNamed nm = some g) (hv0 : W.var? Go.Proofs.Tryz.prog nm = some cs)
    (hd0 : DataW.trod (fun _ => ()) Go.Proofs.Tryz.prog W 0 (fun _ => true) false f t cs.toList = some (lay, p)) :
    (∀ i x, (l.map fun (v : Nat) => AV.int .u8 (v : Int))[i]? = some x → ∃ v, W.cell? ⟨g, i, none⟩ = some v ∧ ∀ φ, VRel φ x v) ∧ g < W.heap.size := by
  obtain ⟨xs, m, rfl, hx1, hl, hxl, hx⟩ := DataW.trod_array hU hd0
  have c1 : Go.Proofs.Tryz.prog.cellsOf 5 = 1 := by kernel_rfl
  rw [c2] at hl
  have hd := (Prod.mk.inj hx1).1
  have hxs : xs.map (fun x => litI x.1) = l.map fun (v : Nat) => some (v : Int) := by
    rw [← hlits, hd]
    show _ = (xs.map (·.1)).map litI
    rw [List.map_map]; rfl
  have key : ∀ i, i < l.length → cs.toList[i]? = some (.int .u8 ((l.getD i 0 : Nat) : Int)) := by
    intro i hi
    have h2 := hx i (by omega)
    rw [c1, Nat.mul_one, List.getElem?_eq_getElem (by omega)] at h2
    obtain ⟨c, h3, h4, _⟩ := DataW.trod_int Go.Proofs.Tryz.underlying5 h2
    have h5 : ((cs.toList.drop i).take 1)[0]? = some (.int .u8 c) := by rw [h3]; rfl
    have h6 : cs.toList[i]? = some (.int .u8 c) := by simpa [List.getElem?_take, List.getElem?_drop] using h5
    have h7 := congrArg (fun l => l[i]?) hxs
    simp only [List.getElem?_map, List.getElem?_eq_getElem (show i < xs.length by omega), List.getElem?_eq_getElem hi, Option.map_some, Option.some.injEq] at h7
    rw [h4] at h7
    have h8 : c = ((l.getD i 0 : Nat) : Int) := by
      rw [List.getD_eq_getElem?_getD, List.getElem?_eq_getElem hi]
      simpa [litI] using h7
    rw [h6, h8]
  have hcell : ∀ i, i < l.length → W.cell? ⟨g, i, none⟩ = some (.int .u8 ((l.getD i 0 : Nat) : Int)) := by
    intro i hi
    rw [World.var?_cell hg0 hv0 i, ← Array.getElem?_toList]
    exact key i hi
  refine ⟨fun i x hx => ?_, ?_⟩
  · have hi : i < l.length := by
      have := (List.getElem?_eq_some_iff.1 hx).1
      rwa [List.length_map] at this
    rw [List.getElem?_map, List.getElem?_eq_getElem hi] at hx
    cases hx
    refine ⟨_, hcell i hi, fun φ => ?_⟩
    rw [List.getD_eq_getElem?_getD, List.getElem?_eq_getElem hi]
    exact .int _ _
  · have h3 := hcell 0 hl0
    unfold World.cell? at h3
    split at h3
    · rename_i hc
      exact (Array.getElem?_eq_some_iff.1 hc).1
    · cases h3
theorem sizes_laid {W : World} (h : laidMetH Go.Proofs.Tryz.prog laidL W) : ∃ φ hp, Imp W φ hp ∧ Tabs hp := by
  rw [MakeChecks.laidMetH_plain _ _ _ (by kernel_rfl)] at h
  obtain ⟨ps, ⟨g0, t0, cs0, f0, p0, q0, hg0, ht0, hv0, hd0, ⟨g1, t1, cs1, f1, p1, q1, hg1, ht1, hv1, hd1, _, _⟩, _⟩, _, _⟩ := h
  obtain rfl := Option.some.inj ((show Go.Proofs.Tryz.prog.globalNamed "math/bits.deBruijn32tab" = some 3 by kernel_rfl).symm.trans hg0)
  obtain rfl := Option.some.inj ((show (Go.Proofs.Tryz.prog.globals[3]?).map (·.type) = some 315 by kernel_rfl).symm.trans ht0)
  obtain rfl := Option.some.inj ((show Go.Proofs.Tryz.prog.globalNamed "math/bits.deBruijn64tab" = some 2 by kernel_rfl).symm.trans hg1)
  obtain rfl := Option.some.inj ((show (Go.Proofs.Tryz.prog.globals[2]?).map (·.type) = some 302 by kernel_rfl).symm.trans ht1)
  obtain ⟨a0, b0⟩ := table_cells Go.Proofs.Tryz.underlying315 (show _ = tzL.length by kernel_rfl) rfl laid_lits (by decide) hg0 hv0 hd0
  obtain ⟨a1, b1⟩ := table_cells Go.Proofs.Tryz.underlying302 (show _ = tzL64.length by kernel_rfl) rfl laid_lits64 (by decide) hg1 hv1 hd1
  obtain ⟨φ, hp, im, h0, h1⟩ := Imp.table23 (cs := tzC64) (ds := tzC) a1 b1 a0 b0
  exact ⟨φ, hp, im, h1, h0⟩
end Go.Am
