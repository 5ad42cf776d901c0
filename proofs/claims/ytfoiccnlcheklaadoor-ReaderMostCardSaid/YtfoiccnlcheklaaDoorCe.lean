/-
  Layer 08: contracts: words are sorted, and looked for.
  Conditions: none.
-/
import Derived.Test.YtfoiccnlcheklaaDoorCa
namespace Go.Am
section
variable {P : Program} {n : Nat} {ops : Array Oper} {ex : List Nat} {Q : KF → AHeap → Prop} {k : Nat} {os : List Oper} {K : KF} {h h0 : AHeap} {d : Nat} {ty : TypeId} {pos : String} {after : Array Edge} {objs pre rest : List Obj}
theorem KOps.wNeqF {t t' : TypeId} {x y : Operand} {a b : List Bool} [hx : EvK h.globs n K x (.str (wd a))] [hy : EvK h.globs n K y (.str (wd b))] (he : a = b) (hk : KOps P n ops ex Q (k + 1) os ((d, .bool false) :: K) h) : KOps P n ops ex Q k (⟨some d, .binOp .neq t x y t', ty, pos, after, none⟩ :: os) K h := by
  refine KOps.wNeq ?_
  rw [decide_eq_true he]
  exact hk
end
theorem asc_le {l : List (List Bool)} (ha : Asc l) {c : List Bool} {q m : Nat} (hqm : q ≤ m) (hm : m < l.length) (h : wlt (l.getD m []) c = true) : wlt (l.getD q []) c = true := by
  rcases Nat.lt_or_eq_of_le hqm with h1 | rfl
  · exact wlt_trans (asc_get ha h1 hm) h
  · exact h
theorem asc_ge {l : List (List Bool)} (ha : Asc l) {c : List Bool} {q m : Nat} (hqm : m ≤ q) (hm : q < l.length) (h : wlt (l.getD m []) c = false) : wlt (l.getD q []) c = false := by
  rcases Nat.lt_or_eq_of_le hqm with h1 | rfl
  · exact nlt_trans (wlt_asymm (asc_get ha h1 hm)) h
  · exact h
theorem nanS_c {h : AHeap} {a : List Bool} : ACalls Go.Proofs.Tryd.prog 83 [.str (wd a)] h (fun q h' => q = .bool false ∧ h = h') := by
  refine KA.fn 6 [.tmp 2] Go.Proofs.Tryd.func83 rfl (by decide) rfl rfl (Nat.le_of_ble_eq_true rfl) ?_
  show KA _ 6 _ _ [(0, .str (wd a))] _
  refine KA.seq ?_
  refine KA.region rfl ?_
  refine KOps.assign ?_
  refine KOps.done ?_
  refine sqQ.normal ?_
  refine KA.sub (Sub.cons (t := 0) Look.eq (Sub.nil _)) ?_
  refine KA.seq ?_
  refine KA.region rfl ?_
  refine KOps.move ?_
  refine KOps.move ?_
  refine KOps.wNeqF rfl ?_
  refine KOps.assign ?_
  refine KOps.done ?_
  refine sqQ.normal ?_
  refine KA.sub (Sub.cons (t := 2) Look.eq (Sub.nil _)) ?_
  refine KA.ret ?_
  refine fnQ.ret1 ?_
  exact ⟨rfl, rfl⟩

theorem nanC_c {h : AHeap} {a : List Bool} : ACalls Go.Proofs.Tryd.prog 100 [.str (wd a)] h (fun q h' => q = .bool false ∧ h = h') := by
  refine KA.fn 6 [.tmp 2] Go.Proofs.Tryd.func100 rfl (by decide) rfl rfl (Nat.le_of_ble_eq_true rfl) ?_
  show KA _ 6 _ _ [(0, .str (wd a))] _
  refine KA.seq ?_
  refine KA.region rfl ?_
  refine KOps.assign ?_
  refine KOps.done ?_
  refine sqQ.normal ?_
  refine KA.sub (Sub.cons (t := 0) Look.eq (Sub.nil _)) ?_
  refine KA.seq ?_
  refine KA.region rfl ?_
  refine KOps.move ?_
  refine KOps.move ?_
  refine KOps.wNeqF rfl ?_
  refine KOps.assign ?_
  refine KOps.done ?_
  refine sqQ.normal ?_
  refine KA.sub (Sub.cons (t := 2) Look.eq (Sub.nil _)) ?_
  refine KA.ret ?_
  refine fnQ.ret1 ?_
  exact ⟨rfl, rfl⟩

theorem less_c {h : AHeap} {a b : List Bool} : ACalls Go.Proofs.Tryd.prog 82 [.str (wd a), .str (wd b)] h (fun q h' => q = .bool (wlt a b) ∧ h = h') := by
  refine KA.fn 17 [.tmp 4] Go.Proofs.Tryd.func82 rfl (by decide) rfl rfl (Nat.le_of_ble_eq_true rfl) ?_
  show KA _ 17 _ _ [(0, .str (wd a)), (1, .str (wd b))] _
  refine KA.seq ?_
  refine KA.region rfl ?_
  refine KOps.assign ?_
  refine KOps.done ?_
  refine sqQ.normal ?_
  refine KA.sub (Sub.cons (t := 0) Look.eq (Sub.cons (t := 1) Look.eq (Sub.nil _))) ?_
  refine KA.seq ?_
  refine KA.region rfl ?_
  refine KOps.move ?_
  refine KOps.call rfl (nanC_c) ?_
  rintro _ _ ⟨rfl, rfl⟩
  refine KOps.move ?_
  refine KOps.guardNo (dj := 7) rfl rfl rfl ?_
  refine KOps.guardNo (dj := 7) rfl rfl rfl ?_
  refine KOps.guardNo (dj := 7) rfl rfl rfl ?_
  refine KOps.pickF ?_
  refine KOps.move ?_
  refine KOps.guardYes (dj := 12) rfl rfl ?_
  refine KOps.move ?_
  refine KOps.guardYes (dj := 12) rfl rfl ?_
  refine KOps.move ?_
  refine KOps.guardYes (dj := 12) rfl rfl ?_
  refine KOps.wLss ?_
  refine KOps.pickF ?_
  refine KOps.assign ?_
  refine KOps.done ?_
  refine sqQ.normal ?_
  refine KA.sub (Sub.cons (t := 4) Look.eq (Sub.nil _)) ?_
  refine KA.ret ?_
  refine fnQ.ret1 ?_
  exact ⟨rfl, rfl⟩

theorem len64_c {h : AHeap} {m : Nat} (hm : m < 256) : ACalls Go.Proofs.Tryd.prog 93 [.int .u64 (m : Int)] h (fun r h' => (∃ c : Int, r = .int .i64 c) ∧ h = h') := by
  refine KA.fn 25 [.tmp 2] Go.Proofs.Tryd.func93 rfl (by decide) rfl rfl (Nat.le_of_ble_eq_true rfl) ?_
  show KA _ 25 _ _ [(0, .int .u64 (m : Int))] _
  refine KA.seq ?_
  refine KA.region rfl ?_
  refine KOps.assign ?_
  refine KOps.done ?_
  refine sqQ.normal ?_
  refine KA.seq ?_
  refine KA.seq ?_
  refine KA.region rfl ?_
  refine KOps.move ?_
  refine KOps.geq ?_
  rw [decide_eq_false (by omega)]
  refine KOps.done ?_
  refine sqQ.normal ?_
  refine KA.sub (Sub.cons (t := 0) Look.eq (Sub.cons (t := 2) Look.eq (Sub.cons (t := 4) Look.eq (Sub.nil _)))) ?_
  refine KA.condF ?_
  refine KA.skip ?_
  refine sqQ.normal ?_
  refine KA.sub (Sub.cons (t := 0) Look.eq (Sub.cons (t := 2) Look.eq (Sub.nil _))) ?_
  refine KA.seq ?_
  refine KA.seq ?_
  refine KA.region rfl ?_
  refine KOps.move ?_
  refine KOps.geq ?_
  rw [decide_eq_false (by omega)]
  refine KOps.done ?_
  refine sqQ.normal ?_
  refine KA.sub (Sub.cons (t := 0) Look.eq (Sub.cons (t := 2) Look.eq (Sub.cons (t := 8) Look.eq (Sub.nil _)))) ?_
  refine KA.condF ?_
  refine KA.skip ?_
  refine sqQ.normal ?_
  refine KA.sub (Sub.cons (t := 0) Look.eq (Sub.cons (t := 2) Look.eq (Sub.nil _))) ?_
  refine KA.seq ?_
  refine KA.seq ?_
  refine KA.region rfl ?_
  refine KOps.move ?_
  refine KOps.geq ?_
  rw [decide_eq_false (by omega)]
  refine KOps.done ?_
  refine sqQ.normal ?_
  refine KA.sub (Sub.cons (t := 0) Look.eq (Sub.cons (t := 2) Look.eq (Sub.cons (t := 14) Look.eq (Sub.nil _)))) ?_
  refine KA.condF ?_
  refine KA.skip ?_
  refine sqQ.normal ?_
  refine KA.sub (Sub.cons (t := 0) Look.eq (Sub.cons (t := 2) Look.eq (Sub.nil _))) ?_
  refine KA.seq ?_
  refine KA.region rfl ?_
  refine KOps.move ?_
  refine KOps.move ?_
  refine KOps.convIn (by rw [IntKind.wrap_u8]; omega) ?_
  refine KOps.indexStr (j := m) rfl (z := 256) (by kernel_rfl) hm ?_
  intro c hc0 hc1
  refine KOps.convU hc0 hc1 ?_
  refine KOps.add (by first | omega | (simp; omega)) (by first | omega | (simp; omega)) ?_
  refine KOps.assign ?_
  refine KOps.done ?_
  refine sqQ.normal ?_
  refine KA.sub (Sub.cons (t := 2) Look.eq (Sub.nil _)) ?_
  refine KA.ret ?_
  refine fnQ.ret1 ?_
  exact ⟨⟨_, rfl⟩, rfl⟩

theorem blen_c {h : AHeap} {m : Nat} (hm : m < 256) : ACalls Go.Proofs.Tryd.prog 78 [.int .u64 (m : Int)] h (fun r h' => (∃ c : Int, r = .int .i64 c) ∧ h = h') := by
  refine KA.fn 8 [.tmp 2] Go.Proofs.Tryd.func78 rfl (by decide) rfl rfl (Nat.le_of_ble_eq_true rfl) ?_
  show KA _ 8 _ _ [(0, .int .u64 (m : Int))] _
  refine KA.seq ?_
  refine KA.region rfl ?_
  refine KOps.assign ?_
  refine KOps.done ?_
  refine sqQ.normal ?_
  refine KA.sub (Sub.cons (t := 0) Look.eq (Sub.nil _)) ?_
  refine KA.seq ?_
  refine KA.condF ?_
  refine KA.skip ?_
  refine sqQ.normal ?_
  refine KA.seq ?_
  refine KA.region rfl ?_
  refine KOps.move ?_
  refine KOps.call rfl (len64_c hm) ?_
  rintro _ _ ⟨⟨c, rfl⟩, rfl⟩
  refine KOps.assign ?_
  refine KOps.done ?_
  refine sqQ.normal ?_
  refine KA.sub (Sub.cons (t := 2) Look.eq (Sub.nil _)) ?_
  refine KA.ret ?_
  refine fnQ.ret1 ?_
  exact ⟨⟨_, rfl⟩, rfl⟩

theorem isort_c {h0 h : AHeap} {F : List Obj} {w : AV} {m i : Nat} {e : List (List Bool)} {tip : Bool} (hS : St h0 h F) (hi : F[i]? = some ⟨w, 1, wcs e, tip⟩) (hm : m = e.length) (hm2 : m ≤ 12) : ACalls Go.Proofs.Tryd.prog 84 [w, .int .i64 0, .int .i64 (m : Int)] h (fun _ h' => ∃ e', e'.Perm e ∧ Ordt e' e'.length ∧ St h0 h' (F.set i ⟨w, 1, wcs e', tip⟩)) := by
  refine KA.fn 49 [] Go.Proofs.Tryd.func84 rfl (by decide) rfl rfl (Nat.le_of_ble_eq_true rfl) ?_
  have hil : i < F.length := by
    rcases Nat.lt_or_ge i F.length with h | h
    · exact h
    · rw [List.getElem?_eq_none h] at hi; cases hi
  have hset : F.set i ⟨w, 1, wcs e, tip⟩ = F := by
    have h1 : F[i] = _ := Option.some.inj ((List.getElem?_eq_getElem hil).symm.trans hi)
    rw [← h1]; exact List.set_getElem_self hil
  have hget : ∀ c : List (List Bool), (F.set i ⟨w, 1, wcs c, tip⟩)[i]? = some ⟨w, 1, wcs c, tip⟩ := fun c => by rw [List.getElem?_set_self hil]
  show KA _ 49 _ _ [(0, w), (1, .int .i64 0), (2, .int .i64 (m : Int))] _
  refine KA.seq ?_
  refine KA.region rfl ?_
  refine KOps.move ?_
  refine KOps.add (by first | omega | (simp; omega)) (by first | omega | (simp; omega)) ?_
  refine KOps.assign ?_
  refine KOps.done ?_
  refine sqQ.normal ?_
  refine KA.sub (Sub.cons (t := 0) Look.eq (Sub.cons (t := 1) Look.eq (Sub.cons (t := 2) Look.eq (Sub.cons (t := 6) Look.eq (Sub.nil _))))) ?_
  refine KA.block ?_
  refine KA.loop (X := Nat × List (List Bool)) (fun x => [(0, w), (1, .int .i64 0), (2, .int .i64 (m : Int)), (6, .int .i64 (x.1 : Int))]) (fun x h' => 1 ≤ x.1 ∧ x.1 ≤ m + 1 ∧ x.2.Perm e ∧ Ordt x.2 x.1 ∧ St h0 h' (F.set i ⟨w, 1, wcs x.2, tip⟩)) (fun x => m + 1 - x.1) (1, e) (by repeat (first | exact Sub.nil _ | refine Sub.cons Look.eq ?_ | refine Sub.cons (Eq.trans Look.eq (congrArg (AV.int _) (by first | omega | (dsimp only; omega)))) ?_)) ?_ ?_
  · exact ⟨by dsimp only; omega, by dsimp only; omega, List.Perm.refl e, Ordt.one e, by dsimp only; rw [hset]; exact hS⟩
  rintro ⟨a, e1⟩ h2 ⟨ha1, ha, hpm, hot, hS⟩
  dsimp only at ha1 ha hpm hot hS ⊢
  refine KA.seq ?_
  refine KA.seq ?_
  refine KA.region rfl ?_
  refine KOps.move ?_
  refine KOps.move ?_
  refine KOps.lss ?_
  refine KOps.done ?_
  refine sqQ.normal ?_
  refine KA.sub (Sub.cons (t := 0) Look.eq (Sub.cons (t := 1) Look.eq (Sub.cons (t := 2) Look.eq (Sub.cons (t := 6) Look.eq (Sub.cons (t := 12) Look.eq (Sub.nil _)))))) ?_
  refine KA.condD ?_ ?_
  · intro c12
    refine KA.skip ?_
    refine sqQ.normal ?_
    refine KA.sub (Sub.cons (t := 0) Look.eq (Sub.cons (t := 1) Look.eq (Sub.cons (t := 2) Look.eq (Sub.cons (t := 6) Look.eq (Sub.nil _))))) ?_
    refine KA.seq ?_
    refine KA.block ?_
    refine KA.seq ?_
    refine KA.region rfl ?_
    refine KOps.move ?_
    refine KOps.assign ?_
    refine KOps.done ?_
    refine sqQ.normal ?_
    refine KA.sub (Sub.cons (t := 0) Look.eq (Sub.cons (t := 1) Look.eq (Sub.cons (t := 2) Look.eq (Sub.cons (t := 6) Look.eq (Sub.cons (t := 7) Look.eq (Sub.nil _)))))) ?_
    refine KA.block ?_
    refine KA.loop (X := Nat × List (List Bool)) (fun x => [(0, w), (1, .int .i64 0), (2, .int .i64 (m : Int)), (6, .int .i64 (a : Int)), (7, .int .i64 (x.1 : Int))]) (fun x h' => x.1 ≤ a ∧ x.2.Perm e ∧ Ordx x.2 a x.1 ∧ St h0 h' (F.set i ⟨w, 1, wcs x.2, tip⟩)) (fun x => x.1) (a, e1) (by repeat (first | exact Sub.nil _ | refine Sub.cons Look.eq ?_ | refine Sub.cons (Eq.trans Look.eq (congrArg (AV.int _) (by first | omega | (dsimp only; omega)))) ?_)) ?_ ?_
    · exact ⟨by dsimp only; omega, hpm, hot.start, hS⟩
    rintro ⟨b, e2⟩ h3 ⟨hb, hpm, hox, hS⟩
    dsimp only at hb hpm hox hS ⊢
    have hln := hpm.length_eq
    refine KA.seq ?_
    refine KA.seq ?_
    refine KA.draw [] mixed rfl (by kernel_rfl) ?_
    refine KOps.move ?_
    refine KOps.move ?_
    refine KOps.gtr ?_
    refine KOps.move ?_
    refine KOps.guardB (dj := 19) rfl rfl true false rfl ?_ ?_
    · intro g19
      have g19 := of_decide_eq_true g19
      refine KOps.move ?_
      refine KOps.guardYes (dj := 19) rfl rfl ?_
      refine KOps.move ?_
      refine KOps.guardYes (dj := 19) rfl rfl ?_
      refine KOps.indexIJ (hS.rd i (hget _)) (j := b) rfl (by omega) ?_
      intro p22 hp22
      refine KOps.guardYes (dj := 19) rfl rfl ?_
      refine KOps.loadW hp22 (hS.rd i (hget _)) (by omega) ?_
      refine KOps.guardYes (dj := 19) rfl rfl ?_
      refine KOps.move ?_
      refine KOps.guardYes (dj := 19) rfl rfl ?_
      refine KOps.move ?_
      refine KOps.guardYes (dj := 19) rfl rfl ?_
      refine KOps.sub (by first | omega | (simp; omega)) (by first | omega | (simp; omega)) ?_
      refine KOps.guardYes (dj := 19) rfl rfl ?_
      refine KOps.indexIJ (hS.rd i (hget _)) (j := b - 1) (by omega) (by omega) ?_
      intro p27 hp27
      refine KOps.guardYes (dj := 19) rfl rfl ?_
      refine KOps.loadW hp27 (hS.rd i (hget _)) (by omega) ?_
      refine KOps.guardYes (dj := 19) rfl rfl ?_
      refine KOps.call rfl (less_c) ?_
      rintro _ _ ⟨rfl, rfl⟩
      refine KOps.pickT ?_
      refine KOps.done ?_
      refine sqQ.normal ?_
      refine KA.sub (Sub.cons (t := 0) Look.eq (Sub.cons (t := 1) Look.eq (Sub.cons (t := 2) Look.eq (Sub.cons (t := 6) Look.eq (Sub.cons (t := 7) Look.eq (Sub.cons (t := 20) Look.eq (Sub.cons (t := 21) Look.eq (Sub.cons (t := 22) Look.eq (Sub.cons (t := 23) Look.eq (Sub.cons (t := 24) Look.eq (Sub.cons (t := 25) Look.eq (Sub.cons (t := 26) Look.eq (Sub.cons (t := 27) Look.eq (Sub.cons (t := 28) Look.eq (Sub.cons (t := 29) Look.eq (Sub.cons (t := 30) Look.eq (Sub.nil _))))))))))))))))) ?_
      refine KA.condB ?_ ?_
      · intro c30
        refine KA.skip ?_
        refine sqQ.normal ?_
        refine KA.sub (Sub.cons (t := 0) Look.eq (Sub.cons (t := 1) Look.eq (Sub.cons (t := 2) Look.eq (Sub.cons (t := 6) Look.eq (Sub.cons (t := 7) Look.eq (Sub.cons (t := 20) Look.eq (Sub.cons (t := 21) Look.eq (Sub.cons (t := 22) Look.eq (Sub.cons (t := 23) Look.eq (Sub.cons (t := 24) Look.eq (Sub.cons (t := 25) Look.eq (Sub.cons (t := 26) Look.eq (Sub.cons (t := 27) Look.eq (Sub.cons (t := 28) Look.eq (Sub.cons (t := 29) Look.eq (Sub.nil _)))))))))))))))) ?_
        refine KA.seq ?_
        refine KA.block ?_
        refine KA.draw [] mixed rfl (by kernel_rfl) ?_
        refine KOps.move ?_
        refine KOps.move ?_
        refine KOps.move ?_
        refine KOps.move ?_
        refine KOps.sub (by first | omega | (simp; omega)) (by first | omega | (simp; omega)) ?_
        refine KOps.move ?_
        refine KOps.move ?_
        refine KOps.sub (by first | omega | (simp; omega)) (by first | omega | (simp; omega)) ?_
        refine KOps.indexIJ (hS.rd i (hget _)) (j := b - 1) (by omega) (by omega) ?_
        intro p41 hp41
        refine KOps.loadW hp41 (hS.rd i (hget _)) (by omega) ?_
        refine KOps.move ?_
        refine KOps.move ?_
        refine KOps.indexIJ (hS.rd i (hget _)) (j := b) rfl (by omega) ?_
        intro p45 hp45
        refine KOps.loadW hp45 (hS.rd i (hget _)) (by omega) ?_
        refine KOps.indexIJ (hS.rd i (hget _)) (j := b) rfl (by omega) ?_
        intro p47 hp47
        refine KOps.storeW hS rfl (hget _) hp47 (by omega) ?_
        intro h' hS
        rw [List.set_set] at hS
        refine KOps.indexIJ (hS.rd i (hget _)) (j := b - 1) (by omega) (by rw [List.length_set]; omega) ?_
        intro p48 hp48
        refine KOps.storeW hS rfl (hget _) hp48 (by rw [List.length_set]; omega) ?_
        intro h' hS
        rw [List.set_set] at hS
        refine KOps.done ?_
        refine blQ.normal ?_
        refine sqQ.normal ?_
        refine KA.sub (Sub.cons (t := 0) Look.eq (Sub.cons (t := 1) Look.eq (Sub.cons (t := 2) Look.eq (Sub.cons (t := 6) Look.eq (Sub.cons (t := 7) Look.eq (Sub.cons (t := 20) Look.eq (Sub.cons (t := 21) Look.eq (Sub.cons (t := 22) Look.eq (Sub.cons (t := 23) Look.eq (Sub.cons (t := 24) Look.eq (Sub.cons (t := 25) Look.eq (Sub.cons (t := 26) Look.eq (Sub.cons (t := 27) Look.eq (Sub.cons (t := 28) Look.eq (Sub.cons (t := 29) Look.eq (Sub.nil _)))))))))))))))) ?_
        refine KA.region rfl ?_
        refine KOps.move ?_
        refine KOps.sub (by first | omega | (simp; omega)) (by first | omega | (simp; omega)) ?_
        refine KOps.assign ?_
        refine KOps.done ?_
        exact lpQ.normal (b - 1, _) (by repeat (first | exact Sub.nil _ | refine Sub.cons Look.eq ?_ | refine Sub.cons (Eq.trans Look.eq (congrArg (AV.int _) (by first | omega | (dsimp only; omega)))) ?_)) ⟨by dsimp only; omega, (swpW_perm (by omega)).trans hpm, hox.swp (by omega) hb (by omega) c30, hS⟩ (by dsimp only; omega)
      · intro c30
        refine KA.exit ?_
        refine sqQ.exit ?_
        refine lpQ.exit ?_
        refine blQ.here ?_
        refine blQ.normal ?_
        refine sqQ.normal ?_
        refine KA.sub (Sub.cons (t := 0) Look.eq (Sub.cons (t := 1) Look.eq (Sub.cons (t := 2) Look.eq (Sub.cons (t := 6) Look.eq (Sub.cons (t := 20) Look.eq (Sub.cons (t := 21) Look.eq (Sub.cons (t := 22) Look.eq (Sub.cons (t := 23) Look.eq (Sub.cons (t := 24) Look.eq (Sub.cons (t := 25) Look.eq (Sub.cons (t := 26) Look.eq (Sub.cons (t := 27) Look.eq (Sub.cons (t := 28) Look.eq (Sub.cons (t := 29) Look.eq (Sub.nil _))))))))))))))) ?_
        refine KA.region rfl ?_
        refine KOps.move ?_
        refine KOps.add (by first | omega | (simp; omega)) (by first | omega | (simp; omega)) ?_
        refine KOps.assign ?_
        refine KOps.done ?_
        refine lpQ.normal (a + 1, e2) (by repeat (first | exact Sub.nil _ | refine Sub.cons Look.eq ?_ | refine Sub.cons (Eq.trans Look.eq (congrArg (AV.int _) (by first | omega | (dsimp only; omega)))) ?_)) ⟨by dsimp only; omega, by dsimp only; omega, hpm, ?_, hS⟩ (by dsimp only; omega)
        by_cases hb0 : b = 0
        · subst hb0; exact hox.zero
        · exact hox.over (by omega) (by first | exact c30 | omega)
    · intro g19
      have g19 := of_decide_eq_false g19
      refine KOps.guardNo (dj := 19) rfl rfl rfl ?_
      refine KOps.guardNo (dj := 19) rfl rfl rfl ?_
      refine KOps.guardNo (dj := 19) rfl rfl rfl ?_
      refine KOps.guardNo (dj := 19) rfl rfl rfl ?_
      refine KOps.guardNo (dj := 19) rfl rfl rfl ?_
      refine KOps.guardNo (dj := 19) rfl rfl rfl ?_
      refine KOps.guardNo (dj := 19) rfl rfl rfl ?_
      refine KOps.guardNo (dj := 19) rfl rfl rfl ?_
      refine KOps.guardNo (dj := 19) rfl rfl rfl ?_
      refine KOps.pickF ?_
      refine KOps.done ?_
      refine sqQ.normal ?_
      refine KA.sub (Sub.cons (t := 0) Look.eq (Sub.cons (t := 1) Look.eq (Sub.cons (t := 2) Look.eq (Sub.cons (t := 6) Look.eq (Sub.cons (t := 7) Look.eq (Sub.cons (t := 20) Look.eq (Sub.cons (t := 21) Look.eq (Sub.cons (t := 22) Look.eq (Sub.cons (t := 23) Look.eq (Sub.cons (t := 24) Look.eq (Sub.cons (t := 25) Look.eq (Sub.cons (t := 26) Look.eq (Sub.cons (t := 27) Look.eq (Sub.cons (t := 28) Look.eq (Sub.cons (t := 29) Look.eq (Sub.cons (t := 30) Look.eq (Sub.nil _))))))))))))))))) ?_
      refine KA.condF ?_
      refine KA.exit ?_
      refine sqQ.exit ?_
      refine lpQ.exit ?_
      refine blQ.here ?_
      refine blQ.normal ?_
      refine sqQ.normal ?_
      refine KA.sub (Sub.cons (t := 0) Look.eq (Sub.cons (t := 1) Look.eq (Sub.cons (t := 2) Look.eq (Sub.cons (t := 6) Look.eq (Sub.cons (t := 20) Look.eq (Sub.cons (t := 21) Look.eq (Sub.cons (t := 22) Look.eq (Sub.cons (t := 23) Look.eq (Sub.cons (t := 24) Look.eq (Sub.cons (t := 25) Look.eq (Sub.cons (t := 26) Look.eq (Sub.cons (t := 27) Look.eq (Sub.cons (t := 28) Look.eq (Sub.cons (t := 29) Look.eq (Sub.nil _))))))))))))))) ?_
      refine KA.region rfl ?_
      refine KOps.move ?_
      refine KOps.add (by first | omega | (simp; omega)) (by first | omega | (simp; omega)) ?_
      refine KOps.assign ?_
      refine KOps.done ?_
      refine lpQ.normal (a + 1, e2) (by repeat (first | exact Sub.nil _ | refine Sub.cons Look.eq ?_ | refine Sub.cons (Eq.trans Look.eq (congrArg (AV.int _) (by first | omega | (dsimp only; omega)))) ?_)) ⟨by dsimp only; omega, by dsimp only; omega, hpm, ?_, hS⟩ (by dsimp only; omega)
      by_cases hb0 : b = 0
      · subst hb0; exact hox.zero
      · exact hox.over (by omega) (by first | exact c30 | omega)
  · intro c12
    refine KA.exit ?_
    refine sqQ.exit ?_
    refine lpQ.exit ?_
    refine blQ.here ?_
    refine fnQ.norm0 ?_
    exact ⟨_, hpm, hot.short (by rw [hpm.length_eq]; omega), hS⟩

theorem pdq_c {h0 h : AHeap} {F : List Obj} {w : AV} {m i : Nat} {e : List (List Bool)} {tip : Bool} (hS : St h0 h F) (hi : F[i]? = some ⟨w, 1, wcs e, tip⟩) (hm : m = e.length) (hm2 : m ≤ 12) {c : Int} : ACalls Go.Proofs.Tryd.prog 77 [w, .int .i64 0, .int .i64 (m : Int), .int .i64 c] h (fun _ h' => ∃ e', e'.Perm e ∧ Ordt e' e'.length ∧ St h0 h' (F.set i ⟨w, 1, wcs e', tip⟩)) := by
  refine KA.fn 134 [] Go.Proofs.Tryd.func77 rfl (by decide) rfl rfl (Nat.le_of_ble_eq_true rfl) ?_
  show KA _ 134 _ _ [(0, w), (1, .int .i64 0), (2, .int .i64 (m : Int)), (3, .int .i64 c)] _
  refine KA.seq ?_
  refine KA.region rfl ?_
  refine KOps.assign ?_
  refine KOps.done ?_
  refine sqQ.normal ?_
  refine KA.seq ?_
  refine KA.region rfl ?_
  refine KOps.assign ?_
  refine KOps.done ?_
  refine sqQ.normal ?_
  refine KA.block ?_
  refine KA.loop (X := Unit) (fun _ => [(0, w), (1, .int .i64 0), (2, .int .i64 (m : Int)), (3, .int .i64 c), (8, .bool true), (9, .bool true)]) (fun _ h' => h = h') (fun _ => 0) () (by repeat (first | exact Sub.nil _ | refine Sub.cons Look.eq ?_ | refine Sub.cons (Eq.trans Look.eq (congrArg (AV.int _) (by first | omega | (dsimp only; omega)))) ?_)) ?_ ?_
  · exact rfl
  rintro _ _ rfl
  refine KA.block ?_
  refine KA.seq ?_
  refine KA.region rfl ?_
  refine KOps.move ?_
  refine KOps.move ?_
  refine KOps.sub (by first | omega | (simp; omega)) (by first | omega | (simp; omega)) ?_
  refine KOps.assign ?_
  refine KOps.done ?_
  refine sqQ.normal ?_
  refine KA.sub (Sub.cons (t := 0) Look.eq (Sub.cons (t := 1) Look.eq (Sub.cons (t := 2) Look.eq (Sub.cons (t := 3) Look.eq (Sub.cons (t := 8) Look.eq (Sub.cons (t := 9) Look.eq (Sub.cons (t := 10) Look.eq (Sub.nil _)))))))) ?_
  refine KA.seq ?_
  refine KA.seq ?_
  refine KA.region rfl ?_
  refine KOps.move ?_
  refine KOps.leq ?_
  rw [decide_eq_true (by omega)]
  refine KOps.done ?_
  refine sqQ.normal ?_
  refine KA.sub (Sub.cons (t := 0) Look.eq (Sub.cons (t := 1) Look.eq (Sub.cons (t := 2) Look.eq (Sub.cons (t := 3) Look.eq (Sub.cons (t := 8) Look.eq (Sub.cons (t := 9) Look.eq (Sub.cons (t := 10) Look.eq (Sub.cons (t := 23) Look.eq (Sub.nil _))))))))) ?_
  refine KA.condT ?_
  refine KA.seq ?_
  refine KA.region rfl ?_
  refine KOps.move ?_
  refine KOps.move ?_
  refine KOps.move ?_
  refine KOps.call rfl (isort_c hS hi hm hm2) ?_
  rintro _ h2 ⟨e2, hpm, hso, hS⟩
  refine KOps.done ?_
  refine sqQ.normal ?_
  refine KA.sub (Sub.nil _) ?_
  refine KA.ret ?_
  refine sqQ.ret ?_
  refine blQ.ret ?_
  refine lpQ.ret ?_
  refine blQ.ret ?_
  refine fnQ.ret0 ?_
  exact ⟨_, hpm, hso, hS⟩

theorem sort_c {h0 h : AHeap} {F : List Obj} {w : AV} {m i : Nat} {e : List (List Bool)} {tip : Bool} (hS : St h0 h F) (hi : F[i]? = some ⟨w, 1, wcs e, tip⟩) (hm : m = e.length) (hm2 : m ≤ 12) : ACalls Go.Proofs.Tryd.prog 70 [w] h (fun _ h' => ∃ e', e'.Perm e ∧ Ordt e' e'.length ∧ St h0 h' (F.set i ⟨w, 1, wcs e', tip⟩)) := by
  refine KA.fn 11 [] Go.Proofs.Tryd.func70 rfl (by decide) rfl rfl (Nat.le_of_ble_eq_true rfl) ?_
  show KA _ 11 _ _ [(0, w)] _
  refine KA.seq ?_
  refine KA.region rfl ?_
  refine KOps.move ?_
  refine KOps.lenI (hS.rd i hi) ?_
  rw [← hm]
  refine KOps.assign ?_
  refine KOps.done ?_
  refine sqQ.normal ?_
  refine KA.sub (Sub.cons (t := 0) Look.eq (Sub.cons (t := 2) Look.eq (Sub.nil _))) ?_
  refine KA.region rfl ?_
  refine KOps.move ?_
  refine KOps.move ?_
  refine KOps.move ?_
  refine KOps.convIn (wrapU64 (by omega) (by omega)) ?_
  refine KOps.call rfl (blen_c (by omega)) ?_
  rintro _ _ ⟨⟨c, rfl⟩, rfl⟩
  refine KOps.call rfl (pdq_c hS hi hm hm2) ?_
  rintro _ h2 ⟨e2, hpm, hso, hS⟩
  refine KOps.done ?_
  refine fnQ.norm0 ?_
  exact ⟨_, hpm, hso, hS⟩

theorem search_c {h : AHeap} {v : AV} {l : List (List Bool)} {c : List Bool} (hv : WRow h v l) (hlen : l.length ≤ 4294967296) (ha : Asc l) : ACalls Go.Proofs.Tryd.prog 76 [v, .str (wd c)] h (fun r h' => (∃ i : Nat, r = .tup [.int .i64 (i : Int), .bool (decide (c ∈ l))]) ∧ h = h') := by
  refine KA.fn 54 [.tmp 4, .tmp 5] Go.Proofs.Tryd.func76 rfl (by decide) rfl rfl (Nat.le_of_ble_eq_true rfl) ?_
  show KA _ 54 _ _ [(0, v), (1, .str (wd c))] _
  refine KA.seq ?_
  refine KA.region rfl ?_
  refine KOps.assign ?_
  refine KOps.assign ?_
  refine KOps.done ?_
  refine sqQ.normal ?_
  refine KA.sub (Sub.cons (t := 0) Look.eq (Sub.cons (t := 1) Look.eq (Sub.nil _))) ?_
  refine KA.seq ?_
  refine KA.region rfl ?_
  refine KOps.move ?_
  refine KOps.lenI hv ?_
  refine KOps.assign ?_
  refine KOps.done ?_
  refine sqQ.normal ?_
  refine KA.sub (Sub.cons (t := 0) Look.eq (Sub.cons (t := 1) Look.eq (Sub.cons (t := 6) Look.eq (Sub.nil _)))) ?_
  refine KA.seq ?_
  refine KA.region rfl ?_
  refine KOps.move ?_
  refine KOps.assign ?_
  refine KOps.assign ?_
  refine KOps.done ?_
  refine sqQ.normal ?_
  refine KA.sub (Sub.cons (t := 0) Look.eq (Sub.cons (t := 1) Look.eq (Sub.cons (t := 6) Look.eq (Sub.cons (t := 7) Look.eq (Sub.cons (t := 8) Look.eq (Sub.nil _)))))) ?_
  refine KA.seq ?_
  refine KA.block ?_
  refine KA.loop (X := Nat × Nat) (fun x => [(0, v), (1, .str (wd c)), (6, .int .i64 (l.length : Int)), (7, .int .i64 (x.1 : Int)), (8, .int .i64 (x.2 : Int))]) (fun x h' => h = h' ∧ x.1 ≤ x.2 ∧ x.2 ≤ l.length ∧ (∀ j, j < x.1 → wlt (l.getD j []) c = true) ∧ (∀ j, x.2 ≤ j → j < l.length → wlt (l.getD j []) c = false)) (fun x => x.2 - x.1) (0, l.length) (by repeat (first | exact Sub.nil _ | refine Sub.cons Look.eq ?_ | refine Sub.cons (Eq.trans Look.eq (congrArg (AV.int _) (by first | omega | (dsimp only; omega)))) ?_)) ⟨rfl, by omega, by omega, by simp, fun j h1 h2 => by omega⟩ ?_
  rintro ⟨i, j⟩ _ ⟨rfl, h1, h2, h3, h4⟩
  dsimp only at h1 h2 h3 h4 ⊢
  refine KA.seq ?_
  refine KA.seq ?_
  refine KA.region rfl ?_
  refine KOps.move ?_
  refine KOps.move ?_
  refine KOps.lss ?_
  refine KOps.done ?_
  refine sqQ.normal ?_
  refine KA.sub (Sub.cons (t := 0) Look.eq (Sub.cons (t := 1) Look.eq (Sub.cons (t := 6) Look.eq (Sub.cons (t := 7) Look.eq (Sub.cons (t := 8) Look.eq (Sub.cons (t := 15) Look.eq (Sub.nil _))))))) ?_
  refine KA.condD ?_ ?_
  · intro c15
    refine KA.skip ?_
    refine sqQ.normal ?_
    refine KA.sub (Sub.cons (t := 0) Look.eq (Sub.cons (t := 1) Look.eq (Sub.cons (t := 6) Look.eq (Sub.cons (t := 7) Look.eq (Sub.cons (t := 8) Look.eq (Sub.nil _)))))) ?_
    refine KA.block ?_
    refine KA.seq ?_
    refine KA.region rfl ?_
    refine KOps.move ?_
    refine KOps.move ?_
    refine KOps.add (by first | omega | (simp; omega)) (by first | omega | (simp; omega)) ?_
    refine KOps.convert ?_
    rw [wrapU64 (by omega) (by omega)]
    refine KOps.shr (by omega) ?_
    rw [half_nat]
    refine KOps.convert ?_
    rw [wrap64 (by omega) (by omega)]
    refine KOps.assign ?_
    refine KOps.done ?_
    refine sqQ.normal ?_
    refine KA.sub (Sub.cons (t := 0) Look.eq (Sub.cons (t := 1) Look.eq (Sub.cons (t := 6) Look.eq (Sub.cons (t := 7) Look.eq (Sub.cons (t := 8) Look.eq (Sub.cons (t := 9) Look.eq (Sub.nil _))))))) ?_
    refine KA.seq ?_
    refine KA.region rfl ?_
    refine KOps.move ?_
    refine KOps.move ?_
    refine KOps.indexIJ hv (j := ((i + j) / 2)) rfl (by first | omega | (simp; omega)) ?_
    intro p24 hp24
    refine KOps.loadW hp24 hv (by first | omega | (simp; omega)) ?_
    refine KOps.move ?_
    refine KOps.call rfl (less_c) ?_
    rintro _ _ ⟨rfl, rfl⟩
    refine KOps.done ?_
    refine sqQ.normal ?_
    refine KA.sub (Sub.cons (t := 0) Look.eq (Sub.cons (t := 1) Look.eq (Sub.cons (t := 6) Look.eq (Sub.cons (t := 7) Look.eq (Sub.cons (t := 8) Look.eq (Sub.cons (t := 9) Look.eq (Sub.cons (t := 27) Look.eq (Sub.nil _)))))))) ?_
    refine KA.condB ?_ ?_
    · intro c27
      refine KA.region rfl ?_
      refine KOps.move ?_
      refine KOps.add (by first | omega | (simp; omega)) (by first | omega | (simp; omega)) ?_
      refine KOps.assign ?_
      refine KOps.done ?_
      refine blQ.normal ?_
      refine lpQ.normal ((i + j) / 2 + 1, j) (by repeat (first | exact Sub.nil _ | refine Sub.cons Look.eq ?_ | refine Sub.cons (Eq.trans Look.eq (congrArg (AV.int _) (by first | omega | (dsimp only; omega)))) ?_)) ⟨rfl, by dsimp only; omega, by dsimp only; omega, fun q hq => asc_le ha (m := (i + j) / 2) (by dsimp only at hq; omega) (by omega) c27, h4⟩ (by dsimp only; omega)
    · intro c27
      refine KA.region rfl ?_
      refine KOps.move ?_
      refine KOps.assign ?_
      refine KOps.done ?_
      refine blQ.normal ?_
      refine lpQ.normal (i, (i + j) / 2) (by repeat (first | exact Sub.nil _ | refine Sub.cons Look.eq ?_ | refine Sub.cons (Eq.trans Look.eq (congrArg (AV.int _) (by first | omega | (dsimp only; omega)))) ?_)) ⟨rfl, by dsimp only; omega, by dsimp only; omega, h3, fun q hq1 hq2 => asc_ge ha (m := (i + j) / 2) (by dsimp only at hq1; omega) hq2 c27⟩ (by dsimp only; omega)
  · intro c15
    refine KA.exit ?_
    refine sqQ.exit ?_
    refine lpQ.exit ?_
    refine blQ.here ?_
    refine sqQ.normal ?_
    refine KA.sub (Sub.cons (t := 0) Look.eq (Sub.cons (t := 1) Look.eq (Sub.cons (t := 6) Look.eq (Sub.cons (t := 7) Look.eq (Sub.nil _))))) ?_
    refine KA.seq ?_
    refine KA.region rfl ?_
    have hfd := asc_find (t := c) (i := i) (by omega) h3 (fun k h5 h6 => h4 k (by omega) h6) ha
    refine KOps.move ?_
    refine KOps.move ?_
    refine KOps.move ?_
    refine KOps.lss ?_
    refine KOps.move ?_
    refine KOps.guardB (dj := 35) rfl rfl true false rfl ?_ ?_
    · intro g35
      have g35 := of_decide_eq_true g35
      refine KOps.move ?_
      refine KOps.guardYes (dj := 35) rfl rfl ?_
      refine KOps.move ?_
      refine KOps.guardYes (dj := 35) rfl rfl ?_
      refine KOps.indexIJ hv (j := i) rfl (by first | omega | (simp; omega)) ?_
      intro p38 hp38
      refine KOps.guardYes (dj := 35) rfl rfl ?_
      refine KOps.loadW hp38 hv (by first | omega | (simp; omega)) ?_
      refine KOps.guardYes (dj := 35) rfl rfl ?_
      refine KOps.move ?_
      refine KOps.guardYes (dj := 35) rfl rfl ?_
      refine KOps.wEql ?_
      refine KOps.guardYes (dj := 35) rfl rfl ?_
      refine KOps.move ?_
      refine KOps.guardB (dj := 42) rfl rfl false true rfl ?_ ?_
      · intro g42
        have g42 := of_decide_eq_false g42
        refine KOps.move ?_
        refine KOps.guardYes (dj := 42) rfl rfl ?_
        refine KOps.move ?_
        refine KOps.guardYes (dj := 42) rfl rfl ?_
        refine KOps.indexIJ hv (j := i) rfl (by first | omega | (simp; omega)) ?_
        intro p45 hp45
        refine KOps.guardYes (dj := 42) rfl rfl ?_
        refine KOps.loadW hp45 hv (by first | omega | (simp; omega)) ?_
        refine KOps.guardYes (dj := 42) rfl rfl ?_
        refine KOps.call rfl (nanS_c) ?_
        rintro _ _ ⟨rfl, rfl⟩
        refine KOps.guardYes (dj := 42) rfl rfl ?_
        refine KOps.move ?_
        refine KOps.guardNo (dj := 48) rfl rfl rfl ?_
        refine KOps.guardNo (dj := 48) rfl rfl rfl ?_
        refine KOps.guardYes (dj := 42) rfl rfl ?_
        refine KOps.pickF ?_
        refine KOps.guardYes (dj := 35) rfl rfl ?_
        refine KOps.pickF ?_
        refine KOps.pickT ?_
        refine KOps.assign ?_
        refine KOps.assign ?_
        refine KOps.done ?_
        refine sqQ.normal ?_
        refine KA.sub (Sub.cons (t := 4) Look.eq (Sub.cons (t := 5) Look.eq (Sub.nil _))) ?_
        refine KA.ret ?_
        refine fnQ.retN ?_
        refine ⟨⟨i, ?_⟩, rfl⟩
        have e1 : decide (c ∈ l) = false := by rw [← hfd, decide_eq_false (p := l.getD i [] = c) (by assumption), Bool.and_false]
        rw [e1]
      · intro g42
        have g42 := of_decide_eq_true g42
        refine KOps.guardNo (dj := 42) rfl rfl rfl ?_
        refine KOps.guardNo (dj := 42) rfl rfl rfl ?_
        refine KOps.guardNo (dj := 42) rfl rfl rfl ?_
        refine KOps.guardNo (dj := 42) rfl rfl rfl ?_
        refine KOps.guardNo (dj := 42) rfl rfl rfl ?_
        refine KOps.guardTup (dj := 48) rfl rfl ?_
        refine KOps.guardTup (dj := 48) rfl rfl ?_
        refine KOps.guardNo (dj := 42) rfl rfl rfl ?_
        refine KOps.guardYes (dj := 35) rfl rfl ?_
        refine KOps.pickT ?_
        refine KOps.pickT ?_
        refine KOps.assign ?_
        refine KOps.assign ?_
        refine KOps.done ?_
        refine sqQ.normal ?_
        refine KA.sub (Sub.cons (t := 4) Look.eq (Sub.cons (t := 5) Look.eq (Sub.nil _))) ?_
        refine KA.ret ?_
        refine fnQ.retN ?_
        refine ⟨⟨i, ?_⟩, rfl⟩
        have e1 : decide (c ∈ l) = true := by rw [← hfd, decide_eq_true (by omega), decide_eq_true (by assumption)]; rfl
        rw [e1]
    · intro g35
      have g35 := of_decide_eq_false g35
      refine KOps.guardNo (dj := 35) rfl rfl rfl ?_
      refine KOps.guardNo (dj := 35) rfl rfl rfl ?_
      refine KOps.guardNo (dj := 35) rfl rfl rfl ?_
      refine KOps.guardNo (dj := 35) rfl rfl rfl ?_
      refine KOps.guardNo (dj := 35) rfl rfl rfl ?_
      refine KOps.guardNo (dj := 35) rfl rfl rfl ?_
      refine KOps.guardTup (dj := 42) rfl rfl ?_
      refine KOps.guardTup (dj := 42) rfl rfl ?_
      refine KOps.guardTup (dj := 42) rfl rfl ?_
      refine KOps.guardTup (dj := 42) rfl rfl ?_
      refine KOps.guardTup (dj := 42) rfl rfl ?_
      refine KOps.guardTup (dj := 42) rfl rfl ?_
      refine KOps.guardTup (dj := 48) rfl rfl ?_
      refine KOps.guardTup (dj := 48) rfl rfl ?_
      refine KOps.guardTup (dj := 42) rfl rfl ?_
      refine KOps.guardNo (dj := 35) rfl rfl rfl ?_
      refine KOps.pickF ?_
      refine KOps.assign ?_
      refine KOps.assign ?_
      refine KOps.done ?_
      refine sqQ.normal ?_
      refine KA.sub (Sub.cons (t := 4) Look.eq (Sub.cons (t := 5) Look.eq (Sub.nil _))) ?_
      refine KA.ret ?_
      refine fnQ.retN ?_
      refine ⟨⟨i, ?_⟩, rfl⟩
      have e1 : decide (c ∈ l) = false := by rw [← hfd, decide_eq_false (p := i < l.length) (by omega)]; rfl
      rw [e1]

end Go.Am

namespace Go.Am
theorem del_get {a b : List Bool} {i : Nat} (h : a.take i ++ a.drop (i + 1) = b) : a.eraseIdx i = b := by rw [erase_take]; exact h
theorem del_not {a b : List Bool} {i : Nat} (h : ¬ a.take i ++ a.drop (i + 1) = b) : ¬ a.eraseIdx i = b := by rw [erase_take]; exact h
def lastR (l : List Bool) (p : Nat) : Int := if p = 0 then 0 else ((bch (l.getD (p - 1) false)).toNat : Int)
theorem lastR_succ (l : List Bool) (p : Nat) : lastR l (p + 1) = ((bch (l.getD p false)).toNat : Int) := by rw [lastR, if_neg (by omega)]; rfl
theorem bch_nat_inj {a b : Bool} (h : ((bch a).toNat : Int) = ((bch b).toNat : Int)) : a = b := by cases a <;> cases b <;> simp [bch] at h ⊢
theorem start_last {l : List Bool} {p : Nat} (hp : p < l.length) : isStart l p = true ↔ ¬ ((bch (l.getD p false)).toNat : Int) = lastR l p := by
  unfold isStart lastR
  by_cases h0 : p = 0
  · subst h0
    rw [if_pos rfl]
    have := bch_cases (l.getD 0 false)
    simp only [decide_true, Bool.true_or, true_iff]
    omega
  · rw [if_neg h0, decide_eq_false h0, Bool.false_or, decide_eq_true_iff, List.getElem?_eq_getElem hp, List.getElem?_eq_getElem (by omega : p - 1 < l.length), List.getD_eq_getElem?_getD, List.getD_eq_getElem?_getD, List.getElem?_eq_getElem hp, List.getElem?_eq_getElem (by omega : p - 1 < l.length)]
    simp only [Option.getD_some, ne_eq, Option.some.injEq]
    exact not_congr ⟨fun h => by rw [h], bch_nat_inj⟩
theorem more_zero (l : List Bool) : moreTo l 0 = [[false] ++ l, [true] ++ l] := by simp [moreTo, insW]
theorem more_next (l : List Bool) (p : Nat) : moreTo l (p + 1) = moreTo l p ++ [l.take (p + 1) ++ [!l.getD p false] ++ l.drop (p + 1)] := by
  rw [moreTo, insW, List.append_assoc]; rfl
theorem short_c {h : AHeap} {a b : List Bool} (ha : a.length ≤ 12) : ACalls Go.Proofs.Tryd.prog 53 [.str (wd a), .str (wd b)] h (fun q h' => q = .bool (isDel a b) ∧ h = h') := by
  refine KA.fn 22 [.tmp 4] Go.Proofs.Tryd.func53 rfl (by decide) rfl rfl (Nat.le_of_ble_eq_true rfl) ?_
  show KA _ 22 _ _ [(0, .str (wd a)), (1, .str (wd b))] _
  refine KA.seq ?_
  refine KA.region rfl ?_
  refine KOps.assign ?_
  refine KOps.done ?_
  refine sqQ.normal ?_
  refine KA.sub (Sub.cons (t := 0) Look.eq (Sub.cons (t := 1) Look.eq (Sub.nil _))) ?_
  refine KA.seq ?_
  refine KA.seq ?_
  refine KA.region rfl ?_
  refine KOps.assign ?_
  refine KOps.done ?_
  refine sqQ.normal ?_
  refine KA.block ?_
  refine KA.loop (X := Nat) (fun i => [(0, .str (wd a)), (1, .str (wd b)), (5, .int .i64 (i : Int))]) (fun i h' => i ≤ a.length ∧ (∀ j, j < i → ¬ a.eraseIdx j = b) ∧ h = h') (fun i => a.length - i) 0 (by repeat (first | exact Sub.nil _ | refine Sub.cons Look.eq ?_ | refine Sub.cons (Eq.trans Look.eq (congrArg (AV.int _) (by first | omega | (dsimp only; omega)))) ?_)) ?_ ?_
  · exact ⟨Nat.zero_le _, fun j hj => absurd hj (Nat.not_lt_zero _), rfl⟩
  rintro i h2 ⟨hi, hb, rfl⟩
  refine KA.seq ?_
  refine KA.seq ?_
  refine KA.region rfl ?_
  refine KOps.move ?_
  refine KOps.move ?_
  refine KOps.lenW ?_
  refine KOps.lss ?_
  refine KOps.done ?_
  refine sqQ.normal ?_
  refine KA.sub (Sub.cons (t := 0) Look.eq (Sub.cons (t := 1) Look.eq (Sub.cons (t := 5) Look.eq (Sub.cons (t := 9) Look.eq (Sub.nil _))))) ?_
  refine KA.condD ?_ ?_
  · intro c9
    refine KA.skip ?_
    refine sqQ.normal ?_
    refine KA.sub (Sub.cons (t := 0) Look.eq (Sub.cons (t := 1) Look.eq (Sub.cons (t := 5) Look.eq (Sub.nil _)))) ?_
    refine KA.seq ?_
    refine KA.block ?_
    refine KA.seq ?_
    refine KA.draw [] mixed rfl (by kernel_rfl) ?_
    refine KOps.move ?_
    refine KOps.move ?_
    refine KOps.wHi (j := i) rfl (by first | omega | (simp; omega)) ?_
    refine KOps.move ?_
    refine KOps.move ?_
    refine KOps.add (by first | omega | (simp; omega)) (by first | omega | (simp; omega)) ?_
    refine KOps.wLo (j := i + 1) (by first | omega | (simp; omega)) (by first | omega | (simp; omega)) ?_
    refine KOps.wAdd (by first | omega | (simp; omega)) ?_
    refine KOps.move ?_
    refine KOps.wEql ?_
    refine KOps.done ?_
    refine sqQ.normal ?_
    refine KA.sub (Sub.cons (t := 0) Look.eq (Sub.cons (t := 1) Look.eq (Sub.cons (t := 5) Look.eq (Sub.cons (t := 21) Look.eq (Sub.nil _))))) ?_
    refine KA.condD ?_ ?_
    · intro c21
      refine KA.seq ?_
      refine KA.region rfl ?_
      refine KOps.assign ?_
      refine KOps.done ?_
      refine sqQ.normal ?_
      refine KA.sub (Sub.cons (t := 4) Look.eq (Sub.nil _)) ?_
      refine KA.ret ?_
      refine blQ.ret ?_
      refine sqQ.ret ?_
      refine lpQ.ret ?_
      refine blQ.ret ?_
      refine sqQ.ret ?_
      refine fnQ.ret1 ?_
      exact ⟨congrArg AV.bool (isDel_iff.2 ⟨i, by omega, del_get c21⟩).symm, rfl⟩
    · intro c21
      refine KA.skip ?_
      refine blQ.normal ?_
      refine sqQ.normal ?_
      refine KA.sub (Sub.cons (t := 0) Look.eq (Sub.cons (t := 1) Look.eq (Sub.cons (t := 5) Look.eq (Sub.nil _)))) ?_
      refine KA.region rfl ?_
      refine KOps.move ?_
      refine KOps.add (by first | omega | (simp; omega)) (by first | omega | (simp; omega)) ?_
      refine KOps.assign ?_
      refine KOps.done ?_
      exact lpQ.normal (i + 1) (by repeat (first | exact Sub.nil _ | refine Sub.cons Look.eq ?_ | refine Sub.cons (Eq.trans Look.eq (congrArg (AV.int _) (by first | omega | (dsimp only; omega)))) ?_)) ⟨by omega, fun j hj => by
        rcases Nat.lt_succ_iff_lt_or_eq.1 hj with h | rfl
        · exact hb j h
        · exact del_not c21, rfl⟩ (by omega)
  · intro c9
    refine KA.exit ?_
    refine sqQ.exit ?_
    refine lpQ.exit ?_
    refine blQ.here ?_
    refine sqQ.normal ?_
    refine KA.sub (Sub.nil _) ?_
    refine KA.seq ?_
    refine KA.region rfl ?_
    refine KOps.assign ?_
    refine KOps.done ?_
    refine sqQ.normal ?_
    refine KA.ret ?_
    refine fnQ.ret1 ?_
    refine ⟨congrArg AV.bool ?_, rfl⟩
    cases hd : isDel a b with
    | false => rfl
    | true =>
      obtain ⟨j, hj, he⟩ := isDel_iff.1 hd
      exact absurd he (hb j (by omega))

theorem less_w {h : AHeap} {l : List Bool} (hl : l.length ≤ 10) : ACalls Go.Proofs.Tryd.prog 51 [.str (wd l)] h (fun v h' => St h h' [⟨v, 1, wcs (shortW l), true⟩]) := by
  refine KA.fn 31 [.tmp 2] Go.Proofs.Tryd.func51 rfl (by decide) rfl rfl (Nat.le_of_ble_eq_true rfl) ?_
  have hS := St.refl h
  show KA _ 31 _ _ [(0, .str (wd l))] _
  refine KA.seq ?_
  refine KA.region rfl ?_
  refine KOps.assign ?_
  refine KOps.done ?_
  refine sqQ.normal ?_
  refine KA.sub (Sub.cons (t := 0) Look.eq (Sub.nil _)) ?_
  refine KA.seq ?_
  refine KA.region rfl ?_
  refine KOps.assign ?_
  refine KOps.done ?_
  refine sqQ.normal ?_
  refine KA.seq ?_
  refine KA.region rfl ?_
  refine KOps.assign ?_
  refine KOps.done ?_
  refine sqQ.normal ?_
  refine KA.seq ?_
  refine KA.seq ?_
  refine KA.region rfl ?_
  refine KOps.move ?_
  refine KOps.range hS rfl ?_
  intro v8 h' hv8 hS
  refine KOps.done ?_
  refine sqQ.normal ?_
  refine KA.sub (Sub.cons (t := 0) Look.eq (Sub.cons (t := 3) Look.eq (Sub.cons (t := 4) Look.eq (Sub.cons (t := 8) Look.eq (Sub.nil _))))) ?_
  refine KA.block ?_
  refine KA.loop (X := Nat × AV) (fun x => [(0, .str (wd l)), (3, x.2), (4, .int .i32 (lastR l x.1)), (8, v8)]) (fun x h' => x.1 ≤ l.length ∧ St h h' [walkO v8 (wd l) x.1, ⟨x.2, 1, wcs (lessTo l x.1), true⟩]) (fun x => l.length - x.1) (0, .nils) (by repeat (first | exact Sub.nil _ | refine Sub.cons Look.eq ?_ | refine Sub.cons (Eq.trans Look.eq (congrArg (AV.int _) (by first | omega | (dsimp only; omega)))) ?_)) ?_ ?_
  · exact ⟨Nat.zero_le _, St.pick [1, 0] (by decide) rfl (hS.nil 1)⟩
  rintro ⟨p, v3⟩ h2 ⟨hp, hS⟩
  dsimp only at hp hS ⊢
  have hln := lessTo_len l p
  refine KA.seq ?_
  refine KA.region rfl ?_
  refine KOps.next hS hv8 (i := 0) rfl rfl ?_ ?_
  · intro np h' hS
    simp only [List.set_cons_zero, List.set_cons_succ, Nat.zero_add] at hS
    have hlt : p < l.length := by rw [wd_size] at np; exact np
    simp only [dec_wd hlt] at hS ⊢
    have hbv := bch_cases (l.getD p false)
    refine KOps.extract ?_
    refine KOps.done ?_
    refine sqQ.normal ?_
    refine KA.seq ?_
    refine KA.condT ?_
    refine KA.skip ?_
    refine sqQ.normal ?_
    refine KA.sub (Sub.cons (t := 0) Look.eq (Sub.cons (t := 3) Look.eq (Sub.cons (t := 4) Look.eq (Sub.cons (t := 8) Look.eq (Sub.cons (t := 9) Look.eq (Sub.nil _)))))) ?_
    refine KA.block ?_
    refine KA.seq ?_
    refine KA.region rfl ?_
    refine KOps.extract ?_
    refine KOps.extract ?_
    refine KOps.assign ?_
    refine KOps.assign ?_
    refine KOps.done ?_
    refine sqQ.normal ?_
    refine KA.sub (Sub.cons (t := 0) Look.eq (Sub.cons (t := 3) Look.eq (Sub.cons (t := 4) Look.eq (Sub.cons (t := 5) Look.eq (Sub.cons (t := 6) Look.eq (Sub.cons (t := 8) Look.eq (Sub.nil _))))))) ?_
    refine KA.seq ?_
    refine KA.seq ?_
    refine KA.region rfl ?_
    refine KOps.move ?_
    refine KOps.move ?_
    refine KOps.neq ?_
    refine KOps.done ?_
    refine sqQ.normal ?_
    refine KA.sub (Sub.cons (t := 0) Look.eq (Sub.cons (t := 3) Look.eq (Sub.cons (t := 5) Look.eq (Sub.cons (t := 6) Look.eq (Sub.cons (t := 8) Look.eq (Sub.cons (t := 15) Look.eq (Sub.nil _))))))) ?_
    refine KA.condN ?_ ?_
    · intro c15
      refine KA.draw [10] mixed rfl (by kernel_rfl) ?_
      refine KOps.move ?_
      refine KOps.move ?_
      refine KOps.move ?_
      refine KOps.wHi (j := p) rfl (by first | omega | (simp; omega)) ?_
      refine KOps.move ?_
      refine KOps.move ?_
      refine KOps.add (by first | omega | (simp; omega)) (by first | omega | (simp; omega)) ?_
      refine KOps.wLo (j := p + 1) (by first | omega | (simp; omega)) (by first | omega | (simp; omega)) ?_
      refine KOps.wAdd (by rw [List.length_take, List.length_drop]; omega) ?_
      refine KOps.buildSlice hS rfl (by decide) rfl ?_
      intro v25 h' hS
      refine KOps.appendW1 hS (fun _ => rfl) (i := 1) rfl (by first | omega | (simp; omega)) ?_
      intro r26 h' hr26 hS
      refine KOps.assign ?_
      refine KOps.done ?_
      refine sqQ.normal ?_
      refine KA.sub (Sub.cons (t := 0) Look.eq (Sub.cons (t := 3) Look.eq (Sub.cons (t := 6) Look.eq (Sub.cons (t := 8) Look.eq (Sub.nil _))))) ?_
      refine KA.region rfl ?_
      refine KOps.move ?_
      refine KOps.assign ?_
      refine KOps.done ?_
      refine blQ.normal ?_
      have e1 : lessTo l (p + 1) = lessTo l p ++ [l.take p ++ l.drop (p + 1)] := by rw [lessTo_succ, if_pos ((start_last hlt).2 c15), erase_take]
      rw [← e1] at hS
      exact lpQ.normal (p + 1, _) (by repeat (first | exact Sub.nil _ | refine Sub.cons Look.eq ?_ | refine Sub.cons (Eq.trans Look.eq (congrArg (AV.int _) (by first | omega | (dsimp only; omega)))) ?_ | refine Sub.cons (Eq.trans Look.eq (congrArg (AV.int _) (lastR_succ l p).symm)) ?_)) ⟨by dsimp only; omega, hS⟩ (by dsimp only; omega)
    · intro c15
      refine KA.skip ?_
      refine sqQ.normal ?_
      refine KA.sub (Sub.cons (t := 0) Look.eq (Sub.cons (t := 3) Look.eq (Sub.cons (t := 6) Look.eq (Sub.cons (t := 8) Look.eq (Sub.nil _))))) ?_
      refine KA.region rfl ?_
      refine KOps.move ?_
      refine KOps.assign ?_
      refine KOps.done ?_
      refine blQ.normal ?_
      have e1 : lessTo l (p + 1) = lessTo l p := by rw [lessTo_succ, if_neg (fun q => (start_last hlt).1 q c15)]
      rw [← e1] at hS
      exact lpQ.normal (p + 1, _) (by repeat (first | exact Sub.nil _ | refine Sub.cons Look.eq ?_ | refine Sub.cons (Eq.trans Look.eq (congrArg (AV.int _) (by first | omega | (dsimp only; omega)))) ?_ | refine Sub.cons (Eq.trans Look.eq (congrArg (AV.int _) (lastR_succ l p).symm)) ?_)) ⟨by dsimp only; omega, hS⟩ (by dsimp only; omega)
  · intro np
    refine KOps.extract ?_
    refine KOps.done ?_
    refine sqQ.normal ?_
    refine KA.seq ?_
    refine KA.condF ?_
    refine KA.exit ?_
    refine sqQ.exit ?_
    refine lpQ.exit ?_
    refine blQ.here ?_
    refine sqQ.normal ?_
    refine KA.sub (Sub.cons (t := 3) Look.eq (Sub.nil _)) ?_
    refine KA.seq ?_
    refine KA.region rfl ?_
    refine KOps.move ?_
    refine KOps.call rfl (sort_c hS (i := 1) rfl rfl (by omega)) ?_
    rintro _ hx ⟨e9, hpm, hso, hS⟩
    simp only [List.set_cons_zero, List.set_cons_succ, Nat.zero_add] at hS
    refine KOps.done ?_
    refine sqQ.normal ?_
    refine KA.sub (Sub.cons (t := 3) Look.eq (Sub.nil _)) ?_
    refine KA.seq ?_
    refine KA.region rfl ?_
    refine KOps.move ?_
    refine KOps.assign ?_
    refine KOps.done ?_
    refine sqQ.normal ?_
    refine KA.sub (Sub.cons (t := 2) Look.eq (Sub.nil _)) ?_
    refine KA.ret ?_
    refine fnQ.ret1 ?_
    have he : p = l.length := by rw [wd_size] at np; omega
    subst he
    rw [sorted_less hpm hso.pairs] at hS
    exact St.pick [1] (by decide) rfl hS

theorem more_w {h : AHeap} {l : List Bool} (hl : l.length ≤ 9) : ACalls Go.Proofs.Tryd.prog 54 [.str (wd l)] h (fun v h' => St h h' [⟨v, 1, wcs (longW l), true⟩]) := by
  refine KA.fn 36 [.tmp 2] Go.Proofs.Tryd.func54 rfl (by decide) rfl rfl (Nat.le_of_ble_eq_true rfl) ?_
  have hS := St.refl h
  show KA _ 36 _ _ [(0, .str (wd l))] _
  refine KA.seq ?_
  refine KA.region rfl ?_
  refine KOps.assign ?_
  refine KOps.done ?_
  refine sqQ.normal ?_
  refine KA.sub (Sub.cons (t := 0) Look.eq (Sub.nil _)) ?_
  refine KA.seq ?_
  refine KA.region rfl ?_
  refine KOps.move ?_
  refine KOps.wAdd (by simp only [List.length_cons, List.length_nil]; omega) ?_
  refine KOps.move ?_
  refine KOps.wAdd (by simp only [List.length_cons, List.length_nil]; omega) ?_
  refine KOps.buildSlice hS rfl (by decide) rfl ?_
  intro v10 h' hS
  refine KOps.assign ?_
  refine KOps.done ?_
  refine sqQ.normal ?_
  refine KA.sub (Sub.cons (t := 0) Look.eq (Sub.cons (t := 3) Look.eq (Sub.nil _))) ?_
  refine KA.seq ?_
  refine KA.seq ?_
  refine KA.region rfl ?_
  refine KOps.move ?_
  refine KOps.range hS rfl ?_
  intro v12 h' hv12 hS
  refine KOps.done ?_
  refine sqQ.normal ?_
  refine KA.sub (Sub.cons (t := 0) Look.eq (Sub.cons (t := 3) Look.eq (Sub.cons (t := 12) Look.eq (Sub.nil _)))) ?_
  refine KA.block ?_
  refine KA.loop (X := Nat × AV) (fun x => [(0, .str (wd l)), (3, x.2), (12, v12)]) (fun x h' => x.1 ≤ l.length ∧ St h h' [walkO v12 (wd l) x.1, ⟨x.2, 1, wcs (moreTo l x.1), true⟩]) (fun x => l.length - x.1) (0, v10) (by repeat (first | exact Sub.nil _ | refine Sub.cons Look.eq ?_ | refine Sub.cons (Eq.trans Look.eq (congrArg (AV.int _) (by first | omega | (dsimp only; omega)))) ?_)) ?_ ?_
  · refine ⟨Nat.zero_le _, ?_⟩
    rw [more_zero]
    exact hS
  rintro ⟨p, v3⟩ h2 ⟨hp, hS⟩
  dsimp only at hp hS ⊢
  have hln := moreTo_len l p
  refine KA.seq ?_
  refine KA.region rfl ?_
  refine KOps.next hS hv12 (i := 0) rfl rfl ?_ ?_
  · intro np h' hS
    simp only [List.set_cons_zero, List.set_cons_succ, Nat.zero_add] at hS
    have hlt : p < l.length := by rw [wd_size] at np; exact np
    simp only [dec_wd hlt] at hS ⊢
    have hbv := bch_cases (l.getD p false)
    refine KOps.extract ?_
    refine KOps.done ?_
    refine sqQ.normal ?_
    refine KA.seq ?_
    refine KA.condT ?_
    refine KA.skip ?_
    refine sqQ.normal ?_
    refine KA.sub (Sub.cons (t := 0) Look.eq (Sub.cons (t := 3) Look.eq (Sub.cons (t := 12) Look.eq (Sub.cons (t := 13) Look.eq (Sub.nil _))))) ?_
    refine KA.block ?_
    refine KA.seq ?_
    refine KA.region rfl ?_
    refine KOps.extract ?_
    refine KOps.extract ?_
    refine KOps.assign ?_
    refine KOps.assign ?_
    refine KOps.done ?_
    refine sqQ.normal ?_
    refine KA.sub (Sub.cons (t := 0) Look.eq (Sub.cons (t := 3) Look.eq (Sub.cons (t := 4) Look.eq (Sub.cons (t := 5) Look.eq (Sub.cons (t := 12) Look.eq (Sub.nil _)))))) ?_
    refine KA.draw [15] mixed rfl (by kernel_rfl) ?_
    refine KOps.move ?_
    refine KOps.move ?_
    refine KOps.move ?_
    refine KOps.add (by first | omega | (simp; omega)) (by first | omega | (simp; omega)) ?_
    refine KOps.wHi (j := p + 1) (by first | omega | (simp; omega)) (by first | omega | (simp; omega)) ?_
    refine KOps.move ?_
    refine KOps.subK (wrap32 (by first | omega | (simp; omega)) (by first | omega | (simp; omega))) ?_
    refine KOps.wRune (b := !l.getD p false) (by kernel_rfl) (by rcases hbv with q | q <;> (rw [q.1, q.2]; rfl)) ?_
    refine KOps.wAdd (by rw [List.length_take]; simp only [List.length_cons, List.length_nil]; omega) ?_
    refine KOps.move ?_
    refine KOps.move ?_
    refine KOps.add (by first | omega | (simp; omega)) (by first | omega | (simp; omega)) ?_
    refine KOps.wLo (j := p + 1) (by first | omega | (simp; omega)) (by first | omega | (simp; omega)) ?_
    refine KOps.wAdd (by rw [List.length_append, List.length_take, List.length_drop]; simp only [List.length_cons, List.length_nil]; omega) ?_
    refine KOps.buildSlice hS rfl (by decide) rfl ?_
    intro v31 h' hS
    refine KOps.appendW1 hS (fun _ => rfl) (i := 1) rfl (by first | omega | (simp; omega)) ?_
    intro r32 h' hr32 hS
    refine KOps.assign ?_
    refine KOps.done ?_
    refine blQ.normal ?_
    rw [← more_next] at hS
    exact lpQ.normal (p + 1, _) (by repeat (first | exact Sub.nil _ | refine Sub.cons Look.eq ?_ | refine Sub.cons (Eq.trans Look.eq (congrArg (AV.int _) (by first | omega | (dsimp only; omega)))) ?_)) ⟨by dsimp only; omega, hS⟩ (by dsimp only; omega)
  · intro np
    refine KOps.extract ?_
    refine KOps.done ?_
    refine sqQ.normal ?_
    refine KA.seq ?_
    refine KA.condF ?_
    refine KA.exit ?_
    refine sqQ.exit ?_
    refine lpQ.exit ?_
    refine blQ.here ?_
    refine sqQ.normal ?_
    refine KA.sub (Sub.cons (t := 3) Look.eq (Sub.nil _)) ?_
    refine KA.seq ?_
    refine KA.region rfl ?_
    refine KOps.move ?_
    refine KOps.call rfl (sort_c hS (i := 1) rfl rfl (by omega)) ?_
    rintro _ hx ⟨e9, hpm, hso, hS⟩
    simp only [List.set_cons_zero, List.set_cons_succ, Nat.zero_add] at hS
    refine KOps.done ?_
    refine sqQ.normal ?_
    refine KA.sub (Sub.cons (t := 3) Look.eq (Sub.nil _)) ?_
    refine KA.seq ?_
    refine KA.region rfl ?_
    refine KOps.move ?_
    refine KOps.assign ?_
    refine KOps.done ?_
    refine sqQ.normal ?_
    refine KA.sub (Sub.cons (t := 2) Look.eq (Sub.nil _)) ?_
    refine KA.ret ?_
    refine fnQ.ret1 ?_
    have he : p = l.length := by rw [wd_size] at np; omega
    subst he
    rw [sorted_more hpm hso.pairs] at hS
    exact St.pick [1] (by decide) rfl hS

end Go.Am

namespace Go.Am
open Go.RowKit
def AV.flat0 : AV → Bool
  | .int _ _ => true
  | .bool _ => true
  | .str _ => true
  | _ => false
def AV.flat : AV → Bool
  | .tup l => l.all AV.flat0
  | x => x.flat0
theorem flat0_rel {φ ψ : Emb} {x : AV} {v : Value} (hx : x.flat0 = true) (h : VRel φ x v) : VRel ψ x v := by
  cases h <;> first | (cases hx; done) | exact .int _ _ | exact .bool _ | exact .str _
theorem flat_rel {φ ψ : Emb} {x : AV} {v : Value} (hx : x.flat = true) (h : VRel φ x v) : VRel ψ x v := by
  cases h with
  | tup l cs hl hh => exact .tup l cs hl fun j x y h1 h2 => flat0_rel (List.all_eq_true.1 hx x (List.mem_of_getElem? h1)) (hh j x y h1 h2)
  | int k n => exact .int k n
  | bool b => exact .bool b
  | str s => exact .str s
  | _ => cases hx
theorem flats_rel {φ ψ : Emb} {l : List AV} {cs : List Value} (hx : l.all AV.flat = true) (h : VRels φ l cs) : VRels ψ l cs :=
  ⟨h.1, fun j x y h1 h2 => flat_rel (List.all_eq_true.1 hx x (List.mem_of_getElem? h1)) (h.2 j x y h1 h2)⟩
/-- What a call lays behind all that is known is of no interest. -/
theorem Ev.of_below {P : Program} {f : FuncId} {args : List AV} {r : AV} (hok : Okf P f) (hc : ∀ (φ : Emb) (w : World) (cs : List Value), VRels φ args cs → Calls P f cs.toArray w fun e w' => ∃ v, e = .returned v ∧ VRel φ r v ∧ Below w.heap.size w w') (h : AHeap) : Ev P f args h r h := by
  refine ⟨hok, HGrow.refl h, ?_⟩
  intro φ w cs _ rr ha
  refine (hc φ w cs ha).mono ?_
  rintro e w' ⟨v, rfl, hv, bel⟩
  have hk : ∀ k, k < w.heap.size → w'.heap[k]? = w.heap[k]? := fun k hk => bel.block k hk
  refine ⟨v, φ, rfl, ⟨Emb.le_refl φ, fun b h1 h2 => by omega, fun b p h1 h2 => (by rw [h1] at h2; cases h2), fun b k i z h1 h2 => (by rw [h1] at h2; cases h2), fun k hk' _ => hk k hk', bel.os, bel.tape, bel.output, bel.size⟩, ?_, hv⟩
  refine ⟨rr.glob, fun b k i z hb => Nat.lt_of_lt_of_le (rr.lt b k i z hb) bel.size, ?_, ?_, rr.one, rr.sep, rr.map, rr.ext⟩
  · intro b k i z B hb hB hv
    exact (rr.blk b k i z B hb hB hv).world (hk k (rr.lt b k i z hb))
  · intro b k i z F p cs hb hB
    obtain ⟨c, e, h2, h3⟩ := rr.arr b k i z F p cs hb hB
    exact ⟨c, e, (hk k (rr.lt b k i z hb)).trans h2, h3⟩
/-- A call of numbers, booleans and strings that gives such: beside whatever heap. -/
theorem Ev.free {P : Program} {f : FuncId} {args : List AV} {r : AV} {h1 : AHeap} (he : Ev P f args h00 r h1) (ha : args.all AV.flat = true) (hr : r.flat = true) (h : AHeap) : Ev P f args h r h := by
  refine Ev.of_below he.1 ?_ h
  intro φ w cs hcs
  refine (he.2.2 φ00 w cs (fun _ _ _ => rfl) (HRel.empty w) (flats_rel ha hcs)).mono ?_
  rintro e w' ⟨v, φ', rfl, t, _, hv⟩
  exact ⟨v, rfl, flat_rel hr hv, t.below⟩
theorem ACalls.free {P : Program} {f : FuncId} {args : List AV} {v : AV} {R : AHeap → Prop} (hc : ACalls P f args h00 (fun q h' => q = v ∧ R h')) (ha : args.all AV.flat = true) (hr : v.flat = true) (h : AHeap) : ACalls P f args h (fun q h' => q = v ∧ h = h') := by
  obtain ⟨r, h1, he, rfl, _⟩ := hc
  exact ⟨_, _, he.free ha hr h, rfl, rfl⟩
theorem written_c {h : AHeap} {x n : Nat} (hx : x < 1024) (hn : n ≤ 10) : ACalls Go.Proofs.Tryd.prog 56 [.int .i64 (x : Int), .int .i64 (n : Int)] h (fun q h' => q = .str (wd (bitsW n x)) ∧ h = h') := by
  refine ⟨_, _, Ev.of_below ⟨_, Go.Proofs.Tryd.func56, by decide, rfl⟩ ?_ h, rfl, rfl⟩
  intro φ w cs hcs
  obtain ⟨a, b, rfl⟩ : ∃ a b, cs = [a, b] := by
    match cs, hcs.1 with
    | [a, b], _ => exact ⟨a, b, rfl⟩
  have ha := hcs.2 0 _ _ rfl rfl
  have hb := hcs.2 1 _ _ rfl rfl
  cases ha; cases hb
  refine (Go.Proofs.Tryd.written_walk x n hx hn w).mono ?_
  rintro e w' ⟨rfl, bel⟩
  exact ⟨_, rfl, .str _, bel⟩
theorem checkF_c {h : AHeap} {s : ByteArray} : ACalls Go.Proofs.Tryd.prog 21 [.str s] h (fun q h' => q = .int .i64 (chkS s) ∧ h = h') := ACalls.free check_c rfl rfl h
theorem heavyF_c {h : AHeap} {l : List Bool} (hl : l.length ≤ 12) : ACalls Go.Proofs.Tryd.prog 48 [.str (wd l)] h (fun q h' => q = .int .i64 ((wt l : Nat) : Int) ∧ h = h') := ACalls.free (heavy_c hl) rfl rfl h
end Go.Am

namespace Go.Am
/-- The letters of a string. -/
def ofS (s : ByteArray) : List Bool := (List.range s.size).map fun p => (s.get! p).toNat == 49
theorem ofS_wd (l : List Bool) : ofS (wd l) = l := by
  unfold ofS
  refine List.ext_getElem (by rw [List.length_map, List.length_range, wd_size]) fun p h1 h2 => ?_
  rw [List.getElem_map, List.getElem_range, wd_getB h2, List.getD_eq_getElem?_getD, List.getElem?_eq_getElem h2, Option.getD_some]
  cases l[p] <;> rfl
def wtS (s : ByteArray) : Nat := if chkS s = 0 then wt (ofS s) else 0
def clsS (s : ByteArray) : Nat := if chkS s = 0 then cls (ofS s) else 0
theorem wtS_wd {l : List Bool} (hl : l.length ≤ 10) : wtS (wd l) = wt l := by rw [wtS, if_pos (chk_wd hl), ofS_wd]
theorem clsS_wd {l : List Bool} (hl : l.length ≤ 10) : clsS (wd l) = cls l := by rw [clsS, if_pos (chk_wd hl), ofS_wd]
theorem wtS_bad {s : ByteArray} (h : chkS s ≠ 0) : wtS s = 0 := if_neg h
theorem clsS_bad {s : ByteArray} (h : chkS s ≠ 0) : clsS s = 0 := if_neg h
/-- Which error a word has that is read short, and long. -/
def shortE (s : ByteArray) : Int := if chkS s = 0 then if ofS s = [] then 4 else 0 else chkS s
def longE (s : ByteArray) : Int := if chkS s = 0 then if (ofS s).length = 10 then 3 else 0 else chkS s
theorem shortE_bad {s : ByteArray} (h : chkS s ≠ 0) : shortE s = chkS s := if_neg h
theorem longE_bad {s : ByteArray} (h : chkS s ≠ 0) : longE s = chkS s := if_neg h
theorem shortE_wd {l : List Bool} (hl : l.length ≤ 10) : shortE (wd l) = if l = [] then 4 else 0 := by rw [shortE, if_pos (chk_wd hl), ofS_wd]
theorem longE_wd {l : List Bool} (hl : l.length ≤ 10) : longE (wd l) = if l.length = 10 then 3 else 0 := by rw [longE, if_pos (chk_wd hl), ofS_wd]
def shortS (s : ByteArray) : List (List Bool) := if shortE s = 0 then shortW (ofS s) else []
def longS (s : ByteArray) : List (List Bool) := if longE s = 0 then longW (ofS s) else []
theorem shortS_wd {l : List Bool} (h : shortE (wd l) = 0) : shortS (wd l) = shortW l := by rw [shortS, if_pos h, ofS_wd]
theorem longS_wd {l : List Bool} (h : longE (wd l) = 0) : longS (wd l) = longW l := by rw [longS, if_pos h, ofS_wd]
theorem shortS_bad {s : ByteArray} (h : shortE s ≠ 0) : shortS s = [] := if_neg h
theorem longS_bad {s : ByteArray} (h : longE s ≠ 0) : longS s = [] := if_neg h
/-- Codes. -/
def codeE (n k : Int) : Int := if (0 ≤ n ∧ n ≤ 10) ∧ (0 ≤ k ∧ k ≤ n) then 0 else 1
def codeS (n k : Int) : List (List Bool) := if codeE n k = 0 then codeW n.toNat k.toNat else []
theorem codeE_nat {a b : Nat} (h1 : a ≤ 10) (h2 : b ≤ a) : codeE (a : Int) (b : Int) = 0 := if_pos ⟨⟨by omega, by omega⟩, by omega, by omega⟩
theorem codeS_nat {a b : Nat} (h1 : a ≤ 10) (h2 : b ≤ a) : codeS (a : Int) (b : Int) = codeW a b := by rw [codeS, if_pos (codeE_nat h1 h2)]; rfl
/-- What can have been cut, and was. -/
def askE (n : Int) (s : ByteArray) : Int := if chkS s = 0 then if 0 ≤ n ∧ n ≤ 10 then if n - 1 ≤ (s.size : Int) ∧ (s.size : Int) ≤ n + 1 then 0 else 5 else 1 else chkS s
def cutS (n : Int) (s : ByteArray) : List (List Bool) := if askE n s = 0 then cutW n.toNat (ofS s) else []
theorem askE_bad {n : Int} {s : ByteArray} (h : chkS s ≠ 0) : askE n s = chkS s := if_neg h
theorem askE_1 {n : Int} {s : ByteArray} (h : chkS s = 0) (h1 : ¬ (0 ≤ n ∧ n ≤ 10)) : askE n s = 1 := by rw [askE, if_pos h, if_neg h1]
theorem askE_5 {n : Int} {s : ByteArray} (h : chkS s = 0) (h1 : 0 ≤ n ∧ n ≤ 10) (h2 : ¬ (n - 1 ≤ (s.size : Int) ∧ (s.size : Int) ≤ n + 1)) : askE n s = 5 := by rw [askE, if_pos h, if_pos h1, if_neg h2]
theorem askE_0 {n : Int} {s : ByteArray} (h : chkS s = 0) (h1 : 0 ≤ n ∧ n ≤ 10) (h2 : n - 1 ≤ (s.size : Int) ∧ (s.size : Int) ≤ n + 1) : askE n s = 0 := by rw [askE, if_pos h, if_pos h1, if_pos h2]
theorem askE_zero {n : Int} {s : ByteArray} (h : askE n s = 0) : ∃ (a : Nat) (l : List Bool), n = (a : Int) ∧ s = wd l ∧ a ≤ 10 ∧ l.length ≤ 10 ∧ a ≤ l.length + 1 ∧ l.length ≤ a + 1 := by
  by_cases hc : chkS s = 0
  · by_cases h1 : 0 ≤ n ∧ n ≤ 10
    · by_cases h2 : n - 1 ≤ (s.size : Int) ∧ (s.size : Int) ≤ n + 1
      · obtain ⟨l, rfl, hl⟩ := chk_zero hc
        rw [wd_size] at h2
        exact ⟨n.toNat, l, by omega, rfl, by omega, hl, by omega, by omega⟩
      · rw [askE_5 hc h1 h2] at h; cases h
    · rw [askE_1 hc h1] at h; cases h
  · rw [askE_bad hc] at h; exact absurd h hc
theorem cutS_wd {a : Nat} {l : List Bool} (h : askE (a : Int) (wd l) = 0) : cutS (a : Int) (wd l) = cutW a l := by rw [cutS, if_pos h, ofS_wd]; rfl
theorem cutS_bad {n : Int} {s : ByteArray} (h : askE n s ≠ 0) : cutS n s = [] := if_neg h
def restF (n k : Int) (s : ByteArray) : Option (List Bool) := if askE n s = 0 ∧ 0 ≤ k ∧ k ≤ n then restW n.toNat k.toNat (ofS s) else none
def restE (n k : Int) (s : ByteArray) : Int := if askE n s = 0 then if 0 ≤ k ∧ k ≤ n then if (restF n k s).isSome = true then 0 else 12 else 1 else askE n s
def restS (n k : Int) (s : ByteArray) : List Bool := (restF n k s).getD []
theorem restE_bad {n k : Int} {s : ByteArray} (h : askE n s ≠ 0) : restE n k s = askE n s := if_neg h
theorem restS_bad {n k : Int} {s : ByteArray} (h : askE n s ≠ 0) : restS n k s = [] := by rw [restS, restF, if_neg (fun q => h q.1)]; rfl
theorem restE_1 {n k : Int} {s : ByteArray} (h : askE n s = 0) (h1 : ¬ (0 ≤ k ∧ k ≤ n)) : restE n k s = 1 := by rw [restE, if_pos h, if_neg h1]
theorem restS_1 {n k : Int} {s : ByteArray} (h1 : ¬ (0 ≤ k ∧ k ≤ n)) : restS n k s = [] := by rw [restS, restF, if_neg (fun q => h1 q.2)]; rfl
theorem restF_wd {a b : Nat} {l : List Bool} (h : askE (a : Int) (wd l) = 0) (hb : b ≤ a) : restF (a : Int) (b : Int) (wd l) = restW a b l := by
  rw [restF, if_pos ⟨h, by omega, by omega⟩, ofS_wd]; rfl
theorem rest_some {a b : Nat} {l x : List Bool} (h : askE (a : Int) (wd l) = 0) (hb : b ≤ a) (hx : restW a b l = some x) : restE (a : Int) (b : Int) (wd l) = 0 ∧ restS (a : Int) (b : Int) (wd l) = x := by
  constructor
  · rw [restE, if_pos h, if_pos ⟨by omega, by omega⟩, restF_wd h hb, hx]; rfl
  · rw [restS, restF_wd h hb, hx]; rfl
theorem rest_none {a b : Nat} {l : List Bool} (h : askE (a : Int) (wd l) = 0) (hb : b ≤ a) (hx : restW a b l = none) : restE (a : Int) (b : Int) (wd l) = 12 ∧ restS (a : Int) (b : Int) (wd l) = [] := by
  constructor
  · rw [restE, if_pos h, if_pos ⟨by omega, by omega⟩, restF_wd h hb, hx]; rfl
  · rw [restS, restF_wd h hb, hx]; rfl
/-- A list gone through to a place. -/
theorem filt_yes {l : List (List Bool)} {p : List Bool → Bool} {i : Nat} (h : i < l.length) (hp : p (l.getD i []) = true) : (l.take (i + 1)).filter p = (l.take i).filter p ++ [l.getD i []] := by
  have e : l.getD i [] = l[i] := by rw [List.getD_eq_getElem?_getD, List.getElem?_eq_getElem h]; rfl
  rw [e] at hp ⊢
  rw [List.take_add_one, List.getElem?_eq_getElem h, List.filter_append, Option.toList_some, List.filter_cons_of_pos hp, List.filter_nil]
theorem filt_no {l : List (List Bool)} {p : List Bool → Bool} {i : Nat} (h : i < l.length) (hp : ¬ p (l.getD i []) = true) : (l.take (i + 1)).filter p = (l.take i).filter p := by
  have e : l.getD i [] = l[i] := by rw [List.getD_eq_getElem?_getD, List.getElem?_eq_getElem h]; rfl
  rw [e] at hp
  rw [List.take_add_one, List.getElem?_eq_getElem h, List.filter_append, Option.toList_some, List.filter_cons_of_neg hp, List.filter_nil, List.append_nil]
theorem filt_len (l : List (List Bool)) (p : List Bool → Bool) (i : Nat) : ((l.take i).filter p).length ≤ l.length := Nat.le_trans (List.length_filter_le ..) (by rw [List.length_take]; omega)
theorem find_take {l : List (List Bool)} {p : List Bool → Bool} {i : Nat} (h : i < l.length) (h0 : ∀ j, j < i → ¬ p (l.getD j []) = true) (hp : p (l.getD i []) = true) : l.find? p = some (l.getD i []) := by
  have e : l.getD i [] = l[i] := by rw [List.getD_eq_getElem?_getD, List.getElem?_eq_getElem h]; rfl
  rw [e] at hp ⊢
  refine List.find?_eq_some_iff_getElem.2 ⟨hp, i, h, rfl, fun j hj => ?_⟩
  have h1 := h0 j hj
  rw [List.getD_eq_getElem?_getD, List.getElem?_eq_getElem (by omega : j < l.length), Option.getD_some] at h1
  cases hq : p l[j] with
  | false => rfl
  | true => exact absurd hq h1
theorem find_none {l : List (List Bool)} {p : List Bool → Bool} (h0 : ∀ j, j < l.length → ¬ p (l.getD j []) = true) : l.find? p = none := by
  rw [List.find?_eq_none]
  intro x hx
  obtain ⟨j, hj, rfl⟩ := List.getElem_of_mem hx
  have := h0 j hj
  rwa [List.getD_eq_getElem?_getD, List.getElem?_eq_getElem hj] at this
end Go.Am

namespace Go.Am
theorem cntTo_count (w : List Bool) : ∀ k, cntTo w k = (w.take k).count true := by
  intro k
  induction k with
  | zero => rfl
  | succ k ih =>
    rw [cntTo, ih, List.take_add_one, List.count_append]
    congr 1
    by_cases h : k < w.length
    · rw [List.getD_eq_getElem?_getD, List.getElem?_eq_getElem h, Option.getD_some, Option.toList_some]
      cases w[k] <;> rfl
    · rw [List.getD_eq_getElem?_getD, List.getElem?_eq_none (by omega)]; rfl
theorem count_map (w : List Bool) : (w.map bch).count 49 = w.count true := by
  induction w with
  | nil => rfl
  | cons a w ih => rw [List.map_cons, List.count_cons, List.count_cons, ih]; cases a <;> rfl
theorem cnt_bytes (w : List Bool) : Lib.countByte (wd w).data.toList 49 = cnt w := by
  unfold Lib.countByte
  rw [wd_data, count_map, cnt, cntTo_count, List.take_length]
/-- The place with so many 1 from there on. -/
def befTo (w : List Bool) : Nat → Nat → Nat
  | 0, _ => 0
  | k + 1, m => if m = 0 then k + 1 else befTo w k (if w.getD k false = true then m - 1 else m)
theorem befTo_done (w : List Bool) (k : Nat) : befTo w k 0 = k := by cases k <;> rfl
theorem befTo_spec (w : List Bool) : ∀ (k m : Nat), m ≤ cntTo w k → befTo w k m ≤ k ∧ cntTo w k - cntTo w (befTo w k m) = m := by
  intro k
  induction k with
  | zero => intro m h; rw [cntTo] at h; rw [befTo]; exact ⟨Nat.le_refl _, by omega⟩
  | succ k ih =>
    intro m h
    rw [cntTo] at h ⊢
    rw [befTo]
    by_cases h0 : m = 0
    · rw [if_pos h0, cntTo]; exact ⟨Nat.le_refl _, by omega⟩
    · rw [if_neg h0]
      by_cases hb : w.getD k false = true
      · rw [if_pos hb] at h ⊢
        rw [if_pos hb]
        have := ih (m - 1) (by omega)
        have hle := (cntTo_mono w this.1).1
        exact ⟨by omega, by omega⟩
      · rw [if_neg hb] at h ⊢
        rw [if_neg hb]
        have := ih m (by omega)
        exact ⟨by omega, by omega⟩
def lackN (a b : Nat) (w : List Bool) : Nat := (b + (a + 1) - wt w % (a + 1)) % (a + 1)
theorem lack_lt (a b : Nat) (w : List Bool) : lackN a b w < a + 1 := Nat.mod_lt _ (by omega)
theorem lack_spec {a b : Nat} (w : List Bool) (hb : b ≤ a) : (wt w + lackN a b w) % (a + 1) = b := by
  unfold lackN
  rw [Nat.add_mod_mod]
  have h1 := Nat.div_add_mod (wt w) (a + 1)
  have h2 : wt w % (a + 1) < a + 1 := Nat.mod_lt _ (by omega)
  have h3 : wt w + (b + (a + 1) - wt w % (a + 1)) = b + (a + 1) + (a + 1) * (wt w / (a + 1)) := by omega
  rw [h3, Nat.add_mul_mod_self_left, Nat.add_mod_right, Nat.mod_eq_of_lt (by omega)]
theorem rest_same_pos {a b : Nat} {w : List Bool} (hl : w.length = a) (hb : b ≤ a) (h : 0 < lackN a b w) : restW a b w = none := by
  subst hl
  rw [rest_same, if_neg]
  intro hc
  unfold cls at hc
  unfold lackN at h
  rw [hc] at h
  have e : b + (w.length + 1) - b = w.length + 1 := by omega
  rw [e, Nat.mod_self] at h
  omega
theorem rest_same_zero {a b : Nat} {w : List Bool} (hl : w.length = a) (hb : b ≤ a) (h : ¬ 0 < lackN a b w) : restW a b w = some w := by
  subst hl
  have h1 := lack_spec w hb
  rw [rest_same, if_pos]
  unfold cls
  rw [show lackN w.length b w = 0 by omega] at h1
  exact h1
theorem rest_ins {a b : Nat} {w : List Bool} (hl : w.length + 1 = a) (hb : b ≤ a) {p : Nat} {c : Bool} (hp : p ≤ w.length) (h : adds w p c = lackN a b w) : restW a b w = some (insW w p c) := by
  have h1 := lack_spec w hb
  unfold restW
  rw [cut_long hl]
  refine restore_long hp ?_
  rw [h]
  subst hl
  exact h1
theorem rest_bef {a b : Nat} {w : List Bool} (hl : w.length + 1 = a) (hb : b ≤ a) (h : lackN a b w ≤ cnt w) : restW a b w = some (insW w (befTo w w.length (lackN a b w)) false) := by
  have hs := befTo_spec w w.length (lackN a b w) h
  refine rest_ins hl hb hs.1 ?_
  unfold adds
  rw [if_neg (by decide), hs.2, Nat.zero_add]
theorem rest_beh {a b : Nat} {w : List Bool} (hl : w.length + 1 = a) (hb : b ≤ a) (h : cnt w < lackN a b w) {p : Nat} (hp : p ≤ w.length) (hq : p - cntTo w p = lackN a b w - cnt w - 1) : restW a b w = some (insW w p true) := by
  refine rest_ins hl hb hp ?_
  unfold adds
  have h1 := cntTo_le w p
  have h2 : cntTo w p ≤ cnt w := (cntTo_mono w hp).1
  rw [if_pos rfl]
  omega
theorem rest_less {a b : Nat} {w : List Bool} (hl : w.length = a + 1) : restW a b w = (shortW w).find? fun x => decide (cls x = b) := by unfold restW; rw [cut_short hl]
theorem shortW_get {i : Nat} {w : List Bool} (h : i < (shortW w).length) : ((shortW w).getD i []).length + 1 = w.length := by
  have hm : (shortW w).getD i [] ∈ shortW w := by rw [List.getD_eq_getElem?_getD, List.getElem?_eq_getElem h]; exact List.getElem_mem h
  exact (isDel_len (mem_shortW.1 hm)).symm
theorem shortW_len (w : List Bool) : (shortW w).length ≤ 2 ^ (w.length - 1) := by
  unfold shortW
  exact Nat.le_trans (List.length_filter_le ..) (by rw [allW_len]; exact Nat.le_refl _)
end Go.Am

namespace Go.Am
theorem shortW_asc (w : List Bool) : Asc (shortW w) := filter_asc (allW_asc _) _
theorem com_find (a b : List Bool) : (shortW a).find? (fun x => decide (x ∈ shortW b)) = comW a b := by
  rw [com_short]
  congr 1
  funext x
  cases h : isDel b x with
  | false => exact decide_eq_false fun q => by rw [mem_shortW.1 q] at h; cases h
  | true => exact decide_eq_true (mem_shortW.2 h)
def chk2 (a b : ByteArray) : Int := if chkS a = 0 then chkS b else chkS a
theorem chk2_zero {a b : ByteArray} (h : chk2 a b = 0) : ∃ l m, a = wd l ∧ b = wd m ∧ l.length ≤ 10 ∧ m.length ≤ 10 := by
  unfold chk2 at h
  by_cases hc : chkS a = 0
  · rw [if_pos hc] at h
    obtain ⟨l, rfl, hl⟩ := chk_zero hc
    obtain ⟨m, rfl, hm⟩ := chk_zero h
    exact ⟨l, m, rfl, rfl, hl, hm⟩
  · rw [if_neg hc] at h; exact absurd h hc
theorem chk2_wd {l m : List Bool} (hl : l.length ≤ 10) (hm : m.length ≤ 10) : chk2 (wd l) (wd m) = 0 := by rw [chk2, if_pos (chk_wd hl), chk_wd hm]
def comE1 (a b : ByteArray) : Int := if chk2 a b = 0 then if (ofS a).length = (ofS b).length ∧ ofS a ≠ [] then 0 else 5 else chk2 a b
def comE2 (a b : ByteArray) : Int := if comE1 a b = 0 then if ofS a = ofS b then 6 else 0 else comE1 a b
def comF (a b : ByteArray) : Option (List Bool) := if comE2 a b = 0 then comW (ofS a) (ofS b) else none
def comE (a b : ByteArray) : Int := if comE2 a b = 0 then if (comF a b).isSome = true then 0 else 12 else comE2 a b
def comS (a b : ByteArray) : List Bool := (comF a b).getD []
theorem comE1_wd {l m : List Bool} (hl : l.length ≤ 10) (hm : m.length ≤ 10) : comE1 (wd l) (wd m) = if l.length = m.length ∧ l ≠ [] then 0 else 5 := by
  rw [comE1, if_pos (chk2_wd hl hm), ofS_wd, ofS_wd]
theorem comE1_ne {a b : ByteArray} (h : chk2 a b ≠ 0) : comE1 a b = chk2 a b := if_neg h
theorem comE2_ne {a b : ByteArray} (h : comE1 a b ≠ 0) : comE2 a b = comE1 a b := if_neg h
theorem comE_ne {a b : ByteArray} (h : comE2 a b ≠ 0) : comE a b = comE2 a b ∧ comS a b = [] := ⟨if_neg h, by rw [comS, comF, if_neg h]; rfl⟩
theorem comE2_wd {l m : List Bool} (h : comE1 (wd l) (wd m) = 0) : comE2 (wd l) (wd m) = if l = m then 6 else 0 := by rw [comE2, if_pos h, ofS_wd, ofS_wd]
theorem com_some {l m x : List Bool} (h : comE2 (wd l) (wd m) = 0) (hx : comW l m = some x) : comE (wd l) (wd m) = 0 ∧ comS (wd l) (wd m) = x := by
  have hF : comF (wd l) (wd m) = some x := by rw [comF, if_pos h, ofS_wd, ofS_wd, hx]
  exact ⟨by rw [comE, if_pos h, hF]; rfl, by rw [comS, hF]; rfl⟩
theorem com_none {l m : List Bool} (h : comE2 (wd l) (wd m) = 0) (hx : comW l m = none) : comE (wd l) (wd m) = 12 ∧ comS (wd l) (wd m) = [] := by
  have hF : comF (wd l) (wd m) = none := by rw [comF, if_pos h, ofS_wd, ofS_wd, hx]
  exact ⟨by rw [comE, if_pos h, hF]; rfl, by rw [comS, hF]; rfl⟩
/-! Safe words. -/
def sAtL (ss : List ByteArray) (i : Nat) : ByteArray := ss.getD i ByteArray.empty
def itemE (ss : List ByteArray) (i : Nat) : Int := if chkS (sAtL ss i) = 0 then if (sAtL ss i).size = (sAtL ss 0).size ∧ (sAtL ss i).size ≠ 0 then if ∃ j, j < i ∧ sAtL ss j = sAtL ss i then 6 else 0 else 5 else chkS (sAtL ss i)
def errTo (ss : List ByteArray) : Nat → Int
  | 0 => 0
  | k + 1 => if errTo ss k = 0 then itemE ss k else errTo ss k
theorem errTo_mono {ss : List ByteArray} {i : Nat} {e : Int} (h : errTo ss i = e) (he : e ≠ 0) : ∀ n, i ≤ n → errTo ss n = e := by
  intro n hn
  induction n with
  | zero => rw [show i = 0 by omega] at h; exact h
  | succ n ih =>
    by_cases hq : i = n + 1
    · rw [← hq]; exact h
    · rw [errTo, ih (by omega), if_neg he]
theorem errTo_stop {ss : List ByteArray} {i n : Nat} {e : Int} (h : errTo ss i = 0) (hi : i < n) (hit : itemE ss i = e) (he : e ≠ 0) : errTo ss n = e :=
  errTo_mono (i := i + 1) (by rw [errTo, if_pos h, hit]) he n hi
theorem errTo_all {ss : List ByteArray} : ∀ {n : Nat}, errTo ss n = 0 → ∀ i, i < n → itemE ss i = 0 := by
  intro n
  induction n with
  | zero => intro _ i hi; exact absurd hi (Nat.not_lt_zero _)
  | succ n ih =>
    intro h i hi
    rw [errTo] at h
    by_cases hq : errTo ss n = 0
    · rw [if_pos hq] at h
      rcases Nat.lt_succ_iff_lt_or_eq.1 hi with h1 | rfl
      · exact ih hq i h1
      · exact h
    · rw [if_neg hq] at h; exact absurd h hq
theorem item_zero {ss : List ByteArray} {i : Nat} (h : itemE ss i = 0) : chkS (sAtL ss i) = 0 ∧ (sAtL ss i).size = (sAtL ss 0).size ∧ (sAtL ss i).size ≠ 0 ∧ ∀ j, j < i → sAtL ss j ≠ sAtL ss i := by
  unfold itemE at h
  by_cases hc : chkS (sAtL ss i) = 0
  · rw [if_pos hc] at h
    by_cases h1 : (sAtL ss i).size = (sAtL ss 0).size ∧ (sAtL ss i).size ≠ 0
    · rw [if_pos h1] at h
      by_cases h2 : ∃ j, j < i ∧ sAtL ss j = sAtL ss i
      · rw [if_pos h2] at h; cases h
      · exact ⟨hc, h1.1, h1.2, fun j hj e => h2 ⟨j, hj, e⟩⟩
    · rw [if_neg h1] at h; cases h
  · rw [if_neg hc] at h; exact absurd h hc
theorem item_chk {ss : List ByteArray} {i : Nat} (h : chkS (sAtL ss i) ≠ 0) : itemE ss i = chkS (sAtL ss i) := if_neg h
theorem item_5 {ss : List ByteArray} {i : Nat} (h : chkS (sAtL ss i) = 0) (h1 : ¬ ((sAtL ss i).size = (sAtL ss 0).size ∧ (sAtL ss i).size ≠ 0)) : itemE ss i = 5 := by rw [itemE, if_pos h, if_neg h1]
theorem item_6 {ss : List ByteArray} {i : Nat} (h : chkS (sAtL ss i) = 0) (h1 : (sAtL ss i).size = (sAtL ss 0).size ∧ (sAtL ss i).size ≠ 0) (h2 : ∃ j, j < i ∧ sAtL ss j = sAtL ss i) : itemE ss i = 6 := by rw [itemE, if_pos h, if_pos h1, if_pos h2]
theorem item_0 {ss : List ByteArray} {i : Nat} (h : chkS (sAtL ss i) = 0) (h1 : (sAtL ss i).size = (sAtL ss 0).size ∧ (sAtL ss i).size ≠ 0) (h2 : ¬ ∃ j, j < i ∧ sAtL ss j = sAtL ss i) : itemE ss i = 0 := by rw [itemE, if_pos h, if_pos h1, if_neg h2]
/-- The first pair of places of which something holds. -/
def IsFst (n : Nat) (cl : Nat → Nat → Bool) (p : Nat × Nat) : Prop := p.1 < p.2 ∧ p.2 < n ∧ cl p.1 p.2 = true ∧ ∀ i k, i < k → k < n → (i < p.1 ∨ i = p.1 ∧ k < p.2) → cl i k = false
theorem fst_unique {n : Nat} {cl : Nat → Nat → Bool} {p q : Nat × Nat} (hp : IsFst n cl p) (hq : IsFst n cl q) : p = q := by
  obtain ⟨h1, h2, h3, h4⟩ := hp
  obtain ⟨g1, g2, g3, g4⟩ := hq
  have a1 : ¬ (q.1 < p.1 ∨ q.1 = p.1 ∧ q.2 < p.2) := fun h => by rw [h4 _ _ g1 g2 h] at g3; cases g3
  have a2 : ¬ (p.1 < q.1 ∨ p.1 = q.1 ∧ p.2 < q.2) := fun h => by rw [g4 _ _ h1 h2 h] at h3; cases h3
  exact Prod.ext (by omega) (by omega)
open Classical in
noncomputable def fstP (n : Nat) (cl : Nat → Nat → Bool) : Option (Nat × Nat) := if h : ∃ p, IsFst n cl p then some (Classical.choose h) else none
theorem fstP_some {n : Nat} {cl : Nat → Nat → Bool} {p : Nat × Nat} (h : IsFst n cl p) : fstP n cl = some p := by
  unfold fstP
  have hx : ∃ p, IsFst n cl p := ⟨p, h⟩
  rw [dif_pos hx, fst_unique (Classical.choose_spec hx) h]
theorem fstP_none {n : Nat} {cl : Nat → Nat → Bool} (h : ∀ i k, i < k → k < n → cl i k = false) : fstP n cl = none := by
  unfold fstP
  rw [dif_neg]
  rintro ⟨p, h1, h2, h3, _⟩
  rw [h _ _ h1 h2] at h3; cases h3
def clS (ss : List ByteArray) (i k : Nat) : Bool := clashW (ofS (sAtL ss i)) (ofS (sAtL ss k))
noncomputable def safeF (ss : List ByteArray) : Option (Nat × Nat) := if 40 < ss.length then none else if errTo ss ss.length = 0 then fstP ss.length (clS ss) else none
noncomputable def safeE (ss : List ByteArray) : Int := if 40 < ss.length then 3 else if errTo ss ss.length = 0 then if (safeF ss).isSome = true then 13 else 0 else errTo ss ss.length
noncomputable def safeI (ss : List ByteArray) : Nat := ((safeF ss).getD (0, 0)).1
noncomputable def safeK (ss : List ByteArray) : Nat := ((safeF ss).getD (0, 0)).2
noncomputable def safeV (ss : List ByteArray) : AV := .tup [.int .i64 (safeI ss : Nat), .int .i64 (safeK ss : Nat), .int .i64 (safeE ss)]
theorem safe_long {ss : List ByteArray} (h : 40 < ss.length) : safeV ss = .tup [.int .i64 0, .int .i64 0, .int .i64 3] := by
  unfold safeV safeI safeK safeE safeF
  simp only [if_pos h]; rfl
theorem safe_err {ss : List ByteArray} (h : ¬ 40 < ss.length) {e : Int} (he : errTo ss ss.length = e) (h0 : e ≠ 0) : safeV ss = .tup [.int .i64 0, .int .i64 0, .int .i64 e] := by
  unfold safeV safeI safeK safeE safeF
  simp only [if_neg h, he, if_neg h0]; rfl
theorem safe_clash {ss : List ByteArray} (h : ¬ 40 < ss.length) (he : errTo ss ss.length = 0) {i k : Nat} (hf : IsFst ss.length (clS ss) (i, k)) : safeV ss = .tup [.int .i64 (i : Int), .int .i64 (k : Int), .int .i64 13] := by
  unfold safeV safeI safeK safeE safeF
  simp only [if_neg h, if_pos he, fstP_some hf]; rfl
theorem safe_none {ss : List ByteArray} (h : ¬ 40 < ss.length) (he : errTo ss ss.length = 0) (hf : ∀ i k, i < k → k < ss.length → clS ss i k = false) : safeV ss = .tup [.int .i64 0, .int .i64 0, .int .i64 0] := by
  unfold safeV safeI safeK safeE safeF
  simp only [if_neg h, if_pos he, fstP_none hf]; rfl
theorem word_at {ss : List ByteArray} {n i : Nat} (he : errTo ss n = 0) (hi : i < n) : sAtL ss i = wd (ofS (sAtL ss i)) ∧ (ofS (sAtL ss i)).length ≤ 10 ∧ 0 < (ofS (sAtL ss i)).length := by
  obtain ⟨h1, _, h3, _⟩ := item_zero (errTo_all he i hi)
  obtain ⟨l, hl, h10⟩ := chk_zero h1
  rw [hl, ofS_wd]
  rw [hl, wd_size] at h3
  exact ⟨rfl, h10, by omega⟩
end Go.Am

namespace Go.Am
theorem asked_c {h : AHeap} {n : Int} {s : ByteArray} : ACalls Go.Proofs.Tryd.prog 58 [.int .i64 n, .str s] h (fun q h' => q = .int .i64 (askE n s) ∧ h = h') := by
  refine KA.fn 31 [.tmp 4] Go.Proofs.Tryd.func58 rfl (by decide) rfl rfl (Nat.le_of_ble_eq_true rfl) ?_
  show KA _ 31 _ _ [(0, .int .i64 n), (1, .str s)] _
  refine KA.seq ?_
  refine KA.region rfl ?_
  refine KOps.assign ?_
  refine KOps.done ?_
  refine sqQ.normal ?_
  refine KA.sub (Sub.cons (t := 0) Look.eq (Sub.cons (t := 1) Look.eq (Sub.nil _))) ?_
  refine KA.seq ?_
  refine KA.region rfl ?_
  refine KOps.move ?_
  refine KOps.call rfl (checkF_c) ?_
  rintro _ _ ⟨rfl, rfl⟩
  refine KOps.assign ?_
  refine KOps.done ?_
  refine sqQ.normal ?_
  refine KA.sub (Sub.cons (t := 0) Look.eq (Sub.cons (t := 1) Look.eq (Sub.cons (t := 5) Look.eq (Sub.nil _)))) ?_
  refine KA.seq ?_
  refine KA.seq ?_
  refine KA.region rfl ?_
  refine KOps.move ?_
  refine KOps.lenStr ?_
  refine KOps.move ?_
  refine KOps.int (v := .int .i64 (IntKind.i64.wrap ((s.size : Int) - n))) (.inr (.inr rfl)) rfl ?_
  refine KOps.assign ?_
  refine KOps.done ?_
  refine sqQ.normal ?_
  refine KA.sub (Sub.cons (t := 0) Look.eq (Sub.cons (t := 5) Look.eq (Sub.cons (t := 6) Look.eq (Sub.nil _)))) ?_
  refine KA.block ?_
  refine KA.seq ?_
  refine KA.region rfl ?_
  refine KOps.move ?_
  refine KOps.neq ?_
  refine KOps.assign ?_
  refine KOps.done ?_
  refine sqQ.normal ?_
  refine KA.sub (Sub.cons (t := 0) Look.eq (Sub.cons (t := 5) Look.eq (Sub.cons (t := 6) Look.eq (Sub.cons (t := 13) Look.eq (Sub.nil _))))) ?_
  refine KA.condN ?_ ?_
  · intro c13
    refine KA.seq ?_
    refine KA.region rfl ?_
    refine KOps.move ?_
    refine KOps.assign ?_
    refine KOps.done ?_
    refine sqQ.normal ?_
    refine KA.sub (Sub.cons (t := 4) Look.eq (Sub.nil _)) ?_
    refine KA.ret ?_
    refine blQ.ret ?_
    refine sqQ.ret ?_
    refine fnQ.ret1 ?_
    first | exact ⟨congrArg (AV.int .i64) (askE_bad c13).symm, rfl⟩ | exact ⟨congrArg (AV.int .i64) (askE_1 (by omega) (by omega)).symm, rfl⟩ | exact ⟨congrArg (AV.int .i64) (askE_5 (by omega) (by omega) (by omega)).symm, rfl⟩ | exact ⟨congrArg (AV.int .i64) (askE_0 (by omega) (by omega) (by omega)).symm, rfl⟩
  · intro c13
    have hsz : s.size ≤ 10 := by
      obtain ⟨l, rfl, hl⟩ := chk_zero c13
      rw [wd_size]; exact hl
    refine KA.seq ?_
    refine KA.region rfl ?_
    refine KOps.move ?_
    refine KOps.lss ?_
    refine KOps.move ?_
    refine KOps.guardB (dj := 20) rfl rfl false true rfl ?_ ?_
    · intro g20
      have g20 := of_decide_eq_false g20
      refine KOps.move ?_
      refine KOps.guardYes (dj := 20) rfl rfl ?_
      refine KOps.gtr ?_
      refine KOps.pickF ?_
      refine KOps.assign ?_
      refine KOps.done ?_
      refine sqQ.normal ?_
      refine KA.sub (Sub.cons (t := 6) Look.eq (Sub.cons (t := 17) Look.eq (Sub.nil _))) ?_
      refine KA.condD ?_ ?_
      · intro c17
        refine KA.seq ?_
        refine KA.region rfl ?_
        refine KOps.assign ?_
        refine KOps.done ?_
        refine sqQ.normal ?_
        refine KA.sub (Sub.cons (t := 4) Look.eq (Sub.nil _)) ?_
        refine KA.ret ?_
        refine blQ.ret ?_
        refine sqQ.ret ?_
        refine fnQ.ret1 ?_
        first | exact ⟨congrArg (AV.int .i64) (askE_bad c13).symm, rfl⟩ | exact ⟨congrArg (AV.int .i64) (askE_1 (by omega) (by omega)).symm, rfl⟩ | exact ⟨congrArg (AV.int .i64) (askE_5 (by omega) (by omega) (by omega)).symm, rfl⟩ | exact ⟨congrArg (AV.int .i64) (askE_0 (by omega) (by omega) (by omega)).symm, rfl⟩
      · intro c17
        have hw : IntKind.i64.wrap ((s.size : Int) - n) = (s.size : Int) - n := wrap64 (by omega) (by omega)
        rw [hw]
        refine KA.seq ?_
        refine KA.region rfl ?_
        refine KOps.move ?_
        refine KOps.lss ?_
        refine KOps.move ?_
        refine KOps.guardB (dj := 27) rfl rfl false true rfl ?_ ?_
        · intro g27
          have g27 := of_decide_eq_false g27
          refine KOps.move ?_
          refine KOps.guardYes (dj := 27) rfl rfl ?_
          refine KOps.gtr ?_
          refine KOps.pickF ?_
          refine KOps.assign ?_
          refine KOps.done ?_
          refine sqQ.normal ?_
          refine KA.sub (Sub.cons (t := 24) Look.eq (Sub.nil _)) ?_
          refine KA.condD ?_ ?_
          · intro c24
            refine KA.seq ?_
            refine KA.region rfl ?_
            refine KOps.assign ?_
            refine KOps.done ?_
            refine sqQ.normal ?_
            refine KA.sub (Sub.cons (t := 4) Look.eq (Sub.nil _)) ?_
            refine KA.ret ?_
            refine blQ.ret ?_
            refine sqQ.ret ?_
            refine fnQ.ret1 ?_
            first | exact ⟨congrArg (AV.int .i64) (askE_bad c13).symm, rfl⟩ | exact ⟨congrArg (AV.int .i64) (askE_1 (by omega) (by omega)).symm, rfl⟩ | exact ⟨congrArg (AV.int .i64) (askE_5 (by omega) (by omega) (by omega)).symm, rfl⟩ | exact ⟨congrArg (AV.int .i64) (askE_0 (by omega) (by omega) (by omega)).symm, rfl⟩
          · intro c24
            refine KA.skip ?_
            refine blQ.normal ?_
            refine sqQ.normal ?_
            refine KA.sub (Sub.nil _) ?_
            refine KA.seq ?_
            refine KA.region rfl ?_
            refine KOps.assign ?_
            refine KOps.done ?_
            refine sqQ.normal ?_
            refine KA.ret ?_
            refine fnQ.ret1 ?_
            first | exact ⟨congrArg (AV.int .i64) (askE_bad c13).symm, rfl⟩ | exact ⟨congrArg (AV.int .i64) (askE_1 (by omega) (by omega)).symm, rfl⟩ | exact ⟨congrArg (AV.int .i64) (askE_5 (by omega) (by omega) (by omega)).symm, rfl⟩ | exact ⟨congrArg (AV.int .i64) (askE_0 (by omega) (by omega) (by omega)).symm, rfl⟩
        · intro g27
          have g27 := of_decide_eq_true g27
          refine KOps.guardNo (dj := 27) rfl rfl rfl ?_
          refine KOps.pickT ?_
          refine KOps.assign ?_
          refine KOps.done ?_
          refine sqQ.normal ?_
          refine KA.sub (Sub.cons (t := 24) Look.eq (Sub.nil _)) ?_
          refine KA.condT ?_
          refine KA.seq ?_
          refine KA.region rfl ?_
          refine KOps.assign ?_
          refine KOps.done ?_
          refine sqQ.normal ?_
          refine KA.sub (Sub.cons (t := 4) Look.eq (Sub.nil _)) ?_
          refine KA.ret ?_
          refine blQ.ret ?_
          refine sqQ.ret ?_
          refine fnQ.ret1 ?_
          first | exact ⟨congrArg (AV.int .i64) (askE_bad c13).symm, rfl⟩ | exact ⟨congrArg (AV.int .i64) (askE_1 (by omega) (by omega)).symm, rfl⟩ | exact ⟨congrArg (AV.int .i64) (askE_5 (by omega) (by omega) (by omega)).symm, rfl⟩ | exact ⟨congrArg (AV.int .i64) (askE_0 (by omega) (by omega) (by omega)).symm, rfl⟩
    · intro g20
      have g20 := of_decide_eq_true g20
      refine KOps.guardNo (dj := 20) rfl rfl rfl ?_
      refine KOps.pickT ?_
      refine KOps.assign ?_
      refine KOps.done ?_
      refine sqQ.normal ?_
      refine KA.sub (Sub.cons (t := 6) Look.eq (Sub.cons (t := 17) Look.eq (Sub.nil _))) ?_
      refine KA.condT ?_
      refine KA.seq ?_
      refine KA.region rfl ?_
      refine KOps.assign ?_
      refine KOps.done ?_
      refine sqQ.normal ?_
      refine KA.sub (Sub.cons (t := 4) Look.eq (Sub.nil _)) ?_
      refine KA.ret ?_
      refine blQ.ret ?_
      refine sqQ.ret ?_
      refine fnQ.ret1 ?_
      first | exact ⟨congrArg (AV.int .i64) (askE_bad c13).symm, rfl⟩ | exact ⟨congrArg (AV.int .i64) (askE_1 (by omega) (by omega)).symm, rfl⟩ | exact ⟨congrArg (AV.int .i64) (askE_5 (by omega) (by omega) (by omega)).symm, rfl⟩ | exact ⟨congrArg (AV.int .i64) (askE_0 (by omega) (by omega) (by omega)).symm, rfl⟩

theorem cutP_c {h : AHeap} {n : Int} {s : ByteArray} : ACalls Go.Proofs.Tryd.prog 27 [.int .i64 n, .str s] h (fun q h' => ∃ v, q = .tup [v, .int .i64 (askE n s)] ∧ St h h' [⟨v, 1, wcs (cutS n s), true⟩]) := by
  refine KA.fn 30 [.tmp 4, .tmp 5] Go.Proofs.Tryd.func27 rfl (by decide) rfl rfl (Nat.le_of_ble_eq_true rfl) ?_
  have hS := St.refl h
  show KA _ 30 _ _ [(0, .int .i64 n), (1, .str s)] _
  refine KA.seq ?_
  refine KA.region rfl ?_
  refine KOps.assign ?_
  refine KOps.assign ?_
  refine KOps.done ?_
  refine sqQ.normal ?_
  refine KA.sub (Sub.cons (t := 0) Look.eq (Sub.cons (t := 1) Look.eq (Sub.nil _))) ?_
  refine KA.seq ?_
  refine KA.seq ?_
  refine KA.region rfl ?_
  refine KOps.move ?_
  refine KOps.move ?_
  refine KOps.call rfl (asked_c) ?_
  rintro _ _ ⟨rfl, rfl⟩
  refine KOps.assign ?_
  refine KOps.done ?_
  refine sqQ.normal ?_
  refine KA.sub (Sub.cons (t := 0) Look.eq (Sub.cons (t := 1) Look.eq (Sub.cons (t := 6) Look.eq (Sub.nil _)))) ?_
  refine KA.block ?_
  refine KA.seq ?_
  refine KA.region rfl ?_
  refine KOps.move ?_
  refine KOps.neq ?_
  refine KOps.assign ?_
  refine KOps.done ?_
  refine sqQ.normal ?_
  refine KA.sub (Sub.cons (t := 0) Look.eq (Sub.cons (t := 1) Look.eq (Sub.cons (t := 6) Look.eq (Sub.cons (t := 10) Look.eq (Sub.nil _))))) ?_
  refine KA.condN ?_ ?_
  · intro c10
    refine KA.seq ?_
    refine KA.region rfl ?_
    refine KOps.move ?_
    refine KOps.assign ?_
    refine KOps.assign ?_
    refine KOps.done ?_
    refine sqQ.normal ?_
    refine KA.sub (Sub.cons (t := 4) Look.eq (Sub.cons (t := 5) Look.eq (Sub.nil _))) ?_
    refine KA.ret ?_
    refine blQ.ret ?_
    refine sqQ.ret ?_
    refine fnQ.retN ?_
    refine ⟨_, rfl, ?_⟩
    rw [cutS_bad c10]
    exact St.pick [0] (by decide) rfl (hS.nil 1)
  · intro c10
    obtain ⟨a, l, rfl, rfl, ha, hl, h1, h2⟩ := askE_zero c10
    have hcs := cutS_wd c10
    refine KA.seq ?_
    refine KA.region rfl ?_
    refine KOps.move ?_
    refine KOps.lenW ?_
    refine KOps.move ?_
    refine KOps.lss ?_
    refine KOps.assign ?_
    refine KOps.done ?_
    refine sqQ.normal ?_
    refine KA.sub (Sub.cons (t := 0) Look.eq (Sub.cons (t := 1) Look.eq (Sub.cons (t := 14) Look.eq (Sub.nil _)))) ?_
    refine KA.condD ?_ ?_
    · intro c14
      refine KA.seq ?_
      refine KA.region rfl ?_
      refine KOps.move ?_
      refine KOps.call rfl (more_w (by omega)) ?_
      rintro v20 h20 hS20
      have hS0 : St _ _ (_ :: _) := St.trans hS hS20
      clear hS
      have hS := hS0
      clear hS0
      refine KOps.assign ?_
      refine KOps.assign ?_
      refine KOps.done ?_
      refine sqQ.normal ?_
      refine KA.sub (Sub.cons (t := 4) Look.eq (Sub.cons (t := 5) Look.eq (Sub.nil _))) ?_
      refine KA.ret ?_
      refine blQ.ret ?_
      refine sqQ.ret ?_
      refine fnQ.retN ?_
      refine ⟨_, by rw [c10], ?_⟩
      rw [hcs, cut_long (by omega)]
      exact hS
    · intro c14
      refine KA.seq ?_
      refine KA.region rfl ?_
      refine KOps.move ?_
      refine KOps.lenW ?_
      refine KOps.move ?_
      refine KOps.gtr ?_
      refine KOps.assign ?_
      refine KOps.done ?_
      refine sqQ.normal ?_
      refine KA.sub (Sub.cons (t := 1) Look.eq (Sub.cons (t := 21) Look.eq (Sub.nil _))) ?_
      refine KA.condD ?_ ?_
      · intro c21
        refine KA.seq ?_
        refine KA.region rfl ?_
        refine KOps.move ?_
        refine KOps.call rfl (less_w (by omega)) ?_
        rintro v27 h27 hS27
        have hS0 : St _ _ (_ :: _) := St.trans hS hS27
        clear hS
        have hS := hS0
        clear hS0
        refine KOps.assign ?_
        refine KOps.assign ?_
        refine KOps.done ?_
        refine sqQ.normal ?_
        refine KA.sub (Sub.cons (t := 4) Look.eq (Sub.cons (t := 5) Look.eq (Sub.nil _))) ?_
        refine KA.ret ?_
        refine blQ.ret ?_
        refine sqQ.ret ?_
        refine fnQ.retN ?_
        refine ⟨_, by rw [c10], ?_⟩
        rw [hcs, cut_short (by omega)]
        exact hS
      · intro c21
        refine KA.skip ?_
        refine blQ.normal ?_
        refine sqQ.normal ?_
        refine KA.sub (Sub.cons (t := 1) Look.eq (Sub.nil _)) ?_
        refine KA.seq ?_
        refine KA.region rfl ?_
        refine KOps.move ?_
        refine KOps.buildSlice hS rfl (by decide) rfl ?_
        intro v29 h' hS
        refine KOps.assign ?_
        refine KOps.assign ?_
        refine KOps.done ?_
        refine sqQ.normal ?_
        refine KA.sub (Sub.cons (t := 4) Look.eq (Sub.cons (t := 5) Look.eq (Sub.nil _))) ?_
        refine KA.ret ?_
        refine fnQ.retN ?_
        refine ⟨_, by rw [c10], ?_⟩
        have hel : l.length = a := by omega
        subst hel
        rw [hcs, cut_same]
        exact hS

theorem shorter_c {h : AHeap} {l : List Bool} {b : Nat} (hl : l.length ≤ 10) : ACalls Go.Proofs.Tryd.prog 60 [.str (wd l), .int .i64 (b : Int)] h (fun q h' => q = .tup [.str (wd (((shortW l).find? fun x => decide (cls x = b)).getD [])), .int .i64 (if ((shortW l).find? fun x => decide (cls x = b)).isSome = true then 0 else 12)] ∧ Keeps h h') := by
  refine KA.fn 25 [.tmp 4, .tmp 5] Go.Proofs.Tryd.func60 rfl (by decide) rfl rfl (Nat.le_of_ble_eq_true rfl) ?_
  have hS := St.refl h
  have hcl := shortW_len l
  have hpw : 2 ^ (l.length - 1) ≤ 2 ^ 10 := Nat.pow_le_pow_right (by decide) (by omega)
  show KA _ 25 _ _ [(0, .str (wd l)), (1, .int .i64 (b : Int))] _
  refine KA.seq ?_
  refine KA.region rfl ?_
  refine KOps.assign ?_
  refine KOps.assign ?_
  refine KOps.done ?_
  refine sqQ.normal ?_
  refine KA.sub (Sub.cons (t := 0) Look.eq (Sub.cons (t := 1) Look.eq (Sub.nil _))) ?_
  refine KA.seq ?_
  refine KA.seq ?_
  refine KA.region rfl ?_
  refine KOps.move ?_
  refine KOps.call rfl (less_w (by omega)) ?_
  rintro v9 h9 hS9
  have hS0 : St _ _ (_ :: _) := St.trans hS hS9
  clear hS
  have hS := hS0
  clear hS0
  refine KOps.lenI (hS.rd 0 rfl) ?_
  refine KOps.move ?_
  refine KOps.done ?_
  refine sqQ.normal ?_
  refine KA.sub (Sub.cons (t := 1) Look.eq (Sub.cons (t := 9) Look.eq (Sub.cons (t := 10) Look.eq (Sub.cons (t := 11) Look.eq (Sub.nil _))))) ?_
  refine KA.block ?_
  refine KA.loop (X := Nat) (fun i => [(1, .int .i64 (b : Int)), (9, v9), (10, .int .i64 ((shortW l).length : Int)), (11, .int .i64 (i : Int))]) (fun i h' => i ≤ (shortW l).length ∧ (∀ j, j < i → ¬ decide (cls ((shortW l).getD j []) = b) = true) ∧ St h h' [⟨v9, 1, wcs (shortW l), true⟩]) (fun i => (shortW l).length - i) 0 (by repeat (first | exact Sub.nil _ | refine Sub.cons Look.eq ?_ | refine Sub.cons (Eq.trans Look.eq (congrArg (AV.int _) (by first | omega | (dsimp only; omega)))) ?_)) ?_ ?_
  · exact ⟨Nat.zero_le _, fun j hj => absurd hj (Nat.not_lt_zero _), hS⟩
  rintro i h3 ⟨hi, hno, hS⟩
  have hwl := @shortW_get i l
  refine KA.seq ?_
  refine KA.region rfl ?_
  refine KOps.lss ?_
  refine KOps.done ?_
  refine sqQ.normal ?_
  refine KA.seq ?_
  refine KA.condD ?_ ?_
  · intro c12
    refine KA.skip ?_
    refine sqQ.normal ?_
    refine KA.sub (Sub.cons (t := 1) Look.eq (Sub.cons (t := 9) Look.eq (Sub.cons (t := 10) Look.eq (Sub.cons (t := 11) Look.eq (Sub.nil _))))) ?_
    refine KA.seq ?_
    refine KA.block ?_
    refine KA.seq ?_
    refine KA.region rfl ?_
    refine KOps.indexIJ (hS.rd 0 rfl) (j := i) rfl (by first | omega | (simp; omega)) ?_
    intro p13 hp13
    refine KOps.loadW hp13 (hS.rd 0 rfl) (by first | omega | (simp; omega)) ?_
    refine KOps.assign ?_
    refine KOps.done ?_
    refine sqQ.normal ?_
    refine KA.sub (Sub.cons (t := 1) Look.eq (Sub.cons (t := 7) Look.eq (Sub.cons (t := 9) Look.eq (Sub.cons (t := 10) Look.eq (Sub.cons (t := 11) Look.eq (Sub.nil _)))))) ?_
    refine KA.seq ?_
    refine KA.region rfl ?_
    have hwl := hwl (by omega)
    have hsm := wtTo_small ((shortW l).getD i []) (k := ((shortW l).getD i []).length) (by omega)
    refine KOps.move ?_
    refine KOps.call rfl (heavyF_c (by omega)) ?_
    rintro _ _ ⟨rfl, rfl⟩
    refine KOps.move ?_
    refine KOps.lenW ?_
    refine KOps.add (by first | omega | (simp; omega)) (by first | omega | (simp; omega)) ?_
    refine KOps.remN (i := wtTo ((shortW l).getD i []) ((shortW l).getD i []).length) (j := ((shortW l).getD i []).length + 1) (by first | rfl | omega | (simp; done)) (by first | rfl | omega | (simp; omega)) (by omega) (by omega) ?_
    refine KOps.move ?_
    refine KOps.eql ?_
    refine KOps.done ?_
    refine sqQ.normal ?_
    refine KA.sub (Sub.cons (t := 1) Look.eq (Sub.cons (t := 7) Look.eq (Sub.cons (t := 9) Look.eq (Sub.cons (t := 10) Look.eq (Sub.cons (t := 11) Look.eq (Sub.cons (t := 22) Look.eq (Sub.nil _))))))) ?_
    refine KA.condD ?_ ?_
    · intro c22
      refine KA.seq ?_
      refine KA.region rfl ?_
      refine KOps.move ?_
      refine KOps.assign ?_
      refine KOps.assign ?_
      refine KOps.done ?_
      refine sqQ.normal ?_
      refine KA.sub (Sub.cons (t := 4) Look.eq (Sub.cons (t := 5) Look.eq (Sub.nil _))) ?_
      refine KA.ret ?_
      refine blQ.ret ?_
      refine sqQ.ret ?_
      refine lpQ.ret ?_
      refine blQ.ret ?_
      refine sqQ.ret ?_
      refine fnQ.retN ?_
      have hf := find_take (p := fun x => decide (cls x = b)) (by omega : i < (shortW l).length) hno (decide_eq_true (show cls ((shortW l).getD i []) = b from Int.natCast_inj.1 c22))
      exact ⟨by rw [hf]; rfl, hS.keeps⟩
    · intro c22
      refine KA.skip ?_
      refine blQ.normal ?_
      refine sqQ.normal ?_
      refine KA.sub (Sub.cons (t := 1) Look.eq (Sub.cons (t := 9) Look.eq (Sub.cons (t := 10) Look.eq (Sub.cons (t := 11) Look.eq (Sub.nil _))))) ?_
      refine KA.region rfl ?_
      refine KOps.add (by first | omega | (simp; omega)) (by first | omega | (simp; omega)) ?_
      refine KOps.move ?_
      refine KOps.done ?_
      exact lpQ.normal (i + 1) (by repeat (first | exact Sub.nil _ | refine Sub.cons Look.eq ?_ | refine Sub.cons (Eq.trans Look.eq (congrArg (AV.int _) (by first | omega | (dsimp only; omega)))) ?_)) ⟨by omega, fun j hj => by
        rcases Nat.lt_succ_iff_lt_or_eq.1 hj with h | rfl
        · exact hno j h
        · exact fun q => c22 (congrArg (Nat.cast (R := Int)) (of_decide_eq_true q)), hS⟩ (by omega)
  · intro c12
    refine KA.exit ?_
    refine sqQ.exit ?_
    refine lpQ.exit ?_
    refine blQ.here ?_
    refine sqQ.normal ?_
    refine KA.sub (Sub.nil _) ?_
    refine KA.seq ?_
    refine KA.region rfl ?_
    refine KOps.assign ?_
    refine KOps.assign ?_
    refine KOps.done ?_
    refine sqQ.normal ?_
    refine KA.ret ?_
    refine fnQ.retN ?_
    have hf := find_none (l := shortW l) (p := fun x => decide (cls x = b)) (fun j hj => hno j (by omega))
    exact ⟨by rw [hf]; rfl, hS.keeps⟩

theorem before_c {h : AHeap} {l : List Bool} {m : Nat} (hl : l.length ≤ 10) (hm : m ≤ cntTo l l.length) : ACalls Go.Proofs.Tryd.prog 61 [.str (wd l), .int .i32 49, .int .i64 (m : Int)] h (fun q h' => q = .int .i64 ((befTo l l.length m : Nat) : Int) ∧ h = h') := by
  refine KA.fn 23 [.tmp 6] Go.Proofs.Tryd.func61 rfl (by decide) rfl rfl (Nat.le_of_ble_eq_true rfl) ?_
  have hml := Nat.le_trans hm (cntTo_le l l.length)
  show KA _ 23 _ _ [(0, .str (wd l)), (1, .int .i32 49), (2, .int .i64 (m : Int))] _
  refine KA.seq ?_
  refine KA.region rfl ?_
  refine KOps.assign ?_
  refine KOps.done ?_
  refine sqQ.normal ?_
  refine KA.sub (Sub.cons (t := 0) Look.eq (Sub.cons (t := 1) Look.eq (Sub.cons (t := 2) Look.eq (Sub.nil _)))) ?_
  refine KA.seq ?_
  refine KA.region rfl ?_
  refine KOps.move ?_
  refine KOps.lenW ?_
  refine KOps.assign ?_
  refine KOps.done ?_
  refine sqQ.normal ?_
  refine KA.sub (Sub.cons (t := 0) Look.eq (Sub.cons (t := 1) Look.eq (Sub.cons (t := 2) Look.eq (Sub.cons (t := 7) Look.eq (Sub.nil _))))) ?_
  refine KA.seq ?_
  refine KA.block ?_
  refine KA.loop (X := Nat × Nat) (fun x => [(0, .str (wd l)), (1, .int .i32 49), (2, .int .i64 (x.2 : Int)), (7, .int .i64 (x.1 : Int))]) (fun x h' => h = h' ∧ x.1 ≤ l.length ∧ x.2 ≤ m ∧ x.2 ≤ cntTo l x.1 ∧ befTo l x.1 x.2 = befTo l l.length m) (fun x => x.1) (l.length, m) (by repeat (first | exact Sub.nil _ | refine Sub.cons Look.eq ?_ | refine Sub.cons (Eq.trans Look.eq (congrArg (AV.int _) (by first | omega | (dsimp only; omega)))) ?_)) ?_ ?_
  · exact ⟨rfl, Nat.le_refl _, Nat.le_refl _, hm, rfl⟩
  rintro ⟨at_, r⟩ h2 ⟨rfl, h1, hr, h3, h4⟩
  dsimp only at h1 hr h3 h4 ⊢
  refine KA.seq ?_
  refine KA.seq ?_
  refine KA.region rfl ?_
  refine KOps.move ?_
  refine KOps.gtr ?_
  refine KOps.done ?_
  refine sqQ.normal ?_
  refine KA.sub (Sub.cons (t := 0) Look.eq (Sub.cons (t := 1) Look.eq (Sub.cons (t := 2) Look.eq (Sub.cons (t := 7) Look.eq (Sub.cons (t := 11) Look.eq (Sub.nil _)))))) ?_
  refine KA.condD ?_ ?_
  · intro c11
    refine KA.skip ?_
    refine sqQ.normal ?_
    refine KA.sub (Sub.cons (t := 0) Look.eq (Sub.cons (t := 1) Look.eq (Sub.cons (t := 2) Look.eq (Sub.cons (t := 7) Look.eq (Sub.nil _))))) ?_
    refine KA.block ?_
    refine KA.seq ?_
    refine KA.region rfl ?_
    have h5 := cntTo_le l at_
    have hct : cntTo l at_ = cntTo l (at_ - 1) + if l.getD (at_ - 1) false = true then 1 else 0 := by
      obtain ⟨q, rfl⟩ : ∃ q, at_ = q + 1 := ⟨at_ - 1, by omega⟩
      rfl
    have hst : 0 < at_ ∧ (0 < r → befTo l at_ r = befTo l (at_ - 1) (if l.getD (at_ - 1) false = true then r - 1 else r)) := by
      refine ⟨by omega, fun hr0 => ?_⟩
      obtain ⟨q, rfl⟩ : ∃ q, at_ = q + 1 := ⟨at_ - 1, by omega⟩
      rw [befTo, if_neg (by omega)]; rfl
    have hbv := bch_cases (l.getD (at_ - 1) false)
    refine KOps.move ?_
    refine KOps.sub (by first | omega | (simp; omega)) (by first | omega | (simp; omega)) ?_
    refine KOps.assign ?_
    refine KOps.done ?_
    refine sqQ.normal ?_
    refine KA.sub (Sub.cons (t := 0) Look.eq (Sub.cons (t := 1) Look.eq (Sub.cons (t := 2) Look.eq (Sub.cons (t := 7) Look.eq (Sub.nil _))))) ?_
    refine KA.seq ?_
    refine KA.region rfl ?_
    refine KOps.move ?_
    refine KOps.move ?_
    refine KOps.wAt (j := at_ - 1) (by first | omega | (simp; omega)) (by first | omega | (simp; omega)) ?_
    refine KOps.convIn (wrap32 (by omega) (by omega)) ?_
    refine KOps.move ?_
    refine KOps.eql ?_
    refine KOps.done ?_
    refine sqQ.normal ?_
    refine KA.sub (Sub.cons (t := 0) Look.eq (Sub.cons (t := 1) Look.eq (Sub.cons (t := 2) Look.eq (Sub.cons (t := 7) Look.eq (Sub.cons (t := 19) Look.eq (Sub.nil _)))))) ?_
    refine KA.condD ?_ ?_
    · intro c19
      refine KA.region rfl ?_
      refine KOps.move ?_
      refine KOps.sub (by first | omega | (simp; omega)) (by first | omega | (simp; omega)) ?_
      refine KOps.assign ?_
      refine KOps.done ?_
      refine blQ.normal ?_
      exact lpQ.normal (at_ - 1, r - 1) (by repeat (first | exact Sub.nil _ | refine Sub.cons Look.eq ?_ | refine Sub.cons (Eq.trans Look.eq (congrArg (AV.int _) (by first | omega | (dsimp only; omega)))) ?_)) ⟨rfl, by dsimp only; omega, by dsimp only; omega, by dsimp only; rw [if_pos (bit1 (by omega))] at hct; omega, by dsimp only; rw [← h4, hst.2 (by omega), if_pos (bit1 (by omega))]⟩ (by dsimp only; omega)
    · intro c19
      refine KA.skip ?_
      refine blQ.normal ?_
      exact lpQ.normal (at_ - 1, r) (by repeat (first | exact Sub.nil _ | refine Sub.cons Look.eq ?_ | refine Sub.cons (Eq.trans Look.eq (congrArg (AV.int _) (by first | omega | (dsimp only; omega)))) ?_)) ⟨rfl, by dsimp only; omega, by dsimp only; omega, by dsimp only; rw [if_neg (bit0 (by omega))] at hct; omega, by dsimp only; rw [← h4, hst.2 (by omega), if_neg (bit0 (by omega))]⟩ (by dsimp only; omega)
  · intro c11
    refine KA.exit ?_
    refine sqQ.exit ?_
    refine lpQ.exit ?_
    refine blQ.here ?_
    refine sqQ.normal ?_
    refine KA.sub (Sub.cons (t := 7) Look.eq (Sub.nil _)) ?_
    refine KA.seq ?_
    refine KA.region rfl ?_
    refine KOps.move ?_
    refine KOps.assign ?_
    refine KOps.done ?_
    refine sqQ.normal ?_
    refine KA.sub (Sub.cons (t := 6) Look.eq (Sub.nil _)) ?_
    refine KA.ret ?_
    refine fnQ.ret1 ?_
    have hr0 : r = 0 := by omega
    subst hr0
    rw [befTo_done] at h4
    exact ⟨by rw [h4], rfl⟩

theorem behind_c {h : AHeap} {l : List Bool} {m : Nat} (hl : l.length ≤ 10) (hm : m + cntTo l l.length ≤ l.length) : ACalls Go.Proofs.Tryd.prog 62 [.str (wd l), .int .i64 (m : Int)] h (fun q h' => ∃ p : Nat, q = .int .i64 (p : Int) ∧ p ≤ l.length ∧ p - cntTo l p = m ∧ h = h') := by
  refine KA.fn 17 [.tmp 4] Go.Proofs.Tryd.func62 rfl (by decide) rfl rfl (Nat.le_of_ble_eq_true rfl) ?_
  show KA _ 17 _ _ [(0, .str (wd l)), (1, .int .i64 (m : Int))] _
  refine KA.seq ?_
  refine KA.region rfl ?_
  refine KOps.assign ?_
  refine KOps.done ?_
  refine sqQ.normal ?_
  refine KA.sub (Sub.cons (t := 0) Look.eq (Sub.cons (t := 1) Look.eq (Sub.nil _))) ?_
  refine KA.seq ?_
  refine KA.region rfl ?_
  refine KOps.assign ?_
  refine KOps.done ?_
  refine sqQ.normal ?_
  refine KA.seq ?_
  refine KA.block ?_
  refine KA.loop (X := Nat × Nat) (fun x => [(0, .str (wd l)), (1, .int .i64 (x.2 : Int)), (5, .int .i64 (x.1 : Int))]) (fun x h' => h = h' ∧ x.1 ≤ l.length ∧ x.1 - cntTo l x.1 + x.2 = m) (fun x => l.length - x.1) (0, m) (by repeat (first | exact Sub.nil _ | refine Sub.cons Look.eq ?_ | refine Sub.cons (Eq.trans Look.eq (congrArg (AV.int _) (by first | omega | (dsimp only; omega)))) ?_)) ?_ ?_
  · exact ⟨rfl, Nat.zero_le _, Nat.zero_add m⟩
  rintro ⟨p, r⟩ h2 ⟨rfl, h1, h3⟩
  dsimp only at h1 h3 ⊢
  have h5 := cntTo_le l p
  refine KA.seq ?_
  refine KA.seq ?_
  refine KA.region rfl ?_
  refine KOps.move ?_
  refine KOps.gtr ?_
  refine KOps.done ?_
  refine sqQ.normal ?_
  refine KA.sub (Sub.cons (t := 0) Look.eq (Sub.cons (t := 1) Look.eq (Sub.cons (t := 5) Look.eq (Sub.cons (t := 7) Look.eq (Sub.nil _))))) ?_
  refine KA.condD ?_ ?_
  · intro c7
    refine KA.skip ?_
    refine sqQ.normal ?_
    refine KA.sub (Sub.cons (t := 0) Look.eq (Sub.cons (t := 1) Look.eq (Sub.cons (t := 5) Look.eq (Sub.nil _)))) ?_
    refine KA.seq ?_
    refine KA.block ?_
    refine KA.seq ?_
    refine KA.region rfl ?_
    have hlt : p < l.length := by
      rcases Nat.lt_or_ge p l.length with q | q
      · exact q
      · have : p = l.length := by omega
        subst this
        omega
    have hct : cntTo l (p + 1) = cntTo l p + if l.getD p false = true then 1 else 0 := rfl
    have hbv := bch_cases (l.getD p false)
    refine KOps.move ?_
    refine KOps.move ?_
    refine KOps.wAt (j := p) rfl (by first | omega | (simp; omega)) ?_
    refine KOps.eql ?_
    refine KOps.done ?_
    refine sqQ.normal ?_
    refine KA.sub (Sub.cons (t := 0) Look.eq (Sub.cons (t := 1) Look.eq (Sub.cons (t := 5) Look.eq (Sub.cons (t := 13) Look.eq (Sub.nil _))))) ?_
    refine KA.condD ?_ ?_
    · intro c13
      refine KA.region rfl ?_
      refine KOps.move ?_
      refine KOps.sub (by first | omega | (simp; omega)) (by first | omega | (simp; omega)) ?_
      refine KOps.assign ?_
      refine KOps.done ?_
      refine blQ.normal ?_
      refine sqQ.normal ?_
      refine KA.sub (Sub.cons (t := 0) Look.eq (Sub.cons (t := 1) Look.eq (Sub.cons (t := 5) Look.eq (Sub.nil _)))) ?_
      refine KA.region rfl ?_
      refine KOps.move ?_
      refine KOps.add (by first | omega | (simp; omega)) (by first | omega | (simp; omega)) ?_
      refine KOps.assign ?_
      refine KOps.done ?_
      exact lpQ.normal (p + 1, r - 1) (by repeat (first | exact Sub.nil _ | refine Sub.cons Look.eq ?_ | refine Sub.cons (Eq.trans Look.eq (congrArg (AV.int _) (by first | omega | (dsimp only; omega)))) ?_)) ⟨rfl, by dsimp only; omega, by dsimp only; rw [hct, if_neg (bit0 (by omega))]; omega⟩ (by dsimp only; omega)
    · intro c13
      refine KA.skip ?_
      refine blQ.normal ?_
      refine sqQ.normal ?_
      refine KA.sub (Sub.cons (t := 0) Look.eq (Sub.cons (t := 1) Look.eq (Sub.cons (t := 5) Look.eq (Sub.nil _)))) ?_
      refine KA.region rfl ?_
      refine KOps.move ?_
      refine KOps.add (by first | omega | (simp; omega)) (by first | omega | (simp; omega)) ?_
      refine KOps.assign ?_
      refine KOps.done ?_
      exact lpQ.normal (p + 1, r) (by repeat (first | exact Sub.nil _ | refine Sub.cons Look.eq ?_ | refine Sub.cons (Eq.trans Look.eq (congrArg (AV.int _) (by first | omega | (dsimp only; omega)))) ?_)) ⟨rfl, by dsimp only; omega, by dsimp only; rw [hct, if_pos (bit1 (by omega))]; omega⟩ (by dsimp only; omega)
  · intro c7
    refine KA.exit ?_
    refine sqQ.exit ?_
    refine lpQ.exit ?_
    refine blQ.here ?_
    refine sqQ.normal ?_
    refine KA.sub (Sub.cons (t := 5) Look.eq (Sub.nil _)) ?_
    refine KA.seq ?_
    refine KA.region rfl ?_
    refine KOps.move ?_
    refine KOps.assign ?_
    refine KOps.done ?_
    refine sqQ.normal ?_
    refine KA.sub (Sub.cons (t := 4) Look.eq (Sub.nil _)) ?_
    refine KA.ret ?_
    refine fnQ.ret1 ?_
    exact ⟨p, rfl, h1, by omega, rfl⟩

theorem count_c {h : AHeap} {l : List Bool} (hl : l.length ≤ 12) : ACalls Go.Proofs.Tryd.prog 59 [.str (wd l), .str (wd [true])] h (fun q h' => q = .int .i64 ((cnt l : Nat) : Int) ∧ h = h') := by
  refine KA.fn 34 [.tmp 4] Go.Proofs.Tryd.func59 rfl (by decide) rfl rfl (Nat.le_of_ble_eq_true rfl) ?_
  show KA _ 34 _ _ [(0, .str (wd l)), (1, .str (wd [true]))] _
  refine KA.seq ?_
  refine KA.region rfl ?_
  refine KOps.assign ?_
  refine KOps.done ?_
  refine sqQ.normal ?_
  refine KA.sub (Sub.cons (t := 0) Look.eq (Sub.cons (t := 1) Look.eq (Sub.nil _))) ?_
  refine KA.seq ?_
  refine KA.seq ?_
  refine KA.region rfl ?_
  refine KOps.move ?_
  refine KOps.lenW ?_
  refine KOps.eql ?_
  rw [decide_eq_false (by simp)]
  refine KOps.done ?_
  refine sqQ.normal ?_
  refine KA.sub (Sub.cons (t := 0) Look.eq (Sub.cons (t := 1) Look.eq (Sub.cons (t := 9) Look.eq (Sub.nil _)))) ?_
  refine KA.condF ?_
  refine KA.skip ?_
  refine sqQ.normal ?_
  refine KA.sub (Sub.cons (t := 0) Look.eq (Sub.cons (t := 1) Look.eq (Sub.nil _))) ?_
  refine KA.seq ?_
  refine KA.seq ?_
  refine KA.region rfl ?_
  refine KOps.move ?_
  refine KOps.lenW ?_
  refine KOps.eql ?_
  rw [decide_eq_true (by simp)]
  refine KOps.done ?_
  refine sqQ.normal ?_
  refine KA.sub (Sub.cons (t := 0) Look.eq (Sub.cons (t := 1) Look.eq (Sub.cons (t := 15) Look.eq (Sub.nil _)))) ?_
  refine KA.condT ?_
  refine KA.seq ?_
  refine KA.region rfl ?_
  refine KOps.move ?_
  refine KOps.move ?_
  refine KOps.wAt (j := 0) rfl (by decide) ?_
  refine KOps.countS Go.Proofs.Tryd.func74 (by decide) rfl (by decide +kernel) (by kernel_rfl) ?_
  rw [show ((bch ([true].getD 0 false)).toNat : Int).toNat.toUInt8 = 49 from rfl, cnt_bytes]
  refine KOps.assign ?_
  refine KOps.done ?_
  refine sqQ.normal ?_
  refine KA.sub (Sub.cons (t := 4) Look.eq (Sub.nil _)) ?_
  refine KA.ret ?_
  refine sqQ.ret ?_
  refine fnQ.ret1 ?_
  exact ⟨rfl, rfl⟩

end Go.Am
