/-
  Layer 13: the sorting of few numbers.
  Conditions: none.
-/
import Derived.Test.YtenkokebdgekbaaAmJ
import Derived.Test.YtenkokebdgekbaaCa
namespace Go.Am
instance st9 : StT Go.Proofs.Try.prog 9 := ⟨by kernel_rfl⟩

theorem nan_c {h : AHeap} {a : Int} : ACalls Go.Proofs.Try.prog 96 [.int .i64 a] h (fun r h' => r = .bool false ∧ h = h') := by
  refine KA.fn 6 [.tmp 2] Go.Proofs.Try.func96 rfl (by decide) rfl rfl (Nat.le_of_ble_eq_true rfl) ?_
  show KA _ 6 _ _ [(0, .int .i64 a)] _
  refine KA.seq ?_
  refine KA.region rfl ?_
  refine KOps.assign ?_
  refine KOps.done ?_
  refine sqQ.normal ?_
  refine KA.sub (Sub.cons (t := 0) Look.eq (Sub.nil _)) ?_
  refine KA.seq ?_
  refine KA.region rfl ?_
  refine KOps.move ?_
  refine KOps.move ?_
  refine KOps.neqF rfl ?_
  refine KOps.assign ?_
  refine KOps.done ?_
  refine sqQ.normal ?_
  refine KA.sub (Sub.cons (t := 2) Look.eq (Sub.nil _)) ?_
  refine KA.ret ?_
  refine fnQ.ret1 ?_
  exact ⟨rfl, rfl⟩

theorem less_c {h : AHeap} {a b : Int} : ACalls Go.Proofs.Try.prog 92 [.int .i64 a, .int .i64 b] h (fun r h' => r = .bool (decide (a < b)) ∧ h = h') := by
  refine KA.fn 17 [.tmp 4] Go.Proofs.Try.func92 rfl (by decide) rfl rfl (Nat.le_of_ble_eq_true rfl) ?_
  show KA _ 17 _ _ [(0, .int .i64 a), (1, .int .i64 b)] _
  refine KA.seq ?_
  refine KA.region rfl ?_
  refine KOps.assign ?_
  refine KOps.done ?_
  refine sqQ.normal ?_
  refine KA.sub (Sub.cons (t := 0) Look.eq (Sub.cons (t := 1) Look.eq (Sub.nil _))) ?_
  refine KA.seq ?_
  refine KA.region rfl ?_
  refine KOps.move ?_
  refine KOps.call rfl (nan_c) ?_
  rintro _ _ ⟨rfl, rfl⟩
  refine KOps.move ?_
  refine KOps.guardNo (dj := 7) rfl rfl rfl ?_
  refine KOps.guardNo (dj := 7) rfl rfl rfl ?_
  refine KOps.guardNo (dj := 7) rfl rfl rfl ?_
  refine KOps.pickF ?_
  refine KOps.move ?_
  refine KOps.guardYes (dj := 12) rfl rfl ?_
  refine KOps.move ?_
  refine KOps.guardYes (dj := 12) rfl rfl ?_
  refine KOps.move ?_
  refine KOps.guardYes (dj := 12) rfl rfl ?_
  refine KOps.lss ?_
  refine KOps.pickF ?_
  refine KOps.assign ?_
  refine KOps.done ?_
  refine sqQ.normal ?_
  refine KA.sub (Sub.cons (t := 4) Look.eq (Sub.nil _)) ?_
  refine KA.ret ?_
  refine fnQ.ret1 ?_
  exact ⟨rfl, rfl⟩

theorem len64_c {h : AHeap} {m : Nat} (hm : m < 256) : ACalls Go.Proofs.Try.prog 106 [.int .u64 (m : Int)] h (fun r h' => (∃ c : Int, r = .int .i64 c) ∧ h = h') := by
  refine KA.fn 25 [.tmp 2] Go.Proofs.Try.func106 rfl (by decide) rfl rfl (Nat.le_of_ble_eq_true rfl) ?_
  show KA _ 25 _ _ [(0, .int .u64 (m : Int))] _
  refine KA.seq ?_
  refine KA.region rfl ?_
  refine KOps.assign ?_
  refine KOps.done ?_
  refine sqQ.normal ?_
  refine KA.seq ?_
  refine KA.seq ?_
  refine KA.region rfl ?_
  refine KOps.move ?_
  refine KOps.geq ?_
  rw [decide_eq_false (by omega)]
  refine KOps.done ?_
  refine sqQ.normal ?_
  refine KA.sub (Sub.cons (t := 0) Look.eq (Sub.cons (t := 2) Look.eq (Sub.cons (t := 4) Look.eq (Sub.nil _)))) ?_
  refine KA.condF ?_
  refine KA.skip ?_
  refine sqQ.normal ?_
  refine KA.sub (Sub.cons (t := 0) Look.eq (Sub.cons (t := 2) Look.eq (Sub.nil _))) ?_
  refine KA.seq ?_
  refine KA.seq ?_
  refine KA.region rfl ?_
  refine KOps.move ?_
  refine KOps.geq ?_
  rw [decide_eq_false (by omega)]
  refine KOps.done ?_
  refine sqQ.normal ?_
  refine KA.sub (Sub.cons (t := 0) Look.eq (Sub.cons (t := 2) Look.eq (Sub.cons (t := 8) Look.eq (Sub.nil _)))) ?_
  refine KA.condF ?_
  refine KA.skip ?_
  refine sqQ.normal ?_
  refine KA.sub (Sub.cons (t := 0) Look.eq (Sub.cons (t := 2) Look.eq (Sub.nil _))) ?_
  refine KA.seq ?_
  refine KA.seq ?_
  refine KA.region rfl ?_
  refine KOps.move ?_
  refine KOps.geq ?_
  rw [decide_eq_false (by omega)]
  refine KOps.done ?_
  refine sqQ.normal ?_
  refine KA.sub (Sub.cons (t := 0) Look.eq (Sub.cons (t := 2) Look.eq (Sub.cons (t := 14) Look.eq (Sub.nil _)))) ?_
  refine KA.condF ?_
  refine KA.skip ?_
  refine sqQ.normal ?_
  refine KA.sub (Sub.cons (t := 0) Look.eq (Sub.cons (t := 2) Look.eq (Sub.nil _))) ?_
  refine KA.seq ?_
  refine KA.region rfl ?_
  refine KOps.move ?_
  refine KOps.move ?_
  refine KOps.convIn (by rw [IntKind.wrap_u8]; omega) ?_
  refine KOps.indexStr (j := m) rfl (z := 256) (by kernel_rfl) hm ?_
  intro c hc0 hc1
  refine KOps.convU hc0 hc1 ?_
  refine KOps.add (by first | omega | (simp only [List.length_append, List.length_singleton, List.length_set]; omega)) (by first | omega | (simp only [List.length_append, List.length_singleton, List.length_set]; omega)) ?_
  refine KOps.assign ?_
  refine KOps.done ?_
  refine sqQ.normal ?_
  refine KA.sub (Sub.cons (t := 2) Look.eq (Sub.nil _)) ?_
  refine KA.ret ?_
  refine fnQ.ret1 ?_
  exact ⟨⟨_, rfl⟩, rfl⟩

theorem blen_c {h : AHeap} {m : Nat} (hm : m < 256) : ACalls Go.Proofs.Try.prog 91 [.int .u64 (m : Int)] h (fun r h' => (∃ c : Int, r = .int .i64 c) ∧ h = h') := by
  refine KA.fn 8 [.tmp 2] Go.Proofs.Try.func91 rfl (by decide) rfl rfl (Nat.le_of_ble_eq_true rfl) ?_
  show KA _ 8 _ _ [(0, .int .u64 (m : Int))] _
  refine KA.seq ?_
  refine KA.region rfl ?_
  refine KOps.assign ?_
  refine KOps.done ?_
  refine sqQ.normal ?_
  refine KA.sub (Sub.cons (t := 0) Look.eq (Sub.nil _)) ?_
  refine KA.seq ?_
  refine KA.condF ?_
  refine KA.skip ?_
  refine sqQ.normal ?_
  refine KA.seq ?_
  refine KA.region rfl ?_
  refine KOps.move ?_
  refine KOps.call rfl (len64_c hm) ?_
  rintro _ _ ⟨⟨c, rfl⟩, rfl⟩
  refine KOps.assign ?_
  refine KOps.done ?_
  refine sqQ.normal ?_
  refine KA.sub (Sub.cons (t := 2) Look.eq (Sub.nil _)) ?_
  refine KA.ret ?_
  refine fnQ.ret1 ?_
  exact ⟨⟨_, rfl⟩, rfl⟩

theorem isort_c {h0 h : AHeap} {F : List Obj} {w r : AV} {s m i : Nat} {e : List Int} {tip : Bool} (hS : St h0 h F) (hi : F[i]? = some ⟨w, s, ints e, tip⟩) (hr : PreOf r w s m) (hm : m ≤ e.length) (hm2 : m ≤ 12) : ACalls Go.Proofs.Try.prog 97 [r, .int .i64 0, .int .i64 (m : Int)] h (fun _ h' => ∃ e', Swaps m e e' ∧ St h0 h' (F.set i ⟨w, s, ints e', tip⟩)) := by
  refine KA.fn 49 [] Go.Proofs.Try.func97 rfl (by decide) rfl rfl (Nat.le_of_ble_eq_true rfl) ?_
  have hil : i < F.length := by
    rcases Nat.lt_or_ge i F.length with h | h
    · exact h
    · rw [List.getElem?_eq_none h] at hi; cases hi
  have hset : F.set i ⟨w, s, ints e, tip⟩ = F := by
    have h1 : F[i] = _ := Option.some.inj ((List.getElem?_eq_getElem hil).symm.trans hi)
    rw [← h1]; exact List.set_getElem_self hil
  have hget : ∀ c : List Int, (F.set i ⟨w, s, ints c, tip⟩)[i]? = some ⟨w, s, ints c, tip⟩ := fun c => by rw [List.getElem?_set_self hil]
  show KA _ 49 _ _ [(0, r), (1, .int .i64 0), (2, .int .i64 (m : Int))] _
  refine KA.seq ?_
  refine KA.region rfl ?_
  refine KOps.move ?_
  refine KOps.add (by first | omega | (simp only [List.length_append, List.length_singleton, List.length_set]; omega)) (by first | omega | (simp only [List.length_append, List.length_singleton, List.length_set]; omega)) ?_
  refine KOps.assign ?_
  refine KOps.done ?_
  refine sqQ.normal ?_
  refine KA.sub (Sub.cons (t := 0) Look.eq (Sub.cons (t := 1) Look.eq (Sub.cons (t := 2) Look.eq (Sub.cons (t := 6) Look.eq (Sub.nil _))))) ?_
  refine KA.block ?_
  refine KA.loop (X := Nat × List Int) (fun x => [(0, r), (1, .int .i64 0), (2, .int .i64 (m : Int)), (6, .int .i64 (x.1 : Int))]) (fun x h' => x.1 ≤ m + 1 ∧ Swaps m e x.2 ∧ St h0 h' (F.set i ⟨w, s, ints x.2, tip⟩)) (fun x => m + 1 - x.1) (1, e) (by repeat (first | exact Sub.nil _ | refine Sub.cons Look.eq ?_ | refine Sub.cons (Eq.trans Look.eq (congrArg (AV.int _) (by first | omega | (dsimp only; omega)))) ?_)) ?_ ?_
  · exact ⟨by dsimp only; omega, .refl e, by dsimp only; rw [hset]; exact hS⟩
  rintro ⟨a, e1⟩ h2 ⟨ha, hsw, hS⟩
  dsimp only at ha hsw hS ⊢
  refine KA.seq ?_
  refine KA.seq ?_
  refine KA.region rfl ?_
  refine KOps.move ?_
  refine KOps.move ?_
  refine KOps.lss ?_
  refine KOps.done ?_
  refine sqQ.normal ?_
  refine KA.sub (Sub.cons (t := 0) Look.eq (Sub.cons (t := 1) Look.eq (Sub.cons (t := 2) Look.eq (Sub.cons (t := 6) Look.eq (Sub.cons (t := 12) Look.eq (Sub.nil _)))))) ?_
  refine KA.condD ?_ ?_
  · intro c12
    refine KA.skip ?_
    refine sqQ.normal ?_
    refine KA.sub (Sub.cons (t := 0) Look.eq (Sub.cons (t := 1) Look.eq (Sub.cons (t := 2) Look.eq (Sub.cons (t := 6) Look.eq (Sub.nil _))))) ?_
    refine KA.seq ?_
    refine KA.block ?_
    refine KA.seq ?_
    refine KA.region rfl ?_
    refine KOps.move ?_
    refine KOps.assign ?_
    refine KOps.done ?_
    refine sqQ.normal ?_
    refine KA.sub (Sub.cons (t := 0) Look.eq (Sub.cons (t := 1) Look.eq (Sub.cons (t := 2) Look.eq (Sub.cons (t := 6) Look.eq (Sub.cons (t := 7) Look.eq (Sub.nil _)))))) ?_
    refine KA.block ?_
    refine KA.loop (X := Nat × List Int) (fun x => [(0, r), (1, .int .i64 0), (2, .int .i64 (m : Int)), (6, .int .i64 (a : Int)), (7, .int .i64 (x.1 : Int))]) (fun x h' => x.1 < m ∧ Swaps m e x.2 ∧ St h0 h' (F.set i ⟨w, s, ints x.2, tip⟩)) (fun x => x.1) (a, e1) (by repeat (first | exact Sub.nil _ | refine Sub.cons Look.eq ?_ | refine Sub.cons (Eq.trans Look.eq (congrArg (AV.int _) (by first | omega | (dsimp only; omega)))) ?_)) ?_ ?_
    · exact ⟨by dsimp only; omega, hsw, hS⟩
    rintro ⟨b, e2⟩ h3 ⟨hb, hsw, hS⟩
    dsimp only at hb hsw hS ⊢
    have hln := hsw.len
    refine KA.seq ?_
    refine KA.seq ?_
    refine KA.draw [] mixed rfl (by kernel_rfl) ?_
    refine KOps.move ?_
    refine KOps.move ?_
    refine KOps.gtr ?_
    refine KOps.move ?_
    refine KOps.guardB (dj := 19) rfl rfl true false rfl ?_ ?_
    · intro g19
      have g19 := of_decide_eq_true g19
      refine KOps.move ?_
      refine KOps.guardYes (dj := 19) rfl rfl ?_
      refine KOps.move ?_
      refine KOps.guardYes (dj := 19) rfl rfl ?_
      refine KOps.indexP hr (j := b) rfl (by omega) ?_
      intro p22 hp22
      refine KOps.guardYes (dj := 19) rfl rfl ?_
      refine KOps.loadC hS (hget _) hp22 (by omega) ?_
      refine KOps.guardYes (dj := 19) rfl rfl ?_
      refine KOps.move ?_
      refine KOps.guardYes (dj := 19) rfl rfl ?_
      refine KOps.move ?_
      refine KOps.guardYes (dj := 19) rfl rfl ?_
      refine KOps.sub (by first | omega | (simp only [List.length_append, List.length_singleton, List.length_set]; omega)) (by first | omega | (simp only [List.length_append, List.length_singleton, List.length_set]; omega)) ?_
      refine KOps.guardYes (dj := 19) rfl rfl ?_
      refine KOps.indexP hr (j := b - 1) (by omega) (by omega) ?_
      intro p27 hp27
      refine KOps.guardYes (dj := 19) rfl rfl ?_
      refine KOps.loadC hS (hget _) hp27 (by omega) ?_
      refine KOps.guardYes (dj := 19) rfl rfl ?_
      refine KOps.call rfl (less_c) ?_
      rintro _ _ ⟨rfl, rfl⟩
      refine KOps.pickT ?_
      refine KOps.done ?_
      refine sqQ.normal ?_
      refine KA.sub (Sub.cons (t := 0) Look.eq (Sub.cons (t := 1) Look.eq (Sub.cons (t := 2) Look.eq (Sub.cons (t := 6) Look.eq (Sub.cons (t := 7) Look.eq (Sub.cons (t := 20) Look.eq (Sub.cons (t := 21) Look.eq (Sub.cons (t := 22) Look.eq (Sub.cons (t := 23) Look.eq (Sub.cons (t := 24) Look.eq (Sub.cons (t := 25) Look.eq (Sub.cons (t := 26) Look.eq (Sub.cons (t := 27) Look.eq (Sub.cons (t := 28) Look.eq (Sub.cons (t := 29) Look.eq (Sub.cons (t := 30) Look.eq (Sub.nil _))))))))))))))))) ?_
      refine KA.condD ?_ ?_
      · intro c30
        refine KA.skip ?_
        refine sqQ.normal ?_
        refine KA.sub (Sub.cons (t := 0) Look.eq (Sub.cons (t := 1) Look.eq (Sub.cons (t := 2) Look.eq (Sub.cons (t := 6) Look.eq (Sub.cons (t := 7) Look.eq (Sub.cons (t := 20) Look.eq (Sub.cons (t := 21) Look.eq (Sub.cons (t := 22) Look.eq (Sub.cons (t := 23) Look.eq (Sub.cons (t := 24) Look.eq (Sub.cons (t := 25) Look.eq (Sub.cons (t := 26) Look.eq (Sub.cons (t := 27) Look.eq (Sub.cons (t := 28) Look.eq (Sub.cons (t := 29) Look.eq (Sub.nil _)))))))))))))))) ?_
        refine KA.seq ?_
        refine KA.block ?_
        refine KA.draw [] mixed rfl (by kernel_rfl) ?_
        refine KOps.move ?_
        refine KOps.move ?_
        refine KOps.move ?_
        refine KOps.move ?_
        refine KOps.sub (by first | omega | (simp only [List.length_append, List.length_singleton, List.length_set]; omega)) (by first | omega | (simp only [List.length_append, List.length_singleton, List.length_set]; omega)) ?_
        refine KOps.move ?_
        refine KOps.move ?_
        refine KOps.sub (by first | omega | (simp only [List.length_append, List.length_singleton, List.length_set]; omega)) (by first | omega | (simp only [List.length_append, List.length_singleton, List.length_set]; omega)) ?_
        refine KOps.indexP hr (j := b - 1) (by omega) (by omega) ?_
        intro p41 hp41
        refine KOps.loadC hS (hget _) hp41 (by omega) ?_
        refine KOps.move ?_
        refine KOps.move ?_
        refine KOps.indexP hr (j := b) rfl (by omega) ?_
        intro p45 hp45
        refine KOps.loadC hS (hget _) hp45 (by omega) ?_
        refine KOps.indexP hr (j := b) rfl (by omega) ?_
        intro p47 hp47
        refine KOps.storeC hS rfl (hget _) hp47 (by omega) ?_
        intro h' hS
        rw [List.set_set] at hS
        refine KOps.indexP hr (j := b - 1) (by omega) (by omega) ?_
        intro p48 hp48
        refine KOps.storeC hS rfl (hget _) hp48 (by rw [List.length_set]; omega) ?_
        intro h' hS
        rw [List.set_set] at hS
        refine KOps.done ?_
        refine blQ.normal ?_
        refine sqQ.normal ?_
        refine KA.sub (Sub.cons (t := 0) Look.eq (Sub.cons (t := 1) Look.eq (Sub.cons (t := 2) Look.eq (Sub.cons (t := 6) Look.eq (Sub.cons (t := 7) Look.eq (Sub.cons (t := 20) Look.eq (Sub.cons (t := 21) Look.eq (Sub.cons (t := 22) Look.eq (Sub.cons (t := 23) Look.eq (Sub.cons (t := 24) Look.eq (Sub.cons (t := 25) Look.eq (Sub.cons (t := 26) Look.eq (Sub.cons (t := 27) Look.eq (Sub.cons (t := 28) Look.eq (Sub.cons (t := 29) Look.eq (Sub.nil _)))))))))))))))) ?_
        refine KA.region rfl ?_
        refine KOps.move ?_
        refine KOps.sub (by first | omega | (simp only [List.length_append, List.length_singleton, List.length_set]; omega)) (by first | omega | (simp only [List.length_append, List.length_singleton, List.length_set]; omega)) ?_
        refine KOps.assign ?_
        refine KOps.done ?_
        exact lpQ.normal (b - 1, _) (by repeat (first | exact Sub.nil _ | refine Sub.cons Look.eq ?_ | refine Sub.cons (Eq.trans Look.eq (congrArg (AV.int _) (by first | omega | (dsimp only; omega)))) ?_)) ⟨by dsimp only; omega, hsw.step (a := b) (b := b - 1) (by omega) (by omega), hS⟩ (by dsimp only; omega)
      · intro c30
        refine KA.exit ?_
        refine sqQ.exit ?_
        refine lpQ.exit ?_
        refine blQ.here ?_
        refine blQ.normal ?_
        refine sqQ.normal ?_
        refine KA.sub (Sub.cons (t := 0) Look.eq (Sub.cons (t := 1) Look.eq (Sub.cons (t := 2) Look.eq (Sub.cons (t := 6) Look.eq (Sub.cons (t := 20) Look.eq (Sub.cons (t := 21) Look.eq (Sub.cons (t := 22) Look.eq (Sub.cons (t := 23) Look.eq (Sub.cons (t := 24) Look.eq (Sub.cons (t := 25) Look.eq (Sub.cons (t := 26) Look.eq (Sub.cons (t := 27) Look.eq (Sub.cons (t := 28) Look.eq (Sub.cons (t := 29) Look.eq (Sub.nil _))))))))))))))) ?_
        refine KA.region rfl ?_
        refine KOps.move ?_
        refine KOps.add (by first | omega | (simp only [List.length_append, List.length_singleton, List.length_set]; omega)) (by first | omega | (simp only [List.length_append, List.length_singleton, List.length_set]; omega)) ?_
        refine KOps.assign ?_
        refine KOps.done ?_
        exact lpQ.normal (a + 1, e2) (by repeat (first | exact Sub.nil _ | refine Sub.cons Look.eq ?_ | refine Sub.cons (Eq.trans Look.eq (congrArg (AV.int _) (by first | omega | (dsimp only; omega)))) ?_)) ⟨by dsimp only; omega, hsw, hS⟩ (by dsimp only; omega)
    · intro g19
      have g19 := of_decide_eq_false g19
      refine KOps.guardNo (dj := 19) rfl rfl rfl ?_
      refine KOps.guardNo (dj := 19) rfl rfl rfl ?_
      refine KOps.guardNo (dj := 19) rfl rfl rfl ?_
      refine KOps.guardNo (dj := 19) rfl rfl rfl ?_
      refine KOps.guardNo (dj := 19) rfl rfl rfl ?_
      refine KOps.guardNo (dj := 19) rfl rfl rfl ?_
      refine KOps.guardNo (dj := 19) rfl rfl rfl ?_
      refine KOps.guardNo (dj := 19) rfl rfl rfl ?_
      refine KOps.guardNo (dj := 19) rfl rfl rfl ?_
      refine KOps.pickF ?_
      refine KOps.done ?_
      refine sqQ.normal ?_
      refine KA.sub (Sub.cons (t := 0) Look.eq (Sub.cons (t := 1) Look.eq (Sub.cons (t := 2) Look.eq (Sub.cons (t := 6) Look.eq (Sub.cons (t := 7) Look.eq (Sub.cons (t := 20) Look.eq (Sub.cons (t := 21) Look.eq (Sub.cons (t := 22) Look.eq (Sub.cons (t := 23) Look.eq (Sub.cons (t := 24) Look.eq (Sub.cons (t := 25) Look.eq (Sub.cons (t := 26) Look.eq (Sub.cons (t := 27) Look.eq (Sub.cons (t := 28) Look.eq (Sub.cons (t := 29) Look.eq (Sub.cons (t := 30) Look.eq (Sub.nil _))))))))))))))))) ?_
      refine KA.condF ?_
      refine KA.exit ?_
      refine sqQ.exit ?_
      refine lpQ.exit ?_
      refine blQ.here ?_
      refine blQ.normal ?_
      refine sqQ.normal ?_
      refine KA.sub (Sub.cons (t := 0) Look.eq (Sub.cons (t := 1) Look.eq (Sub.cons (t := 2) Look.eq (Sub.cons (t := 6) Look.eq (Sub.cons (t := 20) Look.eq (Sub.cons (t := 21) Look.eq (Sub.cons (t := 22) Look.eq (Sub.cons (t := 23) Look.eq (Sub.cons (t := 24) Look.eq (Sub.cons (t := 25) Look.eq (Sub.cons (t := 26) Look.eq (Sub.cons (t := 27) Look.eq (Sub.cons (t := 28) Look.eq (Sub.cons (t := 29) Look.eq (Sub.nil _))))))))))))))) ?_
      refine KA.region rfl ?_
      refine KOps.move ?_
      refine KOps.add (by first | omega | (simp only [List.length_append, List.length_singleton, List.length_set]; omega)) (by first | omega | (simp only [List.length_append, List.length_singleton, List.length_set]; omega)) ?_
      refine KOps.assign ?_
      refine KOps.done ?_
      exact lpQ.normal (a + 1, e2) (by repeat (first | exact Sub.nil _ | refine Sub.cons Look.eq ?_ | refine Sub.cons (Eq.trans Look.eq (congrArg (AV.int _) (by first | omega | (dsimp only; omega)))) ?_)) ⟨by dsimp only; omega, hsw, hS⟩ (by dsimp only; omega)
  · intro c12
    refine KA.exit ?_
    refine sqQ.exit ?_
    refine lpQ.exit ?_
    refine blQ.here ?_
    refine fnQ.norm0 ?_
    exact ⟨_, hsw, hS⟩

theorem pdq_c {h0 h : AHeap} {F : List Obj} {w r : AV} {s m i : Nat} {e : List Int} {tip : Bool} (hS : St h0 h F) (hi : F[i]? = some ⟨w, s, ints e, tip⟩) (hr : PreOf r w s m) (hm : m ≤ e.length) (hm2 : m ≤ 12) {c : Int} : ACalls Go.Proofs.Try.prog 90 [r, .int .i64 0, .int .i64 (m : Int), .int .i64 c] h (fun _ h' => ∃ e', Swaps m e e' ∧ St h0 h' (F.set i ⟨w, s, ints e', tip⟩)) := by
  refine KA.fn 134 [] Go.Proofs.Try.func90 rfl (by decide) rfl rfl (Nat.le_of_ble_eq_true rfl) ?_
  show KA _ 134 _ _ [(0, r), (1, .int .i64 0), (2, .int .i64 (m : Int)), (3, .int .i64 c)] _
  refine KA.seq ?_
  refine KA.region rfl ?_
  refine KOps.assign ?_
  refine KOps.done ?_
  refine sqQ.normal ?_
  refine KA.seq ?_
  refine KA.region rfl ?_
  refine KOps.assign ?_
  refine KOps.done ?_
  refine sqQ.normal ?_
  refine KA.block ?_
  refine KA.loop (X := Unit) (fun _ => [(0, r), (1, .int .i64 0), (2, .int .i64 (m : Int)), (3, .int .i64 c), (8, .bool true), (9, .bool true)]) (fun _ h' => h = h') (fun _ => 0) () (by repeat (first | exact Sub.nil _ | refine Sub.cons Look.eq ?_ | refine Sub.cons (Eq.trans Look.eq (congrArg (AV.int _) (by first | omega | (dsimp only; omega)))) ?_)) ?_ ?_
  · exact rfl
  rintro _ _ rfl
  refine KA.block ?_
  refine KA.seq ?_
  refine KA.region rfl ?_
  refine KOps.move ?_
  refine KOps.move ?_
  refine KOps.sub (by first | omega | (simp only [List.length_append, List.length_singleton, List.length_set]; omega)) (by first | omega | (simp only [List.length_append, List.length_singleton, List.length_set]; omega)) ?_
  refine KOps.assign ?_
  refine KOps.done ?_
  refine sqQ.normal ?_
  refine KA.sub (Sub.cons (t := 0) Look.eq (Sub.cons (t := 1) Look.eq (Sub.cons (t := 2) Look.eq (Sub.cons (t := 3) Look.eq (Sub.cons (t := 8) Look.eq (Sub.cons (t := 9) Look.eq (Sub.cons (t := 10) Look.eq (Sub.nil _)))))))) ?_
  refine KA.seq ?_
  refine KA.seq ?_
  refine KA.region rfl ?_
  refine KOps.move ?_
  refine KOps.leq ?_
  rw [decide_eq_true (by omega)]
  refine KOps.done ?_
  refine sqQ.normal ?_
  refine KA.sub (Sub.cons (t := 0) Look.eq (Sub.cons (t := 1) Look.eq (Sub.cons (t := 2) Look.eq (Sub.cons (t := 3) Look.eq (Sub.cons (t := 8) Look.eq (Sub.cons (t := 9) Look.eq (Sub.cons (t := 10) Look.eq (Sub.cons (t := 23) Look.eq (Sub.nil _))))))))) ?_
  refine KA.condT ?_
  refine KA.seq ?_
  refine KA.region rfl ?_
  refine KOps.move ?_
  refine KOps.move ?_
  refine KOps.move ?_
  refine KOps.call rfl (isort_c hS hi hr hm hm2) ?_
  rintro _ h2 ⟨e2, hsw, hS⟩
  refine KOps.done ?_
  refine sqQ.normal ?_
  refine KA.sub (Sub.nil _) ?_
  refine KA.ret ?_
  refine sqQ.ret ?_
  refine blQ.ret ?_
  refine lpQ.ret ?_
  refine blQ.ret ?_
  refine fnQ.ret0 ?_
  exact ⟨_, hsw, hS⟩

theorem sort_c {h0 h : AHeap} {F : List Obj} {w r : AV} {s m i : Nat} {e : List Int} {tip : Bool} (hS : St h0 h F) (hi : F[i]? = some ⟨w, s, ints e, tip⟩) (hr : PreOf r w s m) (hm : m ≤ e.length) (hm2 : m ≤ 12) : ACalls Go.Proofs.Try.prog 60 [r] h (fun _ h' => ∃ e', Swaps m e e' ∧ St h0 h' (F.set i ⟨w, s, ints e', tip⟩)) := by
  refine KA.fn 11 [] Go.Proofs.Try.func60 rfl (by decide) rfl rfl (Nat.le_of_ble_eq_true rfl) ?_
  show KA _ 11 _ _ [(0, r)] _
  refine KA.seq ?_
  refine KA.region rfl ?_
  refine KOps.move ?_
  refine KOps.lenP hr ?_
  refine KOps.assign ?_
  refine KOps.done ?_
  refine sqQ.normal ?_
  refine KA.sub (Sub.cons (t := 0) Look.eq (Sub.cons (t := 2) Look.eq (Sub.nil _))) ?_
  refine KA.region rfl ?_
  refine KOps.move ?_
  refine KOps.move ?_
  refine KOps.move ?_
  refine KOps.convIn (wrapU64 (by omega) (by omega)) ?_
  refine KOps.call rfl (blen_c (by omega)) ?_
  rintro _ _ ⟨⟨c, rfl⟩, rfl⟩
  refine KOps.call rfl (pdq_c hS hi hr hm hm2) ?_
  rintro _ h2 ⟨e2, hsw, hS⟩
  refine KOps.done ?_
  refine fnQ.norm0 ?_
  exact ⟨_, hsw, hS⟩

end Go.Am
