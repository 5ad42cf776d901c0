/-
  Layer 13: all rows of a pack, one by one, given to a function.
  Conditions: none.
-/
import Derived.Test.YtenkokebdgekbaaCo
import Derived.Test.YtenkokebdgekbaaPt5
namespace Go.Am
open Go.Gr
theorem last_ne {l r : List Int} (hn : l.Nodup) {i : Nat} (hi : i < l.length) (hr : r.Sublist (l.take i)) (h : r ≠ []) : lastD r ≠ l.getD i 0 := by
  intro he
  have h1 : lastD r ∈ r := getD_mem (by have := List.length_pos_iff.2 h; omega)
  have h2 := hr.subset h1
  rw [he] at h2
  obtain ⟨j, hj, hje⟩ := mem_getD h2
  rw [List.length_take] at hj
  have h4 : (l.take i).getD j 0 = l.getD j 0 := by simp [List.getD_eq_getElem?_getD, show j < i by omega]
  rw [h4] at hje
  have := nodup_inj hn (i := j) (j := i) (x := l.getD i 0) (by rw [← hje, List.getD_eq_getElem?_getD, List.getElem?_eq_getElem (by omega)]; rfl) (by rw [List.getD_eq_getElem?_getD, List.getElem?_eq_getElem hi]; rfl)
  omega
/-- A card more: does the row still run? -/
theorem runs_more {l : List Int} {s i : Nat} {f : Bool} (hn : l.Nodup) (hi : i < l.length) (hne : rowT l s i ≠ []) : runsB (rowT l s i ++ [l.getD i 0]) f = (runsB (rowT l s i) f && !(!(decide (l.getD i 0 < lastD (rowT l s i)) == f))) := by
  rw [runsB_snoc, decide_eq_false hne, Bool.false_or]
  congr 1
  have h1 := last_ne hn hi (rowT_sub l s i (by omega)) hne
  by_cases h : l.getD i 0 < lastD (rowT l s i)
  · rw [decide_eq_true h, decide_eq_false (by omega)]; cases f <;> rfl
  · rw [decide_eq_false h, decide_eq_true (by omega)]; cases f <;> rfl
theorem runs_first {l : List Int} {s i : Nat} {f : Bool} (he : rowT l s i = []) : runsB (rowT l s i ++ [l.getD i 0]) f = runsB (rowT l s i) f := by
  rw [runsB_snoc, decide_eq_true he, Bool.true_or, Bool.and_true]

theorem compareL_c {h : AHeap} {v u : AV} {a b : List Int} (hv : Row h v a) (hu : Row h u b) (he : a.length = b.length) (hlen : a.length ≤ 4294967296) : ACalls Go.Proofs.Try.prog 55 [v, u] h (fun r h' => (∃ c : Int, r = .int .i64 c ∧ (c < 0 ↔ lexB a b = true)) ∧ h = h') := by
  refine KA.fn 36 [.tmp 4] Go.Proofs.Try.func55 rfl (by decide) rfl rfl (Nat.le_of_ble_eq_true rfl) ?_
  show KA _ 36 _ _ [(0, v), (1, u)] _
  refine KA.seq ?_
  refine KA.region rfl ?_
  refine KOps.assign ?_
  refine KOps.done ?_
  refine sqQ.normal ?_
  refine KA.sub (Sub.cons (t := 0) Look.eq (Sub.cons (t := 1) Look.eq (Sub.nil _))) ?_
  refine KA.seq ?_
  refine KA.seq ?_
  refine KA.region rfl ?_
  refine KOps.move ?_
  refine KOps.lenI hv ?_
  refine KOps.move ?_
  refine KOps.done ?_
  refine sqQ.normal ?_
  refine KA.block ?_
  refine KA.loop (X := Nat) (fun i => [(0, v), (1, u), (9, v), (10, .int .i64 (a.length : Int)), (11, .int .i64 (i : Int))]) (fun i h' => h = h' ∧ i ≤ a.length ∧ ∀ j, j < i → a.getD j 0 = b.getD j 0) (fun i => a.length - i) 0 (by repeat (first | exact Sub.nil _ | refine Sub.cons Look.eq ?_ | refine Sub.cons (Eq.trans Look.eq (congrArg (AV.int _) (by first | omega | (dsimp only; omega)))) ?_)) ⟨rfl, by omega, by omega⟩ ?_
  rintro i _ ⟨rfl, hi, hj⟩
  refine KA.seq ?_
  refine KA.region rfl ?_
  refine KOps.lss ?_
  refine KOps.done ?_
  refine sqQ.normal ?_
  refine KA.seq ?_
  refine KA.condD ?_ ?_
  · intro c12
    refine KA.skip ?_
    refine sqQ.normal ?_
    refine KA.sub (Sub.cons (t := 0) Look.eq (Sub.cons (t := 1) Look.eq (Sub.cons (t := 9) Look.eq (Sub.cons (t := 10) Look.eq (Sub.cons (t := 11) Look.eq (Sub.nil _)))))) ?_
    refine KA.seq ?_
    refine KA.block ?_
    refine KA.seq ?_
    refine KA.region rfl ?_
    refine KOps.move ?_
    refine KOps.indexIJ hv (j := i) rfl (by first | omega | (simp; omega)) ?_
    intro p14 hp14
    refine KOps.loadI hp14 hv (by first | omega | (simp; omega)) ?_
    refine KOps.assign ?_
    refine KOps.assign ?_
    refine KOps.done ?_
    refine sqQ.normal ?_
    refine KA.sub (Sub.cons (t := 0) Look.eq (Sub.cons (t := 1) Look.eq (Sub.cons (t := 5) Look.eq (Sub.cons (t := 6) Look.eq (Sub.cons (t := 9) Look.eq (Sub.cons (t := 10) Look.eq (Sub.cons (t := 11) Look.eq (Sub.nil _)))))))) ?_
    refine KA.seq ?_
    refine KA.seq ?_
    refine KA.region rfl ?_
    refine KOps.move ?_
    refine KOps.move ?_
    refine KOps.lenI hu ?_
    refine KOps.geq ?_
    refine KOps.done ?_
    refine sqQ.normal ?_
    refine KA.sub (Sub.cons (t := 0) Look.eq (Sub.cons (t := 1) Look.eq (Sub.cons (t := 5) Look.eq (Sub.cons (t := 6) Look.eq (Sub.cons (t := 9) Look.eq (Sub.cons (t := 10) Look.eq (Sub.cons (t := 11) Look.eq (Sub.cons (t := 19) Look.eq (Sub.nil _))))))))) ?_
    refine KA.condD ?_ ?_
    · intro c19
      exfalso; omega
    · intro c19
      refine KA.skip ?_
      refine sqQ.normal ?_
      refine KA.sub (Sub.cons (t := 0) Look.eq (Sub.cons (t := 1) Look.eq (Sub.cons (t := 5) Look.eq (Sub.cons (t := 6) Look.eq (Sub.cons (t := 9) Look.eq (Sub.cons (t := 10) Look.eq (Sub.cons (t := 11) Look.eq (Sub.nil _)))))))) ?_
      refine KA.seq ?_
      refine KA.region rfl ?_
      refine KOps.move ?_
      refine KOps.move ?_
      refine KOps.indexIJ hu (j := i) rfl (by first | omega | (simp; omega)) ?_
      intro p22 hp22
      refine KOps.loadI hp22 hu (by first | omega | (simp; omega)) ?_
      refine KOps.assign ?_
      refine KOps.done ?_
      refine sqQ.normal ?_
      refine KA.sub (Sub.cons (t := 0) Look.eq (Sub.cons (t := 1) Look.eq (Sub.cons (t := 6) Look.eq (Sub.cons (t := 7) Look.eq (Sub.cons (t := 9) Look.eq (Sub.cons (t := 10) Look.eq (Sub.cons (t := 11) Look.eq (Sub.nil _)))))))) ?_
      refine KA.seq ?_
      refine KA.region rfl ?_
      refine KOps.move ?_
      refine KOps.move ?_
      refine KOps.call rfl (compare_c) ?_
      rintro _ _ ⟨rfl, rfl⟩
      refine KOps.assign ?_
      refine KOps.done ?_
      refine sqQ.normal ?_
      refine KA.sub (Sub.cons (t := 0) Look.eq (Sub.cons (t := 1) Look.eq (Sub.cons (t := 8) Look.eq (Sub.cons (t := 9) Look.eq (Sub.cons (t := 10) Look.eq (Sub.cons (t := 11) Look.eq (Sub.nil _))))))) ?_
      refine KA.seq ?_
      refine KA.region rfl ?_
      refine KOps.move ?_
      refine KOps.neq ?_
      refine KOps.done ?_
      refine sqQ.normal ?_
      refine KA.sub (Sub.cons (t := 0) Look.eq (Sub.cons (t := 1) Look.eq (Sub.cons (t := 8) Look.eq (Sub.cons (t := 9) Look.eq (Sub.cons (t := 10) Look.eq (Sub.cons (t := 11) Look.eq (Sub.cons (t := 28) Look.eq (Sub.nil _)))))))) ?_
      refine KA.condN ?_ ?_
      · intro c28
        refine KA.seq ?_
        refine KA.region rfl ?_
        refine KOps.move ?_
        refine KOps.assign ?_
        refine KOps.done ?_
        refine sqQ.normal ?_
        refine KA.sub (Sub.cons (t := 4) Look.eq (Sub.nil _)) ?_
        refine KA.ret ?_
        refine blQ.ret ?_
        refine sqQ.ret ?_
        refine lpQ.ret ?_
        refine blQ.ret ?_
        refine sqQ.ret ?_
        refine fnQ.ret1 ?_
        refine ⟨⟨_, rfl, ?_⟩, rfl⟩
        by_cases h1 : a.getD i 0 < b.getD i 0
        · rw [if_pos h1, lexB_at hj (by omega) (by omega) (by omega)]; simpa using h1
        · rw [if_neg h1] at c28 ⊢
          by_cases h2 : b.getD i 0 < a.getD i 0
          · rw [if_pos h2, lexB_at hj (by omega) (by omega) (by omega), decide_eq_false h1]; simp
          · rw [if_neg h2] at c28; omega
      · intro c28
        refine KA.skip ?_
        refine blQ.normal ?_
        refine sqQ.normal ?_
        refine KA.sub (Sub.cons (t := 0) Look.eq (Sub.cons (t := 1) Look.eq (Sub.cons (t := 9) Look.eq (Sub.cons (t := 10) Look.eq (Sub.cons (t := 11) Look.eq (Sub.nil _)))))) ?_
        refine KA.region rfl ?_
        refine KOps.add (by first | omega | (simp only [List.length_append, List.length_singleton, List.length_set]; omega)) (by first | omega | (simp only [List.length_append, List.length_singleton, List.length_set]; omega)) ?_
        refine KOps.move ?_
        refine KOps.done ?_
        have heq : a.getD i 0 = b.getD i 0 := by
          by_cases h1 : a.getD i 0 < b.getD i 0
          · rw [if_pos h1] at c28; omega
          · rw [if_neg h1] at c28
            by_cases h2 : b.getD i 0 < a.getD i 0
            · rw [if_pos h2] at c28; omega
            · omega
        refine lpQ.normal (i + 1) (by repeat (first | exact Sub.nil _ | refine Sub.cons Look.eq ?_ | refine Sub.cons (Eq.trans Look.eq (congrArg (AV.int _) (by first | omega | (dsimp only; omega)))) ?_)) ⟨rfl, by omega, ?_⟩ (by omega)
        intro j hj2; rcases Nat.lt_succ_iff_lt_or_eq.1 hj2 with h1 | rfl
        · exact hj j h1
        · exact heq
  · intro c12
    refine KA.exit ?_
    refine sqQ.exit ?_
    refine lpQ.exit ?_
    refine blQ.here ?_
    refine sqQ.normal ?_
    refine KA.sub (Sub.cons (t := 0) Look.eq (Sub.cons (t := 1) Look.eq (Sub.nil _))) ?_
    refine KA.seq ?_
    refine KA.seq ?_
    refine KA.region rfl ?_
    refine KOps.move ?_
    refine KOps.lenI hv ?_
    refine KOps.move ?_
    refine KOps.lenI hu ?_
    refine KOps.lss ?_
    refine KOps.done ?_
    refine sqQ.normal ?_
    refine KA.sub (Sub.cons (t := 35) Look.eq (Sub.nil _)) ?_
    refine KA.condD ?_ ?_
    · intro c35
      exfalso; omega
    · intro c35
      refine KA.skip ?_
      refine sqQ.normal ?_
      refine KA.sub (Sub.nil _) ?_
      refine KA.seq ?_
      refine KA.region rfl ?_
      refine KOps.assign ?_
      refine KOps.done ?_
      refine sqQ.normal ?_
      refine KA.ret ?_
      refine fnQ.ret1 ?_
      refine ⟨⟨_, rfl, ?_⟩, rfl⟩
      have hab : a = b := ext_getD he (fun j h => hj j (by omega))
      subst hab
      rw [lexB_self]; simp

theorem longest1_c {h0 h : AHeap} {u p vb : AV} {r b : List Int} (hp : AddrOf p p 0 0) (hS : St h0 h [⟨u, 1, ints r, true⟩, ⟨p, 0, [vb], true⟩, ⟨vb, 1, ints b, true⟩]) (hlr : r.length ≤ 4294967296) (hlb : b.length ≤ 4294967296) : ACalls Go.Proofs.Try.prog 89 [u, p] h (fun _ h' => ∃ vb', St h0 h' [⟨p, 0, [vb'], true⟩, ⟨vb', 1, ints (if better r b = true then r else b), true⟩]) := by
  refine KA.fn 22 [] Go.Proofs.Try.func89 rfl (by decide) rfl rfl (Nat.le_of_ble_eq_true rfl) ?_
  have huo : u.one = true := St.one hS (k := 0) rfl
  show KA _ 22 _ _ [(0, u), (1, p)] _
  refine KA.seq ?_
  refine KA.region rfl ?_
  refine KOps.move ?_
  refine KOps.lenI (hS.rd 0 rfl) ?_
  refine KOps.loadBox hS (i := 1) rfl hp ?_
  refine KOps.lenI (hS.rd 2 rfl) ?_
  refine KOps.gtr ?_
  refine KOps.move ?_
  refine KOps.guardB (dj := 8) rfl rfl false true rfl ?_ ?_
  · intro g8
    have g8 := of_decide_eq_false g8
    refine KOps.move ?_
    refine KOps.guardYes (dj := 8) rfl rfl ?_
    refine KOps.lenI (hS.rd 0 rfl) ?_
    refine KOps.guardYes (dj := 8) rfl rfl ?_
    refine KOps.loadBox hS (i := 1) rfl hp ?_
    refine KOps.guardYes (dj := 8) rfl rfl ?_
    refine KOps.lenI (hS.rd 2 rfl) ?_
    refine KOps.guardYes (dj := 8) rfl rfl ?_
    refine KOps.eql ?_
    refine KOps.guardYes (dj := 8) rfl rfl ?_
    refine KOps.move ?_
    refine KOps.guardB (dj := 14) rfl rfl true false rfl ?_ ?_
    · intro g14
      have g14 := of_decide_eq_true g14
      refine KOps.move ?_
      refine KOps.guardYes (dj := 14) rfl rfl ?_
      refine KOps.loadBox hS (i := 1) rfl hp ?_
      refine KOps.guardYes (dj := 14) rfl rfl ?_
      refine KOps.call rfl (compareL_c (hS.rd 0 rfl) (hS.rd 2 rfl) (by omega) (by omega)) ?_
      rintro _ _ ⟨⟨c17, rfl, hc17⟩, rfl⟩
      refine KOps.guardYes (dj := 14) rfl rfl ?_
      refine KOps.lss ?_
      refine KOps.guardYes (dj := 8) rfl rfl ?_
      refine KOps.pickT ?_
      refine KOps.pickF ?_
      refine KOps.done ?_
      refine sqQ.normal ?_
      refine KA.sub (Sub.cons (t := 0) Look.eq (Sub.cons (t := 1) Look.eq (Sub.cons (t := 20) Look.eq (Sub.nil _)))) ?_
      refine KA.condD ?_ ?_
      · intro c20
        refine KA.region rfl ?_
        refine KOps.move ?_
        refine KOps.storeBox hS rfl (i := 1) rfl hp (by first | rfl | assumption) ?_
        intro h' hS
        refine KOps.done ?_
        refine fnQ.norm0 ?_
        have hb : (if better r b = true then r else b) = r := if_pos (by rw [better_eq (by omega)]; exact hc17.1 (by omega))
        exact ⟨u, by rw [hb]; exact St.pick [1, 0] (by decide) rfl hS⟩
      · intro c20
        refine KA.skip ?_
        refine fnQ.norm0 ?_
        have hb : (if better r b = true then r else b) = b := if_neg (by rw [better_eq (by omega)]; intro hq; exact absurd (hc17.2 hq) (by omega))
        exact ⟨vb, by rw [hb]; exact St.pick [1, 2] (by decide) rfl hS⟩
    · intro g14
      have g14 := of_decide_eq_false g14
      refine KOps.guardNo (dj := 14) rfl rfl rfl ?_
      refine KOps.guardNo (dj := 14) rfl rfl rfl ?_
      refine KOps.guardNo (dj := 14) rfl rfl rfl ?_
      refine KOps.guardYes (dj := 8) rfl rfl ?_
      refine KOps.pickF ?_
      refine KOps.pickF ?_
      refine KOps.done ?_
      refine sqQ.normal ?_
      refine KA.sub (Sub.cons (t := 0) Look.eq (Sub.cons (t := 1) Look.eq (Sub.cons (t := 20) Look.eq (Sub.nil _)))) ?_
      refine KA.condF ?_
      refine KA.skip ?_
      refine fnQ.norm0 ?_
      have hb : (if better r b = true then r else b) = b := if_neg (by rw [better_short (by omega) (by omega)]; exact Bool.false_ne_true)
      exact ⟨vb, by rw [hb]; exact St.pick [1, 2] (by decide) rfl hS⟩
  · intro g8
    have g8 := of_decide_eq_true g8
    refine KOps.guardNo (dj := 8) rfl rfl rfl ?_
    refine KOps.guardNo (dj := 8) rfl rfl rfl ?_
    refine KOps.guardNo (dj := 8) rfl rfl rfl ?_
    refine KOps.guardNo (dj := 8) rfl rfl rfl ?_
    refine KOps.guardNo (dj := 8) rfl rfl rfl ?_
    refine KOps.guardTup (dj := 14) rfl rfl ?_
    refine KOps.guardTup (dj := 14) rfl rfl ?_
    refine KOps.guardTup (dj := 14) rfl rfl ?_
    refine KOps.guardTup (dj := 14) rfl rfl ?_
    refine KOps.guardNo (dj := 8) rfl rfl rfl ?_
    refine KOps.pickT ?_
    refine KOps.done ?_
    refine sqQ.normal ?_
    refine KA.sub (Sub.cons (t := 0) Look.eq (Sub.cons (t := 1) Look.eq (Sub.cons (t := 20) Look.eq (Sub.nil _)))) ?_
    refine KA.condT ?_
    refine KA.region rfl ?_
    refine KOps.move ?_
    refine KOps.storeBox hS rfl (i := 1) rfl hp (by first | rfl | assumption) ?_
    intro h' hS
    refine KOps.done ?_
    refine fnQ.norm0 ?_
    have hb : (if better r b = true then r else b) = r := if_pos (better_long (by omega))
    exact ⟨u, by rw [hb]; exact St.pick [1, 0] (by decide) rfl hS⟩

theorem rows_c {h0 h : AHeap} {v : AV} {l : List Int} {f : Bool} {g : FuncId} {caps : List AV} {P : Nat → List Obj → Prop} {F0 : List Obj} (hv : Row h0 v l) (hlen : l.length ≤ 9) (hn : l.Nodup) (hS : St h0 h F0) (hP0 : P 0 F0)
    (hdo : ∀ (s : Nat) (h1 : AHeap) (F : List Obj) (u : AV), s < 2 ^ l.length → runsB (rowS l s) f = true → P s F → St h0 h1 (⟨u, 1, ints (rowS l s), true⟩ :: F) → ACalls Go.Proofs.Try.prog g (u :: caps) h1 (fun _ h2 => ∃ F2, P (s + 1) F2 ∧ St h0 h2 F2))
    (hskip : ∀ (s : Nat) (F : List Obj), s < 2 ^ l.length → runsB (rowS l s) f = false → P s F → P (s + 1) F) : ACalls Go.Proofs.Try.prog 88 [v, .bool f, .fn g caps] h (fun _ h' => ∃ F, P (2 ^ l.length) F ∧ St h0 h' F) := by
  refine KA.fn 54 [] Go.Proofs.Try.func88 rfl (by decide) rfl rfl (Nat.le_of_ble_eq_true rfl) ?_
  have hpw : 2 ^ l.length ≤ 2 ^ 9 := Nat.pow_le_pow_right (by decide) hlen
  have hsh := i64_shl l.length hlen
  show KA _ 54 _ _ [(0, v), (1, .bool f), (2, .fn g caps)] _
  refine KA.seq ?_
  refine KA.region rfl ?_
  refine KOps.assign ?_
  refine KOps.done ?_
  refine sqQ.normal ?_
  refine KA.block ?_
  refine KA.loop (X := Nat × List Obj) (fun x => [(0, v), (1, .bool f), (2, .fn g caps), (6, .int .i64 (x.1 : Int))]) (fun x h' => x.1 ≤ 2 ^ l.length ∧ P x.1 x.2 ∧ St h0 h' x.2) (fun x => 2 ^ l.length - x.1) (0, F0) (by repeat (first | exact Sub.nil _ | refine Sub.cons Look.eq ?_ | refine Sub.cons (Eq.trans Look.eq (congrArg (AV.int _) (by first | omega | (dsimp only; omega)))) ?_)) ⟨Nat.zero_le _, hP0, hS⟩ ?_
  rintro ⟨s, F⟩ h1 ⟨hs, hP, hS⟩
  dsimp only at hs hP hS ⊢
  refine KA.seq ?_
  refine KA.seq ?_
  refine KA.region rfl ?_
  refine KOps.move ?_
  refine KOps.move ?_
  refine KOps.lenI (Row.ext hS.keeps hv) ?_
  refine KOps.shl (by omega) ?_
  rw [hsh]
  refine KOps.lss ?_
  refine KOps.done ?_
  refine sqQ.normal ?_
  refine KA.sub (Sub.cons (t := 0) Look.eq (Sub.cons (t := 1) Look.eq (Sub.cons (t := 2) Look.eq (Sub.cons (t := 6) Look.eq (Sub.cons (t := 15) Look.eq (Sub.nil _)))))) ?_
  refine KA.condD ?_ ?_
  · intro c15
    refine KA.skip ?_
    refine sqQ.normal ?_
    refine KA.sub (Sub.cons (t := 0) Look.eq (Sub.cons (t := 1) Look.eq (Sub.cons (t := 2) Look.eq (Sub.cons (t := 6) Look.eq (Sub.nil _))))) ?_
    refine KA.seq ?_
    refine KA.block ?_
    refine KA.seq ?_
    refine KA.region rfl ?_
    refine KOps.assign ?_
    refine KOps.done ?_
    refine sqQ.normal ?_
    refine KA.seq ?_
    refine KA.region rfl ?_
    refine KOps.assign ?_
    refine KOps.done ?_
    refine sqQ.normal ?_
    refine KA.seq ?_
    refine KA.seq ?_
    refine KA.region rfl ?_
    refine KOps.move ?_
    refine KOps.lenI (Row.ext hS.keeps hv) ?_
    refine KOps.move ?_
    refine KOps.done ?_
    refine sqQ.normal ?_
    refine KA.block ?_
    refine KA.loop (X := Nat × AV) (fun x => [(0, v), (1, .bool f), (2, .fn g caps), (6, .int .i64 (s : Int)), (7, x.2), (8, .bool (runsB (rowT l s x.1) f)), (18, v), (19, .int .i64 (l.length : Int)), (20, .int .i64 (x.1 : Int))]) (fun x h' => x.1 ≤ l.length ∧ St h0 h' (⟨x.2, 1, ints (rowT l s x.1), true⟩ :: F)) (fun x => l.length - x.1) (0, .nils) (by repeat (first | exact Sub.nil _ | refine Sub.cons Look.eq ?_ | refine Sub.cons (Eq.trans Look.eq (congrArg (AV.int _) (by first | omega | (dsimp only; omega)))) ?_)) ?_ ?_
    · exact ⟨Nat.zero_le _, St.nil hS 1⟩
    rintro ⟨i, vr⟩ h2 ⟨hi, hS⟩
    dsimp only at hi hS ⊢
    have hrl := rowT_len l s i
    have hsc := rowT_succ l s i
    refine KA.seq ?_
    refine KA.region rfl ?_
    refine KOps.lss ?_
    refine KOps.done ?_
    refine sqQ.normal ?_
    refine KA.seq ?_
    refine KA.condD ?_ ?_
    · intro c21
      refine KA.skip ?_
      refine sqQ.normal ?_
      refine KA.sub (Sub.cons (t := 0) Look.eq (Sub.cons (t := 1) Look.eq (Sub.cons (t := 2) Look.eq (Sub.cons (t := 6) Look.eq (Sub.cons (t := 7) Look.eq (Sub.cons (t := 8) Look.eq (Sub.cons (t := 18) Look.eq (Sub.cons (t := 19) Look.eq (Sub.cons (t := 20) Look.eq (Sub.nil _)))))))))) ?_
      refine KA.seq ?_
      refine KA.block ?_
      refine KA.seq ?_
      refine KA.region rfl ?_
      refine KOps.move ?_
      refine KOps.indexIJ (Row.ext hS.keeps hv) (j := i) rfl (by first | omega | (simp; omega)) ?_
      intro p23 hp23
      refine KOps.loadI hp23 (Row.ext hS.keeps hv) (by first | omega | (simp; omega)) ?_
      refine KOps.assign ?_
      refine KOps.assign ?_
      refine KOps.done ?_
      refine sqQ.normal ?_
      refine KA.sub (Sub.cons (t := 0) Look.eq (Sub.cons (t := 1) Look.eq (Sub.cons (t := 2) Look.eq (Sub.cons (t := 6) Look.eq (Sub.cons (t := 7) Look.eq (Sub.cons (t := 8) Look.eq (Sub.cons (t := 9) Look.eq (Sub.cons (t := 10) Look.eq (Sub.cons (t := 18) Look.eq (Sub.cons (t := 19) Look.eq (Sub.cons (t := 20) Look.eq (Sub.nil _)))))))))))) ?_
      refine KA.seq ?_
      refine KA.seq ?_
      refine KA.region rfl ?_
      refine KOps.move ?_
      refine KOps.move ?_
      refine KOps.shr (by first | omega | (simp only [List.length_append, List.length_singleton, List.length_set]; omega)) ?_
      refine KOps.bits (by simp) ?_
      refine KOps.eql ?_
      refine KOps.done ?_
      refine sqQ.normal ?_
      refine KA.sub (Sub.cons (t := 0) Look.eq (Sub.cons (t := 1) Look.eq (Sub.cons (t := 2) Look.eq (Sub.cons (t := 6) Look.eq (Sub.cons (t := 7) Look.eq (Sub.cons (t := 8) Look.eq (Sub.cons (t := 10) Look.eq (Sub.cons (t := 18) Look.eq (Sub.cons (t := 19) Look.eq (Sub.cons (t := 20) Look.eq (Sub.cons (t := 29) Look.eq (Sub.nil _)))))))))))) ?_
      refine KA.condD ?_ ?_
      · intro c29
        refine KA.exit ?_
        refine sqQ.exit ?_
        refine blQ.here ?_
        refine sqQ.normal ?_
        refine KA.sub (Sub.cons (t := 0) Look.eq (Sub.cons (t := 1) Look.eq (Sub.cons (t := 2) Look.eq (Sub.cons (t := 6) Look.eq (Sub.cons (t := 7) Look.eq (Sub.cons (t := 8) Look.eq (Sub.cons (t := 18) Look.eq (Sub.cons (t := 19) Look.eq (Sub.cons (t := 20) Look.eq (Sub.nil _)))))))))) ?_
        refine KA.region rfl ?_
        refine KOps.add (by first | omega | (simp only [List.length_append, List.length_singleton, List.length_set]; omega)) (by first | omega | (simp only [List.length_append, List.length_singleton, List.length_set]; omega)) ?_
        refine KOps.move ?_
        refine KOps.done ?_
        rw [if_neg (by rw [i64_and s (by omega) i (by omega)] at c29; cases hb : s.testBit i <;> simp_all)] at hsc
        exact lpQ.normal (i + 1, vr) (by repeat (first | exact Sub.nil _ | refine Sub.cons Look.eq ?_ | refine Sub.cons (Eq.trans Look.eq (congrArg (AV.int _) (by first | omega | (dsimp only; omega)))) ?_ | refine Sub.cons (Eq.trans Look.eq (congrArg AV.bool (by rw [hsc]))) ?_)) ⟨by dsimp only; omega, by dsimp only; rw [hsc]; exact hS⟩ (by dsimp only; omega)
      · intro c29
        refine KA.skip ?_
        refine sqQ.normal ?_
        refine KA.sub (Sub.cons (t := 0) Look.eq (Sub.cons (t := 1) Look.eq (Sub.cons (t := 2) Look.eq (Sub.cons (t := 6) Look.eq (Sub.cons (t := 7) Look.eq (Sub.cons (t := 8) Look.eq (Sub.cons (t := 10) Look.eq (Sub.cons (t := 18) Look.eq (Sub.cons (t := 19) Look.eq (Sub.cons (t := 20) Look.eq (Sub.nil _))))))))))) ?_
        refine KA.seq ?_
        refine KA.seq ?_
        refine KA.region rfl ?_
        refine KOps.move ?_
        refine KOps.lenI (hS.rd 0 rfl) ?_
        refine KOps.gtr ?_
        refine KOps.move ?_
        refine KOps.guardB (dj := 33) rfl rfl true false rfl ?_ ?_
        · intro g33
          have g33 := of_decide_eq_true g33
          have hne : rowT l s i ≠ [] := by intro he; rw [he] at g33; simp at g33
          refine KOps.move ?_
          refine KOps.guardYes (dj := 33) rfl rfl ?_
          refine KOps.move ?_
          refine KOps.guardYes (dj := 33) rfl rfl ?_
          refine KOps.move ?_
          refine KOps.guardYes (dj := 33) rfl rfl ?_
          refine KOps.lenI (hS.rd 0 rfl) ?_
          refine KOps.guardYes (dj := 33) rfl rfl ?_
          refine KOps.sub (by first | omega | (simp only [List.length_append, List.length_singleton, List.length_set]; omega)) (by first | omega | (simp only [List.length_append, List.length_singleton, List.length_set]; omega)) ?_
          refine KOps.guardYes (dj := 33) rfl rfl ?_
          refine KOps.indexIJ (hS.rd 0 rfl) (j := ((rowT l s i).length - 1)) (by first | omega | (simp only [List.length_append, List.length_singleton, List.length_set]; omega)) (by first | omega | (simp; omega)) ?_
          intro p39 hp39
          refine KOps.guardYes (dj := 33) rfl rfl ?_
          refine KOps.loadI hp39 (hS.rd 0 rfl) (by first | omega | (simp; omega)) ?_
          refine KOps.guardYes (dj := 33) rfl rfl ?_
          refine KOps.lss ?_
          refine KOps.guardYes (dj := 33) rfl rfl ?_
          refine KOps.move ?_
          refine KOps.guardYes (dj := 33) rfl rfl ?_
          refine KOps.neqB (by kernel_rfl) ?_
          refine KOps.pickT ?_
          refine KOps.done ?_
          refine sqQ.normal ?_
          refine KA.sub (Sub.cons (t := 0) Look.eq (Sub.cons (t := 1) Look.eq (Sub.cons (t := 2) Look.eq (Sub.cons (t := 6) Look.eq (Sub.cons (t := 7) Look.eq (Sub.cons (t := 8) Look.eq (Sub.cons (t := 10) Look.eq (Sub.cons (t := 18) Look.eq (Sub.cons (t := 19) Look.eq (Sub.cons (t := 20) Look.eq (Sub.cons (t := 34) Look.eq (Sub.cons (t := 35) Look.eq (Sub.cons (t := 36) Look.eq (Sub.cons (t := 37) Look.eq (Sub.cons (t := 38) Look.eq (Sub.cons (t := 39) Look.eq (Sub.cons (t := 40) Look.eq (Sub.cons (t := 41) Look.eq (Sub.cons (t := 42) Look.eq (Sub.cons (t := 43) Look.eq (Sub.cons (t := 44) Look.eq (Sub.nil _)))))))))))))))))))))) ?_
          refine KA.condB ?_ ?_
          · intro c44
            refine KA.region rfl ?_
            refine KOps.assign ?_
            refine KOps.done ?_
            refine sqQ.normal ?_
            refine KA.sub (Sub.cons (t := 0) Look.eq (Sub.cons (t := 1) Look.eq (Sub.cons (t := 2) Look.eq (Sub.cons (t := 6) Look.eq (Sub.cons (t := 7) Look.eq (Sub.cons (t := 8) Look.eq (Sub.cons (t := 10) Look.eq (Sub.cons (t := 18) Look.eq (Sub.cons (t := 19) Look.eq (Sub.cons (t := 20) Look.eq (Sub.cons (t := 34) Look.eq (Sub.cons (t := 35) Look.eq (Sub.cons (t := 36) Look.eq (Sub.cons (t := 37) Look.eq (Sub.cons (t := 38) Look.eq (Sub.cons (t := 39) Look.eq (Sub.cons (t := 40) Look.eq (Sub.cons (t := 41) Look.eq (Sub.cons (t := 42) Look.eq (Sub.cons (t := 43) Look.eq (Sub.nil _))))))))))))))))))))) ?_
            refine KA.region rfl ?_
            refine KOps.move ?_
            refine KOps.move ?_
            refine KOps.buildSlice hS rfl (by decide) rfl ?_
            intro v47 h' hS
            refine KOps.appendI hS (fun _ => rfl) (i := 0) rfl (by first | omega | (simp; omega)) ?_
            intro r48 h' hr48 hS
            refine KOps.assign ?_
            refine KOps.done ?_
            refine blQ.normal ?_
            refine sqQ.normal ?_
            refine KA.sub (Sub.cons (t := 0) Look.eq (Sub.cons (t := 1) Look.eq (Sub.cons (t := 2) Look.eq (Sub.cons (t := 6) Look.eq (Sub.cons (t := 7) Look.eq (Sub.cons (t := 8) Look.eq (Sub.cons (t := 18) Look.eq (Sub.cons (t := 19) Look.eq (Sub.cons (t := 20) Look.eq (Sub.cons (t := 34) Look.eq (Sub.cons (t := 35) Look.eq (Sub.cons (t := 36) Look.eq (Sub.cons (t := 37) Look.eq (Sub.cons (t := 38) Look.eq (Sub.cons (t := 39) Look.eq (Sub.cons (t := 40) Look.eq (Sub.cons (t := 41) Look.eq (Sub.cons (t := 42) Look.eq (Sub.cons (t := 43) Look.eq (Sub.nil _)))))))))))))))))))) ?_
            refine KA.region rfl ?_
            refine KOps.add (by first | omega | (simp only [List.length_append, List.length_singleton, List.length_set]; omega)) (by first | omega | (simp only [List.length_append, List.length_singleton, List.length_set]; omega)) ?_
            refine KOps.move ?_
            refine KOps.done ?_
            rw [if_pos (by rw [i64_and s (by omega) i (by omega)] at c29; cases hb : s.testBit i <;> simp_all)] at hsc
            have hok : runsB (rowT l s (i + 1)) f = false := by rw [hsc, runs_more hn (by omega) hne, show lastD (rowT l s i) = (rowT l s i).getD ((rowT l s i).length - 1) 0 from rfl, c44, Bool.not_true, Bool.and_false]
            exact lpQ.normal (i + 1, r48) (by repeat (first | exact Sub.nil _ | refine Sub.cons Look.eq ?_ | refine Sub.cons (Eq.trans Look.eq (congrArg (AV.int _) (by first | omega | (dsimp only; omega)))) ?_ | refine Sub.cons (Eq.trans Look.eq (congrArg AV.bool (by rw [hok]))) ?_)) ⟨by dsimp only; omega, by dsimp only; rw [hsc]; exact hS⟩ (by dsimp only; omega)
          · intro c44
            refine KA.skip ?_
            refine sqQ.normal ?_
            refine KA.sub (Sub.cons (t := 0) Look.eq (Sub.cons (t := 1) Look.eq (Sub.cons (t := 2) Look.eq (Sub.cons (t := 6) Look.eq (Sub.cons (t := 7) Look.eq (Sub.cons (t := 8) Look.eq (Sub.cons (t := 10) Look.eq (Sub.cons (t := 18) Look.eq (Sub.cons (t := 19) Look.eq (Sub.cons (t := 20) Look.eq (Sub.cons (t := 34) Look.eq (Sub.cons (t := 35) Look.eq (Sub.cons (t := 36) Look.eq (Sub.cons (t := 37) Look.eq (Sub.cons (t := 38) Look.eq (Sub.cons (t := 39) Look.eq (Sub.cons (t := 40) Look.eq (Sub.cons (t := 41) Look.eq (Sub.cons (t := 42) Look.eq (Sub.cons (t := 43) Look.eq (Sub.nil _))))))))))))))))))))) ?_
            refine KA.region rfl ?_
            refine KOps.move ?_
            refine KOps.move ?_
            refine KOps.buildSlice hS rfl (by decide) rfl ?_
            intro v47 h' hS
            refine KOps.appendI hS (fun _ => rfl) (i := 0) rfl (by first | omega | (simp; omega)) ?_
            intro r48 h' hr48 hS
            refine KOps.assign ?_
            refine KOps.done ?_
            refine blQ.normal ?_
            refine sqQ.normal ?_
            refine KA.sub (Sub.cons (t := 0) Look.eq (Sub.cons (t := 1) Look.eq (Sub.cons (t := 2) Look.eq (Sub.cons (t := 6) Look.eq (Sub.cons (t := 7) Look.eq (Sub.cons (t := 8) Look.eq (Sub.cons (t := 18) Look.eq (Sub.cons (t := 19) Look.eq (Sub.cons (t := 20) Look.eq (Sub.cons (t := 34) Look.eq (Sub.cons (t := 35) Look.eq (Sub.cons (t := 36) Look.eq (Sub.cons (t := 37) Look.eq (Sub.cons (t := 38) Look.eq (Sub.cons (t := 39) Look.eq (Sub.cons (t := 40) Look.eq (Sub.cons (t := 41) Look.eq (Sub.cons (t := 42) Look.eq (Sub.cons (t := 43) Look.eq (Sub.nil _)))))))))))))))))))) ?_
            refine KA.region rfl ?_
            refine KOps.add (by first | omega | (simp only [List.length_append, List.length_singleton, List.length_set]; omega)) (by first | omega | (simp only [List.length_append, List.length_singleton, List.length_set]; omega)) ?_
            refine KOps.move ?_
            refine KOps.done ?_
            rw [if_pos (by rw [i64_and s (by omega) i (by omega)] at c29; cases hb : s.testBit i <;> simp_all)] at hsc
            have hok : runsB (rowT l s (i + 1)) f = runsB (rowT l s i) f := by rw [hsc, runs_more hn (by omega) hne, show lastD (rowT l s i) = (rowT l s i).getD ((rowT l s i).length - 1) 0 from rfl, c44, Bool.not_false, Bool.and_true]
            exact lpQ.normal (i + 1, r48) (by repeat (first | exact Sub.nil _ | refine Sub.cons Look.eq ?_ | refine Sub.cons (Eq.trans Look.eq (congrArg (AV.int _) (by first | omega | (dsimp only; omega)))) ?_ | refine Sub.cons (Eq.trans Look.eq (congrArg AV.bool (by rw [hok]))) ?_)) ⟨by dsimp only; omega, by dsimp only; rw [hsc]; exact hS⟩ (by dsimp only; omega)
        · intro g33
          have g33 := of_decide_eq_false g33
          have hne : rowT l s i = [] := List.length_eq_zero_iff.1 (by omega)
          refine KOps.guardNo (dj := 33) rfl rfl rfl ?_
          refine KOps.guardNo (dj := 33) rfl rfl rfl ?_
          refine KOps.guardNo (dj := 33) rfl rfl rfl ?_
          refine KOps.guardNo (dj := 33) rfl rfl rfl ?_
          refine KOps.guardNo (dj := 33) rfl rfl rfl ?_
          refine KOps.guardNo (dj := 33) rfl rfl rfl ?_
          refine KOps.guardNo (dj := 33) rfl rfl rfl ?_
          refine KOps.guardNo (dj := 33) rfl rfl rfl ?_
          refine KOps.guardNo (dj := 33) rfl rfl rfl ?_
          refine KOps.pickF ?_
          refine KOps.done ?_
          refine sqQ.normal ?_
          refine KA.sub (Sub.cons (t := 0) Look.eq (Sub.cons (t := 1) Look.eq (Sub.cons (t := 2) Look.eq (Sub.cons (t := 6) Look.eq (Sub.cons (t := 7) Look.eq (Sub.cons (t := 8) Look.eq (Sub.cons (t := 10) Look.eq (Sub.cons (t := 18) Look.eq (Sub.cons (t := 19) Look.eq (Sub.cons (t := 20) Look.eq (Sub.cons (t := 34) Look.eq (Sub.cons (t := 35) Look.eq (Sub.cons (t := 36) Look.eq (Sub.cons (t := 37) Look.eq (Sub.cons (t := 38) Look.eq (Sub.cons (t := 39) Look.eq (Sub.cons (t := 40) Look.eq (Sub.cons (t := 41) Look.eq (Sub.cons (t := 42) Look.eq (Sub.cons (t := 43) Look.eq (Sub.cons (t := 44) Look.eq (Sub.nil _)))))))))))))))))))))) ?_
          refine KA.condF ?_
          refine KA.skip ?_
          refine sqQ.normal ?_
          refine KA.sub (Sub.cons (t := 0) Look.eq (Sub.cons (t := 1) Look.eq (Sub.cons (t := 2) Look.eq (Sub.cons (t := 6) Look.eq (Sub.cons (t := 7) Look.eq (Sub.cons (t := 8) Look.eq (Sub.cons (t := 10) Look.eq (Sub.cons (t := 18) Look.eq (Sub.cons (t := 19) Look.eq (Sub.cons (t := 20) Look.eq (Sub.cons (t := 34) Look.eq (Sub.cons (t := 35) Look.eq (Sub.cons (t := 36) Look.eq (Sub.cons (t := 37) Look.eq (Sub.cons (t := 38) Look.eq (Sub.cons (t := 39) Look.eq (Sub.cons (t := 40) Look.eq (Sub.cons (t := 41) Look.eq (Sub.cons (t := 42) Look.eq (Sub.cons (t := 43) Look.eq (Sub.nil _))))))))))))))))))))) ?_
          refine KA.region rfl ?_
          refine KOps.move ?_
          refine KOps.move ?_
          refine KOps.buildSlice hS rfl (by decide) rfl ?_
          intro v47 h' hS
          refine KOps.appendI hS (fun _ => rfl) (i := 0) rfl (by first | omega | (simp; omega)) ?_
          intro r48 h' hr48 hS
          refine KOps.assign ?_
          refine KOps.done ?_
          refine blQ.normal ?_
          refine sqQ.normal ?_
          refine KA.sub (Sub.cons (t := 0) Look.eq (Sub.cons (t := 1) Look.eq (Sub.cons (t := 2) Look.eq (Sub.cons (t := 6) Look.eq (Sub.cons (t := 7) Look.eq (Sub.cons (t := 8) Look.eq (Sub.cons (t := 18) Look.eq (Sub.cons (t := 19) Look.eq (Sub.cons (t := 20) Look.eq (Sub.cons (t := 34) Look.eq (Sub.cons (t := 35) Look.eq (Sub.cons (t := 36) Look.eq (Sub.cons (t := 37) Look.eq (Sub.cons (t := 38) Look.eq (Sub.cons (t := 39) Look.eq (Sub.cons (t := 40) Look.eq (Sub.cons (t := 41) Look.eq (Sub.cons (t := 42) Look.eq (Sub.cons (t := 43) Look.eq (Sub.nil _)))))))))))))))))))) ?_
          refine KA.region rfl ?_
          refine KOps.add (by first | omega | (simp only [List.length_append, List.length_singleton, List.length_set]; omega)) (by first | omega | (simp only [List.length_append, List.length_singleton, List.length_set]; omega)) ?_
          refine KOps.move ?_
          refine KOps.done ?_
          rw [if_pos (by rw [i64_and s (by omega) i (by omega)] at c29; cases hb : s.testBit i <;> simp_all)] at hsc
          have hok : runsB (rowT l s (i + 1)) f = runsB (rowT l s i) f := by rw [hsc, runs_first hne]
          exact lpQ.normal (i + 1, r48) (by repeat (first | exact Sub.nil _ | refine Sub.cons Look.eq ?_ | refine Sub.cons (Eq.trans Look.eq (congrArg (AV.int _) (by first | omega | (dsimp only; omega)))) ?_ | refine Sub.cons (Eq.trans Look.eq (congrArg AV.bool (by rw [hok]))) ?_)) ⟨by dsimp only; omega, by dsimp only; rw [hsc]; exact hS⟩ (by dsimp only; omega)
    · intro c21
      have hil : i = l.length := by omega
      subst hil
      refine KA.exit ?_
      refine sqQ.exit ?_
      refine lpQ.exit ?_
      refine blQ.here ?_
      refine sqQ.normal ?_
      refine KA.sub (Sub.cons (t := 0) Look.eq (Sub.cons (t := 1) Look.eq (Sub.cons (t := 2) Look.eq (Sub.cons (t := 6) Look.eq (Sub.cons (t := 7) Look.eq (Sub.cons (t := 8) Look.eq (Sub.nil _))))))) ?_
      refine KA.seq ?_
      refine KA.region rfl ?_
      refine KOps.move ?_
      refine KOps.done ?_
      refine sqQ.normal ?_
      refine KA.sub (Sub.cons (t := 0) Look.eq (Sub.cons (t := 1) Look.eq (Sub.cons (t := 2) Look.eq (Sub.cons (t := 6) Look.eq (Sub.cons (t := 7) Look.eq (Sub.cons (t := 50) Look.eq (Sub.nil _))))))) ?_
      refine KA.condB ?_ ?_
      · intro c50
        refine KA.region rfl ?_
        refine KOps.move ?_
        refine KOps.move ?_
        refine KOps.call rfl (hdo s _ F vr (by omega) c50 hP hS) ?_
        rintro _ h5 ⟨F2, hP2, hS2⟩
        refine KOps.done ?_
        refine blQ.normal ?_
        refine sqQ.normal ?_
        refine KA.sub (Sub.cons (t := 0) Look.eq (Sub.cons (t := 1) Look.eq (Sub.cons (t := 2) Look.eq (Sub.cons (t := 6) Look.eq (Sub.nil _))))) ?_
        refine KA.region rfl ?_
        refine KOps.move ?_
        refine KOps.add (by first | omega | (simp only [List.length_append, List.length_singleton, List.length_set]; omega)) (by first | omega | (simp only [List.length_append, List.length_singleton, List.length_set]; omega)) ?_
        refine KOps.assign ?_
        refine KOps.done ?_
        exact lpQ.normal (s + 1, F2) (by repeat (first | exact Sub.nil _ | refine Sub.cons Look.eq ?_ | refine Sub.cons (Eq.trans Look.eq (congrArg (AV.int _) (by first | omega | (dsimp only; omega)))) ?_)) ⟨by dsimp only; omega, hP2, hS2⟩ (by dsimp only; omega)
      · intro c50
        refine KA.skip ?_
        refine blQ.normal ?_
        refine sqQ.normal ?_
        refine KA.sub (Sub.cons (t := 0) Look.eq (Sub.cons (t := 1) Look.eq (Sub.cons (t := 2) Look.eq (Sub.cons (t := 6) Look.eq (Sub.nil _))))) ?_
        refine KA.region rfl ?_
        refine KOps.move ?_
        refine KOps.add (by first | omega | (simp only [List.length_append, List.length_singleton, List.length_set]; omega)) (by first | omega | (simp only [List.length_append, List.length_singleton, List.length_set]; omega)) ?_
        refine KOps.assign ?_
        refine KOps.done ?_
        exact lpQ.normal (s + 1, F) (by repeat (first | exact Sub.nil _ | refine Sub.cons Look.eq ?_ | refine Sub.cons (Eq.trans Look.eq (congrArg (AV.int _) (by first | omega | (dsimp only; omega)))) ?_)) ⟨by dsimp only; omega, hskip s F (by omega) c50 hP, St.tail hS⟩ (by dsimp only; omega)
  · intro c15
    refine KA.exit ?_
    refine sqQ.exit ?_
    refine lpQ.exit ?_
    refine blQ.here ?_
    refine fnQ.norm0 ?_
    have he : s = 2 ^ l.length := by omega
    subst he
    exact ⟨F, hP, hS⟩

theorem longestL_c {h : AHeap} {v : AV} {l : List Int} {f : Bool} (hv : Row h v l) (hlen : l.length ≤ 9) (hn : l.Nodup) : ACalls Go.Proofs.Try.prog 56 [v, .bool f] h (fun r h' => St h h' [⟨r, 1, ints (bestOf l f), true⟩]) := by
  refine KA.fn 11 [.tmp 4] Go.Proofs.Try.func56 rfl (by decide) rfl rfl (Nat.le_of_ble_eq_true rfl) ?_
  have hS := St.refl h
  show KA _ 11 _ _ [(0, v), (1, .bool f)] _
  refine KA.seq ?_
  refine KA.region rfl ?_
  refine KOps.assign ?_
  refine KOps.done ?_
  refine sqQ.normal ?_
  refine KA.sub (Sub.cons (t := 0) Look.eq (Sub.cons (t := 1) Look.eq (Sub.nil _))) ?_
  refine KA.seq ?_
  refine KA.region rfl ?_
  refine KOps.alloc hS ?_
  intro p5 h1 hp5 hS
  refine KOps.done ?_
  refine sqQ.normal ?_
  refine KA.seq ?_
  refine KA.region rfl ?_
  refine KOps.move ?_
  refine KOps.move ?_
  refine KOps.makeFunc ?_
  refine KOps.call rfl (rows_c (P := (fun s F => ∃ vb, F = [⟨p5, 0, [vb], true⟩, ⟨vb, 1, ints (bestTo l f s), true⟩])) hv hlen hn (St.perm (List.Perm.swap _ _ _) (St.nil hS 1)) ⟨_, rfl⟩ ?hdo ?hskip) ?_
  case hdo =>
    rintro s h3 F u hs hr ⟨vb, rfl⟩ hS3
    have hb1 := bestTo_len l f s
    have hb2 : (rowS l s).length ≤ l.length := rowT_len l s _
    refine (longest1_c hp5 hS3 (by omega) (by omega)).mono ?_
    rintro _ h4 ⟨vb2, hS4⟩
    refine ⟨_, ⟨vb2, rfl⟩, ?_⟩
    rw [bestTo_succ, hr, Bool.true_and]
    exact hS4
  case hskip =>
    rintro s F hs hr ⟨vb, rfl⟩
    refine ⟨vb, ?_⟩
    rw [bestTo_succ, hr, Bool.false_and, if_neg Bool.false_ne_true]
  rintro _ h5 ⟨_, ⟨vb, rfl⟩, hS⟩
  refine KOps.done ?_
  refine sqQ.normal ?_
  refine KA.sub (Sub.cons (t := 5) Look.eq (Sub.nil _)) ?_
  refine KA.seq ?_
  refine KA.region rfl ?_
  refine KOps.loadBox hS (i := 0) rfl hp5 ?_
  refine KOps.assign ?_
  refine KOps.done ?_
  refine sqQ.normal ?_
  refine KA.sub (Sub.cons (t := 4) Look.eq (Sub.nil _)) ?_
  refine KA.ret ?_
  refine fnQ.ret1 ?_
  exact St.pick [1] (by decide) rfl hS

end Go.Am
