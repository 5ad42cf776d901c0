/-
  Layer 08: contracts: words that can be read short as one.
  Conditions: none.
-/
import Derived.Test.YtfoiccnlcheklaaDoorWn
import Derived.Test.YtfoiccnlcheklaaDoorCf
import Derived.Test.YtfoiccnlcheklaaDoorWb
import Derived.Test.YtfoiccnlcheklaaDoorCa
import Derived.Test.YtfoiccnlcheklaaDoorRows
import Derived.MakeChecks
namespace Go.Am

theorem words_k {h : AHeap} {a : Int} {n : Nat} (ha : a = (n : Int)) (hn : n ≤ 11) : ACalls Go.Proofs.Tryd.prog 52 [.int .i64 a] h (fun v h' => St h h' [⟨v, 1, wcs (allW n), true⟩]) := by
  subst ha
  exact words_c hn
theorem shared_c {h : AHeap} {va vb : AV} {l m : List (List Bool)} (ha : WRow h va l) (hb : WRow h vb m) (hn : l.length ≤ 4096) (hm : m.length ≤ 4096) (hs : Asc m) : ACalls Go.Proofs.Tryd.prog 63 [va, vb] h (fun q h' => q = .tup [.str (wd (((l.find? fun x => decide (x ∈ m))).getD [])), .bool ((l.find? fun x => decide (x ∈ m))).isSome] ∧ h = h') := by
  refine KA.fn 25 [.tmp 4, .tmp 5] Go.Proofs.Tryd.func63 rfl (by decide) rfl rfl (Nat.le_of_ble_eq_true rfl) ?_
  show KA _ 25 _ _ [(0, va), (1, vb)] _
  refine KA.seq ?_
  refine KA.region rfl ?_
  refine KOps.assign ?_
  refine KOps.assign ?_
  refine KOps.done ?_
  refine sqQ.normal ?_
  refine KA.sub (Sub.cons (t := 0) Look.eq (Sub.cons (t := 1) Look.eq (Sub.nil _))) ?_
  refine KA.seq ?_
  refine KA.seq ?_
  refine KA.region rfl ?_
  refine KOps.move ?_
  refine KOps.lenI ha ?_
  refine KOps.move ?_
  refine KOps.done ?_
  refine sqQ.normal ?_
  refine KA.sub (Sub.cons (t := 1) Look.eq (Sub.cons (t := 10) Look.eq (Sub.cons (t := 11) Look.eq (Sub.cons (t := 12) Look.eq (Sub.nil _))))) ?_
  refine KA.block ?_
  refine KA.loop (X := Nat) (fun i => [(1, vb), (10, va), (11, .int .i64 (l.length : Int)), (12, .int .i64 (i : Int))]) (fun i h' => i ≤ l.length ∧ (∀ j, j < i → ¬ decide (l.getD j [] ∈ m) = true) ∧ h = h') (fun i => l.length - i) 0 (by repeat (first | exact Sub.nil _ | refine Sub.cons Look.eq ?_ | refine Sub.cons (Eq.trans Look.eq (congrArg (AV.int _) (by first | omega | (dsimp only; omega)))) ?_)) ?_ ?_
  · exact ⟨Nat.zero_le _, fun j hj => absurd hj (Nat.not_lt_zero _), rfl⟩
  rintro i h2 ⟨hi, hno, rfl⟩
  refine KA.seq ?_
  refine KA.region rfl ?_
  refine KOps.lss ?_
  refine KOps.done ?_
  refine sqQ.normal ?_
  refine KA.seq ?_
  refine KA.condD ?_ ?_
  · intro c13
    refine KA.skip ?_
    refine sqQ.normal ?_
    refine KA.sub (Sub.cons (t := 1) Look.eq (Sub.cons (t := 10) Look.eq (Sub.cons (t := 11) Look.eq (Sub.cons (t := 12) Look.eq (Sub.nil _))))) ?_
    refine KA.seq ?_
    refine KA.block ?_
    refine KA.seq ?_
    refine KA.region rfl ?_
    refine KOps.indexIJ ha (j := i) rfl (by first | omega | (simp; done) | (simp; omega)) ?_
    intro p14 hp14
    refine KOps.loadW hp14 ha (by first | omega | (simp; done) | (simp; omega)) ?_
    refine KOps.assign ?_
    refine KOps.done ?_
    refine sqQ.normal ?_
    refine KA.sub (Sub.cons (t := 1) Look.eq (Sub.cons (t := 7) Look.eq (Sub.cons (t := 10) Look.eq (Sub.cons (t := 11) Look.eq (Sub.cons (t := 12) Look.eq (Sub.nil _)))))) ?_
    refine KA.seq ?_
    refine KA.region rfl ?_
    refine KOps.move ?_
    refine KOps.move ?_
    refine KOps.call rfl (search_c hb (by omega) hs) ?_
    rintro _ _ ⟨⟨j, rfl⟩, rfl⟩
    refine KOps.move ?_
    refine KOps.extract ?_
    refine KOps.extract ?_
    refine KOps.assign ?_
    refine KOps.assign ?_
    refine KOps.done ?_
    refine sqQ.normal ?_
    refine KA.sub (Sub.cons (t := 1) Look.eq (Sub.cons (t := 7) Look.eq (Sub.cons (t := 9) Look.eq (Sub.cons (t := 10) Look.eq (Sub.cons (t := 11) Look.eq (Sub.cons (t := 12) Look.eq (Sub.nil _))))))) ?_
    refine KA.seq ?_
    refine KA.region rfl ?_
    refine KOps.move ?_
    refine KOps.done ?_
    refine sqQ.normal ?_
    refine KA.sub (Sub.cons (t := 1) Look.eq (Sub.cons (t := 7) Look.eq (Sub.cons (t := 10) Look.eq (Sub.cons (t := 11) Look.eq (Sub.cons (t := 12) Look.eq (Sub.cons (t := 22) Look.eq (Sub.nil _))))))) ?_
    refine KA.condD ?_ ?_
    · intro c22
      refine KA.seq ?_
      refine KA.region rfl ?_
      refine KOps.move ?_
      refine KOps.assign ?_
      refine KOps.assign ?_
      refine KOps.done ?_
      refine sqQ.normal ?_
      refine KA.sub (Sub.cons (t := 4) Look.eq (Sub.cons (t := 5) Look.eq (Sub.nil _))) ?_
      refine KA.ret ?_
      refine blQ.ret ?_
      refine sqQ.ret ?_
      refine lpQ.ret ?_
      refine blQ.ret ?_
      refine sqQ.ret ?_
      refine fnQ.retN ?_
      have hf := find_take (l := l) (p := fun x => decide (x ∈ m)) (by omega) hno (decide_eq_true c22)
      exact ⟨by rw [hf]; rfl, rfl⟩
    · intro c22
      refine KA.skip ?_
      refine blQ.normal ?_
      refine sqQ.normal ?_
      refine KA.sub (Sub.cons (t := 1) Look.eq (Sub.cons (t := 10) Look.eq (Sub.cons (t := 11) Look.eq (Sub.cons (t := 12) Look.eq (Sub.nil _))))) ?_
      refine KA.region rfl ?_
      refine KOps.add (by first | omega | (simp; omega)) (by first | omega | (simp; omega)) ?_
      refine KOps.move ?_
      refine KOps.done ?_
      exact lpQ.normal (i + 1) (by repeat (first | exact Sub.nil _ | refine Sub.cons Look.eq ?_ | refine Sub.cons (Eq.trans Look.eq (congrArg (AV.int _) (by first | omega | (dsimp only; omega)))) ?_)) ⟨by omega, fun j hj => by
        rcases Nat.lt_succ_iff_lt_or_eq.1 hj with h | rfl
        · exact hno j h
        · rw [decide_eq_false c22]; decide, rfl⟩ (by omega)
  · intro c13
    refine KA.exit ?_
    refine sqQ.exit ?_
    refine lpQ.exit ?_
    refine blQ.here ?_
    refine sqQ.normal ?_
    refine KA.sub (Sub.nil _) ?_
    refine KA.seq ?_
    refine KA.region rfl ?_
    refine KOps.assign ?_
    refine KOps.assign ?_
    refine KOps.done ?_
    refine sqQ.normal ?_
    refine KA.ret ?_
    refine fnQ.retN ?_
    have hf := find_none (l := l) (p := fun x => decide (x ∈ m)) (fun j hj => hno j (by omega))
    exact ⟨by rw [hf]; rfl, rfl⟩

theorem refcom_c {h : AHeap} {a b : List Bool} (ha : a.length ≤ 10) (hb : b.length ≤ 10) (h0 : 0 < a.length) : ACalls Go.Proofs.Tryd.prog 64 [.str (wd a), .str (wd b)] h (fun q h' => q = .tup [.str (wd ((comW a b).getD [])), .bool (comW a b).isSome] ∧ Keeps h h') := by
  refine KA.fn 36 [.tmp 4, .tmp 5] Go.Proofs.Tryd.func64 rfl (by decide) rfl rfl (Nat.le_of_ble_eq_true rfl) ?_
  have hS := St.refl h
  have hsm := allW_small (n := a.length - 1) (by omega)
  show KA _ 36 _ _ [(0, .str (wd a)), (1, .str (wd b))] _
  refine KA.seq ?_
  refine KA.region rfl ?_
  refine KOps.assign ?_
  refine KOps.assign ?_
  refine KOps.done ?_
  refine sqQ.normal ?_
  refine KA.sub (Sub.cons (t := 0) Look.eq (Sub.cons (t := 1) Look.eq (Sub.nil _))) ?_
  refine KA.seq ?_
  refine KA.region rfl ?_
  refine KOps.move ?_
  refine KOps.lenW ?_
  refine KOps.sub (by first | omega | (simp; omega)) (by first | omega | (simp; omega)) ?_
  refine KOps.call rfl (words_k (n := a.length - 1) (by omega) (by omega)) ?_
  rintro v11 h11 hS11
  have hS0 : St _ _ (_ :: _) := St.trans hS hS11
  clear hS
  have hS := hS0
  clear hS0
  refine KOps.assign ?_
  refine KOps.done ?_
  refine sqQ.normal ?_
  refine KA.sub (Sub.cons (t := 0) Look.eq (Sub.cons (t := 1) Look.eq (Sub.cons (t := 6) Look.eq (Sub.nil _)))) ?_
  refine KA.seq ?_
  refine KA.seq ?_
  refine KA.region rfl ?_
  refine KOps.assign ?_
  refine KOps.done ?_
  refine sqQ.normal ?_
  refine KA.block ?_
  refine KA.loop (X := Nat) (fun i => [(0, .str (wd a)), (1, .str (wd b)), (6, v11), (7, .int .i64 (i : Int))]) (fun i h' => i ≤ (allW (a.length - 1)).length ∧ (∀ j, j < i → ¬ (fun x => isDel a x && isDel b x) ((allW (a.length - 1)).getD j []) = true) ∧ St h h' [⟨v11, 1, wcs (allW (a.length - 1)), true⟩]) (fun i => (allW (a.length - 1)).length - i) 0 (by repeat (first | exact Sub.nil _ | refine Sub.cons Look.eq ?_ | refine Sub.cons (Eq.trans Look.eq (congrArg (AV.int _) (by first | omega | (dsimp only; omega)))) ?_)) ?_ ?_
  · exact ⟨Nat.zero_le _, fun j hj => absurd hj (Nat.not_lt_zero _), hS⟩
  rintro i h3 ⟨hi, hno, hS⟩
  refine KA.seq ?_
  refine KA.seq ?_
  refine KA.region rfl ?_
  refine KOps.move ?_
  refine KOps.move ?_
  refine KOps.lenI (hS.rd 0 rfl) ?_
  refine KOps.lss ?_
  refine KOps.done ?_
  refine sqQ.normal ?_
  refine KA.sub (Sub.cons (t := 0) Look.eq (Sub.cons (t := 1) Look.eq (Sub.cons (t := 6) Look.eq (Sub.cons (t := 7) Look.eq (Sub.cons (t := 15) Look.eq (Sub.nil _)))))) ?_
  refine KA.condD ?_ ?_
  · intro c15
    refine KA.skip ?_
    refine sqQ.normal ?_
    refine KA.sub (Sub.cons (t := 0) Look.eq (Sub.cons (t := 1) Look.eq (Sub.cons (t := 6) Look.eq (Sub.cons (t := 7) Look.eq (Sub.nil _))))) ?_
    refine KA.seq ?_
    refine KA.block ?_
    refine KA.seq ?_
    refine KA.region rfl ?_
    refine KOps.move ?_
    refine KOps.move ?_
    refine KOps.move ?_
    refine KOps.indexIJ (hS.rd 0 rfl) (j := i) rfl (by first | omega | (simp; done) | (simp; omega)) ?_
    intro p21 hp21
    refine KOps.loadW hp21 (hS.rd 0 rfl) (by first | omega | (simp; done) | (simp; omega)) ?_
    refine KOps.call rfl (short_c (by omega)) ?_
    rintro _ _ ⟨rfl, rfl⟩
    refine KOps.move ?_
    refine KOps.guardB (dj := 24) rfl rfl true false rfl ?_ ?_
    · intro g24
      refine KOps.move ?_
      refine KOps.guardYes (dj := 24) rfl rfl ?_
      refine KOps.move ?_
      refine KOps.guardYes (dj := 24) rfl rfl ?_
      refine KOps.move ?_
      refine KOps.guardYes (dj := 24) rfl rfl ?_
      refine KOps.indexIJ (hS.rd 0 rfl) (j := i) rfl (by first | omega | (simp; done) | (simp; omega)) ?_
      intro p28 hp28
      refine KOps.guardYes (dj := 24) rfl rfl ?_
      refine KOps.loadW hp28 (hS.rd 0 rfl) (by first | omega | (simp; done) | (simp; omega)) ?_
      refine KOps.guardYes (dj := 24) rfl rfl ?_
      refine KOps.call rfl (short_c (by omega)) ?_
      rintro _ _ ⟨rfl, rfl⟩
      refine KOps.pickT ?_
      refine KOps.done ?_
      refine sqQ.normal ?_
      refine KA.sub (Sub.cons (t := 0) Look.eq (Sub.cons (t := 1) Look.eq (Sub.cons (t := 6) Look.eq (Sub.cons (t := 7) Look.eq (Sub.cons (t := 25) Look.eq (Sub.cons (t := 26) Look.eq (Sub.cons (t := 27) Look.eq (Sub.cons (t := 28) Look.eq (Sub.cons (t := 29) Look.eq (Sub.cons (t := 30) Look.eq (Sub.cons (t := 31) Look.eq (Sub.nil _)))))))))))) ?_
      refine KA.condB ?_ ?_
      · intro c31
        refine KA.seq ?_
        refine KA.region rfl ?_
        refine KOps.move ?_
        refine KOps.move ?_
        refine KOps.indexIJ (hS.rd 0 rfl) (j := i) rfl (by first | omega | (simp; done) | (simp; omega)) ?_
        intro p34 hp34
        refine KOps.loadW hp34 (hS.rd 0 rfl) (by first | omega | (simp; done) | (simp; omega)) ?_
        refine KOps.assign ?_
        refine KOps.assign ?_
        refine KOps.done ?_
        refine sqQ.normal ?_
        refine KA.sub (Sub.cons (t := 4) Look.eq (Sub.cons (t := 5) Look.eq (Sub.nil _))) ?_
        refine KA.ret ?_
        refine blQ.ret ?_
        refine sqQ.ret ?_
        refine lpQ.ret ?_
        refine blQ.ret ?_
        refine sqQ.ret ?_
        refine fnQ.retN ?_
        have hf : comW a b = some _ := find_take (p := (fun x => isDel a x && isDel b x)) (by omega) hno (Bool.and_eq_true_iff.2 ⟨g24, c31⟩)
        exact ⟨by rw [hf]; rfl, hS.keeps⟩
      · intro c31
        refine KA.skip ?_
        refine blQ.normal ?_
        refine sqQ.normal ?_
        refine KA.sub (Sub.cons (t := 0) Look.eq (Sub.cons (t := 1) Look.eq (Sub.cons (t := 6) Look.eq (Sub.cons (t := 7) Look.eq (Sub.cons (t := 25) Look.eq (Sub.cons (t := 26) Look.eq (Sub.cons (t := 27) Look.eq (Sub.cons (t := 28) Look.eq (Sub.cons (t := 29) Look.eq (Sub.cons (t := 30) Look.eq (Sub.nil _))))))))))) ?_
        refine KA.region rfl ?_
        refine KOps.move ?_
        refine KOps.add (by first | omega | (simp; omega)) (by first | omega | (simp; omega)) ?_
        refine KOps.assign ?_
        refine KOps.done ?_
        exact lpQ.normal (i + 1) (by repeat (first | exact Sub.nil _ | refine Sub.cons Look.eq ?_ | refine Sub.cons (Eq.trans Look.eq (congrArg (AV.int _) (by first | omega | (dsimp only; omega)))) ?_)) ⟨by omega, fun j hj => by
          rcases Nat.lt_succ_iff_lt_or_eq.1 hj with h | rfl
          · exact hno j h
          · exact fun hq => absurd ((Bool.and_eq_true_iff.1 hq).2) (by rw [c31]; decide), hS⟩ (by omega)
    · intro g24
      refine KOps.guardNo (dj := 24) rfl rfl rfl ?_
      refine KOps.guardNo (dj := 24) rfl rfl rfl ?_
      refine KOps.guardNo (dj := 24) rfl rfl rfl ?_
      refine KOps.guardNo (dj := 24) rfl rfl rfl ?_
      refine KOps.guardNo (dj := 24) rfl rfl rfl ?_
      refine KOps.pickF ?_
      refine KOps.done ?_
      refine sqQ.normal ?_
      refine KA.sub (Sub.cons (t := 0) Look.eq (Sub.cons (t := 1) Look.eq (Sub.cons (t := 6) Look.eq (Sub.cons (t := 7) Look.eq (Sub.cons (t := 25) Look.eq (Sub.cons (t := 26) Look.eq (Sub.cons (t := 27) Look.eq (Sub.cons (t := 28) Look.eq (Sub.cons (t := 29) Look.eq (Sub.cons (t := 30) Look.eq (Sub.cons (t := 31) Look.eq (Sub.nil _)))))))))))) ?_
      refine KA.condF ?_
      refine KA.skip ?_
      refine blQ.normal ?_
      refine sqQ.normal ?_
      refine KA.sub (Sub.cons (t := 0) Look.eq (Sub.cons (t := 1) Look.eq (Sub.cons (t := 6) Look.eq (Sub.cons (t := 7) Look.eq (Sub.cons (t := 25) Look.eq (Sub.cons (t := 26) Look.eq (Sub.cons (t := 27) Look.eq (Sub.cons (t := 28) Look.eq (Sub.cons (t := 29) Look.eq (Sub.cons (t := 30) Look.eq (Sub.nil _))))))))))) ?_
      refine KA.region rfl ?_
      refine KOps.move ?_
      refine KOps.add (by first | omega | (simp; omega)) (by first | omega | (simp; omega)) ?_
      refine KOps.assign ?_
      refine KOps.done ?_
      exact lpQ.normal (i + 1) (by repeat (first | exact Sub.nil _ | refine Sub.cons Look.eq ?_ | refine Sub.cons (Eq.trans Look.eq (congrArg (AV.int _) (by first | omega | (dsimp only; omega)))) ?_)) ⟨by omega, fun j hj => by
        rcases Nat.lt_succ_iff_lt_or_eq.1 hj with h | rfl
        · exact hno j h
        · exact fun hq => absurd ((Bool.and_eq_true_iff.1 hq).1) (by rw [g24]; decide), hS⟩ (by omega)
  · intro c15
    refine KA.exit ?_
    refine sqQ.exit ?_
    refine lpQ.exit ?_
    refine blQ.here ?_
    refine sqQ.normal ?_
    refine KA.sub (Sub.nil _) ?_
    refine KA.seq ?_
    refine KA.region rfl ?_
    refine KOps.assign ?_
    refine KOps.assign ?_
    refine KOps.done ?_
    refine sqQ.normal ?_
    refine KA.ret ?_
    refine fnQ.retN ?_
    have hf : comW a b = none := find_none (p := (fun x => isDel a x && isDel b x)) (fun j hj => hno j (by omega))
    exact ⟨by rw [hf]; rfl, hS.keeps⟩

theorem refcomF_c {h : AHeap} {a b : List Bool} (ha : a.length ≤ 10) (hb : b.length ≤ 10) (h0 : 0 < a.length) : ACalls Go.Proofs.Tryd.prog 64 [.str (wd a), .str (wd b)] h (fun q h' => q = .tup [.str (wd ((comW a b).getD [])), .bool (comW a b).isSome] ∧ h = h') := ACalls.free (refcom_c ha hb h0) rfl rfl h
theorem sharedW_c {h : AHeap} {va vb : AV} {a b : List Bool} (ha : WRow h va (shortW a)) (hb : WRow h vb (shortW b)) (hla : a.length ≤ 10) (hlb : b.length ≤ 10) : ACalls Go.Proofs.Tryd.prog 63 [va, vb] h (fun q h' => q = .tup [.str (wd ((comW a b).getD [])), .bool (comW a b).isSome] ∧ h = h') := by
  have h1 := shortW_len a
  have h2 := shortW_len b
  have p1 : 2 ^ (a.length - 1) ≤ 2 ^ 10 := Nat.pow_le_pow_right (by decide) (by omega)
  have p2 : 2 ^ (b.length - 1) ≤ 2 ^ 10 := Nat.pow_le_pow_right (by decide) (by omega)
  have hc := shared_c ha hb (by omega) (by omega) (shortW_asc b)
  rw [com_find] at hc
  exact hc
theorem comP_c {h : AHeap} {a b : ByteArray} : ACalls Go.Proofs.Tryd.prog 33 [.str a, .str b] h (fun q h' => q = .tup [.str (wd (comS a b)), .int .i64 (comE a b)] ∧ Keeps h h') := by
  refine KA.fn 44 [.tmp 4, .tmp 5] Go.Proofs.Tryd.func33 rfl (by decide) rfl rfl (Nat.le_of_ble_eq_true rfl) ?_
  have hS := St.refl h
  show KA _ 44 _ _ [(0, .str a), (1, .str b)] _
  refine KA.seq ?_
  refine KA.region rfl ?_
  refine KOps.assign ?_
  refine KOps.assign ?_
  refine KOps.done ?_
  refine sqQ.normal ?_
  refine KA.sub (Sub.cons (t := 0) Look.eq (Sub.cons (t := 1) Look.eq (Sub.nil _))) ?_
  refine KA.seq ?_
  refine KA.region rfl ?_
  refine KOps.move ?_
  refine KOps.call rfl (checkF_c) ?_
  rintro _ _ ⟨rfl, rfl⟩
  refine KOps.assign ?_
  refine KOps.done ?_
  refine sqQ.normal ?_
  refine KA.sub (Sub.cons (t := 0) Look.eq (Sub.cons (t := 1) Look.eq (Sub.cons (t := 6) Look.eq (Sub.nil _)))) ?_
  refine KA.meet (X := Int) (fun x => [(0, .str a), (1, .str b), (6, .int .i64 x)]) (fun x h' => x = chk2 a b ∧ St h h' []) ?_ ?_
  ·
    refine KA.seq ?_
    refine KA.region rfl ?_
    refine KOps.move ?_
    refine KOps.eql ?_
    refine KOps.done ?_
    refine sqQ.normal ?_
    refine KA.sub (Sub.cons (t := 0) Look.eq (Sub.cons (t := 1) Look.eq (Sub.cons (t := 6) Look.eq (Sub.cons (t := 12) Look.eq (Sub.nil _))))) ?_
    refine KA.condD ?_ ?_
    · intro c12
      refine KA.region rfl ?_
      refine KOps.move ?_
      refine KOps.call rfl (checkF_c) ?_
      rintro _ _ ⟨rfl, rfl⟩
      refine KOps.assign ?_
      refine KOps.done ?_
      exact mtQ.normal (chkS b) (by repeat (first | exact Sub.nil _ | refine Sub.cons Look.eq ?_ | refine Sub.cons (Eq.trans Look.eq (congrArg (AV.int _) (by first | omega | (dsimp only; omega)))) ?_)) ⟨by rw [chk2, if_pos c12], hS⟩
    · intro c12
      refine KA.skip ?_
      exact mtQ.normal (chkS a) (by repeat (first | exact Sub.nil _ | refine Sub.cons Look.eq ?_ | refine Sub.cons (Eq.trans Look.eq (congrArg (AV.int _) (by first | omega | (dsimp only; omega)))) ?_)) ⟨by rw [chk2, if_neg c12], hS⟩
  ·
    rintro e h2 ⟨rfl, hS⟩
    refine KA.seq ?_
    refine KA.block ?_
    refine KA.seq ?_
    refine KA.region rfl ?_
    refine KOps.move ?_
    refine KOps.neq ?_
    refine KOps.assign ?_
    refine KOps.done ?_
    refine sqQ.normal ?_
    refine KA.sub (Sub.cons (t := 0) Look.eq (Sub.cons (t := 1) Look.eq (Sub.cons (t := 6) Look.eq (Sub.cons (t := 15) Look.eq (Sub.nil _))))) ?_
    refine KA.condN ?_ ?_
    · intro c15
      refine KA.seq ?_
      refine KA.region rfl ?_
      refine KOps.move ?_
      refine KOps.assign ?_
      refine KOps.assign ?_
      refine KOps.done ?_
      refine sqQ.normal ?_
      refine KA.sub (Sub.cons (t := 4) Look.eq (Sub.cons (t := 5) Look.eq (Sub.nil _))) ?_
      refine KA.ret ?_
      refine blQ.ret ?_
      refine sqQ.ret ?_
      refine fnQ.retN ?_
      have hE1 := comE1_ne c15
      have hE2 : comE2 a b = chk2 a b := by rw [comE2_ne (by rw [hE1]; exact c15), hE1]
      have hE := comE_ne (a := a) (b := b) (by rw [hE2]; exact c15)
      exact ⟨by rw [hE.1, hE.2, hE2], hS.keeps⟩
    · intro c15
      obtain ⟨l, m, rfl, rfl, hl, hm⟩ := chk2_zero c15
      have hE1 := comE1_wd hl hm
      refine KA.seq ?_
      refine KA.region rfl ?_
      refine KOps.move ?_
      refine KOps.lenW ?_
      refine KOps.move ?_
      refine KOps.lenW ?_
      refine KOps.neq ?_
      refine KOps.move ?_
      refine KOps.guardB (dj := 25) rfl rfl false true rfl ?_ ?_
      · intro g25
        have g25 := of_not_decide g25
        refine KOps.move ?_
        refine KOps.guardYes (dj := 25) rfl rfl ?_
        refine KOps.wEql ?_
        refine KOps.pickF ?_
        refine KOps.assign ?_
        refine KOps.done ?_
        refine sqQ.normal ?_
        refine KA.sub (Sub.cons (t := 0) Look.eq (Sub.cons (t := 1) Look.eq (Sub.cons (t := 19) Look.eq (Sub.nil _)))) ?_
        refine KA.condD ?_ ?_
        · intro c19
          have hE5 : comE1 (wd l) (wd m) = 5 := by rw [hE1, if_neg (fun q => by first | omega | exact q.2 (by assumption))]
          refine KA.seq ?_
          refine KA.region rfl ?_
          refine KOps.assign ?_
          refine KOps.assign ?_
          refine KOps.done ?_
          refine sqQ.normal ?_
          refine KA.sub (Sub.cons (t := 4) Look.eq (Sub.cons (t := 5) Look.eq (Sub.nil _))) ?_
          refine KA.ret ?_
          refine blQ.ret ?_
          refine sqQ.ret ?_
          refine fnQ.retN ?_
          have hE2 := comE2_ne (a := wd l) (b := wd m) (by rw [hE5]; decide)
          have hE := comE_ne (a := wd l) (b := wd m) (by rw [hE2, hE5]; decide)
          exact ⟨by rw [hE.1, hE.2, hE2, hE5], hS.keeps⟩
        · intro c19
          have h1 : l.length = m.length := by omega
          have h2 : l ≠ [] := by assumption
          have hE0 : comE1 (wd l) (wd m) = 0 := by rw [hE1, if_pos ⟨h1, h2⟩]
          have hE2 := comE2_wd hE0
          have hl0 : 0 < l.length := List.length_pos_iff.2 h2
          refine KA.seq ?_
          refine KA.region rfl ?_
          refine KOps.move ?_
          refine KOps.move ?_
          refine KOps.wEql ?_
          refine KOps.assign ?_
          refine KOps.done ?_
          refine sqQ.normal ?_
          refine KA.sub (Sub.cons (t := 0) Look.eq (Sub.cons (t := 1) Look.eq (Sub.cons (t := 29) Look.eq (Sub.nil _)))) ?_
          refine KA.condD ?_ ?_
          · intro c29
            rw [if_pos c29] at hE2
            refine KA.seq ?_
            refine KA.region rfl ?_
            refine KOps.assign ?_
            refine KOps.assign ?_
            refine KOps.done ?_
            refine sqQ.normal ?_
            refine KA.sub (Sub.cons (t := 4) Look.eq (Sub.cons (t := 5) Look.eq (Sub.nil _))) ?_
            refine KA.ret ?_
            refine blQ.ret ?_
            refine sqQ.ret ?_
            refine fnQ.retN ?_
            have hE := comE_ne (a := wd l) (b := wd m) (by rw [hE2]; decide)
            exact ⟨by rw [hE.1, hE.2, hE2], hS.keeps⟩
          · intro c29
            have hz : comE2 (wd l) (wd m) = 0 := by rw [hE2, if_neg c29]
            refine KA.skip ?_
            refine blQ.normal ?_
            refine sqQ.normal ?_
            refine KA.sub (Sub.cons (t := 0) Look.eq (Sub.cons (t := 1) Look.eq (Sub.nil _))) ?_
            refine KA.seq ?_
            refine KA.region rfl ?_
            refine KOps.move ?_
            refine KOps.call rfl (less_w (by omega)) ?_
            rintro v35 h35 hS35
            have hS0 : St _ _ (_ :: _) := St.trans hS hS35
            clear hS
            have hS := hS0
            clear hS0
            refine KOps.move ?_
            refine KOps.call rfl (less_w (by omega)) ?_
            rintro v37 h37 hS37
            have hS0 : St _ _ (_ :: _) := St.trans hS hS37
            clear hS
            have hS := hS0
            clear hS0
            refine KOps.call rfl (sharedW_c (hS.rd 1 rfl) (hS.rd 0 rfl) (by omega) (by omega)) ?_
            rintro _ _ ⟨rfl, rfl⟩
            refine KOps.move ?_
            refine KOps.extract ?_
            refine KOps.extract ?_
            refine KOps.assign ?_
            refine KOps.assign ?_
            refine KOps.done ?_
            refine sqQ.normal ?_
            refine KA.sub (Sub.cons (t := 7) Look.eq (Sub.cons (t := 8) Look.eq (Sub.nil _))) ?_
            refine KA.seq ?_
            refine KA.seq ?_
            refine KA.region rfl ?_
            refine KOps.move ?_
            refine KOps.not ?_
            refine KOps.done ?_
            refine sqQ.normal ?_
            refine KA.sub (Sub.cons (t := 7) Look.eq (Sub.cons (t := 42) Look.eq (Sub.nil _))) ?_
            refine KA.condB ?_ ?_
            · intro c42
              refine KA.seq ?_
              refine KA.region rfl ?_
              refine KOps.assign ?_
              refine KOps.assign ?_
              refine KOps.done ?_
              refine sqQ.normal ?_
              refine KA.sub (Sub.cons (t := 4) Look.eq (Sub.cons (t := 5) Look.eq (Sub.nil _))) ?_
              refine KA.ret ?_
              refine sqQ.ret ?_
              refine fnQ.retN ?_
              cases hx : comW l m with
              | none =>
                rw [hx] at c42
                have hf := com_none hz hx
                first
                | (cases c42; done)
                | exact ⟨by rw [hf.1, hf.2] <;> rfl, hS.keeps⟩
              | some x =>
                rw [hx] at c42
                have hf := com_some hz hx
                first
                | (cases c42; done)
                | exact ⟨by rw [hf.1, hf.2] <;> rfl, hS.keeps⟩
            · intro c42
              refine KA.skip ?_
              refine sqQ.normal ?_
              refine KA.sub (Sub.cons (t := 7) Look.eq (Sub.nil _)) ?_
              refine KA.seq ?_
              refine KA.region rfl ?_
              refine KOps.move ?_
              refine KOps.assign ?_
              refine KOps.assign ?_
              refine KOps.done ?_
              refine sqQ.normal ?_
              refine KA.sub (Sub.cons (t := 4) Look.eq (Sub.cons (t := 5) Look.eq (Sub.nil _))) ?_
              refine KA.ret ?_
              refine fnQ.retN ?_
              cases hx : comW l m with
              | none =>
                rw [hx] at c42
                have hf := com_none hz hx
                first
                | (cases c42; done)
                | exact ⟨by rw [hf.1, hf.2] <;> rfl, hS.keeps⟩
              | some x =>
                rw [hx] at c42
                have hf := com_some hz hx
                first
                | (cases c42; done)
                | exact ⟨by rw [hf.1, hf.2] <;> rfl, hS.keeps⟩
      · intro g25
        have g25 := not_of_not_decide g25
        refine KOps.guardNo (dj := 25) rfl rfl rfl ?_
        refine KOps.pickT ?_
        refine KOps.assign ?_
        refine KOps.done ?_
        refine sqQ.normal ?_
        refine KA.sub (Sub.cons (t := 0) Look.eq (Sub.cons (t := 1) Look.eq (Sub.cons (t := 19) Look.eq (Sub.nil _)))) ?_
        refine KA.condT ?_
        refine KA.seq ?_
        refine KA.region rfl ?_
        refine KOps.assign ?_
        refine KOps.assign ?_
        refine KOps.done ?_
        refine sqQ.normal ?_
        refine KA.sub (Sub.cons (t := 4) Look.eq (Sub.cons (t := 5) Look.eq (Sub.nil _))) ?_
        refine KA.ret ?_
        refine blQ.ret ?_
        refine sqQ.ret ?_
        refine fnQ.retN ?_
        have hE5 : comE1 (wd l) (wd m) = 5 := by rw [hE1, if_neg (fun q => by omega)]
        have hE2 := comE2_ne (a := wd l) (b := wd m) (by rw [hE5]; decide)
        have hE := comE_ne (a := wd l) (b := wd m) (by rw [hE2, hE5]; decide)
        exact ⟨by rw [hE.1, hE.2, hE2, hE5], hS.keeps⟩

theorem comR_c {h : AHeap} {a b : ByteArray} : ACalls Go.Proofs.Tryd.prog 34 [.str a, .str b] h (fun q h' => q = .tup [.str (wd (comS a b)), .int .i64 (comE a b)] ∧ Keeps h h') := by
  refine KA.fn 47 [.tmp 4, .tmp 5] Go.Proofs.Tryd.func34 rfl (by decide) rfl rfl (Nat.le_of_ble_eq_true rfl) ?_
  have hS := St.refl h
  show KA _ 47 _ _ [(0, .str a), (1, .str b)] _
  refine KA.seq ?_
  refine KA.region rfl ?_
  refine KOps.assign ?_
  refine KOps.assign ?_
  refine KOps.done ?_
  refine sqQ.normal ?_
  refine KA.sub (Sub.cons (t := 0) Look.eq (Sub.cons (t := 1) Look.eq (Sub.nil _))) ?_
  refine KA.seq ?_
  refine KA.region rfl ?_
  refine KOps.move ?_
  refine KOps.call rfl (refCheck_c) ?_
  rintro _ _ ⟨rfl, rfl⟩
  refine KOps.assign ?_
  refine KOps.done ?_
  refine sqQ.normal ?_
  refine KA.sub (Sub.cons (t := 0) Look.eq (Sub.cons (t := 1) Look.eq (Sub.cons (t := 6) Look.eq (Sub.nil _)))) ?_
  refine KA.meet (X := Int) (fun x => [(0, .str a), (1, .str b), (6, .int .i64 x)]) (fun x h' => x = chk2 a b ∧ St h h' []) ?_ ?_
  ·
    refine KA.seq ?_
    refine KA.region rfl ?_
    refine KOps.move ?_
    refine KOps.eql ?_
    refine KOps.done ?_
    refine sqQ.normal ?_
    refine KA.sub (Sub.cons (t := 0) Look.eq (Sub.cons (t := 1) Look.eq (Sub.cons (t := 6) Look.eq (Sub.cons (t := 12) Look.eq (Sub.nil _))))) ?_
    refine KA.condD ?_ ?_
    · intro c12
      refine KA.region rfl ?_
      refine KOps.move ?_
      refine KOps.call rfl (refCheck_c) ?_
      rintro _ _ ⟨rfl, rfl⟩
      refine KOps.assign ?_
      refine KOps.done ?_
      exact mtQ.normal (chkS b) (by repeat (first | exact Sub.nil _ | refine Sub.cons Look.eq ?_ | refine Sub.cons (Eq.trans Look.eq (congrArg (AV.int _) (by first | omega | (dsimp only; omega)))) ?_)) ⟨by rw [chk2, if_pos c12], hS⟩
    · intro c12
      refine KA.skip ?_
      exact mtQ.normal (chkS a) (by repeat (first | exact Sub.nil _ | refine Sub.cons Look.eq ?_ | refine Sub.cons (Eq.trans Look.eq (congrArg (AV.int _) (by first | omega | (dsimp only; omega)))) ?_)) ⟨by rw [chk2, if_neg c12], hS⟩
  ·
    rintro e h2 ⟨rfl, hS⟩
    refine KA.meet (X := Int) (fun x => [(0, .str a), (1, .str b), (6, .int .i64 x)]) (fun x h' => x = comE1 a b ∧ St h h' []) ?_ ?_
    ·
      refine KA.seq ?_
      refine KA.region rfl ?_
      refine KOps.move ?_
      refine KOps.eql ?_
      refine KOps.move ?_
      refine KOps.guardB (dj := 17) rfl rfl true false rfl ?_ ?_
      · intro g17
        have g17 := of_decide_eq_true g17
        obtain ⟨l, m, rfl, rfl, hl, hm⟩ := chk2_zero g17
        have hc0 := g17
        have hE1 := comE1_wd hl hm
        rw [g17]
        refine KOps.move ?_
        refine KOps.guardYes (dj := 17) rfl rfl ?_
        refine KOps.lenW ?_
        refine KOps.guardYes (dj := 17) rfl rfl ?_
        refine KOps.move ?_
        refine KOps.guardYes (dj := 17) rfl rfl ?_
        refine KOps.lenW ?_
        refine KOps.guardYes (dj := 17) rfl rfl ?_
        refine KOps.neq ?_
        refine KOps.guardYes (dj := 17) rfl rfl ?_
        refine KOps.move ?_
        refine KOps.guardB (dj := 23) rfl rfl false true rfl ?_ ?_
        · intro g23
          have g23 := of_not_decide g23
          refine KOps.move ?_
          refine KOps.guardYes (dj := 23) rfl rfl ?_
          refine KOps.wEql ?_
          refine KOps.guardYes (dj := 17) rfl rfl ?_
          refine KOps.pickF ?_
          refine KOps.pickT ?_
          refine KOps.done ?_
          refine sqQ.normal ?_
          refine KA.sub (Sub.cons (t := 0) Look.eq (Sub.cons (t := 1) Look.eq (Sub.cons (t := 6) Look.eq (Sub.cons (t := 27) Look.eq (Sub.nil _))))) ?_
          refine KA.condD ?_ ?_
          · intro c27
            refine KA.region rfl ?_
            refine KOps.assign ?_
            refine KOps.done ?_
            first
             | exact mtQ.normal 5 (by repeat (first | exact Sub.nil _ | refine Sub.cons Look.eq ?_ | refine Sub.cons (Eq.trans Look.eq (congrArg (AV.int _) (by first | omega | (dsimp only; omega)))) ?_)) ⟨by rw [hE1, if_neg (fun q => by first | omega | exact q.2 (by assumption))], hS⟩
             | exact mtQ.normal (chk2 (wd l) (wd m)) (by repeat (first | exact Sub.nil _ | refine Sub.cons Look.eq ?_ | refine Sub.cons (Eq.trans Look.eq (congrArg (AV.int _) (by first | omega | (dsimp only; omega)))) ?_)) ⟨by rw [hE1, if_pos ⟨by omega, by assumption⟩, hc0], hS⟩
             | exact mtQ.normal 0 (by repeat (first | exact Sub.nil _ | refine Sub.cons Look.eq ?_ | refine Sub.cons (Eq.trans Look.eq (congrArg (AV.int _) (by first | omega | (dsimp only; omega)))) ?_)) ⟨by rw [hE1, if_pos ⟨by omega, by assumption⟩], hS⟩
             | exact mtQ.normal (chk2 a b) (by repeat (first | exact Sub.nil _ | refine Sub.cons Look.eq ?_ | refine Sub.cons (Eq.trans Look.eq (congrArg (AV.int _) (by first | omega | (dsimp only; omega)))) ?_)) ⟨(comE1_ne (by assumption)).symm, hS⟩
          · intro c27
            refine KA.skip ?_
            first
             | exact mtQ.normal 5 (by repeat (first | exact Sub.nil _ | refine Sub.cons Look.eq ?_ | refine Sub.cons (Eq.trans Look.eq (congrArg (AV.int _) (by first | omega | (dsimp only; omega)))) ?_)) ⟨by rw [hE1, if_neg (fun q => by first | omega | exact q.2 (by assumption))], hS⟩
             | exact mtQ.normal (chk2 (wd l) (wd m)) (by repeat (first | exact Sub.nil _ | refine Sub.cons Look.eq ?_ | refine Sub.cons (Eq.trans Look.eq (congrArg (AV.int _) (by first | omega | (dsimp only; omega)))) ?_)) ⟨by rw [hE1, if_pos ⟨by omega, by assumption⟩, hc0], hS⟩
             | exact mtQ.normal 0 (by repeat (first | exact Sub.nil _ | refine Sub.cons Look.eq ?_ | refine Sub.cons (Eq.trans Look.eq (congrArg (AV.int _) (by first | omega | (dsimp only; omega)))) ?_)) ⟨by rw [hE1, if_pos ⟨by omega, by assumption⟩], hS⟩
             | exact mtQ.normal (chk2 a b) (by repeat (first | exact Sub.nil _ | refine Sub.cons Look.eq ?_ | refine Sub.cons (Eq.trans Look.eq (congrArg (AV.int _) (by first | omega | (dsimp only; omega)))) ?_)) ⟨(comE1_ne (by assumption)).symm, hS⟩
        · intro g23
          have g23 := not_of_not_decide g23
          refine KOps.guardNo (dj := 23) rfl rfl rfl ?_
          refine KOps.guardYes (dj := 17) rfl rfl ?_
          refine KOps.pickT ?_
          refine KOps.pickT ?_
          refine KOps.done ?_
          refine sqQ.normal ?_
          refine KA.sub (Sub.cons (t := 0) Look.eq (Sub.cons (t := 1) Look.eq (Sub.cons (t := 6) Look.eq (Sub.cons (t := 27) Look.eq (Sub.nil _))))) ?_
          refine KA.condT ?_
          refine KA.region rfl ?_
          refine KOps.assign ?_
          refine KOps.done ?_
          first
           | exact mtQ.normal 5 (by repeat (first | exact Sub.nil _ | refine Sub.cons Look.eq ?_ | refine Sub.cons (Eq.trans Look.eq (congrArg (AV.int _) (by first | omega | (dsimp only; omega)))) ?_)) ⟨by rw [hE1, if_neg (fun q => by first | omega | exact q.2 (by assumption))], hS⟩
           | exact mtQ.normal (chk2 (wd l) (wd m)) (by repeat (first | exact Sub.nil _ | refine Sub.cons Look.eq ?_ | refine Sub.cons (Eq.trans Look.eq (congrArg (AV.int _) (by first | omega | (dsimp only; omega)))) ?_)) ⟨by rw [hE1, if_pos ⟨by omega, by assumption⟩, hc0], hS⟩
           | exact mtQ.normal 0 (by repeat (first | exact Sub.nil _ | refine Sub.cons Look.eq ?_ | refine Sub.cons (Eq.trans Look.eq (congrArg (AV.int _) (by first | omega | (dsimp only; omega)))) ?_)) ⟨by rw [hE1, if_pos ⟨by omega, by assumption⟩], hS⟩
           | exact mtQ.normal (chk2 a b) (by repeat (first | exact Sub.nil _ | refine Sub.cons Look.eq ?_ | refine Sub.cons (Eq.trans Look.eq (congrArg (AV.int _) (by first | omega | (dsimp only; omega)))) ?_)) ⟨(comE1_ne (by assumption)).symm, hS⟩
      · intro g17
        have g17 := of_decide_eq_false g17
        refine KOps.guardNo (dj := 17) rfl rfl rfl ?_
        refine KOps.guardNo (dj := 17) rfl rfl rfl ?_
        refine KOps.guardNo (dj := 17) rfl rfl rfl ?_
        refine KOps.guardNo (dj := 17) rfl rfl rfl ?_
        refine KOps.guardNo (dj := 17) rfl rfl rfl ?_
        refine KOps.guardTup (dj := 23) rfl rfl ?_
        refine KOps.guardTup (dj := 23) rfl rfl ?_
        refine KOps.guardNo (dj := 17) rfl rfl rfl ?_
        refine KOps.pickF ?_
        refine KOps.done ?_
        refine sqQ.normal ?_
        refine KA.sub (Sub.cons (t := 0) Look.eq (Sub.cons (t := 1) Look.eq (Sub.cons (t := 6) Look.eq (Sub.cons (t := 27) Look.eq (Sub.nil _))))) ?_
        refine KA.condF ?_
        refine KA.skip ?_
        first
         | exact mtQ.normal 5 (by repeat (first | exact Sub.nil _ | refine Sub.cons Look.eq ?_ | refine Sub.cons (Eq.trans Look.eq (congrArg (AV.int _) (by first | omega | (dsimp only; omega)))) ?_)) ⟨by rw [hE1, if_neg (fun q => by first | omega | exact q.2 (by assumption))], hS⟩
         | exact mtQ.normal (chk2 (wd l) (wd m)) (by repeat (first | exact Sub.nil _ | refine Sub.cons Look.eq ?_ | refine Sub.cons (Eq.trans Look.eq (congrArg (AV.int _) (by first | omega | (dsimp only; omega)))) ?_)) ⟨by rw [hE1, if_pos ⟨by omega, by assumption⟩, hc0], hS⟩
         | exact mtQ.normal 0 (by repeat (first | exact Sub.nil _ | refine Sub.cons Look.eq ?_ | refine Sub.cons (Eq.trans Look.eq (congrArg (AV.int _) (by first | omega | (dsimp only; omega)))) ?_)) ⟨by rw [hE1, if_pos ⟨by omega, by assumption⟩], hS⟩
         | exact mtQ.normal (chk2 a b) (by repeat (first | exact Sub.nil _ | refine Sub.cons Look.eq ?_ | refine Sub.cons (Eq.trans Look.eq (congrArg (AV.int _) (by first | omega | (dsimp only; omega)))) ?_)) ⟨(comE1_ne (by assumption)).symm, hS⟩
    ·
      rintro e h2 ⟨rfl, hS⟩
      refine KA.meet (X := Int) (fun x => [(0, .str a), (1, .str b), (6, .int .i64 x)]) (fun x h' => x = comE2 a b ∧ St h h' []) ?_ ?_
      ·
        refine KA.seq ?_
        refine KA.region rfl ?_
        refine KOps.move ?_
        refine KOps.eql ?_
        refine KOps.move ?_
        refine KOps.guardB (dj := 30) rfl rfl true false rfl ?_ ?_
        · intro g30
          have g30 := of_decide_eq_true g30
          obtain ⟨l, m, rfl, rfl, hl, hm, h1, h2⟩ := comE1_zero g30
          have hc0 := g30
          rw [g30]
          refine KOps.move ?_
          refine KOps.guardYes (dj := 30) rfl rfl ?_
          refine KOps.move ?_
          refine KOps.guardYes (dj := 30) rfl rfl ?_
          refine KOps.wEql ?_
          refine KOps.pickT ?_
          refine KOps.done ?_
          refine sqQ.normal ?_
          refine KA.sub (Sub.cons (t := 0) Look.eq (Sub.cons (t := 1) Look.eq (Sub.cons (t := 6) Look.eq (Sub.cons (t := 34) Look.eq (Sub.nil _))))) ?_
          refine KA.condD ?_ ?_
          · intro c34
            refine KA.region rfl ?_
            refine KOps.assign ?_
            refine KOps.done ?_
            first
             | exact mtQ.normal 6 (by repeat (first | exact Sub.nil _ | refine Sub.cons Look.eq ?_ | refine Sub.cons (Eq.trans Look.eq (congrArg (AV.int _) (by first | omega | (dsimp only; omega)))) ?_)) ⟨by rw [comE2_wd hc0, if_pos (by assumption)], hS⟩
             | exact mtQ.normal 0 (by repeat (first | exact Sub.nil _ | refine Sub.cons Look.eq ?_ | refine Sub.cons (Eq.trans Look.eq (congrArg (AV.int _) (by first | omega | (dsimp only; omega)))) ?_)) ⟨by rw [comE2_wd hc0, if_neg (by assumption)], hS⟩
             | exact mtQ.normal (comE1 a b) (by repeat (first | exact Sub.nil _ | refine Sub.cons Look.eq ?_ | refine Sub.cons (Eq.trans Look.eq (congrArg (AV.int _) (by first | omega | (dsimp only; omega)))) ?_)) ⟨(comE2_ne (by assumption)).symm, hS⟩
          · intro c34
            refine KA.skip ?_
            first
             | exact mtQ.normal 6 (by repeat (first | exact Sub.nil _ | refine Sub.cons Look.eq ?_ | refine Sub.cons (Eq.trans Look.eq (congrArg (AV.int _) (by first | omega | (dsimp only; omega)))) ?_)) ⟨by rw [comE2_wd hc0, if_pos (by assumption)], hS⟩
             | exact mtQ.normal 0 (by repeat (first | exact Sub.nil _ | refine Sub.cons Look.eq ?_ | refine Sub.cons (Eq.trans Look.eq (congrArg (AV.int _) (by first | omega | (dsimp only; omega)))) ?_)) ⟨by rw [comE2_wd hc0, if_neg (by assumption)], hS⟩
             | exact mtQ.normal (comE1 a b) (by repeat (first | exact Sub.nil _ | refine Sub.cons Look.eq ?_ | refine Sub.cons (Eq.trans Look.eq (congrArg (AV.int _) (by first | omega | (dsimp only; omega)))) ?_)) ⟨(comE2_ne (by assumption)).symm, hS⟩
        · intro g30
          have g30 := of_decide_eq_false g30
          refine KOps.guardNo (dj := 30) rfl rfl rfl ?_
          refine KOps.guardNo (dj := 30) rfl rfl rfl ?_
          refine KOps.pickF ?_
          refine KOps.done ?_
          refine sqQ.normal ?_
          refine KA.sub (Sub.cons (t := 0) Look.eq (Sub.cons (t := 1) Look.eq (Sub.cons (t := 6) Look.eq (Sub.cons (t := 34) Look.eq (Sub.nil _))))) ?_
          refine KA.condF ?_
          refine KA.skip ?_
          first
           | exact mtQ.normal 6 (by repeat (first | exact Sub.nil _ | refine Sub.cons Look.eq ?_ | refine Sub.cons (Eq.trans Look.eq (congrArg (AV.int _) (by first | omega | (dsimp only; omega)))) ?_)) ⟨by rw [comE2_wd hc0, if_pos (by assumption)], hS⟩
           | exact mtQ.normal 0 (by repeat (first | exact Sub.nil _ | refine Sub.cons Look.eq ?_ | refine Sub.cons (Eq.trans Look.eq (congrArg (AV.int _) (by first | omega | (dsimp only; omega)))) ?_)) ⟨by rw [comE2_wd hc0, if_neg (by assumption)], hS⟩
           | exact mtQ.normal (comE1 a b) (by repeat (first | exact Sub.nil _ | refine Sub.cons Look.eq ?_ | refine Sub.cons (Eq.trans Look.eq (congrArg (AV.int _) (by first | omega | (dsimp only; omega)))) ?_)) ⟨(comE2_ne (by assumption)).symm, hS⟩
      ·
        rintro e h2 ⟨rfl, hS⟩
        refine KA.seq ?_
        refine KA.seq ?_
        refine KA.region rfl ?_
        refine KOps.move ?_
        refine KOps.neq ?_
        refine KOps.done ?_
        refine sqQ.normal ?_
        refine KA.sub (Sub.cons (t := 0) Look.eq (Sub.cons (t := 1) Look.eq (Sub.cons (t := 6) Look.eq (Sub.cons (t := 36) Look.eq (Sub.nil _))))) ?_
        refine KA.condN ?_ ?_
        · intro c36
          refine KA.seq ?_
          refine KA.region rfl ?_
          refine KOps.move ?_
          refine KOps.assign ?_
          refine KOps.assign ?_
          refine KOps.done ?_
          refine sqQ.normal ?_
          refine KA.sub (Sub.cons (t := 4) Look.eq (Sub.cons (t := 5) Look.eq (Sub.nil _))) ?_
          refine KA.ret ?_
          refine sqQ.ret ?_
          refine fnQ.retN ?_
          have hE := comE_ne c36
          exact ⟨by rw [hE.1, hE.2], hS.keeps⟩
        · intro c36
          have hz := c36
          obtain ⟨l, m, rfl, rfl, hl, hm, h1, h2, h3⟩ := comE2_zero c36
          have hl0 : 0 < l.length := List.length_pos_iff.2 h2
          refine KA.skip ?_
          refine sqQ.normal ?_
          refine KA.sub (Sub.cons (t := 0) Look.eq (Sub.cons (t := 1) Look.eq (Sub.nil _))) ?_
          refine KA.seq ?_
          refine KA.region rfl ?_
          refine KOps.move ?_
          refine KOps.move ?_
          refine KOps.call rfl (refcomF_c (by omega) (by omega) (by omega)) ?_
          rintro _ _ ⟨rfl, rfl⟩
          refine KOps.move ?_
          refine KOps.extract ?_
          refine KOps.extract ?_
          refine KOps.assign ?_
          refine KOps.assign ?_
          refine KOps.done ?_
          refine sqQ.normal ?_
          refine KA.sub (Sub.cons (t := 7) Look.eq (Sub.cons (t := 8) Look.eq (Sub.nil _))) ?_
          refine KA.seq ?_
          refine KA.seq ?_
          refine KA.region rfl ?_
          refine KOps.move ?_
          refine KOps.not ?_
          refine KOps.done ?_
          refine sqQ.normal ?_
          refine KA.sub (Sub.cons (t := 7) Look.eq (Sub.cons (t := 45) Look.eq (Sub.nil _))) ?_
          refine KA.condB ?_ ?_
          · intro c45
            refine KA.seq ?_
            refine KA.region rfl ?_
            refine KOps.assign ?_
            refine KOps.assign ?_
            refine KOps.done ?_
            refine sqQ.normal ?_
            refine KA.sub (Sub.cons (t := 4) Look.eq (Sub.cons (t := 5) Look.eq (Sub.nil _))) ?_
            refine KA.ret ?_
            refine sqQ.ret ?_
            refine fnQ.retN ?_
            cases hx : comW l m with
            | none =>
              rw [hx] at c45
              have hf := com_none hz hx
              first
              | (cases c45; done)
              | exact ⟨by rw [hf.1, hf.2] <;> rfl, hS.keeps⟩
            | some x =>
              rw [hx] at c45
              have hf := com_some hz hx
              first
              | (cases c45; done)
              | exact ⟨by rw [hf.1, hf.2] <;> rfl, hS.keeps⟩
          · intro c45
            refine KA.skip ?_
            refine sqQ.normal ?_
            refine KA.sub (Sub.cons (t := 7) Look.eq (Sub.nil _)) ?_
            refine KA.seq ?_
            refine KA.region rfl ?_
            refine KOps.move ?_
            refine KOps.assign ?_
            refine KOps.assign ?_
            refine KOps.done ?_
            refine sqQ.normal ?_
            refine KA.sub (Sub.cons (t := 4) Look.eq (Sub.cons (t := 5) Look.eq (Sub.nil _))) ?_
            refine KA.ret ?_
            refine fnQ.retN ?_
            cases hx : comW l m with
            | none =>
              rw [hx] at c45
              have hf := com_none hz hx
              first
              | (cases c45; done)
              | exact ⟨by rw [hf.1, hf.2] <;> rfl, hS.keeps⟩
            | some x =>
              rw [hx] at c45
              have hf := com_some hz hx
              first
              | (cases c45; done)
              | exact ⟨by rw [hf.1, hf.2] <;> rfl, hS.keeps⟩

end Go.Am

namespace Go.Am
theorem ofNat_toNat {x : Nat} (hx : x < 4294967296) : (BitVec.ofInt 32 (x : Int)).toNat = x := by
  rw [BitVec.ofInt_natCast, BitVec.toNat_ofNat]
  exact Nat.mod_eq_of_lt hx
theorem andU {x y : Nat} (hx : x < 4294967296) (hy : y < 4294967296) : Go.bits .and .u32 (x : Int) (y : Int) = ((x &&& y : Nat) : Int) := by
  have h1 : (BitVec.ofInt 32 (x : Int) &&& BitVec.ofInt 32 (y : Int)).toNat = x &&& y := by rw [BitVec.toNat_and, ofNat_toNat hx, ofNat_toNat hy]
  have h2 : x &&& y < 2 ^ 32 := Nat.and_lt_two_pow x hy
  show IntKind.u32.wrap (((BitVec.ofInt 32 (x : Int) &&& BitVec.ofInt 32 (y : Int)).toNat : Nat) : Int) = _
  rw [h1]
  exact wrapU32 (by omega) (by omega)
theorem orU {x y : Nat} (hx : x < 4294967296) (hy : y < 4294967296) : Go.bits .or .u32 (x : Int) (y : Int) = ((x ||| y : Nat) : Int) := by
  have h1 : (BitVec.ofInt 32 (x : Int) ||| BitVec.ofInt 32 (y : Int)).toNat = x ||| y := by rw [BitVec.toNat_or, ofNat_toNat hx, ofNat_toNat hy]
  have h2 : x ||| y < 2 ^ 32 := Nat.or_lt_two_pow hx hy
  show IntKind.u32.wrap (((BitVec.ofInt 32 (x : Int) ||| BitVec.ofInt 32 (y : Int)).toNat : Nat) : Int) = _
  rw [h1]
  exact wrapU32 (by omega) (by omega)
theorem andNotU {x y : Nat} (hx : x < 4294967296) (hy : y < 4294967296) : Go.bits .andNot .u32 (x : Int) (y : Int) = ((x &&& (2 ^ 32 - (y + 1)) : Nat) : Int) := by
  have h1 : (BitVec.ofInt 32 (x : Int) &&& ~~~BitVec.ofInt 32 (y : Int)).toNat = x &&& (2 ^ 32 - (y + 1)) := by
    rw [BitVec.toNat_and, BitVec.toNat_not, ofNat_toNat hx, ofNat_toNat hy]
    congr 1
    omega
  have h2 : x &&& (2 ^ 32 - (y + 1)) < 2 ^ 32 := Nat.and_lt_two_pow x (by omega)
  show IntKind.u32.wrap (((BitVec.ofInt 32 (x : Int) &&& ~~~BitVec.ofInt 32 (y : Int)).toNat : Nat) : Int) = _
  rw [h1]
  exact wrapU32 (by omega) (by omega)
theorem shrU (x k : Nat) (kd : IntKind) (hk : k ≤ kd.bits) : (x : Int).fdiv (2 ^ Min.min (k : Int).toNat kd.bits) = ((x >>> k : Nat) : Int) := by
  rw [Int.toNat_natCast, Nat.min_eq_left hk, Int.fdiv_eq_ediv_of_nonneg _ (by exact Int.le_of_lt (Int.pow_pos (by decide))), Nat.shiftRight_eq_div_pow]
  norm_cast
def bitsL (x : Nat) : List Nat := (List.range 32).filter x.testBit
theorem bitsL_lt {x i : Nat} (h : i ∈ bitsL x) : i < 32 := List.mem_range.1 (List.mem_filter.1 h).1
theorem bitsL_and (x y : Nat) : bitsL (x &&& y) = (bitsL x).filter y.testBit := by
  unfold bitsL
  rw [List.filter_filter]
  refine List.filter_congr fun i _ => ?_
  rw [Nat.testBit_and, Bool.and_comm]
theorem bitsL_nodup (x : Nat) : (bitsL x).Nodup := List.nodup_range.sublist List.filter_sublist
theorem bitsL_nil {x : Nat} (hx : x < 4294967296) (h : bitsL x = []) : x = 0 := by
  refine Nat.eq_of_testBit_eq fun i => ?_
  rw [Nat.zero_testBit]
  by_cases hi : i < 32
  · cases hb : x.testBit i with
    | false => rfl
    | true =>
      have : i ∈ bitsL x := List.mem_filter.2 ⟨List.mem_range.2 hi, hb⟩
      rw [h] at this
      cases this
  · exact Nat.testBit_lt_two_pow (Nat.lt_of_lt_of_le hx (Nat.pow_le_pow_right (n := 2) (by decide) (show 32 ≤ i by omega)))
theorem bitsL_zero : bitsL 0 = [] := by decide
/-- The first of them. -/
theorem bitsL_head {x t : Nat} {l : List Nat} (h : bitsL x = t :: l) : t < 32 ∧ x.testBit t = true ∧ ∀ j, j < t → x.testBit j = false := by
  have hm : t ∈ bitsL x := by rw [h]; exact List.mem_cons_self
  refine ⟨bitsL_lt hm, (List.mem_filter.1 hm).2, fun j hj => ?_⟩
  cases hb : x.testBit j with
  | false => rfl
  | true =>
    have hjm : j ∈ bitsL x := List.mem_filter.2 ⟨List.mem_range.2 (by have := bitsL_lt hm; omega), hb⟩
    rw [h] at hjm
    have hs : (bitsL x).Pairwise (· < ·) := List.Pairwise.filter _ List.pairwise_lt_range
    rw [h, List.pairwise_cons] at hs
    rcases List.mem_cons.1 hjm with e | e
    · omega
    · have := hs.1 j e; omega
theorem bitsL_clear {x t : Nat} {l : List Nat} (h : bitsL x = t :: l) : bitsL (x &&& (2 ^ 32 - (2 ^ t + 1))) = l := by
  have ht := (bitsL_head h).1
  have hp : 2 ^ t < 2 ^ 32 := Nat.pow_lt_pow_right (by decide) ht
  rw [bitsL_and, h]
  have hnd := bitsL_nodup x
  rw [h, List.nodup_cons] at hnd
  have hlt : ∀ i ∈ l, i < 32 := fun i hi => bitsL_lt (x := x) (by rw [h]; exact List.mem_cons_of_mem _ hi)
  rw [List.filter_cons_of_neg (by rw [Nat.testBit_two_pow_sub_succ hp, Nat.testBit_two_pow]; simp)]
  refine List.filter_eq_self.2 fun i hi => ?_
  rw [Nat.testBit_two_pow_sub_succ hp, Nat.testBit_two_pow, decide_eq_true (hlt i hi), decide_eq_false (fun (e : t = i) => hnd.1 (by rw [e]; exact hi))]
  rfl
/-- The lowest bit alone. -/
theorem low_bit {x t : Nat} {l : List Nat} (hx : x < 4294967296) (h : bitsL x = t :: l) : x &&& (4294967296 - x) = 2 ^ t := by
  obtain ⟨ht, hb, hlo⟩ := bitsL_head h
  have hm : x % 2 ^ (t + 1) = 2 ^ t := by
    refine Nat.eq_of_testBit_eq fun j => ?_
    rw [Nat.testBit_mod_two_pow, Nat.testBit_two_pow]
    by_cases hj : j < t + 1
    · rw [decide_eq_true hj, Bool.true_and]
      by_cases he : t = j
      · rw [decide_eq_true he, ← he, hb]
      · rw [decide_eq_false he, hlo j (by omega)]
    · rw [decide_eq_false hj, decide_eq_false (by omega)]; rfl
  have hp : 0 < 2 ^ t := Nat.pow_pos (by decide)
  have hq : x = 2 ^ (t + 1) * (x / 2 ^ (t + 1)) + 2 ^ t := by have := Nat.div_add_mod x (2 ^ (t + 1)); omega
  have hq1 : x - 1 = 2 ^ (t + 1) * (x / 2 ^ (t + 1)) + (2 ^ t - 1) := by omega
  have hx0 : 0 < x := by omega
  have e1 : 4294967296 - x = 2 ^ 32 - ((x - 1) + 1) := by omega
  have hlt2 : 2 ^ t < 2 ^ (t + 1) := Nat.pow_lt_pow_right (by decide) (by omega)
  refine Nat.eq_of_testBit_eq fun i => ?_
  rw [Nat.testBit_and, e1, Nat.testBit_two_pow_sub_succ (show x - 1 < 2 ^ 32 by omega), Nat.testBit_two_pow, hq1, Nat.testBit_two_pow_mul_add _ (by omega), Nat.testBit_two_pow_sub_one]
  by_cases hi : i < t + 1
  · rw [if_pos hi]
    by_cases he : t = i
    · subst he
      rw [hb, decide_eq_true rfl, decide_eq_true ht, decide_eq_false (Nat.lt_irrefl t)]; rfl
    · rw [hlo i (by omega), decide_eq_false he]; rfl
  · rw [if_neg hi, decide_eq_false (show ¬ t = i by omega)]
    have hxi : x.testBit i = (x / 2 ^ (t + 1)).testBit (i - (t + 1)) := by
      conv => lhs; rw [hq]
      rw [Nat.testBit_two_pow_mul_add _ hlt2, if_neg hi]
    rw [hxi]
    cases (x / 2 ^ (t + 1)).testBit (i - (t + 1)) <;> simp
def cnt8 (y : Nat) : Nat := ((List.range 8).filter y.testBit).length
theorem range_32 : List.range 32 = List.range 8 ++ (List.range 8).map (8 + ·) ++ (List.range 8).map (16 + ·) ++ (List.range 8).map (24 + ·) := by decide
theorem cnt8_part (x k : Nat) : (((List.range 8).map (k + ·)).filter x.testBit).length = cnt8 (x >>> k &&& 255) := by
  unfold cnt8
  rw [List.filter_map, List.length_map]
  congr 1
  refine List.filter_congr fun i hi => ?_
  rw [Function.comp_apply, Nat.testBit_and, Nat.testBit_shiftRight]
  have : Nat.testBit 255 i = true := by
    have hi := List.mem_range.1 hi
    match i, hi with
    | 0, _ | 1, _ | 2, _ | 3, _ | 4, _ | 5, _ | 6, _ | 7, _ => rfl
  rw [this, Bool.and_true]
theorem bitsL_len (x : Nat) : (bitsL x).length = cnt8 (x >>> 24 &&& 255) + cnt8 (x >>> 16 &&& 255) + cnt8 (x >>> 8 &&& 255) + cnt8 (x &&& 255) := by
  have h0 : ((List.range 8).filter x.testBit).length = cnt8 (x &&& 255) := by
    have := cnt8_part x 0
    rw [Nat.shiftRight_zero] at this
    rw [← this]
    simp
  unfold bitsL
  rw [range_32, List.filter_append, List.filter_append, List.filter_append, List.length_append, List.length_append, List.length_append, cnt8_part, cnt8_part, cnt8_part, h0]
  omega
theorem misL_congr {sf sg : Nat → Nat → Bool} {l : List Nat} (h : ∀ x ∈ l, ∀ y ∈ l, sf x y = sg x y) : misL sf l = misL sg l := by
  have h1 := seekF_is sf l.length l 0 0 (Nat.le_refl _) (Nat.le_refl _)
  have h2 := seekF_is sg l.length l 0 0 (Nat.le_refl _) (Nat.le_refl _)
  have h3 := seekF_congr (sf := sf) (sg := sg) l.length l 0 0 h
  omega
end Go.Am

namespace Go.Am
abbrev popS : ByteArray := ⟨(([0, 1, 1, 2, 1, 2, 2, 3, 1, 2, 2, 3, 2, 3, 3, 4, 1, 2, 2, 3, 2, 3, 3, 4, 2, 3, 3, 4, 3, 4, 4, 5, 1, 2, 2, 3, 2, 3, 3, 4, 2, 3, 3, 4, 3, 4, 4, 5, 2, 3, 3, 4, 3, 4, 4, 5, 3, 4, 4,
  5, 4, 5, 5, 6].append [1, 2, 2, 3, 2, 3, 3, 4, 2, 3, 3, 4, 3, 4, 4, 5, 2, 3, 3, 4, 3, 4, 4, 5, 3, 4, 4, 5, 4, 5, 5, 6, 2, 3, 3, 4, 3, 4, 4, 5, 3, 4, 4, 5, 4, 5, 5, 6, 3, 4, 4, 5,
  4, 5, 5, 6, 4, 5, 5, 6, 5, 6, 6, 7]).append ([1, 2, 2, 3, 2, 3, 3, 4, 2, 3, 3, 4, 3, 4, 4, 5, 2, 3, 3, 4, 3, 4, 4, 5, 3, 4, 4, 5, 4, 5, 5, 6, 2, 3, 3, 4, 3, 4, 4, 5, 3, 4, 4, 5, 4,
  5, 5, 6, 3, 4, 4, 5, 4, 5, 5, 6, 4, 5, 5, 6, 5, 6, 6, 7].append [2, 3, 3, 4, 3, 4, 4, 5, 3, 4, 4, 5, 4, 5, 5, 6, 3, 4, 4, 5, 4, 5, 5, 6, 4, 5, 5, 6, 5, 6, 6, 7, 3, 4, 4, 5, 4, 5,
  5, 6, 4, 5, 5, 6, 5, 6, 6, 7, 4, 5, 5, 6, 5, 6, 6, 7, 5, 6, 6, 7, 6, 7, 7, 8])).toArray⟩
theorem popS_size : popS.size = 256 := by kernel_rfl
theorem pop_val : ∀ y : Nat, y < 256 → ((popS.get! y).toNat : Int) = (cnt8 y : Int) := by decide +kernel
theorem cnt8_le (y : Nat) : cnt8 y ≤ 8 := Nat.le_trans (List.length_filter_le ..) (by rw [List.length_range]; exact Nat.le_refl _)
theorem shr24 (x : Nat) : (x : Int).fdiv (2 ^ Min.min (24 : Int).toNat (IntKind.bits .u32)) = ((x >>> 24 : Nat) : Int) := shrU x 24 .u32 (by decide)
theorem shr16 (x : Nat) : (x : Int).fdiv (2 ^ Min.min (16 : Int).toNat (IntKind.bits .u32)) = ((x >>> 16 : Nat) : Int) := shrU x 16 .u32 (by decide)
theorem shr8 (x : Nat) : (x : Int).fdiv (2 ^ Min.min (8 : Int).toNat (IntKind.bits .u32)) = ((x >>> 8 : Nat) : Int) := shrU x 8 .u32 (by decide)
theorem shr_lt {x : Nat} (k : Nat) (hx : x < 4294967296) : x >>> k < 4294967296 := by
  rw [Nat.shiftRight_eq_div_pow]
  exact Nat.lt_of_le_of_lt (Nat.div_le_self ..) hx
theorem and255 {x : Nat} (hx : x < 4294967296) : Go.bits .and .u32 (x : Int) 255 = ((x &&& 255 : Nat) : Int) := andU (y := 255) hx (by decide)
theorem and255_lt (x : Nat) : x &&& 255 < 256 := Nat.and_lt_two_pow (n := 8) x (by decide)
theorem top_byte {x : Nat} (hx : x < 4294967296) : x >>> 24 < 256 ∧ x >>> 24 &&& 255 = x >>> 24 := by
  have h1 : x >>> 24 < 256 := by rw [Nat.shiftRight_eq_div_pow]; omega
  exact ⟨h1, by rw [show 255 = 2 ^ 8 - 1 from rfl, Nat.and_two_pow_sub_one_eq_mod]; exact Nat.mod_eq_of_lt h1⟩
/-- The table of the lowest bits. -/
def tzL : List Nat := [0, 1, 28, 2, 29, 14, 24, 3, 30, 22, 20, 15, 25, 17, 4, 8, 31, 27, 13, 23, 21, 19, 16, 7, 26, 12, 18, 6, 11, 5, 10, 9]
def tzC : List AV := tzL.map fun (v : Nat) => .int .u8 (v : Int)
def Tab (h : AHeap) : Prop := h.globs.contains 0 = true ∧ Rd h (.ptr 0 0) 0 tzC
theorem Tab.ext {h h' : AHeap} (z : Tab h) (k : Keeps h h') : Tab h' := ⟨by rw [k.globs]; exact z.1, Rd.ext k z.2⟩
theorem Tab.ev {h : AHeap} (z : Tab h) (n : Nat) (K : KF) : EvK h.globs n K (.global 0) (.ptr 0 0) := ⟨by simp only [evalK]; rw [if_pos z.1]⟩
theorem addr0 : AddrOf (.ptr 0 0) (.ptr 0 0) 0 0 := ⟨0, 0, .inr ⟨rfl, rfl⟩, rfl⟩
def tzJ (t : Nat) : Nat := (2 ^ t * 125613361 % 4294967296) >>> 27
theorem tz_idx : ∀ t : Nat, t < 32 → (IntKind.u32.wrap (((2 ^ t : Nat) : Int) * 125613361)).fdiv (2 ^ Min.min (27 : Int).toNat (IntKind.bits .u32)) = (tzJ t : Int) ∧ tzJ t < 32 ∧ tzC[tzJ t]? = some (.int .u8 (t : Int)) := by
  intro t ht
  refine ⟨?_, ?_, ?_⟩
  · revert t; decide +kernel
  · revert t; decide +kernel
  · have : ∀ t : Nat, t < 32 → tzL[tzJ t]? = some t := by decide +kernel
    rw [tzC, List.getElem?_map, this t ht]; rfl
theorem negU {x : Nat} (h0 : 0 < x) (hx : x < 4294967296) : IntKind.u32.wrap (0 - (x : Int)) = ((4294967296 - x : Nat) : Int) := by
  unfold IntKind.wrap
  simp only [IntKind.bits, IntKind.signed, Bool.false_and]
  have e1 : (2 : Int) ^ 32 = 4294967296 := by decide
  rw [e1]
  simp
  omega
theorem shl32 : ∀ t : Nat, t < 32 → IntKind.u32.wrap (1 * 2 ^ Min.min (t : Int).toNat (IntKind.bits .u32)) = ((2 ^ t : Nat) : Int) := by decide +kernel
theorem shlU64 : ∀ t : Nat, t < 6 → IntKind.u64.wrap (1 * 2 ^ Min.min (t : Int).toNat (IntKind.bits .u64)) = ((2 ^ t : Nat) : Int) := by decide +kernel
theorem full32 : ∀ t : Nat, t < 6 → IntKind.u32.wrap (IntKind.u32.wrap (1 * 2 ^ Min.min ((2 ^ t : Nat) : Int).toNat (IntKind.bits .u32)) - 1) = ((2 ^ 2 ^ t - 1 : Nat) : Int) := by decide +kernel
theorem bits_full : ∀ t : Nat, t < 6 → bitsL (2 ^ 2 ^ t - 1) = List.range (2 ^ t) := by decide +kernel
theorem two_lt {t : Nat} (h : t < 32) : 2 ^ t < 4294967296 := Nat.pow_lt_pow_right (n := 32) (by decide) h
theorem full_lt {t : Nat} (h : t < 6) : 2 ^ 2 ^ t - 1 < 4294967296 := by
  have : ∀ t : Nat, t < 6 → 2 ^ 2 ^ t - 1 < 4294967296 := by decide +kernel
  exact this t h
/-- The table of safe words while it is filled. -/
def TInv (n : Nat) (T : List Nat) (a b : Nat) : Prop := T.length = 32 ∧ (∀ v ∈ T, v < 4294967296) ∧ ∀ i j, (T.getD i 0).testBit j = (decide (j < 2 ^ n ∧ (i < a ∨ i = a ∧ j < b)) && safeN n i j)
theorem TInv.zero (n : Nat) : TInv n (List.replicate 32 0) 0 0 := by
  refine ⟨List.length_replicate, fun v hv => by rw [List.eq_of_mem_replicate hv]; decide, fun i j => ?_⟩
  rw [List.getD_eq_getElem?_getD, List.getElem?_replicate, decide_eq_false (by omega), Bool.false_and]
  split <;> exact Nat.zero_testBit j
theorem TInv.row {n : Nat} {T : List Nat} {a : Nat} (h : TInv n T a (2 ^ n)) : TInv n T (a + 1) 0 := by
  refine ⟨h.1, h.2.1, fun i j => ?_⟩
  rw [h.2.2 i j]
  congr 1
  exact decide_eq_decide.2 (by omega)
theorem TInv.no {n : Nat} {T : List Nat} {a b : Nat} (h : TInv n T a b) (hs : safeN n a b = false) : TInv n T a (b + 1) := by
  refine ⟨h.1, h.2.1, fun i j => ?_⟩
  rw [h.2.2 i j]
  by_cases he : i = a ∧ j = b
  · rw [he.1, he.2, hs, Bool.and_false, Bool.and_false]
  · congr 1
    exact decide_eq_decide.2 (by omega)
theorem TInv.yes {n : Nat} {T : List Nat} {a b : Nat} (h : TInv n T a b) (ha : a < 32) (hb : b < 2 ^ n) (hb32 : b < 32) (hs : safeN n a b = true) : TInv n (T.set a (T.getD a 0 ||| 2 ^ b)) a (b + 1) := by
  have hla : a < T.length := by rw [h.1]; exact ha
  refine ⟨by rw [List.length_set]; exact h.1, fun v hv => ?_, fun i j => ?_⟩
  · rcases List.mem_or_eq_of_mem_set hv with hv | rfl
    · exact h.2.1 v hv
    · refine Nat.or_lt_two_pow (n := 32) ?_ (two_lt hb32)
      rw [List.getD_eq_getElem?_getD, List.getElem?_eq_getElem hla]
      exact h.2.1 _ (List.getElem_mem hla)
  · rw [List.getD_eq_getElem?_getD, List.getElem?_set]
    by_cases hi : a = i
    · subst hi
      rw [if_pos rfl, if_pos hla, Option.getD_some, Nat.testBit_or, h.2.2 a j, Nat.testBit_two_pow]
      by_cases hj : b = j
      · subst hj
        rw [hs, decide_eq_true rfl, decide_eq_true (show b < 2 ^ n ∧ (a < a ∨ a = a ∧ b < b + 1) by omega), Bool.or_true]; rfl
      · rw [decide_eq_false hj, Bool.or_false]
        congr 1
        exact decide_eq_decide.2 (by omega)
    · rw [if_neg hi, ← List.getD_eq_getElem?_getD, h.2.2 i j]
      congr 1
      exact decide_eq_decide.2 (by omega)
abbrev uV (v : Nat) : AV := .int .u32 (v : Int)
def mostE (n : Int) : Int := if 1 ≤ n ∧ n ≤ 5 then 0 else 1
def mostV (n : Int) : Nat := if 1 ≤ n ∧ n ≤ 5 then mostN n.toNat else 0
theorem mostE_nat {n : Nat} (h : 1 ≤ n ∧ n ≤ 5) : mostE (n : Int) = 0 ∧ mostV (n : Int) = mostN n := ⟨if_pos (by omega), by rw [mostV, if_pos (by omega)]; rfl⟩
theorem mostE_bad {n : Int} (h : ¬ (1 ≤ n ∧ n ≤ 5)) : mostE n = 1 ∧ mostV n = 0 := ⟨if_neg h, if_neg h⟩
section
variable {P : Program} {n : Nat} {ops : Array Oper} {ex : List Nat} {Q : KF → AHeap → Prop} {k : Nat} {os : List Oper} {K : KF} {h h0 : AHeap} {d : Nat} {ty : TypeId} {pos : String} {after : Array Edge} {objs : List Obj}
theorem KOps.negK {t : TypeId} {x : Operand} {kd : IntKind} {a : Int} [hx : EvK h.globs n K x (.int kd a)] (hk : KOps P n ops ex Q (k + 1) os ((d, .int kd (kd.wrap (0 - a))) :: K) h) : KOps P n ops ex Q k (⟨some d, .unOp .neg t x, ty, pos, after, none⟩ :: os) K h :=
  KOps.pure rfl (by simp only [apure, hx.eq, aun]) hk
/-- A number of an array of numbers of 32 bits. -/
theorem KOps.loadU32 {x : Operand} {p q : AV} {t : TypeId} {j i : Nat} {l : List Nat} {tip : Bool} [hx : EvK h.globs n K x q] [ht : ScT P t] (st : St h0 h objs) (hk' : objs[i]? = some ⟨p, 0, l.map uV, tip⟩) (ha : AddrOf q p 0 j) (hj : j < l.length) (hk : KOps P n ops ex Q (k + 1) os ((d, .int .u32 ((l.getD j 0 : Nat) : Int)) :: K) h) :
    KOps P n ops ex Q k (⟨some d, .load t x, ty, pos, after, none⟩ :: os) K h :=
  KOps.load ha (st.rd i hk') (by simp [List.getElem?_map, List.getElem?_eq_getElem hj, List.getD_eq_getElem?_getD]) hk
theorem KOps.storeU32 {t : TypeId} {x y : Operand} {p q : AV} {i j c : Nat} {l : List Nat} {tip : Bool} [hx : EvK h.globs n K x q] [hy : EvK h.globs n K y (.int .u32 (c : Int))] [ht : ScT P t] (st : St h0 h objs) (hex : ex.contains k = false) (hk' : objs[i]? = some ⟨p, 0, l.map uV, tip⟩) (ha : AddrOf q p 0 j) (hj : j < l.length)
    (hk : ∀ h', St h0 h' (objs.set i ⟨p, 0, (l.set j c).map uV, tip⟩) → KOps P n ops ex Q (k + 1) os K h') : KOps P n ops ex Q k (⟨none, .store t x y, ty, pos, after, none⟩ :: os) K h := by
  refine KOps.store st hex hk' ha rfl (by simpa using hj) ?_
  intro h' hS
  refine hk h' ?_
  have e : (l.map uV).set j (.int .u32 (c : Int)) = (l.set j c).map uV := by rw [List.map_set]
  simp only [e] at hS
  exact hS
end
theorem ones_c {h : AHeap} {x : Nat} (hx : x < 4294967296) : ACalls Go.Proofs.Tryd.prog 66 [.int .u32 (x : Int)] h (fun q h' => q = .int .i64 ((bitsL x).length : Int) ∧ h = h') := by
  refine KA.fn 21 [.tmp 2] Go.Proofs.Tryd.func66 rfl (by decide) rfl rfl (Nat.le_of_ble_eq_true rfl) ?_
  have ht := top_byte hx
  have h1 := cnt8_le (x >>> 24)
  have h2 := cnt8_le (x >>> 16 &&& 255)
  have h3 := cnt8_le (x >>> 8 &&& 255)
  have h4 := cnt8_le (x &&& 255)
  have hb := bitsL_len x
  rw [ht.2] at hb
  show KA _ 21 _ _ [(0, .int .u32 (x : Int))] _
  refine KA.seq ?_
  refine KA.region rfl ?_
  refine KOps.assign ?_
  refine KOps.done ?_
  refine sqQ.normal ?_
  refine KA.sub (Sub.cons (t := 0) Look.eq (Sub.nil _)) ?_
  refine KA.seq ?_
  refine KA.draw [] mixed rfl (by kernel_rfl) ?_
  refine KOps.move ?_
  refine KOps.shr (by omega) ?_
  rw [shr24]
  refine KOps.sAt (s := popS) (j := x >>> 24) rfl (by rw [popS_size]; exact ht.1) ?_
  rw [pop_val _ (ht.1)]
  refine KOps.move ?_
  refine KOps.shr (by omega) ?_
  rw [shr16]
  refine KOps.bits (by simp) ?_
  rw [and255 (shr_lt 16 hx)]
  refine KOps.sAt (s := popS) (j := x >>> 16 &&& 255) rfl (by rw [popS_size]; exact and255_lt _) ?_
  rw [pop_val _ (and255_lt _)]
  refine KOps.addK (by rw [IntKind.wrap_u8]; omega) ?_
  refine KOps.move ?_
  refine KOps.shr (by omega) ?_
  rw [shr8]
  refine KOps.bits (by simp) ?_
  rw [and255 (shr_lt 8 hx)]
  refine KOps.sAt (s := popS) (j := x >>> 8 &&& 255) rfl (by rw [popS_size]; exact and255_lt _) ?_
  rw [pop_val _ (and255_lt _)]
  refine KOps.addK (by rw [IntKind.wrap_u8]; omega) ?_
  refine KOps.move ?_
  refine KOps.bits (by simp) ?_
  rw [and255 (hx)]
  refine KOps.sAt (s := popS) (j := x &&& 255) rfl (by rw [popS_size]; exact and255_lt _) ?_
  rw [pop_val _ (and255_lt _)]
  refine KOps.addK (by rw [IntKind.wrap_u8]; omega) ?_
  refine KOps.convU (by omega) (by omega) ?_
  refine KOps.assign ?_
  refine KOps.done ?_
  refine sqQ.normal ?_
  refine KA.sub (Sub.cons (t := 2) Look.eq (Sub.nil _)) ?_
  refine KA.ret ?_
  refine fnQ.ret1 ?_
  exact ⟨congrArg (AV.int .i64) (by omega), rfl⟩

theorem tz_c {h : AHeap} {x t : Nat} {l : List Nat} (hT : Tab h) (hx : x < 4294967296) (hb : bitsL x = t :: l) : ACalls Go.Proofs.Tryd.prog 67 [.int .u32 (x : Int)] h (fun q h' => q = .int .i64 (t : Int) ∧ h = h') := by
  refine KA.fn 14 [.tmp 2] Go.Proofs.Tryd.func67 rfl (by decide) rfl rfl (Nat.le_of_ble_eq_true rfl) ?_
  have ht := (bitsL_head hb).1
  have hx0 : 0 < x := by
    rcases Nat.eq_zero_or_pos x with e | e
    · rw [e, bitsL_zero] at hb; cases hb
    · exact e
  have hj := tz_idx t ht
  haveI hzi := hT.ev
  show KA _ 14 _ _ [(0, .int .u32 (x : Int))] _
  refine KA.seq ?_
  refine KA.region rfl ?_
  refine KOps.assign ?_
  refine KOps.done ?_
  refine sqQ.normal ?_
  refine KA.sub (Sub.cons (t := 0) Look.eq (Sub.nil _)) ?_
  refine KA.seq ?_
  refine KA.seq ?_
  refine KA.region rfl ?_
  refine KOps.move ?_
  refine KOps.eql ?_
  refine KOps.done ?_
  refine sqQ.normal ?_
  refine KA.sub (Sub.cons (t := 0) Look.eq (Sub.cons (t := 4) Look.eq (Sub.nil _))) ?_
  refine KA.condD ?_ ?_
  · intro c4
    exact absurd c4 (by omega)
  · intro c4
    refine KA.skip ?_
    refine sqQ.normal ?_
    refine KA.sub (Sub.cons (t := 0) Look.eq (Sub.nil _)) ?_
    refine KA.seq ?_
    refine KA.region rfl ?_
    refine KOps.move ?_
    refine KOps.move ?_
    refine KOps.negK ?_
    rw [negU hx0 hx]
    refine KOps.bits (by simp) ?_
    rw [andU hx (by omega), low_bit hx hb]
    refine KOps.int (v := .int .u32 (IntKind.u32.wrap (((2 ^ t : Nat) : Int) * 125613361))) (.inr (.inr rfl)) rfl ?_
    refine KOps.shr (by omega) ?_
    rw [hj.1]
    refine KOps.indexA addr0 (j := tzJ t) rfl hj.2.1 ?_
    intro p11 hp11
    refine KOps.load hp11 hT.2 hj.2.2 ?_
    refine KOps.convU (by omega) (by omega) ?_
    refine KOps.assign ?_
    refine KOps.done ?_
    refine sqQ.normal ?_
    refine KA.sub (Sub.cons (t := 2) Look.eq (Sub.nil _)) ?_
    refine KA.ret ?_
    refine fnQ.ret1 ?_
    exact ⟨rfl, rfl⟩

theorem choose_c {h0 : AHeap} {p2 p3 p4 : AV} {T : List Nat} (hp2 : AddrOf p2 p2 0 0) (hp3 : AddrOf p3 p3 0 0) (hp4 : AddrOf p4 p4 0 0) (hT : T.length = 32) (hTv : ∀ v ∈ T, v < 4294967296) (hTab : Tab h0) (d : Nat) : ∀ {h : AHeap} {x n b : Nat}, (bitsL x).length = d → x < 4294967296 → n + d ≤ 64 → b ≤ 64 → St h0 h [⟨p2, 0, [.int .i64 ((b : Nat) : Int)], true⟩, ⟨p3, 0, [.fn 65 [p2, p3, p4]], true⟩, ⟨p4, 0, T.map uV, true⟩] →
    ACalls Go.Proofs.Tryd.prog 65 [.int .u32 (x : Int), .int .i64 (n : Int), p2, p3, p4] h (fun _ h' => St h0 h' [⟨p2, 0, [.int .i64 ((max b (n + misL (fun i j => (T.getD i 0).testBit j) (bitsL x)) : Nat) : Int)], true⟩, ⟨p3, 0, [.fn 65 [p2, p3, p4]], true⟩, ⟨p4, 0, T.map uV, true⟩]) := by
  induction d using Nat.strongRecOn
  rename_i d ih
  intro h x n b hd hx hn hb hS
  have hml := misL_le (fun i j => (T.getD i 0).testBit j) (bitsL x)
  refine KA.fn 36 [] Go.Proofs.Tryd.func65 rfl (by decide) rfl rfl (Nat.le_of_ble_eq_true rfl) ?_
  show KA _ 36 _ _ [(0, .int .u32 (x : Int)), (1, .int .i64 (n : Int)), (2, p2), (3, p3), (4, p4)] _
  refine KA.seq ?_
  refine KA.region rfl ?_
  refine KOps.loadBox hS (i := 0) rfl hp2 ?_
  refine KOps.move ?_
  refine KOps.max ?_
  refine KOps.storeBox hS rfl (i := 0) rfl hp2 (by first | rfl | assumption) ?_
  intro h' hS
  simp only [List.set_cons_zero, List.set_cons_succ, Nat.zero_add] at hS
  rw [show (Max.max (b : Int) (n : Int)) = ((max b n : Nat) : Int) by omega] at hS
  refine KOps.done ?_
  refine sqQ.normal ?_
  refine KA.sub (Sub.cons (t := 0) Look.eq (Sub.cons (t := 1) Look.eq (Sub.cons (t := 2) Look.eq (Sub.cons (t := 3) Look.eq (Sub.cons (t := 4) Look.eq (Sub.nil _)))))) ?_
  refine KA.block ?_
  refine KA.loop (X := Nat × Nat) (fun x_ => [(0, .int .u32 (x_.1 : Int)), (1, .int .i64 (n : Int)), (2, p2), (3, p3), (4, p4)]) (fun x_ h' => x_.1 < 4294967296 ∧ (bitsL x_.1).length ≤ d ∧ n ≤ x_.2 ∧ max x_.2 (n + misL (fun i j => (T.getD i 0).testBit j) (bitsL x_.1)) = max b (n + misL (fun i j => (T.getD i 0).testBit j) (bitsL x)) ∧ St h0 h' [⟨p2, 0, [.int .i64 ((x_.2 : Nat) : Int)], true⟩, ⟨p3, 0, [.fn 65 [p2, p3, p4]], true⟩, ⟨p4, 0, T.map uV, true⟩]) (fun x_ => (bitsL x_.1).length) (x, max b n) (by repeat (first | exact Sub.nil _ | refine Sub.cons Look.eq ?_ | refine Sub.cons (Eq.trans Look.eq (congrArg (AV.int _) (by first | omega | (dsimp only; omega)))) ?_)) ?_ ?_
  · exact ⟨hx, by dsimp only; omega, by dsimp only; omega, by dsimp only; omega, hS⟩
  rintro ⟨y, b1⟩ h5 ⟨hy, hyl, hnb, hme, hS⟩
  dsimp only at hy hyl hnb hme hS ⊢
  have hml2 := misL_le (fun i j => (T.getD i 0).testBit j) (bitsL y)
  have hz := hTab.ext hS.keeps
  refine KA.seq ?_
  refine KA.seq ?_
  refine KA.draw [5] mixed rfl (by kernel_rfl) ?_
  refine KOps.move ?_
  refine KOps.neq ?_
  refine KOps.move ?_
  refine KOps.guardB (dj := 13) rfl rfl true false rfl ?_ ?_
  · intro g13
    have g13 := not_of_not_decide g13
    refine KOps.move ?_
    refine KOps.guardYes (dj := 13) rfl rfl ?_
    refine KOps.move ?_
    refine KOps.guardYes (dj := 13) rfl rfl ?_
    refine KOps.callK (by intro _ _ hr; exact hr.2 ▸ Keeps.refl _) (ones_c (by omega)) ?_
    rintro _ _ ⟨rfl, rfl⟩
    refine KOps.guardYes (dj := 13) rfl rfl ?_
    refine KOps.add (by first | omega | (simp; omega)) (by first | omega | (simp; omega)) ?_
    refine KOps.guardYes (dj := 13) rfl rfl ?_
    refine KOps.loadBox hS (i := 0) rfl hp2 ?_
    refine KOps.guardYes (dj := 13) rfl rfl ?_
    refine KOps.gtr ?_
    refine KOps.pickT ?_
    refine KOps.done ?_
    refine sqQ.normal ?_
    refine KA.sub (Sub.cons (t := 0) Look.eq (Sub.cons (t := 1) Look.eq (Sub.cons (t := 2) Look.eq (Sub.cons (t := 3) Look.eq (Sub.cons (t := 4) Look.eq (Sub.cons (t := 14) Look.eq (Sub.cons (t := 15) Look.eq (Sub.cons (t := 16) Look.eq (Sub.cons (t := 17) Look.eq (Sub.cons (t := 18) Look.eq (Sub.cons (t := 19) Look.eq (Sub.cons (t := 20) Look.eq (Sub.nil _))))))))))))) ?_
    refine KA.condD ?_ ?_
    · intro c20
      obtain ⟨t, l, hbt⟩ : ∃ t l, bitsL y = t :: l := by
        cases hq : bitsL y with
        | nil => exact absurd (bitsL_nil hy hq) (by omega)
        | cons t l => exact ⟨t, l, rfl⟩
      have hbc := bitsL_clear hbt
      have ht := (bitsL_head hbt).1
      have htp := two_lt ht
      have hy1 : y &&& (2 ^ 32 - (2 ^ t + 1)) < 4294967296 := Nat.lt_of_le_of_lt Nat.and_le_left hy
      have hTt : T.getD t 0 < 4294967296 := by
        rw [List.getD_eq_getElem?_getD, List.getElem?_eq_getElem (by omega : t < T.length)]
        exact hTv _ (List.getElem_mem _)
      have hy2 : (y &&& (2 ^ 32 - (2 ^ t + 1))) &&& T.getD t 0 < 4294967296 := Nat.and_lt_two_pow (n := 32) _ hTt
      have hb2 : bitsL ((y &&& (2 ^ 32 - (2 ^ t + 1))) &&& T.getD t 0) = l.filter ((fun i j => (T.getD i 0).testBit j) t) := by rw [bitsL_and, hbc]
      have hfl := List.length_filter_le ((fun i j => (T.getD i 0).testBit j) t) l
      have hyl2 : l.length + 1 ≤ d := by rw [hbt, List.length_cons] at hyl; exact hyl
      refine KA.skip ?_
      refine sqQ.normal ?_
      refine KA.sub (Sub.cons (t := 0) Look.eq (Sub.cons (t := 1) Look.eq (Sub.cons (t := 2) Look.eq (Sub.cons (t := 3) Look.eq (Sub.cons (t := 4) Look.eq (Sub.cons (t := 14) Look.eq (Sub.cons (t := 15) Look.eq (Sub.cons (t := 16) Look.eq (Sub.cons (t := 17) Look.eq (Sub.cons (t := 18) Look.eq (Sub.cons (t := 19) Look.eq (Sub.nil _)))))))))))) ?_
      refine KA.block ?_
      refine KA.seq ?_
      refine KA.region rfl ?_
      refine KOps.move ?_
      refine KOps.call rfl (tz_c hz hy hbt) ?_
      rintro _ _ ⟨rfl, rfl⟩
      refine KOps.assign ?_
      refine KOps.done ?_
      refine sqQ.normal ?_
      refine KA.sub (Sub.cons (t := 0) Look.eq (Sub.cons (t := 1) Look.eq (Sub.cons (t := 2) Look.eq (Sub.cons (t := 3) Look.eq (Sub.cons (t := 4) Look.eq (Sub.cons (t := 7) Look.eq (Sub.cons (t := 14) Look.eq (Sub.cons (t := 15) Look.eq (Sub.cons (t := 16) Look.eq (Sub.cons (t := 17) Look.eq (Sub.cons (t := 18) Look.eq (Sub.cons (t := 19) Look.eq (Sub.nil _))))))))))))) ?_
      refine KA.seq ?_
      refine KA.region rfl ?_
      refine KOps.move ?_
      refine KOps.move ?_
      refine KOps.shl (by omega) ?_
      rw [shl32 t ht]
      refine KOps.bits (by simp) ?_
      rw [andNotU hy htp]
      refine KOps.assign ?_
      refine KOps.done ?_
      refine sqQ.normal ?_
      refine KA.sub (Sub.cons (t := 0) Look.eq (Sub.cons (t := 1) Look.eq (Sub.cons (t := 2) Look.eq (Sub.cons (t := 3) Look.eq (Sub.cons (t := 4) Look.eq (Sub.cons (t := 7) Look.eq (Sub.cons (t := 14) Look.eq (Sub.cons (t := 15) Look.eq (Sub.cons (t := 16) Look.eq (Sub.cons (t := 17) Look.eq (Sub.cons (t := 18) Look.eq (Sub.cons (t := 19) Look.eq (Sub.nil _))))))))))))) ?_
      refine KA.draw [] mixed rfl (by kernel_rfl) ?_
      refine KOps.loadBox hS (i := 1) rfl hp3 ?_
      refine KOps.move ?_
      refine KOps.move ?_
      refine KOps.indexA hp4 (j := t) rfl ht ?_
      intro p30 hp30
      refine KOps.loadU32 hS (i := 2) rfl hp30 (by omega) ?_
      refine KOps.bits (by simp) ?_
      rw [andU hy1 hTt]
      refine KOps.move ?_
      refine KOps.add (by first | omega | (simp; omega)) (by first | omega | (simp; omega)) ?_
      refine KOps.call rfl (ih (l.filter ((fun i j => (T.getD i 0).testBit j) t)).length (by omega) (x := (y &&& (2 ^ 32 - (2 ^ t + 1))) &&& T.getD t 0) (n := n + 1) (b := b1) (by rw [hb2]) hy2 (by omega) (by omega) hS) ?_
      rintro _ h9 hS9
      clear hS
      have hS := hS9
      rw [hb2] at hS
      refine KOps.done ?_
      refine blQ.normal ?_
      exact lpQ.normal (y &&& (2 ^ 32 - (2 ^ t + 1)), _) (by repeat (first | exact Sub.nil _ | refine Sub.cons Look.eq ?_ | refine Sub.cons (Eq.trans Look.eq (congrArg (AV.int _) (by first | omega | (dsimp only; omega)))) ?_)) ⟨hy1, by rw [hbc]; rw [hbt, List.length_cons] at hyl; omega, by dsimp only; omega, by rw [hbc, ← hme, hbt, misL_cons]; dsimp only; omega, hS⟩ (by rw [hbc, hbt, List.length_cons]; omega)
    · intro c20
      refine KA.exit ?_
      refine sqQ.exit ?_
      refine lpQ.exit ?_
      refine blQ.here ?_
      refine fnQ.norm0 ?_
      first
       | (rw [← hme, show max b1 (n + misL (fun i j => (T.getD i 0).testBit j) (bitsL y)) = b1 by omega]; exact hS)
       | (have hy0 : y = 0 := by omega
          subst hy0
          rw [bitsL_zero, misL_nil] at hme
          rw [← hme, show max b1 (n + 0) = b1 by omega]; exact hS)
  · intro g13
    have g13 := of_not_decide g13
    refine KOps.guardNo (dj := 13) rfl rfl rfl ?_
    refine KOps.guardNo (dj := 13) rfl rfl rfl ?_
    refine KOps.guardNo (dj := 13) rfl rfl rfl ?_
    refine KOps.guardNo (dj := 13) rfl rfl rfl ?_
    refine KOps.guardNo (dj := 13) rfl rfl rfl ?_
    refine KOps.pickF ?_
    refine KOps.done ?_
    refine sqQ.normal ?_
    refine KA.sub (Sub.cons (t := 0) Look.eq (Sub.cons (t := 1) Look.eq (Sub.cons (t := 2) Look.eq (Sub.cons (t := 3) Look.eq (Sub.cons (t := 4) Look.eq (Sub.cons (t := 14) Look.eq (Sub.cons (t := 15) Look.eq (Sub.cons (t := 16) Look.eq (Sub.cons (t := 17) Look.eq (Sub.cons (t := 18) Look.eq (Sub.cons (t := 19) Look.eq (Sub.cons (t := 20) Look.eq (Sub.nil _))))))))))))) ?_
    refine KA.condF ?_
    refine KA.exit ?_
    refine sqQ.exit ?_
    refine lpQ.exit ?_
    refine blQ.here ?_
    refine fnQ.norm0 ?_
    first
     | (rw [← hme, show max b1 (n + misL (fun i j => (T.getD i 0).testBit j) (bitsL y)) = b1 by omega]; exact hS)
     | (have hy0 : y = 0 := by omega
        subst hy0
        rw [bitsL_zero, misL_nil] at hme
        rw [← hme, show max b1 (n + 0) = b1 by omega]; exact hS)

theorem mostP_c {h : AHeap} {n : Int} (hTab : Tab h) : ACalls Go.Proofs.Tryd.prog 35 [.int .i64 n] h (fun q h' => q = .tup [.int .i64 ((mostV n : Nat) : Int), .int .i64 (mostE n)] ∧ Keeps h h') := by
  refine KA.fn 63 [.tmp 2, .tmp 3] Go.Proofs.Tryd.func35 rfl (by decide) rfl rfl (Nat.le_of_ble_eq_true rfl) ?_
  have hS := St.refl h
  show KA _ 63 _ _ [(0, .int .i64 n)] _
  refine KA.seq ?_
  refine KA.region rfl ?_
  refine KOps.assign ?_
  refine KOps.assign ?_
  refine KOps.done ?_
  refine sqQ.normal ?_
  refine KA.sub (Sub.cons (t := 0) Look.eq (Sub.nil _)) ?_
  refine KA.seq ?_
  refine KA.seq ?_
  refine KA.region rfl ?_
  refine KOps.move ?_
  refine KOps.lss ?_
  refine KOps.move ?_
  refine KOps.guardB (dj := 13) rfl rfl false true rfl ?_ ?_
  · intro g13
    have g13 := of_decide_eq_false g13
    refine KOps.move ?_
    refine KOps.guardYes (dj := 13) rfl rfl ?_
    refine KOps.gtr ?_
    refine KOps.pickF ?_
    refine KOps.done ?_
    refine sqQ.normal ?_
    refine KA.sub (Sub.cons (t := 0) Look.eq (Sub.cons (t := 16) Look.eq (Sub.nil _))) ?_
    refine KA.condD ?_ ?_
    · intro c16
      refine KA.seq ?_
      refine KA.region rfl ?_
      refine KOps.assign ?_
      refine KOps.assign ?_
      refine KOps.done ?_
      refine sqQ.normal ?_
      refine KA.sub (Sub.cons (t := 2) Look.eq (Sub.cons (t := 3) Look.eq (Sub.nil _))) ?_
      refine KA.ret ?_
      refine sqQ.ret ?_
      refine fnQ.retN ?_
      exact ⟨by rw [(mostE_bad (n := n) (by omega)).1, (mostE_bad (n := n) (by omega)).2]; rfl, hS.keeps⟩
    · intro c16
      obtain ⟨m, rfl⟩ : ∃ m : Nat, n = (m : Int) := ⟨n.toNat, by omega⟩
      have hm : 1 ≤ m ∧ m ≤ 5 := by omega
      have hpw : 2 ^ m ≤ 2 ^ 5 := Nat.pow_le_pow_right (by decide) hm.2
      refine KA.skip ?_
      refine sqQ.normal ?_
      refine KA.sub (Sub.cons (t := 0) Look.eq (Sub.nil _)) ?_
      refine KA.seq ?_
      refine KA.region rfl ?_
      refine KOps.alloc hS ?_
      intro p4 h2 hp4 hS
      have hS : St h h2 [⟨p4, 0, (List.replicate 32 0).map uV, true⟩] := hS
      refine KOps.done ?_
      refine sqQ.normal ?_
      refine KA.seq ?_
      refine KA.seq ?_
      refine KA.region rfl ?_
      refine KOps.move ?_
      refine KOps.shl (by omega) ?_
      rw [shl64 m (by omega)]
      refine KOps.move ?_
      refine KOps.done ?_
      refine sqQ.normal ?_
      refine KA.sub (Sub.cons (t := 0) Look.eq (Sub.cons (t := 4) Look.eq (Sub.cons (t := 18) Look.eq (Sub.cons (t := 19) Look.eq (Sub.nil _))))) ?_
      refine KA.block ?_
      refine KA.loop (X := Nat × List Nat) (fun x => [(0, .int .i64 (m : Int)), (4, p4), (18, .int .i64 ((2 ^ m : Nat) : Int)), (19, .int .i64 (x.1 : Int))]) (fun x h' => x.1 ≤ 2 ^ m ∧ TInv m x.2 x.1 0 ∧ St h h' [⟨p4, 0, x.2.map uV, true⟩]) (fun x => 2 ^ m - x.1) (0, List.replicate 32 0) (by repeat (first | exact Sub.nil _ | refine Sub.cons Look.eq ?_ | refine Sub.cons (Eq.trans Look.eq (congrArg (AV.int _) (by first | omega | (dsimp only; omega)))) ?_)) ?_ ?_
      · exact ⟨Nat.zero_le _, TInv.zero m, hS⟩
      rintro ⟨a, T⟩ h3 ⟨ha, hT, hS⟩
      dsimp only at ha hT hS ⊢
      refine KA.seq ?_
      refine KA.region rfl ?_
      refine KOps.lss ?_
      refine KOps.done ?_
      refine sqQ.normal ?_
      refine KA.seq ?_
      refine KA.condD ?_ ?_
      · intro c20
        refine KA.skip ?_
        refine sqQ.normal ?_
        refine KA.sub (Sub.cons (t := 0) Look.eq (Sub.cons (t := 4) Look.eq (Sub.cons (t := 18) Look.eq (Sub.cons (t := 19) Look.eq (Sub.nil _))))) ?_
        refine KA.seq ?_
        refine KA.block ?_
        refine KA.seq ?_
        refine KA.region rfl ?_
        refine KOps.move ?_
        refine KOps.assign ?_
        refine KOps.done ?_
        refine sqQ.normal ?_
        refine KA.sub (Sub.cons (t := 0) Look.eq (Sub.cons (t := 4) Look.eq (Sub.cons (t := 5) Look.eq (Sub.cons (t := 18) Look.eq (Sub.cons (t := 19) Look.eq (Sub.nil _)))))) ?_
        refine KA.seq ?_
        refine KA.region rfl ?_
        refine KOps.move ?_
        refine KOps.shl (by omega) ?_
        rw [shl64 m (by omega)]
        refine KOps.move ?_
        refine KOps.done ?_
        refine sqQ.normal ?_
        refine KA.sub (Sub.cons (t := 0) Look.eq (Sub.cons (t := 4) Look.eq (Sub.cons (t := 5) Look.eq (Sub.cons (t := 18) Look.eq (Sub.cons (t := 19) Look.eq (Sub.cons (t := 23) Look.eq (Sub.cons (t := 24) Look.eq (Sub.nil _)))))))) ?_
        refine KA.block ?_
        refine KA.loop (X := Nat × List Nat) (fun x => [(0, .int .i64 (m : Int)), (4, p4), (5, .int .i64 (a : Int)), (18, .int .i64 ((2 ^ m : Nat) : Int)), (19, .int .i64 (a : Int)), (23, .int .i64 ((2 ^ m : Nat) : Int)), (24, .int .i64 (x.1 : Int))]) (fun x h' => x.1 ≤ 2 ^ m ∧ TInv m x.2 a x.1 ∧ St h h' [⟨p4, 0, x.2.map uV, true⟩]) (fun x => 2 ^ m - x.1) (0, T) (by repeat (first | exact Sub.nil _ | refine Sub.cons Look.eq ?_ | refine Sub.cons (Eq.trans Look.eq (congrArg (AV.int _) (by first | omega | (dsimp only; omega)))) ?_)) ?_ ?_
        · exact ⟨Nat.zero_le _, hT, hS⟩
        rintro ⟨b, T⟩ h4 ⟨hb, hT, hS⟩
        dsimp only at hb hT hS ⊢
        refine KA.seq ?_
        refine KA.region rfl ?_
        refine KOps.lss ?_
        refine KOps.done ?_
        refine sqQ.normal ?_
        refine KA.seq ?_
        refine KA.condD ?_ ?_
        · intro c25
          refine KA.skip ?_
          refine sqQ.normal ?_
          refine KA.sub (Sub.cons (t := 0) Look.eq (Sub.cons (t := 4) Look.eq (Sub.cons (t := 5) Look.eq (Sub.cons (t := 18) Look.eq (Sub.cons (t := 19) Look.eq (Sub.cons (t := 23) Look.eq (Sub.cons (t := 24) Look.eq (Sub.nil _)))))))) ?_
          refine KA.seq ?_
          refine KA.block ?_
          refine KA.seq ?_
          refine KA.region rfl ?_
          refine KOps.move ?_
          refine KOps.assign ?_
          refine KOps.done ?_
          refine sqQ.normal ?_
          refine KA.sub (Sub.cons (t := 0) Look.eq (Sub.cons (t := 4) Look.eq (Sub.cons (t := 5) Look.eq (Sub.cons (t := 6) Look.eq (Sub.cons (t := 18) Look.eq (Sub.cons (t := 19) Look.eq (Sub.cons (t := 23) Look.eq (Sub.cons (t := 24) Look.eq (Sub.nil _))))))))) ?_
          refine KA.seq ?_
          refine KA.region rfl ?_
          have hba := bitsW_len m a
          have hbb := bitsW_len m b
          refine KOps.move ?_
          refine KOps.move ?_
          refine KOps.call rfl (written_c (x := a) (n := m) (by omega) (by omega)) ?_
          rintro _ _ ⟨rfl, rfl⟩
          refine KOps.call rfl (less_w (by omega)) ?_
          rintro v31 h31 hS31
          have hS0 : St _ _ (_ :: _) := St.trans hS hS31
          clear hS
          have hS := hS0
          clear hS0
          refine KOps.move ?_
          refine KOps.move ?_
          refine KOps.call rfl (written_c (x := b) (n := m) (by omega) (by omega)) ?_
          rintro _ _ ⟨rfl, rfl⟩
          refine KOps.call rfl (less_w (by omega)) ?_
          rintro v35 h35 hS35
          have hS0 : St _ _ (_ :: _) := St.trans hS hS35
          clear hS
          have hS := hS0
          clear hS0
          refine KOps.call rfl (sharedW_c (hS.rd 1 rfl) (hS.rd 0 rfl) (by omega) (by omega)) ?_
          rintro _ _ ⟨rfl, rfl⟩
          refine KOps.move ?_
          refine KOps.extract ?_
          refine KOps.extract ?_
          refine KOps.assign ?_
          refine KOps.assign ?_
          refine KOps.done ?_
          refine sqQ.normal ?_
          refine KA.sub (Sub.cons (t := 0) Look.eq (Sub.cons (t := 4) Look.eq (Sub.cons (t := 5) Look.eq (Sub.cons (t := 6) Look.eq (Sub.cons (t := 8) Look.eq (Sub.cons (t := 18) Look.eq (Sub.cons (t := 19) Look.eq (Sub.cons (t := 23) Look.eq (Sub.cons (t := 24) Look.eq (Sub.nil _)))))))))) ?_
          refine KA.seq ?_
          refine KA.region rfl ?_
          refine KOps.move ?_
          refine KOps.move ?_
          refine KOps.neq ?_
          refine KOps.move ?_
          refine KOps.guardB (dj := 42) rfl rfl true false rfl ?_ ?_
          · intro g42
            have g42 := not_of_not_decide g42
            refine KOps.move ?_
            refine KOps.guardYes (dj := 42) rfl rfl ?_
            refine KOps.not ?_
            refine KOps.pickT ?_
            refine KOps.done ?_
            refine sqQ.normal ?_
            refine KA.sub (Sub.cons (t := 0) Look.eq (Sub.cons (t := 4) Look.eq (Sub.cons (t := 5) Look.eq (Sub.cons (t := 6) Look.eq (Sub.cons (t := 18) Look.eq (Sub.cons (t := 19) Look.eq (Sub.cons (t := 23) Look.eq (Sub.cons (t := 24) Look.eq (Sub.cons (t := 43) Look.eq (Sub.cons (t := 44) Look.eq (Sub.cons (t := 45) Look.eq (Sub.nil _)))))))))))) ?_
            refine KA.condB ?_ ?_
            · intro c45
              refine KA.draw [] mixed rfl (by kernel_rfl) ?_
              have hsf : safeN m a b = true := by
                unfold safeN clashW
                rw [decide_eq_false (by omega), c45]; rfl
              have hTa : T.getD a 0 < 4294967296 := by
                rw [List.getD_eq_getElem?_getD, List.getElem?_eq_getElem (by rw [hT.1]; omega : a < T.length)]
                exact hT.2.1 _ (List.getElem_mem _)
              have hl32 := hT.1
              refine KOps.move ?_
              refine KOps.indexA hp4 (j := a) rfl (by omega) ?_
              intro p47 hp47
              refine KOps.loadU32 hS (i := 2) rfl hp47 (by omega) ?_
              refine KOps.move ?_
              refine KOps.shl (by omega) ?_
              rw [shl32 b (by omega)]
              refine KOps.bits (by simp) ?_
              rw [orU hTa (two_lt (by omega))]
              refine KOps.indexA hp4 (j := a) rfl (by omega) ?_
              intro p52 hp52
              refine KOps.storeU32 hS rfl (i := 2) rfl hp52 (by omega) ?_
              intro h' hS
              simp only [List.set_cons_zero, List.set_cons_succ, Nat.zero_add] at hS
              refine KOps.done ?_
              refine blQ.normal ?_
              refine sqQ.normal ?_
              refine KA.sub (Sub.cons (t := 0) Look.eq (Sub.cons (t := 4) Look.eq (Sub.cons (t := 5) Look.eq (Sub.cons (t := 18) Look.eq (Sub.cons (t := 19) Look.eq (Sub.cons (t := 23) Look.eq (Sub.cons (t := 24) Look.eq (Sub.cons (t := 43) Look.eq (Sub.cons (t := 44) Look.eq (Sub.nil _)))))))))) ?_
              refine KA.region rfl ?_
              refine KOps.add (by first | omega | (simp; omega)) (by first | omega | (simp; omega)) ?_
              refine KOps.move ?_
              refine KOps.done ?_
              exact lpQ.normal (b + 1, _) (by repeat (first | exact Sub.nil _ | refine Sub.cons Look.eq ?_ | refine Sub.cons (Eq.trans Look.eq (congrArg (AV.int _) (by first | omega | (dsimp only; omega)))) ?_)) ⟨by dsimp only; omega, hT.yes (by omega) (by omega) (by omega) hsf, St.pick [2] (by decide) rfl hS⟩ (by dsimp only; omega)
            · intro c45
              refine KA.skip ?_
              refine blQ.normal ?_
              refine sqQ.normal ?_
              refine KA.sub (Sub.cons (t := 0) Look.eq (Sub.cons (t := 4) Look.eq (Sub.cons (t := 5) Look.eq (Sub.cons (t := 18) Look.eq (Sub.cons (t := 19) Look.eq (Sub.cons (t := 23) Look.eq (Sub.cons (t := 24) Look.eq (Sub.cons (t := 43) Look.eq (Sub.cons (t := 44) Look.eq (Sub.nil _)))))))))) ?_
              refine KA.region rfl ?_
              refine KOps.add (by first | omega | (simp; omega)) (by first | omega | (simp; omega)) ?_
              refine KOps.move ?_
              refine KOps.done ?_
              exact lpQ.normal (b + 1, T) (by repeat (first | exact Sub.nil _ | refine Sub.cons Look.eq ?_ | refine Sub.cons (Eq.trans Look.eq (congrArg (AV.int _) (by first | omega | (dsimp only; omega)))) ?_)) ⟨by dsimp only; omega, hT.no (by unfold safeN clashW; rw [c45, Bool.and_false]), St.pick [2] (by decide) rfl hS⟩ (by dsimp only; omega)
          · intro g42
            have g42 := of_not_decide g42
            refine KOps.guardNo (dj := 42) rfl rfl rfl ?_
            refine KOps.pickF ?_
            refine KOps.done ?_
            refine sqQ.normal ?_
            refine KA.sub (Sub.cons (t := 0) Look.eq (Sub.cons (t := 4) Look.eq (Sub.cons (t := 5) Look.eq (Sub.cons (t := 6) Look.eq (Sub.cons (t := 18) Look.eq (Sub.cons (t := 19) Look.eq (Sub.cons (t := 23) Look.eq (Sub.cons (t := 24) Look.eq (Sub.cons (t := 43) Look.eq (Sub.cons (t := 44) Look.eq (Sub.cons (t := 45) Look.eq (Sub.nil _)))))))))))) ?_
            refine KA.condF ?_
            refine KA.skip ?_
            refine blQ.normal ?_
            refine sqQ.normal ?_
            refine KA.sub (Sub.cons (t := 0) Look.eq (Sub.cons (t := 4) Look.eq (Sub.cons (t := 5) Look.eq (Sub.cons (t := 18) Look.eq (Sub.cons (t := 19) Look.eq (Sub.cons (t := 23) Look.eq (Sub.cons (t := 24) Look.eq (Sub.cons (t := 43) Look.eq (Sub.cons (t := 44) Look.eq (Sub.nil _)))))))))) ?_
            refine KA.region rfl ?_
            refine KOps.add (by first | omega | (simp; omega)) (by first | omega | (simp; omega)) ?_
            refine KOps.move ?_
            refine KOps.done ?_
            exact lpQ.normal (b + 1, T) (by repeat (first | exact Sub.nil _ | refine Sub.cons Look.eq ?_ | refine Sub.cons (Eq.trans Look.eq (congrArg (AV.int _) (by first | omega | (dsimp only; omega)))) ?_)) ⟨by dsimp only; omega, hT.no (by unfold safeN; rw [decide_eq_true (by omega)]; rfl), St.pick [2] (by decide) rfl hS⟩ (by dsimp only; omega)
        · intro c25
          refine KA.exit ?_
          refine sqQ.exit ?_
          refine lpQ.exit ?_
          refine blQ.here ?_
          refine blQ.normal ?_
          refine sqQ.normal ?_
          refine KA.sub (Sub.cons (t := 0) Look.eq (Sub.cons (t := 4) Look.eq (Sub.cons (t := 18) Look.eq (Sub.cons (t := 19) Look.eq (Sub.nil _))))) ?_
          refine KA.region rfl ?_
          refine KOps.add (by first | omega | (simp; omega)) (by first | omega | (simp; omega)) ?_
          refine KOps.move ?_
          refine KOps.done ?_
          have hbe : b = 2 ^ m := by omega
          subst hbe
          exact lpQ.normal (a + 1, T) (by repeat (first | exact Sub.nil _ | refine Sub.cons Look.eq ?_ | refine Sub.cons (Eq.trans Look.eq (congrArg (AV.int _) (by first | omega | (dsimp only; omega)))) ?_)) ⟨by dsimp only; omega, hT.row, hS⟩ (by dsimp only; omega)
      · intro c20
        refine KA.exit ?_
        refine sqQ.exit ?_
        refine lpQ.exit ?_
        refine blQ.here ?_
        refine sqQ.normal ?_
        refine KA.sub (Sub.cons (t := 0) Look.eq (Sub.cons (t := 4) Look.eq (Sub.nil _))) ?_
        refine KA.seq ?_
        refine KA.region rfl ?_
        refine KOps.alloc hS ?_
        intro p9 h' hp9 hS
        refine KOps.storeBox hS rfl (i := 0) rfl hp9 (by first | rfl | assumption) ?_
        intro h' hS
        refine KOps.done ?_
        refine sqQ.normal ?_
        refine KA.seq ?_
        refine KA.region rfl ?_
        refine KOps.alloc hS ?_
        intro p10 h' hp10 hS
        refine KOps.done ?_
        refine sqQ.normal ?_
        refine KA.seq ?_
        refine KA.region rfl ?_
        refine KOps.makeFunc ?_
        refine KOps.storeBox hS rfl (i := 0) rfl hp10 (by first | rfl | assumption) ?_
        intro h' hS
        refine KOps.done ?_
        refine sqQ.normal ?_
        refine KA.sub (Sub.cons (t := 0) Look.eq (Sub.cons (t := 9) Look.eq (Sub.cons (t := 10) Look.eq (Sub.nil _)))) ?_
        refine KA.seq ?_
        refine KA.draw [] mixed rfl (by kernel_rfl) ?_
        refine KOps.loadBox hS (i := 0) rfl hp10 ?_
        refine KOps.move ?_
        refine KOps.shl (by omega) ?_
        rw [shlU64 m (by omega)]
        refine KOps.shl (by omega) ?_
        refine KOps.int (v := .int .u32 (IntKind.u32.wrap (IntKind.u32.wrap (1 * 2 ^ Min.min ((2 ^ m : Nat) : Int).toNat (IntKind.bits .u32)) - 1))) (.inr (.inr rfl)) rfl ?_
        rw [full32 m (by omega)]
        refine KOps.call rfl (choose_c hp9 hp10 hp4 hT.1 hT.2.1 hTab _ (x := 2 ^ 2 ^ m - 1) (n := 0) (b := 0) rfl (full_lt (by omega)) (by rw [bits_full m (by omega), List.length_range]; omega) (by omega) (St.pick [1, 0, 2] (by decide) rfl hS)) ?_
        rintro _ h9 hS9
        clear hS
        have hS := hS9
        rw [bits_full m (by omega)] at hS
        refine KOps.done ?_
        refine sqQ.normal ?_
        refine KA.sub (Sub.cons (t := 9) Look.eq (Sub.nil _)) ?_
        refine KA.seq ?_
        refine KA.region rfl ?_
        refine KOps.loadBox hS (i := 0) rfl hp9 ?_
        refine KOps.assign ?_
        refine KOps.assign ?_
        refine KOps.done ?_
        refine sqQ.normal ?_
        refine KA.sub (Sub.cons (t := 2) Look.eq (Sub.cons (t := 3) Look.eq (Sub.nil _))) ?_
        refine KA.ret ?_
        refine fnQ.retN ?_
        have hcg : misL (fun i j => (T.getD i 0).testBit j) (List.range (2 ^ m)) = mostN m := misL_congr (fun x hx y hy => by
          have hx := List.mem_range.1 hx
          have hy := List.mem_range.1 hy
          rw [hT.2.2 x y, decide_eq_true (by omega)]; rfl)
        exact ⟨by rw [(mostE_nat hm).1, (mostE_nat hm).2, ← hcg]; congr 3; omega, hS.keeps⟩
  · intro g13
    have g13 := of_decide_eq_true g13
    refine KOps.guardNo (dj := 13) rfl rfl rfl ?_
    refine KOps.pickT ?_
    refine KOps.done ?_
    refine sqQ.normal ?_
    refine KA.sub (Sub.cons (t := 0) Look.eq (Sub.cons (t := 16) Look.eq (Sub.nil _))) ?_
    refine KA.condT ?_
    refine KA.seq ?_
    refine KA.region rfl ?_
    refine KOps.assign ?_
    refine KOps.assign ?_
    refine KOps.done ?_
    refine sqQ.normal ?_
    refine KA.sub (Sub.cons (t := 2) Look.eq (Sub.cons (t := 3) Look.eq (Sub.nil _))) ?_
    refine KA.ret ?_
    refine sqQ.ret ?_
    refine fnQ.retN ?_
    exact ⟨by rw [(mostE_bad (n := n) (by omega)).1, (mostE_bad (n := n) (by omega)).2]; rfl, hS.keeps⟩

end Go.Am

namespace Go.Am
/-- A struct of two parts. -/
def EPair {X Y : Type} (s0 : Nat) (E0 : AHeap → List AV → X → Prop) (E1 : AHeap → List AV → Y → Prop) (h : AHeap) (avs : List AV) (p : X × Y) : Prop := E0 h (avs.take s0) p.1 ∧ E1 h (avs.drop s0) p.2
theorem VRels.split {φ : Emb} {a b : List AV} {cs : List Value} {s : Nat} (h1 : VRels φ a (cs.take s)) (h2 : VRels φ b (cs.drop s)) (hs : s ≤ cs.length) : VRels φ (a ++ b) cs ∧ (a ++ b).take s = a ∧ (a ++ b).drop s = b := by
  have ha : a.length = s := by rw [h1.1, List.length_take]; omega
  have h3 := VRels.append h1 h2
  rw [List.take_append_drop] at h3
  exact ⟨h3, by rw [← ha, List.take_left], by rw [← ha, List.drop_left]⟩
theorem IC.pair {H : Type} {enc : TypeId × Value → H} {P : Program} {t : TypeId} {f0 f1 : Field} {s0 s1 : Nat} {X Y : Type} {E0 : AHeap → List AV → X → Prop} {E1 : AHeap → List AV → Y → Prop} (ht : P.underlying t = some (.struct #[f0, f1])) (hc : P.cellsOf t = s0 + s1) (h0 : f0.offset = 0) (h1 : f1.offset = s0) (hc0 : P.cellsOf f0.type = s0) (hc1 : P.cellsOf f1.type = s1) (i0 : IC enc P f0.type E0) (i1 : IC enc P f1.type E1) : IC enc P t (EPair s0 E0 E1) := by
  refine ⟨?_, fun h h' avs x k hE => ⟨i0.mono _ _ _ _ k hE.1, i1.mono _ _ _ _ k hE.2⟩⟩
  intro W φ h im fuel cs y hy
  obtain ⟨xs, m, rfl, rfl, hl, hxl, hx⟩ := DataW.trod_struct ht hy
  rw [hc] at hl
  have hxl : xs.length = 2 := hxl
  have e0 := hx 0 f0 rfl
  have e1 := hx 1 f1 rfl
  rw [h0, hc0, List.drop_zero, List.getElem?_eq_getElem (by omega)] at e0
  rw [h1, hc1, List.take_of_length_le (by rw [List.length_drop]; omega), List.getElem?_eq_getElem (by omega)] at e1
  obtain ⟨φ1, hp1, a, x, im1, le1, k1, hv1, hE1⟩ := i0.imp W φ h im m _ _ e0
  obtain ⟨φ2, hp2, b, z, im2, le2, k2, hv2, hE2⟩ := i1.imp W φ1 hp1 im1 m _ _ e1
  obtain ⟨q1, q2, q3⟩ := VRels.split (hv1.mono le2) hv2 (by omega)
  exact ⟨φ2, hp2, a ++ b, (x, z), im2, Emb.le_trans le1 le2, k1.trans k2, q1, by rw [q2]; exact i0.mono _ _ _ _ k2 hE1, by rw [q3]; exact hE2⟩
/-- A table, as the first package-level variable. -/
theorem Imp.table {W : World} {cs : List AV} (hcell : ∀ (j : Nat) (x : AV), cs[j]? = some x → ∃ v, W.cell? ⟨0, j, none⟩ = some v ∧ ∀ φ, VRel φ x v) (h0 : 0 < W.heap.size) : ∃ φ h, Imp W φ h ∧ h.globs.contains 0 = true ∧ Rd h (.ptr 0 0) 0 cs := by
  obtain ⟨im, _⟩ := (Imp.empty W).push cs (some (0, 0, cs.length)) (by
    intro k i z hq
    cases hq
    refine ⟨h0, fun j x hx => ?_⟩
    obtain ⟨v, h1, h2⟩ := hcell j x hx
    exact ⟨v, by rw [Nat.zero_add]; exact h1, h2 _⟩)
  refine ⟨_, ⟨(h00.push (.cells none 0 cs)).blks, (h00.push (.cells none 0 cs)).fams, [0]⟩, ⟨⟨?_, im.rel.lt, im.rel.blk, im.rel.arr, im.rel.one, im.rel.sep, im.rel.map, im.rel.ext⟩, im.ro, im.out⟩, rfl, .inr (.inl ⟨0, 0, none, 0, cs, .inr ⟨rfl, rfl⟩, rfl, rfl, by rw [List.drop_zero, List.take_length]⟩)⟩
  intro g hg
  have hg : g = 0 := by simpa using hg
  subst hg
  exact ⟨cs.length, rfl⟩
end Go.Am

namespace Go.Am
open Go.ChangeShapes Go.WideShapes
theorem rows_strs {h : AHeap} : ∀ {rows : List (List AV)} {xs : List ByteArray}, rows.length = xs.length → (∀ (i : Nat) (r : List AV) (x : ByteArray), rows[i]? = some r → xs[i]? = some x → r.length = 1 ∧ EStr h r x) → rows.flatten = strs xs := by
  intro rows
  induction rows with
  | nil => intro xs hl _; rw [List.length_eq_zero_iff.1 hl.symm]; rfl
  | cons r rows ih =>
    intro xs hl hx
    cases xs with
    | nil => cases hl
    | cons x xs =>
      obtain ⟨_, h1, _⟩ := hx 0 r x rfl rfl
      rw [List.flatten_cons, ih (by simpa using hl) (fun i r y hr hy => hx (i + 1) r y (by simpa using hr) (by simpa using hy)), h1]
      rfl
theorem strs_of {h : AHeap} {avs : List AV} {xs : List ByteArray} (hE : ESl 1 EStr h avs xs) : ∃ v, avs = [v] ∧ SRow h v xs := by
  obtain ⟨v, rows, h1, h2, h3, h4⟩ := hE
  refine ⟨v, h1, ?_⟩
  rw [rows_strs h3 h4] at h2
  exact h2
def laidL : List (String × DataW Unit) := [("math/bits.deBruijn32tab", Go.Proofs.YtfoiccnlcheklaaDoor.Rows.laid_math_bits_deBruijn32tab)]
def litI : DataW Unit → Option Int
  | .lit (.int .u8 n) => some n
  | _ => none
def aggL : DataW Unit → List (DataW Unit)
  | .agg l => l
  | _ => []
theorem laid_lits : (aggL Go.Proofs.YtfoiccnlcheklaaDoor.Rows.laid_math_bits_deBruijn32tab).map litI = tzL.map fun (v : Nat) => some (v : Int) := by kernel_rfl
theorem sizes_laid {W : World} (h : laidMetH Go.Proofs.Tryd.prog laidL W) : ∃ φ hp, Imp W φ hp ∧ Tab hp := by
  rw [MakeChecks.laidMetH_plain _ _ _ (by kernel_rfl)] at h
  obtain ⟨ps, ⟨g0, t0, cs0, f0, p0, q0, hg0, ht0, hv0, hd0, _, _⟩, _, _⟩ := h
  obtain rfl := Option.some.inj ((show Go.Proofs.Tryd.prog.globalNamed "math/bits.deBruijn32tab" = some 0 by kernel_rfl).symm.trans hg0)
  obtain rfl := Option.some.inj ((show (Go.Proofs.Tryd.prog.globals[0]?).map (·.type) = some 100 by kernel_rfl).symm.trans ht0)
  obtain ⟨xs, m, rfl, hx1, hl, hxl, hx⟩ := DataW.trod_array Go.Proofs.Tryd.underlying100 hd0
  have c1 : Go.Proofs.Tryd.prog.cellsOf 5 = 1 := by kernel_rfl
  have c2 : Go.Proofs.Tryd.prog.cellsOf 100 = 32 := by kernel_rfl
  rw [c2] at hl
  have hd := (Prod.mk.inj hx1).1
  have hxs : xs.map (fun x => litI x.1) = tzL.map fun (v : Nat) => some (v : Int) := by
    rw [← laid_lits, hd]
    show _ = (xs.map (·.1)).map litI
    rw [List.map_map]; rfl
  have key : ∀ i, i < 32 → cs0.toList[i]? = some (.int .u8 ((tzL.getD i 0 : Nat) : Int)) := by
    intro i hi
    have h2 := hx i hi
    rw [c1, Nat.mul_one, List.getElem?_eq_getElem (by omega)] at h2
    obtain ⟨c, h3, h4, _⟩ := DataW.trod_int Go.Proofs.Tryd.underlying5 h2
    have h5 : ((cs0.toList.drop i).take 1)[0]? = some (.int .u8 c) := by rw [h3]; rfl
    have h6 : cs0.toList[i]? = some (.int .u8 c) := by simpa [List.getElem?_take, List.getElem?_drop] using h5
    have h7 := congrArg (fun l => l[i]?) hxs
    have hti : i < tzL.length := hi
    simp only [List.getElem?_map, List.getElem?_eq_getElem (show i < xs.length by omega), List.getElem?_eq_getElem hti, Option.map_some, Option.some.injEq] at h7
    rw [h4] at h7
    have h8 : c = ((tzL.getD i 0 : Nat) : Int) := by
      rw [List.getD_eq_getElem?_getD, List.getElem?_eq_getElem hti]
      simpa [litI] using h7
    rw [h6, h8]
  have hcell : ∀ i, i < 32 → W.cell? ⟨0, i, none⟩ = some (.int .u8 ((tzL.getD i 0 : Nat) : Int)) := by
    intro i hi
    rw [World.var?_cell hg0 hv0 i, ← Array.getElem?_toList]
    exact key i hi
  obtain ⟨φ, hp, im, h1, h2⟩ := Imp.table (W := W) (cs := tzC) (by
    intro j x hj
    have hj32 : j < 32 := (List.getElem?_eq_some_iff.1 hj).1
    have hjl : j < tzL.length := hj32
    rw [tzC, List.getElem?_map, List.getElem?_eq_getElem hjl] at hj
    cases hj
    refine ⟨_, hcell j hj32, fun φ => ?_⟩
    rw [List.getD_eq_getElem?_getD, List.getElem?_eq_getElem hjl]
    exact .int _ _) (by
    have h3 := hcell 0 (by decide)
    unfold World.cell? at h3
    split at h3
    · rename_i hc
      exact (Array.getElem?_eq_some_iff.1 hc).1
    · cases h3)
  exact ⟨φ, hp, im, h1, h2⟩
end Go.Am
