/-
  Layer 08: sets of words as maps; words by numbers.
  Conditions: none.
-/
import Derived.Test.YtfoiccnlcheklaaDoorCl
import Derived.Test.YtfoiccnlcheklaaDoorSw
namespace Go.Am
theorem nodup_le {α : Type} [DecidableEq α] : ∀ {l m : List α}, l.Nodup → (∀ x ∈ l, x ∈ m) → l.length ≤ m.length := by
  intro l
  induction l with
  | nil => intro m _ _; exact Nat.zero_le _
  | cons a l ih =>
    intro m hn hs
    have hn' := List.nodup_cons.1 hn
    have ha := hs a (by simp)
    have h1 := ih (m := m.erase a) hn'.2 (fun x hx => (List.mem_erase_of_ne (by rintro rfl; exact hn'.1 hx)).2 (hs x (by simp [hx])))
    rw [List.length_erase_of_mem ha] at h1
    have := List.length_pos_of_mem ha
    rw [List.length_cons]
    omega
theorem isDel_ins {x w : List Bool} : isDel x w = true ↔ ∃ i c, i ≤ w.length ∧ x = insW w i c := by
  rw [isDel_iff]
  constructor
  · rintro ⟨i, hi, he⟩
    have hx := erase_insW hi
    rw [he] at hx
    have hl : (x.eraseIdx i).length = x.length - 1 := List.length_eraseIdx_of_lt hi
    rw [he] at hl
    exact ⟨i, _, by omega, hx⟩
  · rintro ⟨i, c, hi, rfl⟩
    exact ⟨i, by rw [insW_len w c hi]; omega, insW_erase c hi⟩
def wordN (x n : Nat) : List Bool := (List.range n).map x.testBit
theorem wordN_len (x n : Nat) : (wordN x n).length = n := by rw [wordN, List.length_map, List.length_range]
theorem wordN_succ (x n : Nat) : wordN x (n + 1) = wordN x n ++ [x.testBit n] := by rw [wordN, wordN, List.range_succ, List.map_append]; rfl
theorem and16 {y : Nat} (hy : y < 65536) : Go.bits .and .u16 (y : Int) 1 = ((y % 2 : Nat) : Int) := by
  have h0 : ∀ z : Nat, z < 65536 → (BitVec.ofInt 16 (z : Int)).toNat = z := fun z hz => by
    rw [BitVec.ofInt_natCast, BitVec.toNat_ofNat]
    exact Nat.mod_eq_of_lt hz
  have h1 : (BitVec.ofInt 16 (y : Int) &&& BitVec.ofInt 16 ((1 : Nat) : Int)).toNat = y % 2 := by rw [BitVec.toNat_and, h0 y hy, h0 1 (by decide), Nat.and_one_is_mod]
  show IntKind.u16.wrap (((BitVec.ofInt 16 (y : Int) &&& BitVec.ofInt 16 ((1 : Nat) : Int)).toNat : Nat) : Int) = _
  rw [h1]
  exact wrapU16 (by omega) (by omega)
theorem bit_mod (x i : Nat) : (([false, true].drop (x >>> i % 2)).take 1) = [x.testBit i] := by
  have h : x.testBit i = decide (x >>> i % 2 = 1) := by
    rw [Nat.testBit, Nat.one_and_eq_mod_two]
    rcases Nat.mod_two_eq_zero_or_one (x >>> i) with e | e <;> rw [e] <;> rfl
  rw [h]
  rcases Nat.mod_two_eq_zero_or_one (x >>> i) with e | e <;> rw [e] <;> rfl
/-! Sets. -/
abbrev kw (w : List Bool) : AV := .str (wd w)
instance kyW : KeyT Go.Proofs.Tryd.prog 9 kw := ⟨fun a => (KeyT.str (P := Go.Proofs.Tryd.prog) (kt := 9) (by kernel_rfl)).ok (wd a), fun a b => by
  have h := (KeyT.str (P := Go.Proofs.Tryd.prog) (kt := 9) (by kernel_rfl)).eq (wd a) (wd b)
  show akeq _ _ (AV.str (wd a)) (AV.str (wd b)) = _
  rw [h]
  exact congrArg some (decide_eq_decide.2 ⟨wd_inj, fun e => by rw [e]⟩)⟩
abbrev setL (P : List (List Bool)) : List (List Bool × Bool) := P.map fun x => (x, true)
abbrev setE (P : List (List Bool)) : List (AV × AV) := entL kw AV.bool (setL P)
abbrev setO (v : AV) (P : List (List Bool)) : Obj := mapO v (setE P)
def addW (P : List (List Bool)) (a : List Bool) : List (List Bool) := if a ∈ P then P else P ++ [a]
theorem mem_addW {P : List (List Bool)} {a x : List Bool} : x ∈ addW P a ↔ x ∈ P ∨ x = a := by
  unfold addW
  by_cases h : a ∈ P
  · rw [if_pos h]; exact ⟨.inl, fun q => q.elim id fun e => e ▸ h⟩
  · rw [if_neg h, List.mem_append, List.mem_singleton]
theorem addW_nodup {P : List (List Bool)} {a : List Bool} (h : P.Nodup) : (addW P a).Nodup := by
  unfold addW
  by_cases ha : a ∈ P
  · rw [if_pos ha]; exact h
  · rw [if_neg ha]
    refine List.nodup_append.2 ⟨h, by simp, ?_⟩
    rintro x hx y hy rfl
    exact ha (List.mem_singleton.1 hy ▸ hx)
theorem mput_same {P : List (List Bool)} {a : List Bool} (h : a ∈ P) : mput (setL P) a true = setL P := by
  induction P with
  | nil => cases h
  | cons p P ih =>
    simp only [setL, List.map_cons, mput]
    by_cases he : a = p
    · rw [if_pos he, he]
    · rw [if_neg he]
      rcases List.mem_cons.1 h with e | e
      · exact absurd e he
      · rw [show mput (P.map fun x => (x, true)) a true = P.map fun x => (x, true) from ih e]
theorem mput_add (P : List (List Bool)) (a : List Bool) : mput (setL P) a true = setL (addW P a) := by
  unfold addW
  by_cases h : a ∈ P
  · rw [if_pos h, mput_same h]
  · rw [if_neg h]; exact mput_set h
theorem mget_W (P : List (List Bool)) (a : List Bool) : (mget (setL P) a).getD false = decide (a ∈ P) := by
  rw [mget_set]
  by_cases h : a ∈ P
  · rw [if_pos h, decide_eq_true h]; rfl
  · rw [if_neg h, decide_eq_false h]; rfl
section
variable {P : Program} {n : Nat} {ops : Array Oper} {ex : List Nat} {Q : KF → AHeap → Prop} {k : Nat} {os : List Oper} {K : KF} {h h0 : AHeap} {d : Nat} {ty : TypeId} {pos : String} {after : Array Edge} {objs : List Obj}
theorem KOps.setPut {t kt : TypeId} {z : AV} {p : List (List Bool)} {v : AV} {x ix y : Operand} {a : List Bool} {i : Nat} [hx : EvK h.globs n K x v] [hi : EvK h.globs n K ix (.str (wd a))] [hy : EvK h.globs n K y (.bool true)] [ht : MpT P t kt z] [hkt : KeyT P kt kw]
    (st : St h0 h objs) (hv : IsMp v) (hk' : objs[i]? = some (setO v p)) (hex : ex.contains k = false)
    (hk : ∀ h', St h0 h' (objs.set i (setO v (addW p a))) → KOps P n ops ex Q (k + 1) os K h') : KOps P n ops ex Q k (⟨none, .mapUpdate t x ix y, ty, pos, after, none⟩ :: os) K h := by
  refine KOps.mapPutK (kf := kw) (vf := AV.bool) (l := setL p) (a := a) (b := true) (u := .bool true) hi.eq rfl st hv hk' hex fun h' hS => hk h' ?_
  rw [mput_add] at hS
  exact hS
theorem KOps.setHas {t kt : TypeId} {p : List (List Bool)} {v : AV} {x ix : Operand} {a : List Bool} [hx : EvK h.globs n K x v] [hi : EvK h.globs n K ix (.str (wd a))] [ht : MpT P t kt (.bool false)] [hkt : KeyT P kt kw] (hr : RdM h v (setE p)) (hex : ex.contains k = false)
    (hk : KOps P n ops ex Q (k + 1) os ((d, .bool (decide (a ∈ p))) :: K) h) : KOps P n ops ex Q k (⟨some d, .lookup t x ix false, ty, pos, after, none⟩ :: os) K h := by
  refine KOps.lookupD (kf := kw) (vf := AV.bool) (l := setL p) (a := a) (w := false) hi.eq hr hex rfl ?_
  rw [mget_W]
  exact hk
end
end Go.Am

namespace Go.Am
theorem word_c {h : AHeap} {x n : Nat} (hx : x < 65536) (hn : n ≤ 12) : ACalls Go.Proofs.Tryd.prog 37 [.int .u16 (x : Int), .int .i64 (n : Int)] h (fun q h' => q = .str (wd (wordN x n)) ∧ h = h') := by
  refine KA.fn 21 [.tmp 4] Go.Proofs.Tryd.func37 rfl (by decide) rfl rfl (Nat.le_of_ble_eq_true rfl) ?_
  show KA _ 21 _ _ [(0, .int .u16 (x : Int)), (1, .int .i64 (n : Int))] _
  refine KA.seq ?_
  refine KA.region rfl ?_
  refine KOps.assign ?_
  refine KOps.done ?_
  refine sqQ.normal ?_
  refine KA.sub (Sub.cons (t := 0) Look.eq (Sub.cons (t := 1) Look.eq (Sub.nil _))) ?_
  refine KA.seq ?_
  refine KA.region rfl ?_
  refine KOps.assign ?_
  refine KOps.done ?_
  refine sqQ.normal ?_
  refine KA.seq ?_
  refine KA.seq ?_
  refine KA.region rfl ?_
  refine KOps.move ?_
  refine KOps.move ?_
  refine KOps.done ?_
  refine sqQ.normal ?_
  refine KA.sub (Sub.cons (t := 0) Look.eq (Sub.cons (t := 5) Look.eq (Sub.cons (t := 7) Look.eq (Sub.cons (t := 8) Look.eq (Sub.nil _))))) ?_
  refine KA.block ?_
  refine KA.loop (X := Nat) (fun i => [(0, .int .u16 (x : Int)), (5, .str (wd (wordN x i))), (7, .int .i64 (n : Int)), (8, .int .i64 (i : Int))]) (fun i h' => i ≤ n ∧ h = h') (fun i => n - i) 0 (by repeat (first | exact Sub.nil _ | refine Sub.cons Look.eq ?_ | refine Sub.cons (Eq.trans Look.eq (congrArg (AV.int _) (by first | omega | (dsimp only; omega)))) ?_)) ?_ ?_
  · exact ⟨Nat.zero_le _, rfl⟩
  rintro i h2 ⟨hi, rfl⟩
  refine KA.seq ?_
  refine KA.region rfl ?_
  refine KOps.lss ?_
  refine KOps.done ?_
  refine sqQ.normal ?_
  refine KA.seq ?_
  refine KA.condD ?_ ?_
  · intro c9
    refine KA.skip ?_
    refine sqQ.normal ?_
    refine KA.sub (Sub.cons (t := 0) Look.eq (Sub.cons (t := 5) Look.eq (Sub.cons (t := 7) Look.eq (Sub.cons (t := 8) Look.eq (Sub.nil _))))) ?_
    refine KA.seq ?_
    refine KA.block ?_
    refine KA.seq ?_
    refine KA.region rfl ?_
    refine KOps.move ?_
    refine KOps.assign ?_
    refine KOps.done ?_
    refine sqQ.normal ?_
    refine KA.sub (Sub.cons (t := 0) Look.eq (Sub.cons (t := 5) Look.eq (Sub.cons (t := 6) Look.eq (Sub.cons (t := 7) Look.eq (Sub.cons (t := 8) Look.eq (Sub.nil _)))))) ?_
    refine KA.region rfl ?_
    have hwl := wordN_len x i
    have hsh : x >>> i < 65536 := by
      rw [Nat.shiftRight_eq_div_pow]
      exact Nat.lt_of_le_of_lt (Nat.div_le_self ..) hx
    refine KOps.move ?_
    refine KOps.move ?_
    refine KOps.move ?_
    refine KOps.shr (by omega) ?_
    rw [shrU x i .u16 (show i ≤ 16 by omega)]
    refine KOps.bits (by simp) ?_
    rw [and16 hsh]
    refine KOps.wLo (l := [false, true]) (j := x >>> i % 2) rfl (by simp only [List.length_cons, List.length_nil]; omega) ?_
    refine KOps.wHi (j := 1) rfl (by rw [List.length_drop]; simp only [List.length_cons, List.length_nil]; omega) ?_
    rw [bit_mod]
    refine KOps.wAdd (by simp only [List.length_cons, List.length_nil]; omega) ?_
    refine KOps.assign ?_
    refine KOps.done ?_
    refine blQ.normal ?_
    refine sqQ.normal ?_
    refine KA.sub (Sub.cons (t := 0) Look.eq (Sub.cons (t := 5) Look.eq (Sub.cons (t := 7) Look.eq (Sub.cons (t := 8) Look.eq (Sub.nil _))))) ?_
    refine KA.region rfl ?_
    refine KOps.add (by first | omega | (simp; omega)) (by first | omega | (simp; omega)) ?_
    refine KOps.move ?_
    refine KOps.done ?_
    exact lpQ.normal (i + 1) (by repeat (first | exact Sub.nil _ | refine Sub.cons Look.eq ?_ | refine Sub.cons (Eq.trans Look.eq (congrArg (AV.int _) (by first | omega | (dsimp only; omega)))) ?_ | refine Sub.cons (Eq.trans Look.eq (congrArg (fun w => AV.str (wd w)) (wordN_succ x i).symm)) ?_)) ⟨by omega, rfl⟩ (by omega)
  · intro c9
    refine KA.exit ?_
    refine sqQ.exit ?_
    refine lpQ.exit ?_
    refine blQ.here ?_
    refine sqQ.normal ?_
    refine KA.sub (Sub.cons (t := 5) Look.eq (Sub.nil _)) ?_
    refine KA.seq ?_
    refine KA.region rfl ?_
    refine KOps.move ?_
    refine KOps.assign ?_
    refine KOps.done ?_
    refine sqQ.normal ?_
    refine KA.sub (Sub.cons (t := 4) Look.eq (Sub.nil _)) ?_
    refine KA.ret ?_
    refine fnQ.ret1 ?_
    have he : i = n := by omega
    subst he
    exact ⟨rfl, rfl⟩

theorem shorts_c {h : AHeap} {l : List Bool} (hl : l.length ≤ 12) : ACalls Go.Proofs.Tryd.prog 40 [.str (wd l)] h (fun v h' => ∃ P, IsMp v ∧ P.Nodup ∧ (∀ x, x ∈ P ↔ isDel l x = true) ∧ St h h' [setO v P]) := by
  refine KA.fn 22 [.tmp 2] Go.Proofs.Tryd.func40 rfl (by decide) rfl rfl (Nat.le_of_ble_eq_true rfl) ?_
  have hS := St.refl h
  show KA _ 22 _ _ [(0, .str (wd l))] _
  refine KA.seq ?_
  refine KA.region rfl ?_
  refine KOps.assign ?_
  refine KOps.done ?_
  refine sqQ.normal ?_
  refine KA.sub (Sub.cons (t := 0) Look.eq (Sub.nil _)) ?_
  refine KA.seq ?_
  refine KA.region rfl ?_
  refine KOps.makeMap hS rfl ?_
  intro v5 h' hv5 hS
  refine KOps.assign ?_
  refine KOps.done ?_
  refine sqQ.normal ?_
  refine KA.sub (Sub.cons (t := 0) Look.eq (Sub.cons (t := 3) Look.eq (Sub.nil _))) ?_
  refine KA.seq ?_
  refine KA.seq ?_
  refine KA.region rfl ?_
  refine KOps.move ?_
  refine KOps.lenW ?_
  refine KOps.move ?_
  refine KOps.done ?_
  refine sqQ.normal ?_
  refine KA.sub (Sub.cons (t := 0) Look.eq (Sub.cons (t := 3) Look.eq (Sub.cons (t := 7) Look.eq (Sub.cons (t := 8) Look.eq (Sub.nil _))))) ?_
  refine KA.block ?_
  refine KA.loop (X := Nat × List (List Bool)) (fun x => [(0, .str (wd l)), (3, v5), (7, .int .i64 (l.length : Int)), (8, .int .i64 (x.1 : Int))]) (fun x h' => x.1 ≤ l.length ∧ x.2.Nodup ∧ (∀ y, y ∈ x.2 ↔ ∃ j, j < x.1 ∧ l.eraseIdx j = y) ∧ St h h' [setO v5 x.2]) (fun x => l.length - x.1) (0, []) (by repeat (first | exact Sub.nil _ | refine Sub.cons Look.eq ?_ | refine Sub.cons (Eq.trans Look.eq (congrArg (AV.int _) (by first | omega | (dsimp only; omega)))) ?_)) ?_ ?_
  · exact ⟨Nat.zero_le _, List.nodup_nil, fun y => ⟨fun q => (by cases q), fun ⟨j, hj, _⟩ => absurd hj (Nat.not_lt_zero _)⟩, hS⟩
  rintro ⟨i, P⟩ h2 ⟨hi, hnd, hm, hS⟩
  dsimp only at hi hnd hm hS ⊢
  refine KA.seq ?_
  refine KA.region rfl ?_
  refine KOps.lss ?_
  refine KOps.done ?_
  refine sqQ.normal ?_
  refine KA.seq ?_
  refine KA.condD ?_ ?_
  · intro c9
    refine KA.skip ?_
    refine sqQ.normal ?_
    refine KA.sub (Sub.cons (t := 0) Look.eq (Sub.cons (t := 3) Look.eq (Sub.cons (t := 7) Look.eq (Sub.cons (t := 8) Look.eq (Sub.nil _))))) ?_
    refine KA.seq ?_
    refine KA.block ?_
    refine KA.seq ?_
    refine KA.region rfl ?_
    refine KOps.move ?_
    refine KOps.assign ?_
    refine KOps.done ?_
    refine sqQ.normal ?_
    refine KA.sub (Sub.cons (t := 0) Look.eq (Sub.cons (t := 3) Look.eq (Sub.cons (t := 4) Look.eq (Sub.cons (t := 7) Look.eq (Sub.cons (t := 8) Look.eq (Sub.nil _)))))) ?_
    refine KA.draw [] mixed rfl (by kernel_rfl) ?_
    refine KOps.move ?_
    refine KOps.move ?_
    refine KOps.move ?_
    refine KOps.wHi (j := i) rfl (by first | omega | (simp; done) | (simp; omega)) ?_
    refine KOps.move ?_
    refine KOps.move ?_
    refine KOps.add (by first | omega | (simp; omega)) (by first | omega | (simp; omega)) ?_
    refine KOps.wLo (j := i + 1) (by first | omega | (simp; omega)) (by first | omega | (simp; done) | (simp; omega)) ?_
    refine KOps.wAdd (by simp only [List.length_append, List.length_take, List.length_drop, List.length_cons, List.length_nil]; omega) ?_
    refine KOps.setPut hS hv5 (i := 0) rfl rfl ?_
    intro h' hS
    simp only [List.set_cons_zero, List.set_cons_succ, Nat.zero_add] at hS
    refine KOps.done ?_
    refine blQ.normal ?_
    refine sqQ.normal ?_
    refine KA.sub (Sub.cons (t := 0) Look.eq (Sub.cons (t := 3) Look.eq (Sub.cons (t := 7) Look.eq (Sub.cons (t := 8) Look.eq (Sub.nil _))))) ?_
    refine KA.region rfl ?_
    refine KOps.add (by first | omega | (simp; omega)) (by first | omega | (simp; omega)) ?_
    refine KOps.move ?_
    refine KOps.done ?_
    refine lpQ.normal (i + 1, _) (by repeat (first | exact Sub.nil _ | refine Sub.cons Look.eq ?_ | refine Sub.cons (Eq.trans Look.eq (congrArg (AV.int _) (by first | omega | (dsimp only; omega)))) ?_)) ⟨by dsimp only; omega, addW_nodup hnd, fun y => ?_, hS⟩ (by dsimp only; omega)
    refine mem_addW.trans ?_
    rw [hm y, ← erase_take]
    constructor
    · rintro (⟨j, hj, he⟩ | rfl)
      · exact ⟨j, by dsimp only; omega, he⟩
      · exact ⟨i, by dsimp only; omega, rfl⟩
    · rintro ⟨j, hj, he⟩
      rcases Nat.lt_succ_iff_lt_or_eq.1 hj with h | rfl
      · exact .inl ⟨j, h, he⟩
      · exact .inr he.symm
  · intro c9
    refine KA.exit ?_
    refine sqQ.exit ?_
    refine lpQ.exit ?_
    refine blQ.here ?_
    refine sqQ.normal ?_
    refine KA.sub (Sub.cons (t := 3) Look.eq (Sub.nil _)) ?_
    refine KA.seq ?_
    refine KA.region rfl ?_
    refine KOps.move ?_
    refine KOps.assign ?_
    refine KOps.done ?_
    refine sqQ.normal ?_
    refine KA.sub (Sub.cons (t := 2) Look.eq (Sub.nil _)) ?_
    refine KA.ret ?_
    refine fnQ.ret1 ?_
    have he : i = l.length := by omega
    subst he
    exact ⟨P, hv5, hnd, fun x => (hm x).trans isDel_iff.symm, hS⟩

theorem longs_c {h : AHeap} {l : List Bool} (hl : l.length ≤ 12) : ACalls Go.Proofs.Tryd.prog 41 [.str (wd l)] h (fun v h' => ∃ P, IsMp v ∧ P.Nodup ∧ (∀ x, x ∈ P ↔ isDel x l = true) ∧ St h h' [setO v P]) := by
  refine KA.fn 32 [.tmp 2] Go.Proofs.Tryd.func41 rfl (by decide) rfl rfl (Nat.le_of_ble_eq_true rfl) ?_
  have hS := St.refl h
  show KA _ 32 _ _ [(0, .str (wd l))] _
  refine KA.seq ?_
  refine KA.region rfl ?_
  refine KOps.assign ?_
  refine KOps.done ?_
  refine sqQ.normal ?_
  refine KA.sub (Sub.cons (t := 0) Look.eq (Sub.nil _)) ?_
  refine KA.seq ?_
  refine KA.region rfl ?_
  refine KOps.makeMap hS rfl ?_
  intro v5 h' hv5 hS
  refine KOps.assign ?_
  refine KOps.done ?_
  refine sqQ.normal ?_
  refine KA.sub (Sub.cons (t := 0) Look.eq (Sub.cons (t := 3) Look.eq (Sub.nil _))) ?_
  refine KA.seq ?_
  refine KA.seq ?_
  refine KA.region rfl ?_
  refine KOps.move ?_
  refine KOps.lenW ?_
  refine KOps.add (by first | omega | (simp; omega)) (by first | omega | (simp; omega)) ?_
  refine KOps.move ?_
  refine KOps.done ?_
  refine sqQ.normal ?_
  refine KA.sub (Sub.cons (t := 0) Look.eq (Sub.cons (t := 3) Look.eq (Sub.cons (t := 8) Look.eq (Sub.cons (t := 9) Look.eq (Sub.nil _))))) ?_
  refine KA.block ?_
  refine KA.loop (X := Nat × List (List Bool)) (fun x => [(0, .str (wd l)), (3, v5), (8, .int .i64 ((l.length : Int) + 1)), (9, .int .i64 (x.1 : Int))]) (fun x h' => x.1 ≤ l.length + 1 ∧ x.2.Nodup ∧ (∀ y, y ∈ x.2 ↔ ∃ j c, j < x.1 ∧ y = insW l j c) ∧ St h h' [setO v5 x.2]) (fun x => l.length + 1 - x.1) (0, []) (by repeat (first | exact Sub.nil _ | refine Sub.cons Look.eq ?_ | refine Sub.cons (Eq.trans Look.eq (congrArg (AV.int _) (by first | omega | (dsimp only; omega)))) ?_)) ?_ ?_
  · exact ⟨Nat.zero_le _, List.nodup_nil, fun y => ⟨fun q => (by cases q), fun ⟨j, c, hj, _⟩ => absurd hj (Nat.not_lt_zero _)⟩, hS⟩
  rintro ⟨i, P⟩ h2 ⟨hi, hnd, hm, hS⟩
  dsimp only at hi hnd hm hS ⊢
  refine KA.seq ?_
  refine KA.region rfl ?_
  refine KOps.lss ?_
  refine KOps.done ?_
  refine sqQ.normal ?_
  refine KA.seq ?_
  refine KA.condD ?_ ?_
  · intro c10
    refine KA.skip ?_
    refine sqQ.normal ?_
    refine KA.sub (Sub.cons (t := 0) Look.eq (Sub.cons (t := 3) Look.eq (Sub.cons (t := 8) Look.eq (Sub.cons (t := 9) Look.eq (Sub.nil _))))) ?_
    refine KA.seq ?_
    refine KA.block ?_
    refine KA.seq ?_
    refine KA.region rfl ?_
    refine KOps.move ?_
    refine KOps.assign ?_
    refine KOps.done ?_
    refine sqQ.normal ?_
    refine KA.sub (Sub.cons (t := 0) Look.eq (Sub.cons (t := 3) Look.eq (Sub.cons (t := 4) Look.eq (Sub.cons (t := 8) Look.eq (Sub.cons (t := 9) Look.eq (Sub.nil _)))))) ?_
    refine KA.seq ?_
    refine KA.draw [] mixed rfl (by kernel_rfl) ?_
    refine KOps.move ?_
    refine KOps.move ?_
    refine KOps.move ?_
    refine KOps.wHi (j := i) rfl (by first | omega | (simp; done) | (simp; omega)) ?_
    refine KOps.wAdd (by simp only [List.length_append, List.length_take, List.length_drop, List.length_cons, List.length_nil]; omega) ?_
    refine KOps.move ?_
    refine KOps.move ?_
    refine KOps.wLo (j := i) rfl (by first | omega | (simp; done) | (simp; omega)) ?_
    refine KOps.wAdd (by simp only [List.length_append, List.length_take, List.length_drop, List.length_cons, List.length_nil]; omega) ?_
    refine KOps.setPut hS hv5 (i := 0) rfl rfl ?_
    intro h' hS
    simp only [List.set_cons_zero, List.set_cons_succ, Nat.zero_add] at hS
    refine KOps.done ?_
    refine sqQ.normal ?_
    refine KA.sub (Sub.cons (t := 0) Look.eq (Sub.cons (t := 3) Look.eq (Sub.cons (t := 4) Look.eq (Sub.cons (t := 8) Look.eq (Sub.cons (t := 9) Look.eq (Sub.nil _)))))) ?_
    refine KA.draw [] mixed rfl (by kernel_rfl) ?_
    refine KOps.move ?_
    refine KOps.move ?_
    refine KOps.move ?_
    refine KOps.wHi (j := i) rfl (by first | omega | (simp; done) | (simp; omega)) ?_
    refine KOps.wAdd (by simp only [List.length_append, List.length_take, List.length_drop, List.length_cons, List.length_nil]; omega) ?_
    refine KOps.move ?_
    refine KOps.move ?_
    refine KOps.wLo (j := i) rfl (by first | omega | (simp; done) | (simp; omega)) ?_
    refine KOps.wAdd (by simp only [List.length_append, List.length_take, List.length_drop, List.length_cons, List.length_nil]; omega) ?_
    refine KOps.setPut hS hv5 (i := 0) rfl rfl ?_
    intro h' hS
    simp only [List.set_cons_zero, List.set_cons_succ, Nat.zero_add] at hS
    refine KOps.done ?_
    refine blQ.normal ?_
    refine sqQ.normal ?_
    refine KA.sub (Sub.cons (t := 0) Look.eq (Sub.cons (t := 3) Look.eq (Sub.cons (t := 8) Look.eq (Sub.cons (t := 9) Look.eq (Sub.nil _))))) ?_
    refine KA.region rfl ?_
    refine KOps.add (by first | omega | (simp; omega)) (by first | omega | (simp; omega)) ?_
    refine KOps.move ?_
    refine KOps.done ?_
    refine lpQ.normal (i + 1, _) (by repeat (first | exact Sub.nil _ | refine Sub.cons Look.eq ?_ | refine Sub.cons (Eq.trans Look.eq (congrArg (AV.int _) (by first | omega | (dsimp only; omega)))) ?_)) ⟨by dsimp only; omega, addW_nodup (addW_nodup hnd), fun y => ?_, hS⟩ (by dsimp only; omega)
    refine mem_addW.trans ((or_congr_left mem_addW).trans ?_)
    rw [hm y, ins_eq, ins_eq]
    constructor
    · rintro ((⟨j, c, hj, he⟩ | rfl) | rfl)
      · exact ⟨j, c, by dsimp only; omega, he⟩
      · exact ⟨i, false, by dsimp only; omega, rfl⟩
      · exact ⟨i, true, by dsimp only; omega, rfl⟩
    · rintro ⟨j, c, hj, he⟩
      rcases Nat.lt_succ_iff_lt_or_eq.1 hj with h | rfl
      · exact .inl (.inl ⟨j, c, h, he⟩)
      · cases c
        · exact .inl (.inr he)
        · exact .inr he
  · intro c10
    refine KA.exit ?_
    refine sqQ.exit ?_
    refine lpQ.exit ?_
    refine blQ.here ?_
    refine sqQ.normal ?_
    refine KA.sub (Sub.cons (t := 3) Look.eq (Sub.nil _)) ?_
    refine KA.seq ?_
    refine KA.region rfl ?_
    refine KOps.move ?_
    refine KOps.assign ?_
    refine KOps.done ?_
    refine sqQ.normal ?_
    refine KA.sub (Sub.cons (t := 2) Look.eq (Sub.nil _)) ?_
    refine KA.ret ?_
    refine fnQ.ret1 ?_
    have he : i = l.length + 1 := by omega
    subst he
    exact ⟨P, hv5, hnd, fun x => (hm x).trans ⟨fun ⟨j, c, hj, he⟩ => isDel_ins.2 ⟨j, c, by omega, he⟩, fun q => by
      obtain ⟨j, c, hj, he⟩ := isDel_ins.1 q
      exact ⟨j, c, by omega, he⟩⟩, hS⟩

theorem wf_u16 {a : Int} (h : (Lit.int .u16 a).wf = true) : 0 ≤ a ∧ a ≤ 65535 := by
  simp [Lit.wf, IntKind.min, IntKind.max, IntKind.signed, IntKind.bits] at h
  omega
end Go.Am

namespace Go.Am
theorem anyS_words {l : List (List Bool)} {w : List Bool} : anyS (l.map wd) (wd w) = decide (w ∈ l) := by
  by_cases h : w ∈ l
  · rw [decide_eq_true h, anyS_iff]; exact List.mem_map_of_mem h
  · rw [decide_eq_false h]
    cases hq : anyS (l.map wd) (wd w) with
    | false => rfl
    | true =>
      obtain ⟨y, hy, he⟩ := List.mem_map.1 (anyS_iff.1 hq)
      exact absurd (wd_inj he ▸ hy) h

set_option synthInstance.maxSize 4000
set_option synthInstance.maxHeartbeats 2000000

end Go.Am

namespace Go.Am
open Go.RowKit
def Fr (φ : Emb) (h : AHeap) : Prop := ∀ b, h.next ≤ b → φ b = none
theorem Fr.fresh {φ : Emb} {h h' : AHeap} (hf : Fr φ h) : Fresh φ h h' := fun b h1 _ => hf b h1
theorem Fr.right {φ φ' : Emb} {h h' : AHeap} {w w' : World} (hf : Fr φ h) (g : HGrow h h') (t : Trans φ h w φ' h' w') : Fr φ' h' := by
  intro b hb
  cases hq : φ' b with
  | none => rfl
  | some p =>
    have := (t.new b p (hf b (Nat.le_trans g.next hb)) hq).2
    omega
/-- Whichever way it goes, at its end Q holds. -/
def NW (P : Program) (c : Code) (Q : Ex → List AV → AHeap → Prop) (fr : List AV) (h : AHeap) : Prop :=
  ∀ (φ : Emb) (a : Act) (w : World), Fr φ h → Sim φ fr h a w → c.wp P (fun e' a' w' => ∃ e fr' h' φ', e' = e.toExit ∧ HGrow h h' ∧ Trans φ h w φ' h' w' ∧ Sim φ' fr' h' a' w' ∧ Q e fr' h') a w
theorem NW.of {P : Program} {c : Code} {Q : Ex → List AV → AHeap → Prop} {fr : List AV} {h : AHeap} (hw : AW P c Q fr h) : NW P c Q fr h := by
  obtain ⟨e, fr', h', ⟨g, hx⟩, q⟩ := hw
  intro φ a w hf s
  refine wp_mono (hx φ a w hf.fresh s) ?_
  rintro e' a' w' ⟨rfl, φ', t, s'⟩
  exact ⟨e, fr', h', φ', rfl, g, t, s', q⟩
theorem NW.mono {P : Program} {c : Code} {Q Q' : Ex → List AV → AHeap → Prop} {fr : List AV} {h : AHeap} (hw : NW P c Q fr h) (hq : ∀ e fr h, Q e fr h → Q' e fr h) : NW P c Q' fr h := by
  intro φ a w hf s
  refine wp_mono (hw φ a w hf s) ?_
  rintro e' a' w' ⟨e, fr', h', φ', h1, h2, h3, h4, q⟩
  exact ⟨e, fr', h', φ', h1, h2, h3, h4, hq _ _ _ q⟩
theorem NW.seq {P : Program} {c d : Code} {Q : Ex → List AV → AHeap → Prop} {fr : List AV} {h : AHeap} (hw : NW P c (fun e fr h => match e with | .normal => NW P d Q fr h | e => Q e fr h) fr h) : NW P (.seq c d) Q fr h := by
  intro φ a w hf s
  refine wp_seq (wp_mono (hw φ a w hf s) ?_)
  rintro e' a' w' ⟨e, fr1, h1, φ1, rfl, g1, t1, s1, q⟩
  cases e with
  | normal =>
    show d.wp P _ a' w'
    refine wp_mono (q φ1 a' w' (hf.right g1 t1) s1) ?_
    rintro e'' a'' w'' ⟨e2, fr2, h2, φ2, rfl, g2, t2, s2, q2⟩
    exact ⟨e2, fr2, h2, φ2, rfl, g1.trans g2, t1.trans hf.fresh g1 g2 t2, s2, q2⟩
  | ret => exact ⟨.ret, fr1, h1, φ1, rfl, g1, t1, s1, q⟩
  | exit id => exact ⟨.exit id, fr1, h1, φ1, rfl, g1, t1, s1, q⟩
theorem NW.cond {P : Program} {c : Operand} {x y : Code} {Q : Ex → List AV → AHeap → Prop} {fr : List AV} {h : AHeap} {t : Bool} (hc : evalA h.globs fr c = .bool t) (hw : NW P (if t then x else y) Q fr h) : NW P (.cond c x y) Q fr h := by
  intro φ a w hf s
  have hv := evalA_rel s.heap s.fr c
  rw [hc] at hv
  generalize hcv : a.eval c = cv at hv
  cases hv
  exact wp_cond hcv (hw φ a w hf s)
theorem NW.block {P : Program} {id : Nat} {c : Code} {Q : Ex → List AV → AHeap → Prop} {fr : List AV} {h : AHeap} (hw : NW P c (fun e fr h => if e = .exit id then Q .normal fr h else Q e fr h) fr h) : NW P (.block id c) Q fr h := by
  intro φ a w hf s
  refine wp_block (wp_mono (hw φ a w hf s) ?_)
  rintro e' a' w' ⟨e, fr1, h1, φ1, rfl, g1, t1, s1, q⟩
  by_cases he : e = .exit id
  · subst he
    rw [if_pos rfl] at q
    simp only [Ex.toExit, Exit.inBlock, if_true]
    exact ⟨.normal, fr1, h1, φ1, rfl, g1, t1, s1, q⟩
  · rw [if_neg he] at q
    cases e with
    | normal => exact ⟨.normal, fr1, h1, φ1, rfl, g1, t1, s1, q⟩
    | ret => exact ⟨.ret, fr1, h1, φ1, rfl, g1, t1, s1, q⟩
    | exit id' =>
      have : id' ≠ id := fun h => he (by rw [h])
      simp only [Ex.toExit, Exit.inBlock, if_neg this]
      exact ⟨.exit id', fr1, h1, φ1, rfl, g1, t1, s1, q⟩
theorem NW.loop {P : Program} {c : Code} {Q : Ex → List AV → AHeap → Prop} (I : Nat → List AV → AHeap → Prop)
    (round : ∀ n fr h, I n fr h → NW P c (fun e fr' h' => match e with | .normal => ∃ m, m < n ∧ I m fr' h' | e => Q e fr' h') fr h) :
    ∀ n fr h, I n fr h → NW P (.loop c) Q fr h := by
  have key : ∀ N n fr h, n < N → I n fr h → ∀ (φ : Emb) (a : Act) (w : World), Fr φ h → Sim φ fr h a w →
      Code.rounds P c (fun e' a' w' => ∃ e fr' h' φ', e' = e.toExit ∧ HGrow h h' ∧ Trans φ h w φ' h' w' ∧ Sim φ' fr' h' a' w' ∧ Q e fr' h') N a w := by
    intro N
    induction N with
    | zero => intro n fr h hn; exact absurd hn (Nat.not_lt_zero _)
    | succ N ih =>
      intro n fr h hn hI φ a w hf s
      rw [rounds_succ]
      refine wp_mono (round n fr h hI φ a w hf s) ?_
      rintro e' a' w' ⟨e, fr1, h1, φ1, rfl, g1, t1, s1, q⟩
      cases e with
      | normal =>
        obtain ⟨m, hm, hIm⟩ := q
        show Code.rounds P c _ N a' w'
        refine rounds_mono ?_ N a' w' (ih m fr1 h1 (by omega) hIm φ1 a' w' (hf.right g1 t1) s1)
        rintro e'' a'' w'' ⟨e2, fr2, h2, φ2, rfl, g2, t2, s2, q2⟩
        exact ⟨e2, fr2, h2, φ2, rfl, g1.trans g2, t1.trans hf.fresh g1 g2 t2, s2, q2⟩
      | ret => exact ⟨.ret, fr1, h1, φ1, rfl, g1, t1, s1, q⟩
      | exit id => exact ⟨.exit id, fr1, h1, φ1, rfl, g1, t1, s1, q⟩
  intro n fr h hI φ a w hf s
  exact wp_loop_rounds (n + 1) (key (n + 1) n fr h (Nat.lt_succ_self n) hI φ a w hf s)
theorem NW.sub {P : Program} {c : Code} {Q : Ex → List AV → AHeap → Prop} {n : Nat} {K K' : KF} {h : AHeap} (hs : Sub K' K) (hw : NW P c Q (toFr n K') h) : NW P c Q (toFr n K) h :=
  fun φ a w hf s => hw φ a w hf ⟨s.heap, s.fr.sub hs⟩
/-- A region whose first operation asks for the next entry of a map: whichever comes. -/
theorem NW.regionNext {P : Program} {id : Nat} {ops : Array Oper} {onx : Oper} {os1 : List Oper} {x : Operand} {b F bm Fm : Nat} {es : List (AV × AV)} {D : List Nat} {Q : Ex → List AV → AHeap → Prop} {fr : List AV} {h : AHeap}
    (hl : ops.toList = onx :: os1) (ho : onx.op = .next x false) (hgd : onx.guard = none) (hD : OkD es.length D)
    (hx : evalA h.globs fr x = .it b) (hI : h.get b = some (.obj F (.mwalk bm es.length D))) (hM : h.get bm = some (.obj Fm (.map es)))
    (more : ∀ j k v, j ∉ D → es[j]? = some (k, v) → AOps P ops TXT (Q .normal) 1 os1 (setF fr onx.dst (.tup [.bool true, k, v])) (h.set b (.obj F (.mwalk bm es.length (D ++ [j])))))
    (over : (∀ j, j < es.length → j ∈ D) → AOps P ops TXT (Q .normal) 1 os1 (setF fr onx.dst (.tup [.bool false])) h) : NW P (.region id ops false) Q fr h := by
  by_cases hfull : ∀ j, j < es.length → j ∈ D
  · refine NW.of (AW.region (ex := TXT) hl ?_)
    unfold AOps
    simp only [hgd]
    exact ⟨_, _, .inr ⟨trivial, mnext_over ho hx hI hM hfull⟩, fun hc => absurd hc (by decide), over hfull⟩
  · obtain ⟨j0, hj0, hj1⟩ : ∃ j, j < es.length ∧ j ∉ D := Classical.byContradiction fun hn => hfull fun j hj => Classical.byContradiction fun hm => hn ⟨j, hj, hm⟩
    have ho0 : ops[0]? = some onx := by rw [← Array.getElem?_toList, hl]; rfl
    have hrest : ∀ i, os1[i]? = ops[1 + i]? := by intro i; rw [← Array.getElem?_toList, hl, Nat.add_comm]; rfl
    have hsz : ops.size = os1.length + 1 := by rw [← Array.length_toList, hl]; rfl
    intro φ a w hf s
    refine wp_region ?_
    rw [List.range_eq_range', hsz, List.range'_succ]
    simp only [wpOps, ho0, Region.wanted, hgd, if_true]
    refine .inl (mnext_more ho hI hM hj0 hj1 s.heap (by rw [← hx]; exact evalA_rel s.heap s.fr x) ?_)
    intro j kk v hj2 hj3 c w1 t1 r1' hc
    have g0 : HGrow h (h.set b (.obj F (.mwalk bm es.length (D ++ [j])))) := HGrow.setT hI
    obtain ⟨fr1, h1, hq, g1, hrun⟩ := aops_run os1 1 _ _ hrest (more j kk v hj2 hj3)
    have f1 : Fr φ (h.set b (.obj F (.mwalk bm es.length (D ++ [j])))) := hf.right g0 t1
    refine hrun φ _ w1 _ f1.fresh ⟨r1', (s.fr).put onx.dst hc⟩ ?_
    intro φ2 a2 w2 t2 s2
    exact ⟨.normal, fr1, h1, φ2, rfl, g0.trans g1, t1.trans hf.fresh g0 g1 t2, s2, hq⟩
/-! Over frames of which some slots are known. -/
def NA (P : Program) (n : Nat) (c : Code) (Q : Ex → KF → AHeap → Prop) (K : KF) (h : AHeap) : Prop := NW P c (fun e fr h => ∃ K', fr = toFr n K' ∧ Q e K' h) (toFr n K) h
def sqN (P : Program) (n : Nat) (d : Code) (Q : Ex → KF → AHeap → Prop) (e : Ex) (K : KF) (h : AHeap) : Prop := match e with | .normal => NA P n d Q K h | e => Q e K h
theorem NA.mono {P : Program} {n : Nat} {c : Code} {Q Q' : Ex → KF → AHeap → Prop} {K : KF} {h : AHeap} (hw : NA P n c Q K h) (hq : ∀ e K h, Q e K h → Q' e K h) : NA P n c Q' K h :=
  NW.mono hw fun e _ h ⟨K, hf, q⟩ => ⟨K, hf, hq e K h q⟩
theorem NA.sub {P : Program} {n : Nat} {c : Code} {Q : Ex → KF → AHeap → Prop} {K K' : KF} {h : AHeap} (hs : Sub K' K) (hw : NA P n c Q K' h) : NA P n c Q K h := NW.sub hs hw
section
variable {P : Program} {n : Nat} {Q : Ex → KF → AHeap → Prop} {K : KF} {h : AHeap}
theorem NA.of {c : Code} (hw : KA P n c Q K h) : NA P n c Q K h := NW.of hw
theorem NA.skip (hq : Q .normal K h) : NA P n .skip Q K h := NA.of (KA.skip hq)
theorem NA.label {l : Nat} (hq : Q .normal K h) : NA P n (.label l) Q K h := NA.of (KA.label hq)
theorem NA.ret (hq : Q .ret K h) : NA P n .ret Q K h := NA.of (KA.ret hq)
theorem NA.exit {id : Nat} (hq : Q (.exit id) K h) : NA P n (.exit id) Q K h := NA.of (KA.exit hq)
theorem NA.seq {c d : Code} (hw : NA P n c (sqN P n d Q) K h) : NA P n (.seq c d) Q K h := by
  refine NW.seq (NW.mono hw ?_)
  rintro e fr h ⟨K, rfl, q⟩
  cases e with
  | normal => exact q
  | ret => exact ⟨K, rfl, q⟩
  | exit id => exact ⟨K, rfl, q⟩
theorem NA.block {id : Nat} {c : Code} (hw : NA P n c (blQ id Q) K h) : NA P n (.block id c) Q K h := by
  refine NW.block (NW.mono hw ?_)
  rintro e fr h ⟨K, rfl, q⟩
  unfold blQ at q
  split
  · rename_i he; rw [if_pos he] at q; exact ⟨K, rfl, q⟩
  · rename_i he; rw [if_neg he] at q; exact ⟨K, rfl, q⟩
theorem NA.cond {x : Operand} {c d : Code} {t : Bool} (hc : evalK h.globs n K x = .bool t) (h1 : t = true → NA P n c Q K h) (h2 : t = false → NA P n d Q K h) : NA P n (.cond x c d) Q K h := by
  refine NW.cond (t := t) (by rw [evalA_toFr]; exact hc) ?_
  cases t with
  | true => exact h1 rfl
  | false => exact h2 rfl
theorem NA.condT {x : Operand} {c d : Code} [hc : EvK h.globs n K x (.bool true)] (h1 : NA P n c Q K h) : NA P n (.cond x c d) Q K h := NA.cond hc.eq (fun _ => h1) nofun
theorem NA.condF {x : Operand} {c d : Code} [hc : EvK h.globs n K x (.bool false)] (h1 : NA P n d Q K h) : NA P n (.cond x c d) Q K h := NA.cond hc.eq nofun (fun _ => h1)
theorem NA.condB {x : Operand} {c d : Code} {t : Bool} [hc : EvK h.globs n K x (.bool t)] (h1 : t = true → NA P n c Q K h) (h2 : t = false → NA P n d Q K h) : NA P n (.cond x c d) Q K h := NA.cond hc.eq h1 h2
theorem NA.condD {x : Operand} {c d : Code} {p : Prop} [Decidable p] [hc : EvK h.globs n K x (.bool (decide p))] (h1 : p → NA P n c Q K h) (h2 : ¬ p → NA P n d Q K h) : NA P n (.cond x c d) Q K h :=
  NA.cond hc.eq (fun he => h1 (of_decide_eq_true he)) (fun he => h2 (of_decide_eq_false he))
theorem NA.condN {x : Operand} {c d : Code} {p : Prop} [Decidable p] [hc : EvK h.globs n K x (.bool (!decide p))] (h1 : ¬ p → NA P n c Q K h) (h2 : p → NA P n d Q K h) : NA P n (.cond x c d) Q K h :=
  NA.cond hc.eq (fun he => h1 (not_of_not_decide he)) (fun he => h2 (of_not_decide he))
theorem NA.region {id : Nat} {ops : Array Oper} {l : List Oper} (hl : ops.toList = l) (hw : KOps P n ops TXT (Q .normal) 0 l K h) : NA P n (.region id ops false) Q K h := NA.of (KA.region hl hw)
theorem NA.draw {id : Nat} {ops : Array Oper} {l : List Oper} (ex : List Nat) (hm : P.follows .mixedOrders = true) (hl : ops.toList = l) (hok : rgOk n l ex = true) (hw : KOps P n ops ex (Q .normal) 0 l K h) : NA P n (.region id ops true) Q K h := NA.of (KA.draw ex hm hl hok hw)
theorem sqN.normal {d : Code} (hq : NA P n d Q K h) : sqN P n d Q .normal K h := hq
theorem sqN.ret {d : Code} (hq : Q .ret K h) : sqN P n d Q .ret K h := hq
theorem sqN.exit {d : Code} {id : Nat} (hq : Q (.exit id) K h) : sqN P n d Q (.exit id) K h := hq
theorem NA.meet {c d : Code} {X : Type} (pat : X → KF) (I : X → AHeap → Prop) (hc : NA P n c (mtQ pat I Q) K h) (hd : ∀ x h, I x h → NA P n d Q (pat x) h) : NA P n (.seq c d) Q K h := by
  refine NA.seq (hc.mono ?_)
  intro e K h q
  cases e with
  | normal => obtain ⟨x, hs, hI⟩ := q; exact NA.sub hs (hd x h hI)
  | ret => exact q
  | exit id => exact q
end
theorem NA.loop {P : Program} {n : Nat} {c : Code} {Q : Ex → KF → AHeap → Prop} {K : KF} {h : AHeap} {X : Type} (pat : X → KF) (I : X → AHeap → Prop) (m : X → Nat) (x : X) (hs : Sub (pat x) K) (hI : I x h)
    (round : ∀ x h, I x h → NA P n c (lpQ pat I m x Q) (pat x) h) : NA P n (.loop c) Q K h := by
  refine NW.loop (fun k fr h => ∃ x K, fr = toFr n K ∧ Sub (pat x) K ∧ I x h ∧ m x = k) ?_ (m x) (toFr n K) h ⟨x, K, rfl, hs, hI, rfl⟩
  rintro k fr h ⟨x, K, rfl, hs, hI, rfl⟩
  refine NW.sub hs (NW.mono (round x h hI) ?_)
  rintro e fr' h' ⟨K', rfl, q⟩
  cases e with
  | normal =>
    obtain ⟨y, hy, hIy, hm⟩ := q
    exact ⟨m y, hm, y, K', rfl, hy, hIy, rfl⟩
  | ret => exact ⟨K', rfl, q⟩
  | exit id => exact ⟨K', rfl, q⟩
/-- A walk through a map, owned. -/
abbrev mwalkO (v : AV) (bm n : Nat) (D : List Nat) : Obj := ⟨v, 0, Thing.enc (.mwalk bm n D), false⟩
theorem Mu.mwalk {lo : Nat} {h : AHeap} {F : Option Nat} {v : AV} {bm n : Nat} {D : List Nat} (hv : IsIt v) (hm : Mu lo h F (mwalkO v bm n D)) : ∃ b G f, F = some G ∧ lo ≤ b ∧ v = .it b ∧ h.get b = some (.obj G (.mwalk bm n D)) ∧ h.fam G = some f := by
  obtain ⟨b0, rfl⟩ := hv
  cases F with
  | none => cases hm.1
  | some G =>
    rcases hm with ⟨b, off, p, cs, f, _, hw, _⟩ | ⟨b, x, f, h1, h2, h3, h4, h5, h6⟩
    · rcases hw with ⟨_, _, hw, _⟩ | ⟨_, hw⟩ <;> cases hw
    · cases x with
      | map es' => cases h2
      | walk _ _ => simp [Thing.enc] at h6
      | gone => simp [Thing.enc] at h6
      | mwalk bm' n' D' =>
        simp only [Thing.at, AV.it.injEq] at h2
        subst h2
        simp only [Thing.enc, List.cons.injEq, AV.mp.injEq, AV.int.injEq, AV.tup.injEq, and_true, true_and] at h6
        obtain ⟨e1, e2, e3⟩ := h6
        have e3 : D' = D := by
          refine (List.map_inj_right (f := fun i : Nat => AV.int .i64 (i : Int)) ?_).1 ?_
          · intro x y hxy; simp only [AV.int.injEq, true_and] at hxy; omega
          · first | exact e3 | exact e3.symm
        have e2 : n' = n := by omega
        subst e1 e2 e3
        exact ⟨b0, G, f, rfl, h1, rfl, h4, h5⟩
section
variable {P : Program} {n : Nat} {ops : Array Oper} {ex : List Nat} {Q : KF → AHeap → Prop} {k : Nat} {os : List Oper} {K : KF} {h h0 : AHeap} {d : Nat} {ty : TypeId} {pos : String} {after : Array Edge} {objs : List Obj}
theorem KOps.mrange {t kt : TypeId} {z : AV} {x : Operand} {bm : Nat} {es : List (AV × AV)} [hx : EvK h.globs n K x (.mp bm)] [ht : MpT P t kt z] (st : St h0 h objs) (hM : RdM h (.mp bm) es) (hk : ∀ v h', IsIt v → St h0 h' (mwalkO v bm es.length [] :: objs) → KOps P n ops TXT Q (k + 1) os ((d, v) :: K) h') (hlt : Nat.beq k 1000000 = false := by rfl) :
    KOps P n ops TXT Q k (⟨some d, .range t x, ty, pos, after, none⟩ :: os) K h := by
  obtain ⟨et, h1, h2⟩ := ht.mp
  obtain ⟨b, F, he, hg⟩ := hM
  cases he
  exact KOps.stepT (mrange_step rfl h1 hx.eq hg) (hk _ _ ⟨_, rfl⟩ (St.allocT st (.mwalk bm es.length []))) hlt
end
theorem NA.regionNext {P : Program} {n id : Nat} {ops : Array Oper} {os1 : List Oper} {a : Nat} {ty : TypeId} {pos : String} {after : Array Edge} {x : Operand} {v : AV} {bm i : Nat} {es : List (AV × AV)} {D : List Nat} {Q : Ex → KF → AHeap → Prop} {K : KF} {h h0 : AHeap} {objs : List Obj}
    (hl : ops.toList = ⟨some a, .next x false, ty, pos, after, none⟩ :: os1) [hx : EvK h.globs n K x v] (hD : OkD es.length D) (st : St h0 h objs) (hv : IsIt v) (hk' : objs[i]? = some (mwalkO v bm es.length D)) (hM : RdM h (.mp bm) es)
    (more : ∀ j k u, j ∉ D → es[j]? = some (k, u) → ∀ h', St h0 h' (objs.set i (mwalkO v bm es.length (D ++ [j]))) → KOps P n ops TXT (Q .normal) 1 os1 ((a, .tup [.bool true, k, u]) :: K) h')
    (over : (∀ j, j < es.length → j ∈ D) → KOps P n ops TXT (Q .normal) 1 os1 ((a, .tup [.bool false]) :: K) h) : NA P n (.region id ops false) Q K h := by
  obtain ⟨_, fs, hlen, hm, _⟩ := (show _ from st)
  have hlt : i < fs.length := by rw [hlen]; exact (List.getElem?_eq_some_iff.1 hk').1
  obtain ⟨b, G, f, _, _, rfl, hg, _⟩ := (hm i _ _ hk' (List.getElem?_eq_getElem hlt)).mwalk hv
  obtain ⟨bm', Fm, he, hgm⟩ := hM
  cases he
  refine NW.regionNext hl rfl rfl hD (by rw [evalA_toFr]; exact hx.eq) hg hgm ?_ ?_
  · intro j k u hj hjk
    have := more j k u hj hjk _ (St.setT (x := .mwalk bm es.length D) (x' := .mwalk bm es.length (D ++ [j])) st hk' (fun _ => rfl) rfl hg (by
      intro F hm'
      obtain ⟨b', G', f', hF, hlo, hb', hg', hf⟩ := hm'.mwalk hv
      cases hb'
      rw [hg] at hg'; cases hg'
      exact ⟨hF, hlo, f', hf⟩))
    unfold KOps at this
    rw [← toFr_set] at this
    exact this
  · intro hfull
    have := over hfull
    unfold KOps at this
    rw [← toFr_set] at this
    exact this
/-! Calls. -/
def NCalls (P : Program) (f : FuncId) (args : List AV) (h : AHeap) (R : AV → AHeap → Prop) : Prop :=
  ∀ (φ : Emb) (w : World) (cs : List Value), Fr φ h → HRel φ h w → VRels φ args cs → Calls P f cs.toArray w fun e w' => ∃ v φ' r h', e = .returned v ∧ HGrow h h' ∧ Trans φ h w φ' h' w' ∧ HRel φ' h' w' ∧ VRel φ' r v ∧ R r h'
theorem NCalls.of_body {P : Program} {f : FuncId} {fn : Func} {c : Code} {args : List AV} {h : AHeap} {R : AV → AHeap → Prop} (hf : P.funcs[f]? = some fn) (hb : fn.body = some c)
    (hw : NW P c (fun e fr' h' => (e = .normal ∨ e = .ret) ∧ ∃ x, resultA fr' fn.results.toList = some x ∧ R x h') (mkFr args fn.ntmps) h) : NCalls P f args h R := by
  intro φ w cs hfr r hargs
  refine calls_of_wp hf hb ?_
  have hs : Sim φ (mkFr args fn.ntmps) h { tmps := cs.toArray ++ Array.replicate (fn.ntmps - cs.toArray.size) undef, defers := [] } w := by
    refine ⟨r, rfl, ?_, ?_⟩
    · simp [mkFr, hargs.1]
    · intro t y v hy hv
      simp only [mkFr] at hy
      rw [← Array.getElem?_toList] at hv
      simp only [Array.toList_append, Array.toList_replicate] at hv
      rw [List.getElem?_append] at hy hv
      rw [hargs.1] at hy
      split at hy
      · rename_i hlt
        rw [if_pos hlt] at hv
        exact hargs.2 t y v hy hv
      · rename_i hlt
        rw [if_neg hlt] at hv
        rw [List.getElem?_replicate] at hy hv
        split at hy
        · cases hy
          split at hv
          · cases hv; exact VRel.undef φ
          · cases hv
        · cases hy
  refine wp_mono (hw φ _ w hfr hs) ?_
  rintro e' a' w' ⟨e, fr', h', φ', rfl, g, t, s', he, x, hr, hR⟩
  obtain ⟨v, hv, hrel⟩ := result_run (P := P) s'.fr w' hr
  rcases he with rfl | rfl
  · exact ⟨s'.fr.1, v, hv, v, φ', x, h', rfl, g, t, s'.heap, hrel, hR⟩
  · exact ⟨s'.fr.1, v, hv, v, φ', x, h', rfl, g, t, s'.heap, hrel, hR⟩
theorem NA.fn {P : Program} {f : FuncId} {fn : Func} {c : Code} {args : List AV} {h : AHeap} {R : AV → AHeap → Prop} (n : Nat) (rs : List ResultVar) (hf : P.funcs[f]? = some fn) (hb : fn.body = some c)
    (h1 : fn.ntmps = n) (h2 : fn.results.toList = rs) (hle : args.length ≤ n) (hw : NA P n c (fnQ n rs R) (argK 0 args) h) : NCalls P f args h R := by
  subst h1 h2
  refine NCalls.of_body hf hb ?_
  intro φ a w hfr s
  have := hw φ a w hfr ⟨s.heap, s.fr.args hle⟩
  refine wp_mono this ?_
  rintro e' a' w' ⟨e, fr', h', φ', rfl, g, t, s', K, rfl, he, l, hl, hR⟩
  refine ⟨e, _, h', φ', rfl, g, t, s', he, resV l, ?_, hR⟩
  rw [resultA, resA_toFr, hl]
  rfl
theorem NCalls.law {P : Program} {f : FuncId} {args : List AV} {h : AHeap} {R : AV → AHeap → Prop} (hc : NCalls P f args h R) (hR : ∀ r h', R r h' → r = .bool true) {W : World} {φ : Emb} (im : Imp W φ h) {cs : List Value} (ha : VRels φ args cs) :
    Calls P f cs.toArray W fun e w' => e = .returned (.bool true) ∧ Below W.heap.size W w' := by
  refine (hc φ W cs (fun b h1 => im.out b h1) im.rel ha).mono ?_
  rintro e w' ⟨v, φ', r, h', rfl, _, t, _, hv, hr⟩
  have := hR r h' hr
  subst this
  cases hv
  exact ⟨rfl, im.below t⟩
end Go.Am

namespace Go.Am
theorem set_at {P : List (List Bool)} {j : Nat} {k u : AV} (h : (setE P)[j]? = some (k, u)) : ∃ x, P[j]? = some x ∧ k = .str (wd x) ∧ u = .bool true := by
  rw [List.getElem?_map, List.getElem?_map] at h
  cases hq : P[j]? with
  | none => rw [hq] at h; cases h
  | some x =>
    rw [hq] at h
    simp only [Option.map_some, Option.some.injEq, Prod.mk.injEq] at h
    exact ⟨x, rfl, h.1.symm, h.2.symm⟩
theorem setE_len (P : List (List Bool)) : (setE P).length = P.length := by rw [List.length_map, List.length_map]
theorem OkD.nil (n : Nat) : OkD n [] := ⟨List.nodup_nil, fun j hj => by cases hj⟩
theorem OkD.len {n : Nat} {D : List Nat} (h : OkD n D) : D.length ≤ n := by
  have := nodup_le (m := List.range n) h.1 fun x hx => List.mem_range.2 (h.2 x hx)
  rwa [List.length_range] at this
section
variable {P : Program} {n : Nat} {ops : Array Oper} {Q : KF → AHeap → Prop} {k : Nat} {os : List Oper} {K : KF} {h h0 : AHeap} {d : Nat} {ty : TypeId} {pos : String} {after : Array Edge} {objs : List Obj}
/-- The entry that came. -/
theorem KOps.mentry {x : Operand} {v a b : AV} {bm i j m : Nat} {D : List Nat} {es : List (AV × AV)} [hx : EvK h.globs n K x v] (st : St h0 h objs) (hv : IsIt v) (hk' : objs[i]? = some (mwalkO v bm m (D ++ [j]))) (hM : RdM h (.mp bm) es) (hm : m = es.length) (hj : es[j]? = some (a, b))
    (hk : KOps P n ops TXT Q (k + 1) os ((d, .tup [a, b]) :: K) h) (hlt : Nat.beq k 1000000 = false := by rfl) : KOps P n ops TXT Q k (⟨some d, .entry x, ty, pos, after, none⟩ :: os) K h := by
  subst hm
  have st' := st
  obtain ⟨_, fs, hlen, hmu, _⟩ := st'
  have hl : i < fs.length := by rw [hlen]; exact (List.getElem?_eq_some_iff.1 hk').1
  obtain ⟨bb, G, f, _, _, rfl, hg, _⟩ := (hmu i _ _ hk' (List.getElem?_eq_getElem hl)).mwalk hv
  obtain ⟨bm', Fm, he, hgm⟩ := hM
  cases he
  exact KOps.stepT (mentry_step rfl hx.eq hg hgm hj) hk hlt
end
/-! Common words. -/
theorem erase_two {x : List Bool} {i j : Nat} (hij : i < j) (hj : j < x.length) : (x.eraseIdx j).eraseIdx i = (x.eraseIdx i).eraseIdx (j - 1) := by
  refine List.ext_getElem? fun k => ?_
  simp only [erase_get]
  by_cases h1 : k < i
  · rw [if_pos h1, if_pos (show k < j by omega), if_pos (show k < j - 1 by omega), if_pos h1]
  · rw [if_neg h1]
    by_cases h2 : k + 1 < j
    · rw [if_pos h2, if_pos (show k < j - 1 by omega), if_neg h1]
    · rw [if_neg h2, if_neg (show ¬ k < j - 1 by omega), if_neg (show ¬ k + 1 < i by omega)]
theorem short_of_long {a b x : List Bool} (hne : a ≠ b) (h1 : isDel x a = true) (h2 : isDel x b = true) : ∃ y, isDel a y = true ∧ isDel b y = true := by
  obtain ⟨i, hi, rfl⟩ := isDel_iff.1 h1
  obtain ⟨j, hj, rfl⟩ := isDel_iff.1 h2
  have l1 : (x.eraseIdx i).length = x.length - 1 := List.length_eraseIdx_of_lt hi
  have l2 : (x.eraseIdx j).length = x.length - 1 := List.length_eraseIdx_of_lt hj
  rcases Nat.lt_trichotomy i j with h | h | h
  · exact ⟨(x.eraseIdx i).eraseIdx (j - 1), isDel_iff.2 ⟨j - 1, by omega, rfl⟩, isDel_iff.2 ⟨i, by omega, erase_two h hj⟩⟩
  · subst h; exact absurd rfl hne
  · exact ⟨(x.eraseIdx j).eraseIdx (i - 1), isDel_iff.2 ⟨j, by omega, erase_two h hi⟩, isDel_iff.2 ⟨i - 1, by omega, rfl⟩⟩
end Go.Am

namespace Go.Am
theorem uniq_del {u y w : List Bool} (h1 : isDel y u = true) (h2 : isDel w u = true) (hc : cls y = cls w) : y = w := by
  obtain ⟨p, c, hp, rfl⟩ := isDel_ins.1 h1
  obtain ⟨q, d, hq, rfl⟩ := isDel_ins.1 h2
  rw [cls_ins hp, cls_ins hq] at hc
  have l1 := adds_lt (c := c) hp
  have l2 := adds_lt (c := d) hq
  exact adds_inj hp hq (mod_eq_lt (by omega) (by omega) hc)
theorem mem_cutW {N : Nat} {s y : List Bool} : y ∈ cutW N s ↔ y.length = N ∧ (y = s ∨ isDel y s = true ∨ isDel s y = true) := by
  unfold cutW
  rw [List.mem_filter, mem_allW, Bool.or_eq_true, Bool.or_eq_true, decide_eq_true_iff, or_assoc]
theorem cut_uniq {w s y : List Bool} (hs : s = w ∨ isDel w s = true ∨ isDel s w = true) (hy : y ∈ cutW w.length s) (hc : cls y = cls w) : y = w := by
  obtain ⟨hl, hr⟩ := mem_cutW.1 hy
  rcases hs with rfl | h | h
  · rcases hr with q | q | q
    · exact q
    · have := isDel_len q; omega
    · have := isDel_len q; omega
  · have h1 := isDel_len h
    rcases hr with q | q | q
    · rw [q] at hl; omega
    · exact uniq_del q h hc
    · have := isDel_len q; omega
  · have h1 := isDel_len h
    rcases hr with q | q | q
    · rw [q] at hl; omega
    · have := isDel_len q; omega
    · by_cases he : y = w
      · exact he
      · obtain ⟨u, hu1, hu2⟩ := short_of_long he q h
        exact uniq_del hu1 hu2 hc
theorem cut_mem {w s : List Bool} (hs : s = w ∨ isDel w s = true ∨ isDel s w = true) : w ∈ cutW w.length s := mem_cutW.2 ⟨rfl, hs.imp Eq.symm id⟩
theorem rest_all {w s : List Bool} (hs : s = w ∨ isDel w s = true ∨ isDel s w = true) : restW w.length (cls w) s = some w := by
  unfold restW
  exact find_one (cut_mem hs) (decide_eq_true rfl) fun y hy hp => cut_uniq hs hy (of_decide_eq_true hp)
theorem reads_len {w s : List Bool} (hs : s = w ∨ isDel w s = true ∨ isDel s w = true) : w.length ≤ s.length + 1 ∧ s.length ≤ w.length + 1 := by
  rcases hs with rfl | h | h
  · omega
  · have := isDel_len h; omega
  · have := isDel_len h; omega
theorem ask_reads {w s : List Bool} (hw : 1 ≤ w.length ∧ w.length ≤ 9) (hs : s = w ∨ isDel w s = true ∨ isDel s w = true) : askE (w.length : Int) (wd s) = 0 := by
  have h := reads_len hs
  exact askE_0 (chk_wd (by omega)) (by omega) (by rw [wd_size]; omega)
theorem cls_le (w : List Bool) : cls w ≤ w.length := by
  have := Nat.mod_lt (wt w) (show 0 < w.length + 1 by omega)
  unfold cls
  omega
theorem code_mem (w : List Bool) : w ∈ codeW w.length (cls w) := by
  unfold codeW
  exact List.mem_filter.2 ⟨mem_allW.2 rfl, decide_eq_true rfl⟩
section
variable {P : Program} {n : Nat} {ops : Array Oper} {ex : List Nat} {Q : KF → AHeap → Prop} {k : Nat} {os : List Oper} {K : KF} {h h0 : AHeap} {d : Nat} {ty : TypeId} {pos : String} {after : Array Edge} {objs : List Obj}
theorem KOps.setIns {t kt : TypeId} {z : AV} {p : List (List Bool)} {v : AV} {x ix y : Operand} {a : List Bool} {i : Nat} [hx : EvK h.globs n K x v] [hi : EvK h.globs n K ix (.str (wd a))] [hy : EvK h.globs n K y (.bool true)] [ht : MpT P t kt z] [hkt : KeyT P kt kw]
    (st : St h0 h objs) (hv : IsMp v) (hk' : objs[i]? = some (setO v p)) (hex : ex.contains k = false)
    (hk : ∀ h', St h0 h' (objs.set i (setO v (addW p a))) → KOps P n ops ex Q (k + 1) os K h') : KOps P n ops ex Q k (⟨none, .insert t x ix y, ty, pos, after, none⟩ :: os) K h := by
  refine KOps.insertK (kf := kw) (vf := AV.bool) (l := setL p) (a := a) (b := true) (u := .bool true) hi.eq rfl st hv hk' hex fun h' hS => hk h' ?_
  rw [mput_add] at hS
  exact hS
end
end Go.Am

namespace Go.Am
theorem code_small (N k : Nat) (h : N ≤ 10) : (codeW N k).length ≤ 4096 := by
  have h1 : (codeW N k).length ≤ (allW N).length := List.length_filter_le ..
  have h2 := allW_small (n := N) (by omega)
  omega
set_option synthInstance.maxSize 4000
set_option synthInstance.maxHeartbeats 2000000
set_option maxHeartbeats 4000000 in
theorem law_restores {h : AHeap} {x n : Nat} (hTab : Tab h) (hx : x < 65536) (hn : n < 256) : NCalls Go.Proofs.Tryd.prog 6 [.int .u16 (x : Int), .int .u8 (n : Int)] h (fun r _ => r = .bool true) := by
  refine NA.fn 142 [.tmp 4] Go.Proofs.Tryd.func6 rfl rfl rfl (Nat.le_of_ble_eq_true rfl) ?_
  have hS := St.refl h
  have hn9 : n % 9 < 9 := Nat.mod_lt _ (by decide)
  show NA _ 142 _ _ [(0, .int .u16 (x : Int)), (1, .int .u8 (n : Int))] _
  refine NA.seq ?_
  refine NA.region rfl ?_
  refine KOps.assign ?_
  refine KOps.done ?_
  refine sqN.normal ?_
  refine NA.sub (Sub.cons (t := 0) Look.eq (Sub.cons (t := 1) Look.eq (Sub.nil _))) ?_
  refine NA.seq ?_
  refine NA.region rfl ?_
  refine KOps.move ?_
  refine KOps.convU (by omega) (by omega) ?_
  refine KOps.remN (i := n) (j := 9) rfl rfl (by omega) (by omega) ?_
  refine KOps.add (by omega) (by omega) ?_
  obtain ⟨N, hN⟩ : ∃ N : Nat, 1 + ((n % 9 : Nat) : Int) = (N : Int) := ⟨1 + n % 9, by omega⟩
  rw [hN]
  refine KOps.assign ?_
  refine KOps.done ?_
  refine sqN.normal ?_
  refine NA.sub (Sub.cons (t := 0) Look.eq (Sub.cons (t := 5) Look.eq (Sub.nil _))) ?_
  refine NA.seq ?_
  refine NA.region rfl ?_
  have hN9 : 1 ≤ N ∧ N ≤ 9 := by omega
  have hwl := wordN_len x N
  have hcl : cls (wordN x N) ≤ N := by
    have := cls_le (wordN x N)
    omega
  have hcm : wordN x N ∈ codeW N (cls (wordN x N)) := by
    have := code_mem (wordN x N)
    rwa [hwl] at this
  refine KOps.move ?_
  refine KOps.move ?_
  refine KOps.call rfl (word_c (by omega) (by omega)) ?_
  rintro _ _ ⟨rfl, rfl⟩
  refine KOps.assign ?_
  refine KOps.done ?_
  refine sqN.normal ?_
  refine NA.sub (Sub.cons (t := 5) Look.eq (Sub.cons (t := 6) Look.eq (Sub.nil _))) ?_
  refine NA.seq ?_
  refine NA.region rfl ?_
  refine KOps.move ?_
  refine KOps.call rfl (kindF_c (by omega)) ?_
  rintro _ _ ⟨rfl, rfl⟩
  refine KOps.assign ?_
  refine KOps.done ?_
  refine sqN.normal ?_
  refine NA.sub (Sub.cons (t := 5) Look.eq (Sub.cons (t := 6) Look.eq (Sub.cons (t := 7) Look.eq (Sub.nil _)))) ?_
  refine NA.seq ?_
  refine NA.region rfl ?_
  refine KOps.move ?_
  refine KOps.move ?_
  refine KOps.call rfl (codeP_c (n := (N : Int)) (k := ((cls (wordN x N) : Nat) : Int))) ?_
  rintro _ h32 ⟨v32, rfl, hS32⟩
  have hS0 : St _ _ (_ :: _) := St.trans hS hS32
  clear hS
  have hS := hS0
  clear hS0
  rw [codeS_nat (by omega) hcl] at hS
  refine KOps.move ?_
  refine KOps.extract ?_
  refine KOps.extract ?_
  refine KOps.assign ?_
  refine KOps.assign ?_
  refine KOps.done ?_
  refine sqN.normal ?_
  refine NA.sub (Sub.cons (t := 5) Look.eq (Sub.cons (t := 6) Look.eq (Sub.cons (t := 7) Look.eq (Sub.cons (t := 8) Look.eq (Sub.cons (t := 9) Look.eq (Sub.nil _)))))) ?_
  refine NA.seq ?_
  refine NA.seq ?_
  refine NA.region rfl ?_
  refine KOps.move ?_
  refine KOps.neqF (codeE_nat (by omega) hcl) ?_
  refine KOps.move ?_
  refine KOps.guardYes (dj := 37) rfl rfl ?_
  refine KOps.move ?_
  refine KOps.guardYes (dj := 37) rfl rfl ?_
  refine KOps.move ?_
  refine KOps.guardYes (dj := 37) rfl rfl ?_
  refine KOps.call rfl (containsS_c (WRow.s (hS.rd 0 rfl)) (by rw [List.length_map]; exact code_small N _ (by omega))) ?_
  rintro _ _ ⟨rfl, rfl⟩
  rw [anyS_words, decide_eq_true hcm]
  refine KOps.guardYes (dj := 37) rfl rfl ?_
  refine KOps.not ?_
  refine KOps.pickF ?_
  refine KOps.done ?_
  refine sqN.normal ?_
  refine NA.sub (Sub.cons (t := 5) Look.eq (Sub.cons (t := 6) Look.eq (Sub.cons (t := 7) Look.eq (Sub.cons (t := 42) Look.eq (Sub.nil _))))) ?_
  refine NA.condF ?_
  refine NA.skip ?_
  refine sqN.normal ?_
  refine NA.sub (Sub.cons (t := 5) Look.eq (Sub.cons (t := 6) Look.eq (Sub.cons (t := 7) Look.eq (Sub.nil _)))) ?_
  refine NA.seq ?_
  refine NA.region rfl ?_
  refine KOps.makeMap hS rfl ?_
  intro v43 h' hv43 hS
  obtain ⟨bm43, rfl⟩ := hv43
  refine KOps.move ?_
  refine KOps.setIns (p := []) hS ⟨_, rfl⟩ (i := 0) rfl rfl ?_
  intro h' hS
  simp only [List.set_cons_zero, List.set_cons_succ, Nat.zero_add] at hS
  rw [show addW [] (wordN x N) = [wordN x N] from rfl] at hS
  refine KOps.move ?_
  refine KOps.assign ?_
  refine KOps.done ?_
  refine sqN.normal ?_
  refine NA.sub (Sub.cons (t := 5) Look.eq (Sub.cons (t := 6) Look.eq (Sub.cons (t := 7) Look.eq (Sub.cons (t := 10) Look.eq (Sub.nil _))))) ?_
  refine NA.seq ?_
  refine NA.seq ?_
  refine NA.region rfl ?_
  refine KOps.move ?_
  refine KOps.call rfl (shorts_c (by omega)) ?_
  rintro v47 h47 ⟨P47, hv47, hnd47, hm47, hS47⟩
  obtain ⟨bm47, rfl⟩ := hv47
  have hS0 : St _ _ (_ :: _) := St.trans hS hS47
  clear hS
  have hS := hS0
  clear hS0
  refine KOps.mrange hS (St.rdM hS 0 rfl ⟨_, rfl⟩) ?_
  intro v48 h' hv48 hS
  refine KOps.done ?_
  refine sqN.normal ?_
  refine NA.sub (Sub.cons (t := 5) Look.eq (Sub.cons (t := 6) Look.eq (Sub.cons (t := 7) Look.eq (Sub.cons (t := 10) Look.eq (Sub.cons (t := 48) Look.eq (Sub.nil _)))))) ?_
  refine NA.block ?_
  refine NA.loop (X := List Nat × List (List Bool)) (fun x_ => [(5, .int .i64 (N : Int)), (6, .str (wd (wordN x N))), (7, .int .i64 ((cls (wordN x N) : Nat) : Int)), (10, .mp bm43), (48, v48)]) (fun x_ h' => OkD (setE P47).length x_.1 ∧ x_.2.Nodup ∧ (∀ z, z ∈ x_.2 ↔ z ∈ [wordN x N] ∨ ∃ j ∈ x_.1, P47[j]? = some z) ∧ St h h' [mwalkO v48 bm47 (setE P47).length x_.1, setO (.mp bm47) P47, setO (.mp bm43) x_.2]) (fun x_ => (setE P47).length + 1 - x_.1.length) ([], [wordN x N]) (by repeat (first | exact Sub.nil _ | refine Sub.cons Look.eq ?_ | refine Sub.cons (Eq.trans Look.eq (congrArg (AV.int _) (by first | omega | (dsimp only; omega)))) ?_)) ?_ ?_
  · exact ⟨OkD.nil _, by simp, fun z => ⟨.inl, fun q => q.elim id fun ⟨j, hj, _⟩ => (by cases hj)⟩, St.pick [0, 1, 2] (by decide) rfl hS⟩
  rintro ⟨D, Q⟩ h2 ⟨hD, hnd, hm, hS⟩
  dsimp only at hD hnd hm hS ⊢
  have hDl := hD.len
  refine NA.seq ?_
  refine NA.regionNext (es := setE P47) (D := D) rfl hD hS hv48 (i := 0) rfl (St.rdM hS 1 rfl ⟨_, rfl⟩) ?_ ?_
  · intro nj nk nu hnj hnk h' hS
    simp only [List.set_cons_zero, List.set_cons_succ, Nat.zero_add] at hS
    obtain ⟨z, hz, rfl, rfl⟩ := set_at hnk
    refine KOps.extract ?_
    refine KOps.done ?_
    refine sqN.normal ?_
    refine NA.sub (Sub.cons (t := 5) Look.eq (Sub.cons (t := 6) Look.eq (Sub.cons (t := 7) Look.eq (Sub.cons (t := 10) Look.eq (Sub.cons (t := 48) Look.eq (Sub.cons (t := 50) Look.eq (Sub.nil _))))))) ?_
    refine NA.seq ?_
    refine NA.condT ?_
    refine NA.skip ?_
    refine sqN.normal ?_
    refine NA.sub (Sub.cons (t := 5) Look.eq (Sub.cons (t := 6) Look.eq (Sub.cons (t := 7) Look.eq (Sub.cons (t := 10) Look.eq (Sub.cons (t := 48) Look.eq (Sub.nil _)))))) ?_
    refine NA.block ?_
    refine NA.seq ?_
    refine NA.region rfl ?_
    refine KOps.mentry hS hv48 (i := 0) rfl (St.rdM hS 1 rfl ⟨_, rfl⟩) rfl hnk ?_
    refine KOps.extract ?_
    refine KOps.assign ?_
    refine KOps.done ?_
    refine sqN.normal ?_
    refine NA.sub (Sub.cons (t := 5) Look.eq (Sub.cons (t := 6) Look.eq (Sub.cons (t := 7) Look.eq (Sub.cons (t := 10) Look.eq (Sub.cons (t := 11) Look.eq (Sub.cons (t := 48) Look.eq (Sub.nil _))))))) ?_
    refine NA.region rfl ?_
    refine KOps.move ?_
    refine KOps.move ?_
    refine KOps.setPut hS ⟨_, rfl⟩ (i := 2) rfl rfl ?_
    intro h' hS
    simp only [List.set_cons_zero, List.set_cons_succ, Nat.zero_add] at hS
    refine KOps.done ?_
    refine blQ.normal ?_
    have hDs := hD.snoc hnj (List.getElem?_eq_some_iff.1 hnk).1
    have hDl2 := hDs.len
    rw [List.length_append] at hDl2
    refine lpQ.normal (D ++ [nj], addW Q z) (by repeat (first | exact Sub.nil _ | refine Sub.cons Look.eq ?_ | refine Sub.cons (Eq.trans Look.eq (congrArg (AV.int _) (by first | omega | (dsimp only; omega)))) ?_)) ⟨hDs, addW_nodup hnd, fun u => ?_, hS⟩ (by dsimp only; rw [List.length_append]; simp only [List.length_cons, List.length_nil] at hDl2 ⊢; omega)
    refine mem_addW.trans ?_
    rw [hm u]
    constructor
    · rintro ((q | ⟨j, hj, q⟩) | rfl)
      · exact .inl q
      · exact .inr ⟨j, List.mem_append.2 (.inl hj), q⟩
      · exact .inr ⟨nj, by simp, hz⟩
    · rintro (q | ⟨j, hj, q⟩)
      · exact .inl (.inl q)
      · rcases List.mem_append.1 hj with hj | hj
        · exact .inl (.inr ⟨j, hj, q⟩)
        · rw [List.mem_singleton.1 hj, hz] at q
          cases q
          exact .inr rfl
  · intro hall
    refine KOps.extract ?_
    refine KOps.done ?_
    refine sqN.normal ?_
    refine NA.sub (Sub.cons (t := 5) Look.eq (Sub.cons (t := 6) Look.eq (Sub.cons (t := 7) Look.eq (Sub.cons (t := 10) Look.eq (Sub.cons (t := 48) Look.eq (Sub.cons (t := 50) Look.eq (Sub.nil _))))))) ?_
    refine NA.seq ?_
    refine NA.condF ?_
    refine NA.exit ?_
    refine sqN.exit ?_
    refine lpQ.exit ?_
    refine blQ.here ?_
    refine sqN.normal ?_
    refine NA.sub (Sub.cons (t := 5) Look.eq (Sub.cons (t := 6) Look.eq (Sub.cons (t := 7) Look.eq (Sub.cons (t := 10) Look.eq (Sub.nil _))))) ?_
    refine NA.seq ?_
    refine NA.seq ?_
    refine NA.region rfl ?_
    obtain ⟨R, hR⟩ : ∃ R, R = Q := ⟨_, rfl⟩
    subst hR
    have hRn := hnd
    have hRm : ∀ z, z ∈ R ↔ z = wordN x N ∨ isDel (wordN x N) z = true := fun z => by
      rw [hm z, List.mem_singleton]
      constructor
      · rintro (q | ⟨j, _, q⟩)
        · exact .inl q
        · exact .inr ((hm47 z).1 (List.mem_of_getElem? q))
      · rintro (q | q)
        · exact .inl q
        · obtain ⟨j, hj, he⟩ := List.getElem_of_mem ((hm47 z).2 q)
          exact .inr ⟨j, hall j (by rw [setE_len]; exact hj), by rw [List.getElem?_eq_getElem hj, he]⟩
    clear hm hnd hall hD hDl
    refine KOps.move ?_
    refine KOps.call rfl (longs_c (by omega)) ?_
    rintro v56 h56 ⟨P56, hv56, hnd56, hm56, hS56⟩
    obtain ⟨bm56, rfl⟩ := hv56
    have hS0 : St _ _ (_ :: _) := St.trans hS hS56
    clear hS
    have hS := hS0
    clear hS0
    refine KOps.mrange hS (St.rdM hS 0 rfl ⟨_, rfl⟩) ?_
    intro v57 h' hv57 hS
    refine KOps.done ?_
    refine sqN.normal ?_
    refine NA.sub (Sub.cons (t := 5) Look.eq (Sub.cons (t := 6) Look.eq (Sub.cons (t := 7) Look.eq (Sub.cons (t := 10) Look.eq (Sub.cons (t := 57) Look.eq (Sub.nil _)))))) ?_
    refine NA.block ?_
    refine NA.loop (X := List Nat × List (List Bool)) (fun x_ => [(5, .int .i64 (N : Int)), (6, .str (wd (wordN x N))), (7, .int .i64 ((cls (wordN x N) : Nat) : Int)), (10, .mp bm43), (57, v57)]) (fun x_ h' => OkD (setE P56).length x_.1 ∧ x_.2.Nodup ∧ (∀ z, z ∈ x_.2 ↔ z ∈ R ∨ ∃ j ∈ x_.1, P56[j]? = some z) ∧ St h h' [mwalkO v57 bm56 (setE P56).length x_.1, setO (.mp bm56) P56, setO (.mp bm43) x_.2]) (fun x_ => (setE P56).length + 1 - x_.1.length) ([], R) (by repeat (first | exact Sub.nil _ | refine Sub.cons Look.eq ?_ | refine Sub.cons (Eq.trans Look.eq (congrArg (AV.int _) (by first | omega | (dsimp only; omega)))) ?_)) ?_ ?_
    · exact ⟨OkD.nil _, hRn, fun z => ⟨.inl, fun q => q.elim id fun ⟨j, hj, _⟩ => (by cases hj)⟩, St.pick [0, 1, 4] (by decide) rfl hS⟩
    rintro ⟨D, Q⟩ h2 ⟨hD, hnd, hm, hS⟩
    dsimp only at hD hnd hm hS ⊢
    have hDl := hD.len
    refine NA.seq ?_
    refine NA.regionNext (es := setE P56) (D := D) rfl hD hS hv57 (i := 0) rfl (St.rdM hS 1 rfl ⟨_, rfl⟩) ?_ ?_
    · intro nj nk nu hnj hnk h' hS
      simp only [List.set_cons_zero, List.set_cons_succ, Nat.zero_add] at hS
      obtain ⟨z, hz, rfl, rfl⟩ := set_at hnk
      refine KOps.extract ?_
      refine KOps.done ?_
      refine sqN.normal ?_
      refine NA.sub (Sub.cons (t := 5) Look.eq (Sub.cons (t := 6) Look.eq (Sub.cons (t := 7) Look.eq (Sub.cons (t := 10) Look.eq (Sub.cons (t := 57) Look.eq (Sub.cons (t := 59) Look.eq (Sub.nil _))))))) ?_
      refine NA.seq ?_
      refine NA.condT ?_
      refine NA.skip ?_
      refine sqN.normal ?_
      refine NA.sub (Sub.cons (t := 5) Look.eq (Sub.cons (t := 6) Look.eq (Sub.cons (t := 7) Look.eq (Sub.cons (t := 10) Look.eq (Sub.cons (t := 57) Look.eq (Sub.nil _)))))) ?_
      refine NA.block ?_
      refine NA.seq ?_
      refine NA.region rfl ?_
      refine KOps.mentry hS hv57 (i := 0) rfl (St.rdM hS 1 rfl ⟨_, rfl⟩) rfl hnk ?_
      refine KOps.extract ?_
      refine KOps.assign ?_
      refine KOps.done ?_
      refine sqN.normal ?_
      refine NA.sub (Sub.cons (t := 5) Look.eq (Sub.cons (t := 6) Look.eq (Sub.cons (t := 7) Look.eq (Sub.cons (t := 10) Look.eq (Sub.cons (t := 12) Look.eq (Sub.cons (t := 57) Look.eq (Sub.nil _))))))) ?_
      refine NA.region rfl ?_
      refine KOps.move ?_
      refine KOps.move ?_
      refine KOps.setPut hS ⟨_, rfl⟩ (i := 2) rfl rfl ?_
      intro h' hS
      simp only [List.set_cons_zero, List.set_cons_succ, Nat.zero_add] at hS
      refine KOps.done ?_
      refine blQ.normal ?_
      have hDs := hD.snoc hnj (List.getElem?_eq_some_iff.1 hnk).1
      have hDl2 := hDs.len
      rw [List.length_append] at hDl2
      refine lpQ.normal (D ++ [nj], addW Q z) (by repeat (first | exact Sub.nil _ | refine Sub.cons Look.eq ?_ | refine Sub.cons (Eq.trans Look.eq (congrArg (AV.int _) (by first | omega | (dsimp only; omega)))) ?_)) ⟨hDs, addW_nodup hnd, fun u => ?_, hS⟩ (by dsimp only; rw [List.length_append]; simp only [List.length_cons, List.length_nil] at hDl2 ⊢; omega)
      refine mem_addW.trans ?_
      rw [hm u]
      constructor
      · rintro ((q | ⟨j, hj, q⟩) | rfl)
        · exact .inl q
        · exact .inr ⟨j, List.mem_append.2 (.inl hj), q⟩
        · exact .inr ⟨nj, by simp, hz⟩
      · rintro (q | ⟨j, hj, q⟩)
        · exact .inl (.inl q)
        · rcases List.mem_append.1 hj with hj | hj
          · exact .inl (.inr ⟨j, hj, q⟩)
          · rw [List.mem_singleton.1 hj, hz] at q
            cases q
            exact .inr rfl
    · intro hall
      refine KOps.extract ?_
      refine KOps.done ?_
      refine sqN.normal ?_
      refine NA.sub (Sub.cons (t := 5) Look.eq (Sub.cons (t := 6) Look.eq (Sub.cons (t := 7) Look.eq (Sub.cons (t := 10) Look.eq (Sub.cons (t := 57) Look.eq (Sub.cons (t := 59) Look.eq (Sub.nil _))))))) ?_
      refine NA.seq ?_
      refine NA.condF ?_
      refine NA.exit ?_
      refine sqN.exit ?_
      refine lpQ.exit ?_
      refine blQ.here ?_
      refine sqN.normal ?_
      refine NA.sub (Sub.cons (t := 5) Look.eq (Sub.cons (t := 6) Look.eq (Sub.cons (t := 7) Look.eq (Sub.cons (t := 10) Look.eq (Sub.nil _))))) ?_
      refine NA.seq ?_
      refine NA.seq ?_
      refine NA.region rfl ?_
      obtain ⟨R2, hR⟩ : ∃ R, R = Q := ⟨_, rfl⟩
      subst hR
      have hR2 : ∀ z, z ∈ R2 → z = wordN x N ∨ isDel (wordN x N) z = true ∨ isDel z (wordN x N) = true := fun z q => by
        rcases (hm z).1 q with q | ⟨j, _, q⟩
        · rcases (hRm z).1 q with q | q
          · exact .inl q
          · exact .inr (.inl q)
        · exact .inr (.inr ((hm56 z).1 (List.mem_of_getElem? q)))
      clear hm hall hD hDl
      refine KOps.move ?_
      refine KOps.mrange hS (St.rdM hS 2 rfl ⟨_, rfl⟩) ?_
      intro v65 h' hv65 hS
      refine KOps.done ?_
      refine sqN.normal ?_
      refine NA.sub (Sub.cons (t := 5) Look.eq (Sub.cons (t := 6) Look.eq (Sub.cons (t := 7) Look.eq (Sub.cons (t := 65) Look.eq (Sub.nil _))))) ?_
      refine NA.block ?_
      refine NA.loop (X := List Nat) (fun x_ => [(5, .int .i64 (N : Int)), (6, .str (wd (wordN x N))), (7, .int .i64 ((cls (wordN x N) : Nat) : Int)), (65, v65)]) (fun x_ h' => OkD (setE R2).length x_ ∧ St h h' [mwalkO v65 bm43 (setE R2).length x_, setO (.mp bm43) R2]) (fun x_ => (setE R2).length + 1 - x_.length) [] (by repeat (first | exact Sub.nil _ | refine Sub.cons Look.eq ?_ | refine Sub.cons (Eq.trans Look.eq (congrArg (AV.int _) (by first | omega | (dsimp only; omega)))) ?_)) ?_ ?_
      · exact ⟨OkD.nil _, St.pick [0, 3] (by decide) rfl hS⟩
      rintro D h3 ⟨hD, hS⟩
      have hDl := hD.len
      refine NA.seq ?_
      refine NA.regionNext (es := setE R2) (D := D) rfl hD hS hv65 (i := 0) rfl (St.rdM hS 1 rfl ⟨_, rfl⟩) ?_ ?_
      · intro nj nk nu hnj hnk h' hS
        simp only [List.set_cons_zero, List.set_cons_succ, Nat.zero_add] at hS
        obtain ⟨z, hz, rfl, rfl⟩ := set_at hnk
        have hsp := hR2 z (List.mem_of_getElem? hz)
        have hrl := reads_len hsp
        have hsp9 : z.length ≤ 10 := by omega
        refine KOps.extract ?_
        refine KOps.done ?_
        refine sqN.normal ?_
        refine NA.sub (Sub.cons (t := 5) Look.eq (Sub.cons (t := 6) Look.eq (Sub.cons (t := 7) Look.eq (Sub.cons (t := 65) Look.eq (Sub.cons (t := 67) Look.eq (Sub.nil _)))))) ?_
        refine NA.seq ?_
        refine NA.condT ?_
        refine NA.skip ?_
        refine sqN.normal ?_
        refine NA.sub (Sub.cons (t := 5) Look.eq (Sub.cons (t := 6) Look.eq (Sub.cons (t := 7) Look.eq (Sub.cons (t := 65) Look.eq (Sub.nil _))))) ?_
        refine NA.block ?_
        refine NA.seq ?_
        refine NA.region rfl ?_
        refine KOps.mentry hS hv65 (i := 0) rfl (St.rdM hS 1 rfl ⟨_, rfl⟩) rfl hnk ?_
        refine KOps.extract ?_
        refine KOps.assign ?_
        refine KOps.done ?_
        refine sqN.normal ?_
        refine NA.sub (Sub.cons (t := 5) Look.eq (Sub.cons (t := 6) Look.eq (Sub.cons (t := 7) Look.eq (Sub.cons (t := 13) Look.eq (Sub.cons (t := 65) Look.eq (Sub.nil _)))))) ?_
        refine NA.seq ?_
        refine NA.region rfl ?_
        have hask : askE (N : Int) (wd z) = 0 := by
          have := ask_reads (by omega) hsp
          rwa [hwl] at this
        have hrs := rest_some hask hcl (by
          have := rest_all hsp
          rwa [hwl] at this)
        have hcut := cutS_wd hask
        have hcmem : wordN x N ∈ cutW N z := by
          have := cut_mem hsp
          rwa [hwl] at this
        have hctl := cutW_len N z
        have hpw : 2 ^ N ≤ 2 ^ 10 := Nat.pow_le_pow_right (by decide) (by omega)
        refine KOps.move ?_
        refine KOps.move ?_
        refine KOps.move ?_
        refine KOps.call rfl (restPF_c (n := (N : Int)) (k := ((cls (wordN x N) : Nat) : Int)) (s := wd z)) ?_
        rintro _ _ ⟨rfl, rfl⟩
        refine KOps.move ?_
        refine KOps.extract ?_
        refine KOps.extract ?_
        refine KOps.assign ?_
        refine KOps.assign ?_
        refine KOps.done ?_
        refine sqN.normal ?_
        refine NA.sub (Sub.cons (t := 5) Look.eq (Sub.cons (t := 6) Look.eq (Sub.cons (t := 7) Look.eq (Sub.cons (t := 13) Look.eq (Sub.cons (t := 14) Look.eq (Sub.cons (t := 15) Look.eq (Sub.cons (t := 65) Look.eq (Sub.nil _)))))))) ?_
        refine NA.seq ?_
        refine NA.region rfl ?_
        refine KOps.move ?_
        refine KOps.move ?_
        refine KOps.call rfl (cutP_c (n := (N : Int)) (s := wd z)) ?_
        rintro _ h80 ⟨v80, rfl, hS80⟩
        have hS0 : St _ _ (_ :: _) := St.trans hS hS80
        clear hS
        have hS := hS0
        clear hS0
        refine KOps.move ?_
        refine KOps.extract ?_
        refine KOps.extract ?_
        refine KOps.assign ?_
        refine KOps.assign ?_
        refine KOps.done ?_
        refine sqN.normal ?_
        refine NA.sub (Sub.cons (t := 5) Look.eq (Sub.cons (t := 6) Look.eq (Sub.cons (t := 7) Look.eq (Sub.cons (t := 13) Look.eq (Sub.cons (t := 14) Look.eq (Sub.cons (t := 15) Look.eq (Sub.cons (t := 16) Look.eq (Sub.cons (t := 17) Look.eq (Sub.cons (t := 65) Look.eq (Sub.nil _)))))))))) ?_
        refine NA.seq ?_
        refine NA.seq ?_
        refine NA.region rfl ?_
        rw [hcut] at hS
        refine KOps.move ?_
        refine KOps.neqF (hrs.1) ?_
        refine KOps.move ?_
        refine KOps.guardYes (dj := 85) rfl rfl ?_
        refine KOps.move ?_
        refine KOps.guardYes (dj := 85) rfl rfl ?_
        refine KOps.move ?_
        refine KOps.guardYes (dj := 85) rfl rfl ?_
        refine KOps.wNeqF hrs.2 ?_
        refine KOps.pickF ?_
        refine KOps.move ?_
        refine KOps.guardYes (dj := 90) rfl rfl ?_
        refine KOps.move ?_
        refine KOps.guardYes (dj := 90) rfl rfl ?_
        refine KOps.neqF (hask) ?_
        refine KOps.pickF ?_
        refine KOps.move ?_
        refine KOps.guardYes (dj := 94) rfl rfl ?_
        refine KOps.move ?_
        refine KOps.guardYes (dj := 94) rfl rfl ?_
        refine KOps.move ?_
        refine KOps.guardYes (dj := 94) rfl rfl ?_
        refine KOps.call rfl (containsS_c (WRow.s (hS.rd 0 rfl)) (by rw [List.length_map]; omega)) ?_
        rintro _ _ ⟨rfl, rfl⟩
        rw [anyS_words, decide_eq_true hcmem]
        refine KOps.guardYes (dj := 94) rfl rfl ?_
        refine KOps.not ?_
        refine KOps.pickF ?_
        refine KOps.done ?_
        refine sqN.normal ?_
        refine NA.sub (Sub.cons (t := 5) Look.eq (Sub.cons (t := 6) Look.eq (Sub.cons (t := 7) Look.eq (Sub.cons (t := 13) Look.eq (Sub.cons (t := 16) Look.eq (Sub.cons (t := 65) Look.eq (Sub.cons (t := 86) Look.eq (Sub.cons (t := 87) Look.eq (Sub.cons (t := 88) Look.eq (Sub.cons (t := 91) Look.eq (Sub.cons (t := 92) Look.eq (Sub.cons (t := 95) Look.eq (Sub.cons (t := 96) Look.eq (Sub.cons (t := 97) Look.eq (Sub.cons (t := 98) Look.eq (Sub.cons (t := 99) Look.eq (Sub.nil _))))))))))))))))) ?_
        refine NA.condF ?_
        refine NA.skip ?_
        refine sqN.normal ?_
        refine NA.sub (Sub.cons (t := 5) Look.eq (Sub.cons (t := 6) Look.eq (Sub.cons (t := 7) Look.eq (Sub.cons (t := 13) Look.eq (Sub.cons (t := 16) Look.eq (Sub.cons (t := 65) Look.eq (Sub.cons (t := 86) Look.eq (Sub.cons (t := 87) Look.eq (Sub.cons (t := 88) Look.eq (Sub.cons (t := 91) Look.eq (Sub.cons (t := 92) Look.eq (Sub.cons (t := 95) Look.eq (Sub.cons (t := 96) Look.eq (Sub.cons (t := 97) Look.eq (Sub.cons (t := 98) Look.eq (Sub.nil _)))))))))))))))) ?_
        refine NA.seq ?_
        refine NA.region rfl ?_
        refine KOps.move ?_
        refine KOps.lenI (hS.rd 0 rfl) ?_
        refine KOps.move ?_
        refine KOps.done ?_
        refine sqN.normal ?_
        refine NA.sub (Sub.cons (t := 5) Look.eq (Sub.cons (t := 6) Look.eq (Sub.cons (t := 7) Look.eq (Sub.cons (t := 13) Look.eq (Sub.cons (t := 65) Look.eq (Sub.cons (t := 86) Look.eq (Sub.cons (t := 87) Look.eq (Sub.cons (t := 88) Look.eq (Sub.cons (t := 91) Look.eq (Sub.cons (t := 92) Look.eq (Sub.cons (t := 95) Look.eq (Sub.cons (t := 96) Look.eq (Sub.cons (t := 97) Look.eq (Sub.cons (t := 98) Look.eq (Sub.cons (t := 100) Look.eq (Sub.cons (t := 101) Look.eq (Sub.cons (t := 102) Look.eq (Sub.nil _)))))))))))))))))) ?_
        refine NA.block ?_
        -- live but not in the pattern: [86, 87, 88, 91, 92, 95, 96, 97, 98]
        refine NA.loop (X := Nat) (fun i => [(5, .int .i64 (N : Int)), (6, .str (wd (wordN x N))), (7, .int .i64 ((cls (wordN x N) : Nat) : Int)), (13, .str (wd z)), (65, v65), (100, v80), (101, .int .i64 ((cutW N z).length : Int)), (102, .int .i64 (i : Int))]) (fun i h' => i ≤ (cutW N z).length ∧ St h h' [⟨v80, 1, wcs (cutW N z), true⟩, mwalkO v65 bm43 (setE R2).length (D ++ [nj]), setO (.mp bm43) R2]) (fun i => (cutW N z).length - i) 0 (by repeat (first | exact Sub.nil _ | refine Sub.cons Look.eq ?_ | refine Sub.cons (Eq.trans Look.eq (congrArg (AV.int _) (by first | omega | (dsimp only; omega)))) ?_)) ?_ ?_
        · exact ⟨Nat.zero_le _, hS⟩
        rintro i h6 ⟨hi, hS⟩
        refine NA.seq ?_
        refine NA.region rfl ?_
        refine KOps.lss ?_
        refine KOps.done ?_
        refine sqN.normal ?_
        refine NA.seq ?_
        refine NA.condD ?_ ?_
        · intro c103
          refine NA.skip ?_
          refine sqN.normal ?_
          refine NA.sub (Sub.cons (t := 5) Look.eq (Sub.cons (t := 6) Look.eq (Sub.cons (t := 7) Look.eq (Sub.cons (t := 13) Look.eq (Sub.cons (t := 65) Look.eq (Sub.cons (t := 100) Look.eq (Sub.cons (t := 101) Look.eq (Sub.cons (t := 102) Look.eq (Sub.nil _))))))))) ?_
          refine NA.seq ?_
          refine NA.block ?_
          refine NA.seq ?_
          refine NA.region rfl ?_
          refine KOps.indexIJ (hS.rd 0 rfl) (j := i) rfl (by first | omega | (simp; done) | (simp; omega)) ?_
          intro p104 hp104
          refine KOps.loadW hp104 (hS.rd 0 rfl) (by first | omega | (simp; done) | (simp; omega)) ?_
          refine KOps.assign ?_
          refine KOps.done ?_
          refine sqN.normal ?_
          refine NA.sub (Sub.cons (t := 5) Look.eq (Sub.cons (t := 6) Look.eq (Sub.cons (t := 7) Look.eq (Sub.cons (t := 13) Look.eq (Sub.cons (t := 19) Look.eq (Sub.cons (t := 65) Look.eq (Sub.cons (t := 100) Look.eq (Sub.cons (t := 101) Look.eq (Sub.cons (t := 102) Look.eq (Sub.nil _)))))))))) ?_
          refine NA.seq ?_
          refine NA.region rfl ?_
          have hyl : i < (cutW N z).length := by omega
          obtain ⟨y, hy⟩ : ∃ y, (cutW N z).getD i [] = y := ⟨_, rfl⟩
          rw [hy]
          have hym : y ∈ cutW N z := by rw [← hy, List.getD_eq_getElem?_getD, List.getElem?_eq_getElem hyl]; exact List.getElem_mem hyl
          obtain ⟨hyN, hyr⟩ := mem_cutW.1 hym
          rw [← hwl] at hym
          refine KOps.move ?_
          refine KOps.lenW ?_
          refine KOps.move ?_
          refine KOps.neqF (by rw [hyN]) ?_
          refine KOps.move ?_
          refine KOps.guardYes (dj := 110) rfl rfl ?_
          refine KOps.move ?_
          refine KOps.guardYes (dj := 110) rfl rfl ?_
          refine KOps.move ?_
          refine KOps.guardYes (dj := 110) rfl rfl ?_
          refine KOps.wNeq ?_
          refine KOps.guardYes (dj := 110) rfl rfl ?_
          refine KOps.move ?_
          refine KOps.guardB (dj := 114) rfl rfl true false rfl ?_ ?_
          · intro g114
            have g114 := not_of_not_decide g114
            refine KOps.move ?_
            refine KOps.guardYes (dj := 114) rfl rfl ?_
            refine KOps.call rfl (kindF_c (by omega)) ?_
            rintro _ _ ⟨rfl, rfl⟩
            refine KOps.guardYes (dj := 114) rfl rfl ?_
            refine KOps.move ?_
            refine KOps.guardYes (dj := 114) rfl rfl ?_
            refine KOps.eqlF (fun q => g114 (cut_uniq hsp hym (Int.natCast_inj.1 q))) ?_
            refine KOps.guardYes (dj := 110) rfl rfl ?_
            refine KOps.pickT ?_
            refine KOps.pickF ?_
            refine KOps.move ?_
            refine KOps.guardYes (dj := 121) rfl rfl ?_
            refine KOps.move ?_
            refine KOps.guardYes (dj := 121) rfl rfl ?_
            refine KOps.move ?_
            refine KOps.guardYes (dj := 121) rfl rfl ?_
            refine KOps.wNeq ?_
            refine KOps.guardYes (dj := 121) rfl rfl ?_
            refine KOps.move ?_
            refine KOps.guardB (dj := 125) rfl rfl true false rfl ?_ ?_
            · intro g125
              have g125 := not_of_not_decide g125
              refine KOps.move ?_
              refine KOps.guardYes (dj := 125) rfl rfl ?_
              refine KOps.call rfl (shorts_c (by omega)) ?_
              rintro v127 h127 ⟨P127, hv127, hnd127, hm127, hS127⟩
              obtain ⟨bm127, rfl⟩ := hv127
              have hS0 : St _ _ (_ :: _) := St.trans hS hS127
              clear hS
              have hS := hS0
              clear hS0
              refine KOps.guardYes (dj := 125) rfl rfl ?_
              refine KOps.move ?_
              refine KOps.guardYes (dj := 125) rfl rfl ?_
              refine KOps.setHas (St.rdM hS 0 rfl ⟨_, rfl⟩) rfl ?_
              refine KOps.guardYes (dj := 125) rfl rfl ?_
              refine KOps.not ?_
              refine KOps.guardYes (dj := 121) rfl rfl ?_
              refine KOps.pickT ?_
              refine KOps.guardYes (dj := 121) rfl rfl ?_
              refine KOps.move ?_
              refine KOps.guardB (dj := 132) rfl rfl true false rfl ?_ ?_
              · intro g132
                have g132 := not_of_not_decide g132
                refine KOps.move ?_
                refine KOps.guardYes (dj := 132) rfl rfl ?_
                refine KOps.call rfl (longs_c (by omega)) ?_
                rintro v134 h134 ⟨P134, hv134, hnd134, hm134, hS134⟩
                obtain ⟨bm134, rfl⟩ := hv134
                have hS0 : St _ _ (_ :: _) := St.trans hS hS134
                clear hS
                have hS := hS0
                clear hS0
                refine KOps.guardYes (dj := 132) rfl rfl ?_
                refine KOps.move ?_
                refine KOps.guardYes (dj := 132) rfl rfl ?_
                refine KOps.setHas (St.rdM hS 0 rfl ⟨_, rfl⟩) rfl ?_
                refine KOps.guardYes (dj := 132) rfl rfl ?_
                refine KOps.not ?_
                refine KOps.guardYes (dj := 121) rfl rfl ?_
                refine KOps.pickT ?_
                refine KOps.pickF ?_
                refine KOps.done ?_
                refine sqN.normal ?_
                refine NA.sub (Sub.cons (t := 5) Look.eq (Sub.cons (t := 6) Look.eq (Sub.cons (t := 7) Look.eq (Sub.cons (t := 13) Look.eq (Sub.cons (t := 65) Look.eq (Sub.cons (t := 100) Look.eq (Sub.cons (t := 101) Look.eq (Sub.cons (t := 102) Look.eq (Sub.cons (t := 111) Look.eq (Sub.cons (t := 112) Look.eq (Sub.cons (t := 113) Look.eq (Sub.cons (t := 114) Look.eq (Sub.cons (t := 115) Look.eq (Sub.cons (t := 116) Look.eq (Sub.cons (t := 117) Look.eq (Sub.cons (t := 118) Look.eq (Sub.cons (t := 119) Look.eq (Sub.cons (t := 122) Look.eq (Sub.cons (t := 123) Look.eq (Sub.cons (t := 124) Look.eq (Sub.cons (t := 125) Look.eq (Sub.cons (t := 126) Look.eq (Sub.cons (t := 127) Look.eq (Sub.cons (t := 128) Look.eq (Sub.cons (t := 129) Look.eq (Sub.cons (t := 130) Look.eq (Sub.cons (t := 131) Look.eq (Sub.cons (t := 132) Look.eq (Sub.cons (t := 133) Look.eq (Sub.cons (t := 134) Look.eq (Sub.cons (t := 135) Look.eq (Sub.cons (t := 136) Look.eq (Sub.cons (t := 137) Look.eq (Sub.cons (t := 138) Look.eq (Sub.cons (t := 139) Look.eq (Sub.nil _)))))))))))))))))))))))))))))))))))) ?_
                refine NA.condN ?_ ?_
                · intro c139
                  refine NA.seq ?_
                  refine NA.region rfl ?_
                  refine KOps.assign ?_
                  refine KOps.done ?_
                  refine sqN.normal ?_
                  refine NA.sub (Sub.cons (t := 4) Look.eq (Sub.nil _)) ?_
                  refine NA.ret ?_
                  refine blQ.ret ?_
                  refine sqN.ret ?_
                  refine lpQ.ret ?_
                  refine blQ.ret ?_
                  refine blQ.ret ?_
                  refine lpQ.ret ?_
                  refine blQ.ret ?_
                  refine sqN.ret ?_
                  refine fnQ.ret1 ?_
                  first
                   | exact rfl
                   | (exfalso; rcases hyr with q | q | q
                      · contradiction
                      · exact absurd ((hm127 z).2 q) (by assumption)
                      · exact absurd ((hm134 z).2 q) (by assumption))
                · intro c139
                  refine NA.skip ?_
                  refine blQ.normal ?_
                  refine sqN.normal ?_
                  refine NA.sub (Sub.cons (t := 5) Look.eq (Sub.cons (t := 6) Look.eq (Sub.cons (t := 7) Look.eq (Sub.cons (t := 13) Look.eq (Sub.cons (t := 65) Look.eq (Sub.cons (t := 100) Look.eq (Sub.cons (t := 101) Look.eq (Sub.cons (t := 102) Look.eq (Sub.cons (t := 111) Look.eq (Sub.cons (t := 112) Look.eq (Sub.cons (t := 113) Look.eq (Sub.cons (t := 114) Look.eq (Sub.cons (t := 115) Look.eq (Sub.cons (t := 116) Look.eq (Sub.cons (t := 117) Look.eq (Sub.cons (t := 118) Look.eq (Sub.cons (t := 119) Look.eq (Sub.cons (t := 122) Look.eq (Sub.cons (t := 123) Look.eq (Sub.cons (t := 124) Look.eq (Sub.cons (t := 125) Look.eq (Sub.cons (t := 126) Look.eq (Sub.cons (t := 127) Look.eq (Sub.cons (t := 128) Look.eq (Sub.cons (t := 129) Look.eq (Sub.cons (t := 130) Look.eq (Sub.cons (t := 131) Look.eq (Sub.cons (t := 132) Look.eq (Sub.cons (t := 133) Look.eq (Sub.cons (t := 134) Look.eq (Sub.cons (t := 135) Look.eq (Sub.cons (t := 136) Look.eq (Sub.cons (t := 137) Look.eq (Sub.cons (t := 138) Look.eq (Sub.nil _))))))))))))))))))))))))))))))))))) ?_
                  refine NA.region rfl ?_
                  refine KOps.add (by first | omega | (simp; omega)) (by first | omega | (simp; omega)) ?_
                  refine KOps.move ?_
                  refine KOps.done ?_
                  first
                   | exact lpQ.normal (i + 1) (by repeat (first | exact Sub.nil _ | refine Sub.cons Look.eq ?_ | refine Sub.cons (Eq.trans Look.eq (congrArg (AV.int _) (by first | omega | (dsimp only; omega)))) ?_)) ⟨by omega, hS⟩ (by omega)
                   | exact lpQ.normal (i + 1) (by repeat (first | exact Sub.nil _ | refine Sub.cons Look.eq ?_ | refine Sub.cons (Eq.trans Look.eq (congrArg (AV.int _) (by first | omega | (dsimp only; omega)))) ?_)) ⟨by omega, St.drop (A := [_]) hS⟩ (by omega)
                   | exact lpQ.normal (i + 1) (by repeat (first | exact Sub.nil _ | refine Sub.cons Look.eq ?_ | refine Sub.cons (Eq.trans Look.eq (congrArg (AV.int _) (by first | omega | (dsimp only; omega)))) ?_)) ⟨by omega, St.drop (A := [_, _]) hS⟩ (by omega)
              · intro g132
                have g132 := of_not_decide g132
                refine KOps.guardNo (dj := 132) rfl rfl rfl ?_
                refine KOps.guardNo (dj := 132) rfl rfl rfl ?_
                refine KOps.guardNo (dj := 132) rfl rfl rfl ?_
                refine KOps.guardNo (dj := 132) rfl rfl rfl ?_
                refine KOps.guardYes (dj := 121) rfl rfl ?_
                refine KOps.pickF ?_
                refine KOps.pickF ?_
                refine KOps.done ?_
                refine sqN.normal ?_
                refine NA.sub (Sub.cons (t := 5) Look.eq (Sub.cons (t := 6) Look.eq (Sub.cons (t := 7) Look.eq (Sub.cons (t := 13) Look.eq (Sub.cons (t := 65) Look.eq (Sub.cons (t := 100) Look.eq (Sub.cons (t := 101) Look.eq (Sub.cons (t := 102) Look.eq (Sub.cons (t := 111) Look.eq (Sub.cons (t := 112) Look.eq (Sub.cons (t := 113) Look.eq (Sub.cons (t := 114) Look.eq (Sub.cons (t := 115) Look.eq (Sub.cons (t := 116) Look.eq (Sub.cons (t := 117) Look.eq (Sub.cons (t := 118) Look.eq (Sub.cons (t := 119) Look.eq (Sub.cons (t := 122) Look.eq (Sub.cons (t := 123) Look.eq (Sub.cons (t := 124) Look.eq (Sub.cons (t := 125) Look.eq (Sub.cons (t := 126) Look.eq (Sub.cons (t := 127) Look.eq (Sub.cons (t := 128) Look.eq (Sub.cons (t := 129) Look.eq (Sub.cons (t := 130) Look.eq (Sub.cons (t := 131) Look.eq (Sub.cons (t := 132) Look.eq (Sub.cons (t := 133) Look.eq (Sub.cons (t := 134) Look.eq (Sub.cons (t := 135) Look.eq (Sub.cons (t := 136) Look.eq (Sub.cons (t := 137) Look.eq (Sub.cons (t := 138) Look.eq (Sub.cons (t := 139) Look.eq (Sub.nil _)))))))))))))))))))))))))))))))))))) ?_
                refine NA.condF ?_
                refine NA.skip ?_
                refine blQ.normal ?_
                refine sqN.normal ?_
                refine NA.sub (Sub.cons (t := 5) Look.eq (Sub.cons (t := 6) Look.eq (Sub.cons (t := 7) Look.eq (Sub.cons (t := 13) Look.eq (Sub.cons (t := 65) Look.eq (Sub.cons (t := 100) Look.eq (Sub.cons (t := 101) Look.eq (Sub.cons (t := 102) Look.eq (Sub.cons (t := 111) Look.eq (Sub.cons (t := 112) Look.eq (Sub.cons (t := 113) Look.eq (Sub.cons (t := 114) Look.eq (Sub.cons (t := 115) Look.eq (Sub.cons (t := 116) Look.eq (Sub.cons (t := 117) Look.eq (Sub.cons (t := 118) Look.eq (Sub.cons (t := 119) Look.eq (Sub.cons (t := 122) Look.eq (Sub.cons (t := 123) Look.eq (Sub.cons (t := 124) Look.eq (Sub.cons (t := 125) Look.eq (Sub.cons (t := 126) Look.eq (Sub.cons (t := 127) Look.eq (Sub.cons (t := 128) Look.eq (Sub.cons (t := 129) Look.eq (Sub.cons (t := 130) Look.eq (Sub.cons (t := 131) Look.eq (Sub.cons (t := 132) Look.eq (Sub.cons (t := 133) Look.eq (Sub.cons (t := 134) Look.eq (Sub.cons (t := 135) Look.eq (Sub.cons (t := 136) Look.eq (Sub.cons (t := 137) Look.eq (Sub.cons (t := 138) Look.eq (Sub.nil _))))))))))))))))))))))))))))))))))) ?_
                refine NA.region rfl ?_
                refine KOps.add (by first | omega | (simp; omega)) (by first | omega | (simp; omega)) ?_
                refine KOps.move ?_
                refine KOps.done ?_
                first
                 | exact lpQ.normal (i + 1) (by repeat (first | exact Sub.nil _ | refine Sub.cons Look.eq ?_ | refine Sub.cons (Eq.trans Look.eq (congrArg (AV.int _) (by first | omega | (dsimp only; omega)))) ?_)) ⟨by omega, hS⟩ (by omega)
                 | exact lpQ.normal (i + 1) (by repeat (first | exact Sub.nil _ | refine Sub.cons Look.eq ?_ | refine Sub.cons (Eq.trans Look.eq (congrArg (AV.int _) (by first | omega | (dsimp only; omega)))) ?_)) ⟨by omega, St.drop (A := [_]) hS⟩ (by omega)
                 | exact lpQ.normal (i + 1) (by repeat (first | exact Sub.nil _ | refine Sub.cons Look.eq ?_ | refine Sub.cons (Eq.trans Look.eq (congrArg (AV.int _) (by first | omega | (dsimp only; omega)))) ?_)) ⟨by omega, St.drop (A := [_, _]) hS⟩ (by omega)
            · intro g125
              have g125 := of_not_decide g125
              refine KOps.guardNo (dj := 125) rfl rfl rfl ?_
              refine KOps.guardNo (dj := 125) rfl rfl rfl ?_
              refine KOps.guardNo (dj := 125) rfl rfl rfl ?_
              refine KOps.guardNo (dj := 125) rfl rfl rfl ?_
              refine KOps.guardYes (dj := 121) rfl rfl ?_
              refine KOps.pickF ?_
              refine KOps.guardYes (dj := 121) rfl rfl ?_
              refine KOps.move ?_
              refine KOps.guardNo (dj := 132) rfl rfl rfl ?_
              refine KOps.guardNo (dj := 132) rfl rfl rfl ?_
              refine KOps.guardNo (dj := 132) rfl rfl rfl ?_
              refine KOps.guardNo (dj := 132) rfl rfl rfl ?_
              refine KOps.guardNo (dj := 132) rfl rfl rfl ?_
              refine KOps.guardYes (dj := 121) rfl rfl ?_
              refine KOps.pickF ?_
              refine KOps.pickF ?_
              refine KOps.done ?_
              refine sqN.normal ?_
              refine NA.sub (Sub.cons (t := 5) Look.eq (Sub.cons (t := 6) Look.eq (Sub.cons (t := 7) Look.eq (Sub.cons (t := 13) Look.eq (Sub.cons (t := 65) Look.eq (Sub.cons (t := 100) Look.eq (Sub.cons (t := 101) Look.eq (Sub.cons (t := 102) Look.eq (Sub.cons (t := 111) Look.eq (Sub.cons (t := 112) Look.eq (Sub.cons (t := 113) Look.eq (Sub.cons (t := 114) Look.eq (Sub.cons (t := 115) Look.eq (Sub.cons (t := 116) Look.eq (Sub.cons (t := 117) Look.eq (Sub.cons (t := 118) Look.eq (Sub.cons (t := 119) Look.eq (Sub.cons (t := 122) Look.eq (Sub.cons (t := 123) Look.eq (Sub.cons (t := 124) Look.eq (Sub.cons (t := 125) Look.eq (Sub.cons (t := 126) Look.eq (Sub.cons (t := 127) Look.eq (Sub.cons (t := 128) Look.eq (Sub.cons (t := 129) Look.eq (Sub.cons (t := 130) Look.eq (Sub.cons (t := 131) Look.eq (Sub.cons (t := 132) Look.eq (Sub.cons (t := 133) Look.eq (Sub.cons (t := 134) Look.eq (Sub.cons (t := 135) Look.eq (Sub.cons (t := 136) Look.eq (Sub.cons (t := 137) Look.eq (Sub.cons (t := 138) Look.eq (Sub.cons (t := 139) Look.eq (Sub.nil _)))))))))))))))))))))))))))))))))))) ?_
              refine NA.condF ?_
              refine NA.skip ?_
              refine blQ.normal ?_
              refine sqN.normal ?_
              refine NA.sub (Sub.cons (t := 5) Look.eq (Sub.cons (t := 6) Look.eq (Sub.cons (t := 7) Look.eq (Sub.cons (t := 13) Look.eq (Sub.cons (t := 65) Look.eq (Sub.cons (t := 100) Look.eq (Sub.cons (t := 101) Look.eq (Sub.cons (t := 102) Look.eq (Sub.cons (t := 111) Look.eq (Sub.cons (t := 112) Look.eq (Sub.cons (t := 113) Look.eq (Sub.cons (t := 114) Look.eq (Sub.cons (t := 115) Look.eq (Sub.cons (t := 116) Look.eq (Sub.cons (t := 117) Look.eq (Sub.cons (t := 118) Look.eq (Sub.cons (t := 119) Look.eq (Sub.cons (t := 122) Look.eq (Sub.cons (t := 123) Look.eq (Sub.cons (t := 124) Look.eq (Sub.cons (t := 125) Look.eq (Sub.cons (t := 126) Look.eq (Sub.cons (t := 127) Look.eq (Sub.cons (t := 128) Look.eq (Sub.cons (t := 129) Look.eq (Sub.cons (t := 130) Look.eq (Sub.cons (t := 131) Look.eq (Sub.cons (t := 132) Look.eq (Sub.cons (t := 133) Look.eq (Sub.cons (t := 134) Look.eq (Sub.cons (t := 135) Look.eq (Sub.cons (t := 136) Look.eq (Sub.cons (t := 137) Look.eq (Sub.cons (t := 138) Look.eq (Sub.nil _))))))))))))))))))))))))))))))))))) ?_
              refine NA.region rfl ?_
              refine KOps.add (by first | omega | (simp; omega)) (by first | omega | (simp; omega)) ?_
              refine KOps.move ?_
              refine KOps.done ?_
              first
               | exact lpQ.normal (i + 1) (by repeat (first | exact Sub.nil _ | refine Sub.cons Look.eq ?_ | refine Sub.cons (Eq.trans Look.eq (congrArg (AV.int _) (by first | omega | (dsimp only; omega)))) ?_)) ⟨by omega, hS⟩ (by omega)
               | exact lpQ.normal (i + 1) (by repeat (first | exact Sub.nil _ | refine Sub.cons Look.eq ?_ | refine Sub.cons (Eq.trans Look.eq (congrArg (AV.int _) (by first | omega | (dsimp only; omega)))) ?_)) ⟨by omega, St.drop (A := [_]) hS⟩ (by omega)
               | exact lpQ.normal (i + 1) (by repeat (first | exact Sub.nil _ | refine Sub.cons Look.eq ?_ | refine Sub.cons (Eq.trans Look.eq (congrArg (AV.int _) (by first | omega | (dsimp only; omega)))) ?_)) ⟨by omega, St.drop (A := [_, _]) hS⟩ (by omega)
          · intro g114
            have g114 := of_not_decide g114
            refine KOps.guardNo (dj := 114) rfl rfl rfl ?_
            refine KOps.guardNo (dj := 114) rfl rfl rfl ?_
            refine KOps.guardNo (dj := 114) rfl rfl rfl ?_
            refine KOps.guardYes (dj := 110) rfl rfl ?_
            refine KOps.pickF ?_
            refine KOps.pickF ?_
            refine KOps.move ?_
            refine KOps.guardYes (dj := 121) rfl rfl ?_
            refine KOps.move ?_
            refine KOps.guardYes (dj := 121) rfl rfl ?_
            refine KOps.move ?_
            refine KOps.guardYes (dj := 121) rfl rfl ?_
            refine KOps.wNeq ?_
            refine KOps.guardYes (dj := 121) rfl rfl ?_
            refine KOps.move ?_
            refine KOps.guardB (dj := 125) rfl rfl true false rfl ?_ ?_
            · intro g125
              have g125 := not_of_not_decide g125
              refine KOps.move ?_
              refine KOps.guardYes (dj := 125) rfl rfl ?_
              refine KOps.call rfl (shorts_c (by omega)) ?_
              rintro v127 h127 ⟨P127, hv127, hnd127, hm127, hS127⟩
              obtain ⟨bm127, rfl⟩ := hv127
              have hS0 : St _ _ (_ :: _) := St.trans hS hS127
              clear hS
              have hS := hS0
              clear hS0
              refine KOps.guardYes (dj := 125) rfl rfl ?_
              refine KOps.move ?_
              refine KOps.guardYes (dj := 125) rfl rfl ?_
              refine KOps.setHas (St.rdM hS 0 rfl ⟨_, rfl⟩) rfl ?_
              refine KOps.guardYes (dj := 125) rfl rfl ?_
              refine KOps.not ?_
              refine KOps.guardYes (dj := 121) rfl rfl ?_
              refine KOps.pickT ?_
              refine KOps.guardYes (dj := 121) rfl rfl ?_
              refine KOps.move ?_
              refine KOps.guardB (dj := 132) rfl rfl true false rfl ?_ ?_
              · intro g132
                have g132 := not_of_not_decide g132
                refine KOps.move ?_
                refine KOps.guardYes (dj := 132) rfl rfl ?_
                refine KOps.call rfl (longs_c (by omega)) ?_
                rintro v134 h134 ⟨P134, hv134, hnd134, hm134, hS134⟩
                obtain ⟨bm134, rfl⟩ := hv134
                have hS0 : St _ _ (_ :: _) := St.trans hS hS134
                clear hS
                have hS := hS0
                clear hS0
                refine KOps.guardYes (dj := 132) rfl rfl ?_
                refine KOps.move ?_
                refine KOps.guardYes (dj := 132) rfl rfl ?_
                refine KOps.setHas (St.rdM hS 0 rfl ⟨_, rfl⟩) rfl ?_
                refine KOps.guardYes (dj := 132) rfl rfl ?_
                refine KOps.not ?_
                refine KOps.guardYes (dj := 121) rfl rfl ?_
                refine KOps.pickT ?_
                refine KOps.pickF ?_
                refine KOps.done ?_
                refine sqN.normal ?_
                refine NA.sub (Sub.cons (t := 5) Look.eq (Sub.cons (t := 6) Look.eq (Sub.cons (t := 7) Look.eq (Sub.cons (t := 13) Look.eq (Sub.cons (t := 65) Look.eq (Sub.cons (t := 100) Look.eq (Sub.cons (t := 101) Look.eq (Sub.cons (t := 102) Look.eq (Sub.cons (t := 111) Look.eq (Sub.cons (t := 112) Look.eq (Sub.cons (t := 113) Look.eq (Sub.cons (t := 114) Look.eq (Sub.cons (t := 115) Look.eq (Sub.cons (t := 116) Look.eq (Sub.cons (t := 117) Look.eq (Sub.cons (t := 118) Look.eq (Sub.cons (t := 119) Look.eq (Sub.cons (t := 122) Look.eq (Sub.cons (t := 123) Look.eq (Sub.cons (t := 124) Look.eq (Sub.cons (t := 125) Look.eq (Sub.cons (t := 126) Look.eq (Sub.cons (t := 127) Look.eq (Sub.cons (t := 128) Look.eq (Sub.cons (t := 129) Look.eq (Sub.cons (t := 130) Look.eq (Sub.cons (t := 131) Look.eq (Sub.cons (t := 132) Look.eq (Sub.cons (t := 133) Look.eq (Sub.cons (t := 134) Look.eq (Sub.cons (t := 135) Look.eq (Sub.cons (t := 136) Look.eq (Sub.cons (t := 137) Look.eq (Sub.cons (t := 138) Look.eq (Sub.cons (t := 139) Look.eq (Sub.nil _)))))))))))))))))))))))))))))))))))) ?_
                refine NA.condN ?_ ?_
                · intro c139
                  refine NA.seq ?_
                  refine NA.region rfl ?_
                  refine KOps.assign ?_
                  refine KOps.done ?_
                  refine sqN.normal ?_
                  refine NA.sub (Sub.cons (t := 4) Look.eq (Sub.nil _)) ?_
                  refine NA.ret ?_
                  refine blQ.ret ?_
                  refine sqN.ret ?_
                  refine lpQ.ret ?_
                  refine blQ.ret ?_
                  refine blQ.ret ?_
                  refine lpQ.ret ?_
                  refine blQ.ret ?_
                  refine sqN.ret ?_
                  refine fnQ.ret1 ?_
                  first
                   | exact rfl
                   | (exfalso; rcases hyr with q | q | q
                      · contradiction
                      · exact absurd ((hm127 z).2 q) (by assumption)
                      · exact absurd ((hm134 z).2 q) (by assumption))
                · intro c139
                  refine NA.skip ?_
                  refine blQ.normal ?_
                  refine sqN.normal ?_
                  refine NA.sub (Sub.cons (t := 5) Look.eq (Sub.cons (t := 6) Look.eq (Sub.cons (t := 7) Look.eq (Sub.cons (t := 13) Look.eq (Sub.cons (t := 65) Look.eq (Sub.cons (t := 100) Look.eq (Sub.cons (t := 101) Look.eq (Sub.cons (t := 102) Look.eq (Sub.cons (t := 111) Look.eq (Sub.cons (t := 112) Look.eq (Sub.cons (t := 113) Look.eq (Sub.cons (t := 114) Look.eq (Sub.cons (t := 115) Look.eq (Sub.cons (t := 116) Look.eq (Sub.cons (t := 117) Look.eq (Sub.cons (t := 118) Look.eq (Sub.cons (t := 119) Look.eq (Sub.cons (t := 122) Look.eq (Sub.cons (t := 123) Look.eq (Sub.cons (t := 124) Look.eq (Sub.cons (t := 125) Look.eq (Sub.cons (t := 126) Look.eq (Sub.cons (t := 127) Look.eq (Sub.cons (t := 128) Look.eq (Sub.cons (t := 129) Look.eq (Sub.cons (t := 130) Look.eq (Sub.cons (t := 131) Look.eq (Sub.cons (t := 132) Look.eq (Sub.cons (t := 133) Look.eq (Sub.cons (t := 134) Look.eq (Sub.cons (t := 135) Look.eq (Sub.cons (t := 136) Look.eq (Sub.cons (t := 137) Look.eq (Sub.cons (t := 138) Look.eq (Sub.nil _))))))))))))))))))))))))))))))))))) ?_
                  refine NA.region rfl ?_
                  refine KOps.add (by first | omega | (simp; omega)) (by first | omega | (simp; omega)) ?_
                  refine KOps.move ?_
                  refine KOps.done ?_
                  first
                   | exact lpQ.normal (i + 1) (by repeat (first | exact Sub.nil _ | refine Sub.cons Look.eq ?_ | refine Sub.cons (Eq.trans Look.eq (congrArg (AV.int _) (by first | omega | (dsimp only; omega)))) ?_)) ⟨by omega, hS⟩ (by omega)
                   | exact lpQ.normal (i + 1) (by repeat (first | exact Sub.nil _ | refine Sub.cons Look.eq ?_ | refine Sub.cons (Eq.trans Look.eq (congrArg (AV.int _) (by first | omega | (dsimp only; omega)))) ?_)) ⟨by omega, St.drop (A := [_]) hS⟩ (by omega)
                   | exact lpQ.normal (i + 1) (by repeat (first | exact Sub.nil _ | refine Sub.cons Look.eq ?_ | refine Sub.cons (Eq.trans Look.eq (congrArg (AV.int _) (by first | omega | (dsimp only; omega)))) ?_)) ⟨by omega, St.drop (A := [_, _]) hS⟩ (by omega)
              · intro g132
                have g132 := of_not_decide g132
                refine KOps.guardNo (dj := 132) rfl rfl rfl ?_
                refine KOps.guardNo (dj := 132) rfl rfl rfl ?_
                refine KOps.guardNo (dj := 132) rfl rfl rfl ?_
                refine KOps.guardNo (dj := 132) rfl rfl rfl ?_
                refine KOps.guardYes (dj := 121) rfl rfl ?_
                refine KOps.pickF ?_
                refine KOps.pickF ?_
                refine KOps.done ?_
                refine sqN.normal ?_
                refine NA.sub (Sub.cons (t := 5) Look.eq (Sub.cons (t := 6) Look.eq (Sub.cons (t := 7) Look.eq (Sub.cons (t := 13) Look.eq (Sub.cons (t := 65) Look.eq (Sub.cons (t := 100) Look.eq (Sub.cons (t := 101) Look.eq (Sub.cons (t := 102) Look.eq (Sub.cons (t := 111) Look.eq (Sub.cons (t := 112) Look.eq (Sub.cons (t := 113) Look.eq (Sub.cons (t := 114) Look.eq (Sub.cons (t := 115) Look.eq (Sub.cons (t := 116) Look.eq (Sub.cons (t := 117) Look.eq (Sub.cons (t := 118) Look.eq (Sub.cons (t := 119) Look.eq (Sub.cons (t := 122) Look.eq (Sub.cons (t := 123) Look.eq (Sub.cons (t := 124) Look.eq (Sub.cons (t := 125) Look.eq (Sub.cons (t := 126) Look.eq (Sub.cons (t := 127) Look.eq (Sub.cons (t := 128) Look.eq (Sub.cons (t := 129) Look.eq (Sub.cons (t := 130) Look.eq (Sub.cons (t := 131) Look.eq (Sub.cons (t := 132) Look.eq (Sub.cons (t := 133) Look.eq (Sub.cons (t := 134) Look.eq (Sub.cons (t := 135) Look.eq (Sub.cons (t := 136) Look.eq (Sub.cons (t := 137) Look.eq (Sub.cons (t := 138) Look.eq (Sub.cons (t := 139) Look.eq (Sub.nil _)))))))))))))))))))))))))))))))))))) ?_
                refine NA.condF ?_
                refine NA.skip ?_
                refine blQ.normal ?_
                refine sqN.normal ?_
                refine NA.sub (Sub.cons (t := 5) Look.eq (Sub.cons (t := 6) Look.eq (Sub.cons (t := 7) Look.eq (Sub.cons (t := 13) Look.eq (Sub.cons (t := 65) Look.eq (Sub.cons (t := 100) Look.eq (Sub.cons (t := 101) Look.eq (Sub.cons (t := 102) Look.eq (Sub.cons (t := 111) Look.eq (Sub.cons (t := 112) Look.eq (Sub.cons (t := 113) Look.eq (Sub.cons (t := 114) Look.eq (Sub.cons (t := 115) Look.eq (Sub.cons (t := 116) Look.eq (Sub.cons (t := 117) Look.eq (Sub.cons (t := 118) Look.eq (Sub.cons (t := 119) Look.eq (Sub.cons (t := 122) Look.eq (Sub.cons (t := 123) Look.eq (Sub.cons (t := 124) Look.eq (Sub.cons (t := 125) Look.eq (Sub.cons (t := 126) Look.eq (Sub.cons (t := 127) Look.eq (Sub.cons (t := 128) Look.eq (Sub.cons (t := 129) Look.eq (Sub.cons (t := 130) Look.eq (Sub.cons (t := 131) Look.eq (Sub.cons (t := 132) Look.eq (Sub.cons (t := 133) Look.eq (Sub.cons (t := 134) Look.eq (Sub.cons (t := 135) Look.eq (Sub.cons (t := 136) Look.eq (Sub.cons (t := 137) Look.eq (Sub.cons (t := 138) Look.eq (Sub.nil _))))))))))))))))))))))))))))))))))) ?_
                refine NA.region rfl ?_
                refine KOps.add (by first | omega | (simp; omega)) (by first | omega | (simp; omega)) ?_
                refine KOps.move ?_
                refine KOps.done ?_
                first
                 | exact lpQ.normal (i + 1) (by repeat (first | exact Sub.nil _ | refine Sub.cons Look.eq ?_ | refine Sub.cons (Eq.trans Look.eq (congrArg (AV.int _) (by first | omega | (dsimp only; omega)))) ?_)) ⟨by omega, hS⟩ (by omega)
                 | exact lpQ.normal (i + 1) (by repeat (first | exact Sub.nil _ | refine Sub.cons Look.eq ?_ | refine Sub.cons (Eq.trans Look.eq (congrArg (AV.int _) (by first | omega | (dsimp only; omega)))) ?_)) ⟨by omega, St.drop (A := [_]) hS⟩ (by omega)
                 | exact lpQ.normal (i + 1) (by repeat (first | exact Sub.nil _ | refine Sub.cons Look.eq ?_ | refine Sub.cons (Eq.trans Look.eq (congrArg (AV.int _) (by first | omega | (dsimp only; omega)))) ?_)) ⟨by omega, St.drop (A := [_, _]) hS⟩ (by omega)
            · intro g125
              have g125 := of_not_decide g125
              refine KOps.guardNo (dj := 125) rfl rfl rfl ?_
              refine KOps.guardNo (dj := 125) rfl rfl rfl ?_
              refine KOps.guardNo (dj := 125) rfl rfl rfl ?_
              refine KOps.guardNo (dj := 125) rfl rfl rfl ?_
              refine KOps.guardYes (dj := 121) rfl rfl ?_
              refine KOps.pickF ?_
              refine KOps.guardYes (dj := 121) rfl rfl ?_
              refine KOps.move ?_
              refine KOps.guardNo (dj := 132) rfl rfl rfl ?_
              refine KOps.guardNo (dj := 132) rfl rfl rfl ?_
              refine KOps.guardNo (dj := 132) rfl rfl rfl ?_
              refine KOps.guardNo (dj := 132) rfl rfl rfl ?_
              refine KOps.guardNo (dj := 132) rfl rfl rfl ?_
              refine KOps.guardYes (dj := 121) rfl rfl ?_
              refine KOps.pickF ?_
              refine KOps.pickF ?_
              refine KOps.done ?_
              refine sqN.normal ?_
              refine NA.sub (Sub.cons (t := 5) Look.eq (Sub.cons (t := 6) Look.eq (Sub.cons (t := 7) Look.eq (Sub.cons (t := 13) Look.eq (Sub.cons (t := 65) Look.eq (Sub.cons (t := 100) Look.eq (Sub.cons (t := 101) Look.eq (Sub.cons (t := 102) Look.eq (Sub.cons (t := 111) Look.eq (Sub.cons (t := 112) Look.eq (Sub.cons (t := 113) Look.eq (Sub.cons (t := 114) Look.eq (Sub.cons (t := 115) Look.eq (Sub.cons (t := 116) Look.eq (Sub.cons (t := 117) Look.eq (Sub.cons (t := 118) Look.eq (Sub.cons (t := 119) Look.eq (Sub.cons (t := 122) Look.eq (Sub.cons (t := 123) Look.eq (Sub.cons (t := 124) Look.eq (Sub.cons (t := 125) Look.eq (Sub.cons (t := 126) Look.eq (Sub.cons (t := 127) Look.eq (Sub.cons (t := 128) Look.eq (Sub.cons (t := 129) Look.eq (Sub.cons (t := 130) Look.eq (Sub.cons (t := 131) Look.eq (Sub.cons (t := 132) Look.eq (Sub.cons (t := 133) Look.eq (Sub.cons (t := 134) Look.eq (Sub.cons (t := 135) Look.eq (Sub.cons (t := 136) Look.eq (Sub.cons (t := 137) Look.eq (Sub.cons (t := 138) Look.eq (Sub.cons (t := 139) Look.eq (Sub.nil _)))))))))))))))))))))))))))))))))))) ?_
              refine NA.condF ?_
              refine NA.skip ?_
              refine blQ.normal ?_
              refine sqN.normal ?_
              refine NA.sub (Sub.cons (t := 5) Look.eq (Sub.cons (t := 6) Look.eq (Sub.cons (t := 7) Look.eq (Sub.cons (t := 13) Look.eq (Sub.cons (t := 65) Look.eq (Sub.cons (t := 100) Look.eq (Sub.cons (t := 101) Look.eq (Sub.cons (t := 102) Look.eq (Sub.cons (t := 111) Look.eq (Sub.cons (t := 112) Look.eq (Sub.cons (t := 113) Look.eq (Sub.cons (t := 114) Look.eq (Sub.cons (t := 115) Look.eq (Sub.cons (t := 116) Look.eq (Sub.cons (t := 117) Look.eq (Sub.cons (t := 118) Look.eq (Sub.cons (t := 119) Look.eq (Sub.cons (t := 122) Look.eq (Sub.cons (t := 123) Look.eq (Sub.cons (t := 124) Look.eq (Sub.cons (t := 125) Look.eq (Sub.cons (t := 126) Look.eq (Sub.cons (t := 127) Look.eq (Sub.cons (t := 128) Look.eq (Sub.cons (t := 129) Look.eq (Sub.cons (t := 130) Look.eq (Sub.cons (t := 131) Look.eq (Sub.cons (t := 132) Look.eq (Sub.cons (t := 133) Look.eq (Sub.cons (t := 134) Look.eq (Sub.cons (t := 135) Look.eq (Sub.cons (t := 136) Look.eq (Sub.cons (t := 137) Look.eq (Sub.cons (t := 138) Look.eq (Sub.nil _))))))))))))))))))))))))))))))))))) ?_
              refine NA.region rfl ?_
              refine KOps.add (by first | omega | (simp; omega)) (by first | omega | (simp; omega)) ?_
              refine KOps.move ?_
              refine KOps.done ?_
              first
               | exact lpQ.normal (i + 1) (by repeat (first | exact Sub.nil _ | refine Sub.cons Look.eq ?_ | refine Sub.cons (Eq.trans Look.eq (congrArg (AV.int _) (by first | omega | (dsimp only; omega)))) ?_)) ⟨by omega, hS⟩ (by omega)
               | exact lpQ.normal (i + 1) (by repeat (first | exact Sub.nil _ | refine Sub.cons Look.eq ?_ | refine Sub.cons (Eq.trans Look.eq (congrArg (AV.int _) (by first | omega | (dsimp only; omega)))) ?_)) ⟨by omega, St.drop (A := [_]) hS⟩ (by omega)
               | exact lpQ.normal (i + 1) (by repeat (first | exact Sub.nil _ | refine Sub.cons Look.eq ?_ | refine Sub.cons (Eq.trans Look.eq (congrArg (AV.int _) (by first | omega | (dsimp only; omega)))) ?_)) ⟨by omega, St.drop (A := [_, _]) hS⟩ (by omega)
        · intro c103
          refine NA.exit ?_
          refine sqN.exit ?_
          refine lpQ.exit ?_
          refine blQ.here ?_
          refine blQ.normal ?_
          have hDs := hD.snoc hnj (List.getElem?_eq_some_iff.1 hnk).1
          have hDl2 := hDs.len
          rw [List.length_append] at hDl2
          exact lpQ.normal (D ++ [nj]) (by repeat (first | exact Sub.nil _ | refine Sub.cons Look.eq ?_ | refine Sub.cons (Eq.trans Look.eq (congrArg (AV.int _) (by first | omega | (dsimp only; omega)))) ?_)) ⟨hDs, St.pick [1, 2] (by decide) rfl hS⟩ (by rw [List.length_append]; simp only [List.length_cons, List.length_nil] at hDl2 ⊢; omega)
      · intro hall
        refine KOps.extract ?_
        refine KOps.done ?_
        refine sqN.normal ?_
        refine NA.sub (Sub.cons (t := 5) Look.eq (Sub.cons (t := 6) Look.eq (Sub.cons (t := 7) Look.eq (Sub.cons (t := 65) Look.eq (Sub.cons (t := 67) Look.eq (Sub.nil _)))))) ?_
        refine NA.seq ?_
        refine NA.condF ?_
        refine NA.exit ?_
        refine sqN.exit ?_
        refine lpQ.exit ?_
        refine blQ.here ?_
        refine sqN.normal ?_
        refine NA.sub (Sub.nil _) ?_
        refine NA.seq ?_
        refine NA.region rfl ?_
        refine KOps.call rfl (works_c (hTab.ext hS.keeps)) ?_
        rintro _ hx ⟨rfl, hK⟩
        have hS0 : St _ _ _ := St.trans hS (St.ofK hK)
        clear hS
        have hS := hS0
        clear hS0
        simp only [List.nil_append] at hS
        refine KOps.assign ?_
        refine KOps.done ?_
        refine sqN.normal ?_
        refine NA.sub (Sub.cons (t := 4) Look.eq (Sub.nil _)) ?_
        refine NA.ret ?_
        refine fnQ.ret1 ?_
        first
         | exact rfl
         | (exfalso; rcases hyr with q | q | q
            · contradiction
            · exact absurd ((hm127 z).2 q) (by assumption)
            · exact absurd ((hm134 z).2 q) (by assumption))

theorem law_restores_i {h : AHeap} {x n : Int} (hTab : Tab h) (h0 : 0 ≤ x) (h1 : x ≤ 65535) (h4 : 0 ≤ n) (h5 : n ≤ 255) : NCalls Go.Proofs.Tryd.prog 6 [.int .u16 x, .int .u8 n] h (fun r _ => r = .bool true) := by
  obtain ⟨a, rfl⟩ : ∃ a : Nat, x = (a : Int) := ⟨x.toNat, by omega⟩
  obtain ⟨c, rfl⟩ : ∃ c : Nat, n = (c : Int) := ⟨n.toNat, by omega⟩
  exact law_restores hTab (by omega) (by omega)
end Go.Am
