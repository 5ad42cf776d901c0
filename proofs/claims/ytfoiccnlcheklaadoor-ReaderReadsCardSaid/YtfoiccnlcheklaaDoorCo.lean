/-
  Layer 08: sets of words as maps; words by numbers.
  Conditions: none.
-/
import Derived.Test.YtfoiccnlcheklaaDoorCl
namespace Go.Am
theorem nodup_le {α : Type} [DecidableEq α] : ∀ {l m : List α}, l.Nodup → (∀ x ∈ l, x ∈ m) → l.length ≤ m.length := by
  intro l
  induction l with
  | nil => intro m _ _; exact Nat.zero_le _
  | cons a l ih =>
    intro m hn hs
    have hn' := List.nodup_cons.1 hn
    have ha := hs a (by simp)
    have h1 := ih (m := m.erase a) hn'.2 (fun x hx => (List.mem_erase_of_ne (by rintro rfl; exact hn'.1 hx)).2 (hs x (by simp [hx])))
    rw [List.length_erase_of_mem ha] at h1
    have := List.length_pos_of_mem ha
    rw [List.length_cons]
    omega
theorem nodup_len {α : Type} [DecidableEq α] {l m : List α} (hl : l.Nodup) (hm : m.Nodup) (h : ∀ x, x ∈ l ↔ x ∈ m) : l.length = m.length :=
  Nat.le_antisymm (nodup_le hl fun x hx => (h x).1 hx) (nodup_le hm fun x hx => (h x).2 hx)
theorem Asc.nodup {l : List (List Bool)} (h : Asc l) : l.Nodup := h.imp fun {a b} hab e => by rw [e, wlt_irr] at hab; cases hab
theorem longW_asc (w : List Bool) : Asc (longW w) := filter_asc (allW_asc _) _
theorem longW_len (w : List Bool) : (longW w).length = w.length + 2 := by
  rw [nodup_len (longW_asc w).nodup (more_nodup w (Nat.le_refl _)) (fun x => mem_longW.trans mem_more.symm), moreTo_len]
theorem shortW_starts (w : List Bool) : (shortW w).length = (startsTo w w.length).length := by
  rw [nodup_len (shortW_asc w).nodup (less_nodup w w.length) (fun x => mem_shortW.trans mem_less.symm), lessTo, List.length_map]
theorem starts_succ (w : List Bool) (k : Nat) : (startsTo w (k + 1)).length = (startsTo w k).length + if isStart w k = true then 1 else 0 := by
  unfold startsTo
  rw [List.range_succ, List.filter_append, List.length_append]
  cases h : isStart w k
  · rw [List.filter_cons_of_neg (by rw [h]; decide)]; rfl
  · rw [List.filter_cons_of_pos h]; rfl
theorem isDel_ins {x w : List Bool} : isDel x w = true ↔ ∃ i c, i ≤ w.length ∧ x = insW w i c := by
  rw [isDel_iff]
  constructor
  · rintro ⟨i, hi, he⟩
    have hx := erase_insW hi
    rw [he] at hx
    have hl : (x.eraseIdx i).length = x.length - 1 := List.length_eraseIdx_of_lt hi
    rw [he] at hl
    exact ⟨i, _, by omega, hx⟩
  · rintro ⟨i, c, hi, rfl⟩
    exact ⟨i, by rw [insW_len w c hi]; omega, insW_erase c hi⟩
def wordN (x n : Nat) : List Bool := (List.range n).map x.testBit
theorem wordN_len (x n : Nat) : (wordN x n).length = n := by rw [wordN, List.length_map, List.length_range]
theorem wordN_succ (x n : Nat) : wordN x (n + 1) = wordN x n ++ [x.testBit n] := by rw [wordN, wordN, List.range_succ, List.map_append]; rfl
theorem and16 {y : Nat} (hy : y < 65536) : Go.bits .and .u16 (y : Int) 1 = ((y % 2 : Nat) : Int) := by
  have h0 : ∀ z : Nat, z < 65536 → (BitVec.ofInt 16 (z : Int)).toNat = z := fun z hz => by
    rw [BitVec.ofInt_natCast, BitVec.toNat_ofNat]
    exact Nat.mod_eq_of_lt hz
  have h1 : (BitVec.ofInt 16 (y : Int) &&& BitVec.ofInt 16 ((1 : Nat) : Int)).toNat = y % 2 := by rw [BitVec.toNat_and, h0 y hy, h0 1 (by decide), Nat.and_one_is_mod]
  show IntKind.u16.wrap (((BitVec.ofInt 16 (y : Int) &&& BitVec.ofInt 16 ((1 : Nat) : Int)).toNat : Nat) : Int) = _
  rw [h1]
  exact wrapU16 (by omega) (by omega)
theorem bit_mod (x i : Nat) : (([false, true].drop (x >>> i % 2)).take 1) = [x.testBit i] := by
  have h : x.testBit i = decide (x >>> i % 2 = 1) := by
    rw [Nat.testBit, Nat.one_and_eq_mod_two]
    rcases Nat.mod_two_eq_zero_or_one (x >>> i) with e | e <;> rw [e] <;> rfl
  rw [h]
  rcases Nat.mod_two_eq_zero_or_one (x >>> i) with e | e <;> rw [e] <;> rfl
/-! Sets. -/
abbrev kw (w : List Bool) : AV := .str (wd w)
instance kyW : KeyT Go.Proofs.Tryd.prog 9 kw := ⟨fun a => (KeyT.str (P := Go.Proofs.Tryd.prog) (kt := 9) (by kernel_rfl)).ok (wd a), fun a b => by
  have h := (KeyT.str (P := Go.Proofs.Tryd.prog) (kt := 9) (by kernel_rfl)).eq (wd a) (wd b)
  show akeq _ _ (AV.str (wd a)) (AV.str (wd b)) = _
  rw [h]
  exact congrArg some (decide_eq_decide.2 ⟨wd_inj, fun e => by rw [e]⟩)⟩
abbrev setL (P : List (List Bool)) : List (List Bool × Bool) := P.map fun x => (x, true)
abbrev setE (P : List (List Bool)) : List (AV × AV) := entL kw AV.bool (setL P)
abbrev setO (v : AV) (P : List (List Bool)) : Obj := mapO v (setE P)
def addW (P : List (List Bool)) (a : List Bool) : List (List Bool) := if a ∈ P then P else P ++ [a]
theorem mem_addW {P : List (List Bool)} {a x : List Bool} : x ∈ addW P a ↔ x ∈ P ∨ x = a := by
  unfold addW
  by_cases h : a ∈ P
  · rw [if_pos h]; exact ⟨.inl, fun q => q.elim id fun e => e ▸ h⟩
  · rw [if_neg h, List.mem_append, List.mem_singleton]
theorem addW_nodup {P : List (List Bool)} {a : List Bool} (h : P.Nodup) : (addW P a).Nodup := by
  unfold addW
  by_cases ha : a ∈ P
  · rw [if_pos ha]; exact h
  · rw [if_neg ha]
    refine List.nodup_append.2 ⟨h, by simp, ?_⟩
    rintro x hx y hy rfl
    exact ha (List.mem_singleton.1 hy ▸ hx)
theorem mput_same {P : List (List Bool)} {a : List Bool} (h : a ∈ P) : mput (setL P) a true = setL P := by
  induction P with
  | nil => cases h
  | cons p P ih =>
    simp only [setL, List.map_cons, mput]
    by_cases he : a = p
    · rw [if_pos he, he]
    · rw [if_neg he]
      rcases List.mem_cons.1 h with e | e
      · exact absurd e he
      · rw [show mput (P.map fun x => (x, true)) a true = P.map fun x => (x, true) from ih e]
theorem mput_add (P : List (List Bool)) (a : List Bool) : mput (setL P) a true = setL (addW P a) := by
  unfold addW
  by_cases h : a ∈ P
  · rw [if_pos h, mput_same h]
  · rw [if_neg h]; exact mput_set h
theorem mget_W (P : List (List Bool)) (a : List Bool) : (mget (setL P) a).getD false = decide (a ∈ P) := by
  rw [mget_set]
  by_cases h : a ∈ P
  · rw [if_pos h, decide_eq_true h]; rfl
  · rw [if_neg h, decide_eq_false h]; rfl
section
variable {P : Program} {n : Nat} {ops : Array Oper} {ex : List Nat} {Q : KF → AHeap → Prop} {k : Nat} {os : List Oper} {K : KF} {h h0 : AHeap} {d : Nat} {ty : TypeId} {pos : String} {after : Array Edge} {objs : List Obj}
theorem KOps.setPut {t kt : TypeId} {z : AV} {p : List (List Bool)} {v : AV} {x ix y : Operand} {a : List Bool} {i : Nat} [hx : EvK h.globs n K x v] [hi : EvK h.globs n K ix (.str (wd a))] [hy : EvK h.globs n K y (.bool true)] [ht : MpT P t kt z] [hkt : KeyT P kt kw]
    (st : St h0 h objs) (hv : IsMp v) (hk' : objs[i]? = some (setO v p)) (hex : ex.contains k = false)
    (hk : ∀ h', St h0 h' (objs.set i (setO v (addW p a))) → KOps P n ops ex Q (k + 1) os K h') : KOps P n ops ex Q k (⟨none, .mapUpdate t x ix y, ty, pos, after, none⟩ :: os) K h := by
  refine KOps.mapPutK (kf := kw) (vf := AV.bool) (l := setL p) (a := a) (b := true) (u := .bool true) hi.eq rfl st hv hk' hex fun h' hS => hk h' ?_
  rw [mput_add] at hS
  exact hS
theorem KOps.setHas {t kt : TypeId} {p : List (List Bool)} {v : AV} {x ix : Operand} {a : List Bool} [hx : EvK h.globs n K x v] [hi : EvK h.globs n K ix (.str (wd a))] [ht : MpT P t kt (.bool false)] [hkt : KeyT P kt kw] (hr : RdM h v (setE p)) (hex : ex.contains k = false)
    (hk : KOps P n ops ex Q (k + 1) os ((d, .bool (decide (a ∈ p))) :: K) h) : KOps P n ops ex Q k (⟨some d, .lookup t x ix false, ty, pos, after, none⟩ :: os) K h := by
  refine KOps.lookupD (kf := kw) (vf := AV.bool) (l := setL p) (a := a) (w := false) hi.eq hr hex rfl ?_
  rw [mget_W]
  exact hk
theorem KOps.wGeqF {t t' : TypeId} {x y : Operand} {a b : List Bool} [hx : EvK h.globs n K x (.str (wd a))] [hy : EvK h.globs n K y (.str (wd b))] (hw : wlt a b = true) (hk : KOps P n ops ex Q (k + 1) os ((d, .bool false) :: K) h) : KOps P n ops ex Q k (⟨some d, .binOp .geq t x y t', ty, pos, after, none⟩ :: os) K h :=
  KOps.pure rfl (by simp only [apure, hx.eq, hy.eq, abin, astr, wd_less, hw]; rfl) hk
end
end Go.Am

namespace Go.Am
theorem word_c {h : AHeap} {x n : Nat} (hx : x < 65536) (hn : n ≤ 12) : ACalls Go.Proofs.Tryd.prog 37 [.int .u16 (x : Int), .int .i64 (n : Int)] h (fun q h' => q = .str (wd (wordN x n)) ∧ h = h') := by
  refine KA.fn 21 [.tmp 4] Go.Proofs.Tryd.func37 rfl (by decide) rfl rfl (Nat.le_of_ble_eq_true rfl) ?_
  show KA _ 21 _ _ [(0, .int .u16 (x : Int)), (1, .int .i64 (n : Int))] _
  refine KA.seq ?_
  refine KA.region rfl ?_
  refine KOps.assign ?_
  refine KOps.done ?_
  refine sqQ.normal ?_
  refine KA.sub (Sub.cons (t := 0) Look.eq (Sub.cons (t := 1) Look.eq (Sub.nil _))) ?_
  refine KA.seq ?_
  refine KA.region rfl ?_
  refine KOps.assign ?_
  refine KOps.done ?_
  refine sqQ.normal ?_
  refine KA.seq ?_
  refine KA.seq ?_
  refine KA.region rfl ?_
  refine KOps.move ?_
  refine KOps.move ?_
  refine KOps.done ?_
  refine sqQ.normal ?_
  refine KA.sub (Sub.cons (t := 0) Look.eq (Sub.cons (t := 5) Look.eq (Sub.cons (t := 7) Look.eq (Sub.cons (t := 8) Look.eq (Sub.nil _))))) ?_
  refine KA.block ?_
  refine KA.loop (X := Nat) (fun i => [(0, .int .u16 (x : Int)), (5, .str (wd (wordN x i))), (7, .int .i64 (n : Int)), (8, .int .i64 (i : Int))]) (fun i h' => i ≤ n ∧ h = h') (fun i => n - i) 0 (by repeat (first | exact Sub.nil _ | refine Sub.cons Look.eq ?_ | refine Sub.cons (Eq.trans Look.eq (congrArg (AV.int _) (by first | omega | (dsimp only; omega)))) ?_)) ?_ ?_
  · exact ⟨Nat.zero_le _, rfl⟩
  rintro i h2 ⟨hi, rfl⟩
  refine KA.seq ?_
  refine KA.region rfl ?_
  refine KOps.lss ?_
  refine KOps.done ?_
  refine sqQ.normal ?_
  refine KA.seq ?_
  refine KA.condD ?_ ?_
  · intro c9
    refine KA.skip ?_
    refine sqQ.normal ?_
    refine KA.sub (Sub.cons (t := 0) Look.eq (Sub.cons (t := 5) Look.eq (Sub.cons (t := 7) Look.eq (Sub.cons (t := 8) Look.eq (Sub.nil _))))) ?_
    refine KA.seq ?_
    refine KA.block ?_
    refine KA.seq ?_
    refine KA.region rfl ?_
    refine KOps.move ?_
    refine KOps.assign ?_
    refine KOps.done ?_
    refine sqQ.normal ?_
    refine KA.sub (Sub.cons (t := 0) Look.eq (Sub.cons (t := 5) Look.eq (Sub.cons (t := 6) Look.eq (Sub.cons (t := 7) Look.eq (Sub.cons (t := 8) Look.eq (Sub.nil _)))))) ?_
    refine KA.region rfl ?_
    have hwl := wordN_len x i
    have hsh : x >>> i < 65536 := by
      rw [Nat.shiftRight_eq_div_pow]
      exact Nat.lt_of_le_of_lt (Nat.div_le_self ..) hx
    refine KOps.move ?_
    refine KOps.move ?_
    refine KOps.move ?_
    refine KOps.shr (by omega) ?_
    rw [shrU x i .u16 (show i ≤ 16 by omega)]
    refine KOps.bits (by simp) ?_
    rw [and16 hsh]
    refine KOps.wLo (l := [false, true]) (j := x >>> i % 2) rfl (by simp only [List.length_cons, List.length_nil]; omega) ?_
    refine KOps.wHi (j := 1) rfl (by rw [List.length_drop]; simp only [List.length_cons, List.length_nil]; omega) ?_
    rw [bit_mod]
    refine KOps.wAdd (by simp only [List.length_cons, List.length_nil]; omega) ?_
    refine KOps.assign ?_
    refine KOps.done ?_
    refine blQ.normal ?_
    refine sqQ.normal ?_
    refine KA.sub (Sub.cons (t := 0) Look.eq (Sub.cons (t := 5) Look.eq (Sub.cons (t := 7) Look.eq (Sub.cons (t := 8) Look.eq (Sub.nil _))))) ?_
    refine KA.region rfl ?_
    refine KOps.add (by first | omega | (simp; omega)) (by first | omega | (simp; omega)) ?_
    refine KOps.move ?_
    refine KOps.done ?_
    exact lpQ.normal (i + 1) (by repeat (first | exact Sub.nil _ | refine Sub.cons Look.eq ?_ | refine Sub.cons (Eq.trans Look.eq (congrArg (AV.int _) (by first | omega | (dsimp only; omega)))) ?_ | refine Sub.cons (Eq.trans Look.eq (congrArg (fun w => AV.str (wd w)) (wordN_succ x i).symm)) ?_)) ⟨by omega, rfl⟩ (by omega)
  · intro c9
    refine KA.exit ?_
    refine sqQ.exit ?_
    refine lpQ.exit ?_
    refine blQ.here ?_
    refine sqQ.normal ?_
    refine KA.sub (Sub.cons (t := 5) Look.eq (Sub.nil _)) ?_
    refine KA.seq ?_
    refine KA.region rfl ?_
    refine KOps.move ?_
    refine KOps.assign ?_
    refine KOps.done ?_
    refine sqQ.normal ?_
    refine KA.sub (Sub.cons (t := 4) Look.eq (Sub.nil _)) ?_
    refine KA.ret ?_
    refine fnQ.ret1 ?_
    have he : i = n := by omega
    subst he
    exact ⟨rfl, rfl⟩

theorem shorts_c {h : AHeap} {l : List Bool} (hl : l.length ≤ 12) : ACalls Go.Proofs.Tryd.prog 40 [.str (wd l)] h (fun v h' => ∃ P, IsMp v ∧ P.Nodup ∧ (∀ x, x ∈ P ↔ isDel l x = true) ∧ St h h' [setO v P]) := by
  refine KA.fn 22 [.tmp 2] Go.Proofs.Tryd.func40 rfl (by decide) rfl rfl (Nat.le_of_ble_eq_true rfl) ?_
  have hS := St.refl h
  show KA _ 22 _ _ [(0, .str (wd l))] _
  refine KA.seq ?_
  refine KA.region rfl ?_
  refine KOps.assign ?_
  refine KOps.done ?_
  refine sqQ.normal ?_
  refine KA.sub (Sub.cons (t := 0) Look.eq (Sub.nil _)) ?_
  refine KA.seq ?_
  refine KA.region rfl ?_
  refine KOps.makeMap hS rfl ?_
  intro v5 h' hv5 hS
  refine KOps.assign ?_
  refine KOps.done ?_
  refine sqQ.normal ?_
  refine KA.sub (Sub.cons (t := 0) Look.eq (Sub.cons (t := 3) Look.eq (Sub.nil _))) ?_
  refine KA.seq ?_
  refine KA.seq ?_
  refine KA.region rfl ?_
  refine KOps.move ?_
  refine KOps.lenW ?_
  refine KOps.move ?_
  refine KOps.done ?_
  refine sqQ.normal ?_
  refine KA.sub (Sub.cons (t := 0) Look.eq (Sub.cons (t := 3) Look.eq (Sub.cons (t := 7) Look.eq (Sub.cons (t := 8) Look.eq (Sub.nil _))))) ?_
  refine KA.block ?_
  refine KA.loop (X := Nat × List (List Bool)) (fun x => [(0, .str (wd l)), (3, v5), (7, .int .i64 (l.length : Int)), (8, .int .i64 (x.1 : Int))]) (fun x h' => x.1 ≤ l.length ∧ x.2.Nodup ∧ (∀ y, y ∈ x.2 ↔ ∃ j, j < x.1 ∧ l.eraseIdx j = y) ∧ St h h' [setO v5 x.2]) (fun x => l.length - x.1) (0, []) (by repeat (first | exact Sub.nil _ | refine Sub.cons Look.eq ?_ | refine Sub.cons (Eq.trans Look.eq (congrArg (AV.int _) (by first | omega | (dsimp only; omega)))) ?_)) ?_ ?_
  · exact ⟨Nat.zero_le _, List.nodup_nil, fun y => ⟨fun q => (by cases q), fun ⟨j, hj, _⟩ => absurd hj (Nat.not_lt_zero _)⟩, hS⟩
  rintro ⟨i, P⟩ h2 ⟨hi, hnd, hm, hS⟩
  dsimp only at hi hnd hm hS ⊢
  refine KA.seq ?_
  refine KA.region rfl ?_
  refine KOps.lss ?_
  refine KOps.done ?_
  refine sqQ.normal ?_
  refine KA.seq ?_
  refine KA.condD ?_ ?_
  · intro c9
    refine KA.skip ?_
    refine sqQ.normal ?_
    refine KA.sub (Sub.cons (t := 0) Look.eq (Sub.cons (t := 3) Look.eq (Sub.cons (t := 7) Look.eq (Sub.cons (t := 8) Look.eq (Sub.nil _))))) ?_
    refine KA.seq ?_
    refine KA.block ?_
    refine KA.seq ?_
    refine KA.region rfl ?_
    refine KOps.move ?_
    refine KOps.assign ?_
    refine KOps.done ?_
    refine sqQ.normal ?_
    refine KA.sub (Sub.cons (t := 0) Look.eq (Sub.cons (t := 3) Look.eq (Sub.cons (t := 4) Look.eq (Sub.cons (t := 7) Look.eq (Sub.cons (t := 8) Look.eq (Sub.nil _)))))) ?_
    refine KA.draw [] mixed rfl (by kernel_rfl) ?_
    refine KOps.move ?_
    refine KOps.move ?_
    refine KOps.move ?_
    refine KOps.wHi (j := i) rfl (by first | omega | (simp; done) | (simp; omega)) ?_
    refine KOps.move ?_
    refine KOps.move ?_
    refine KOps.add (by first | omega | (simp; omega)) (by first | omega | (simp; omega)) ?_
    refine KOps.wLo (j := i + 1) (by first | omega | (simp; omega)) (by first | omega | (simp; done) | (simp; omega)) ?_
    refine KOps.wAdd (by simp only [List.length_append, List.length_take, List.length_drop, List.length_cons, List.length_nil]; omega) ?_
    refine KOps.setPut hS hv5 (i := 0) rfl rfl ?_
    intro h' hS
    simp only [List.set_cons_zero, List.set_cons_succ, Nat.zero_add] at hS
    refine KOps.done ?_
    refine blQ.normal ?_
    refine sqQ.normal ?_
    refine KA.sub (Sub.cons (t := 0) Look.eq (Sub.cons (t := 3) Look.eq (Sub.cons (t := 7) Look.eq (Sub.cons (t := 8) Look.eq (Sub.nil _))))) ?_
    refine KA.region rfl ?_
    refine KOps.add (by first | omega | (simp; omega)) (by first | omega | (simp; omega)) ?_
    refine KOps.move ?_
    refine KOps.done ?_
    refine lpQ.normal (i + 1, _) (by repeat (first | exact Sub.nil _ | refine Sub.cons Look.eq ?_ | refine Sub.cons (Eq.trans Look.eq (congrArg (AV.int _) (by first | omega | (dsimp only; omega)))) ?_)) ⟨by dsimp only; omega, addW_nodup hnd, fun y => ?_, hS⟩ (by dsimp only; omega)
    refine mem_addW.trans ?_
    rw [hm y, ← erase_take]
    constructor
    · rintro (⟨j, hj, he⟩ | rfl)
      · exact ⟨j, by dsimp only; omega, he⟩
      · exact ⟨i, by dsimp only; omega, rfl⟩
    · rintro ⟨j, hj, he⟩
      rcases Nat.lt_succ_iff_lt_or_eq.1 hj with h | rfl
      · exact .inl ⟨j, h, he⟩
      · exact .inr he.symm
  · intro c9
    refine KA.exit ?_
    refine sqQ.exit ?_
    refine lpQ.exit ?_
    refine blQ.here ?_
    refine sqQ.normal ?_
    refine KA.sub (Sub.cons (t := 3) Look.eq (Sub.nil _)) ?_
    refine KA.seq ?_
    refine KA.region rfl ?_
    refine KOps.move ?_
    refine KOps.assign ?_
    refine KOps.done ?_
    refine sqQ.normal ?_
    refine KA.sub (Sub.cons (t := 2) Look.eq (Sub.nil _)) ?_
    refine KA.ret ?_
    refine fnQ.ret1 ?_
    have he : i = l.length := by omega
    subst he
    exact ⟨P, hv5, hnd, fun x => (hm x).trans isDel_iff.symm, hS⟩

theorem longs_c {h : AHeap} {l : List Bool} (hl : l.length ≤ 12) : ACalls Go.Proofs.Tryd.prog 41 [.str (wd l)] h (fun v h' => ∃ P, IsMp v ∧ P.Nodup ∧ (∀ x, x ∈ P ↔ isDel x l = true) ∧ St h h' [setO v P]) := by
  refine KA.fn 32 [.tmp 2] Go.Proofs.Tryd.func41 rfl (by decide) rfl rfl (Nat.le_of_ble_eq_true rfl) ?_
  have hS := St.refl h
  show KA _ 32 _ _ [(0, .str (wd l))] _
  refine KA.seq ?_
  refine KA.region rfl ?_
  refine KOps.assign ?_
  refine KOps.done ?_
  refine sqQ.normal ?_
  refine KA.sub (Sub.cons (t := 0) Look.eq (Sub.nil _)) ?_
  refine KA.seq ?_
  refine KA.region rfl ?_
  refine KOps.makeMap hS rfl ?_
  intro v5 h' hv5 hS
  refine KOps.assign ?_
  refine KOps.done ?_
  refine sqQ.normal ?_
  refine KA.sub (Sub.cons (t := 0) Look.eq (Sub.cons (t := 3) Look.eq (Sub.nil _))) ?_
  refine KA.seq ?_
  refine KA.seq ?_
  refine KA.region rfl ?_
  refine KOps.move ?_
  refine KOps.lenW ?_
  refine KOps.add (by first | omega | (simp; omega)) (by first | omega | (simp; omega)) ?_
  refine KOps.move ?_
  refine KOps.done ?_
  refine sqQ.normal ?_
  refine KA.sub (Sub.cons (t := 0) Look.eq (Sub.cons (t := 3) Look.eq (Sub.cons (t := 8) Look.eq (Sub.cons (t := 9) Look.eq (Sub.nil _))))) ?_
  refine KA.block ?_
  refine KA.loop (X := Nat × List (List Bool)) (fun x => [(0, .str (wd l)), (3, v5), (8, .int .i64 ((l.length : Int) + 1)), (9, .int .i64 (x.1 : Int))]) (fun x h' => x.1 ≤ l.length + 1 ∧ x.2.Nodup ∧ (∀ y, y ∈ x.2 ↔ ∃ j c, j < x.1 ∧ y = insW l j c) ∧ St h h' [setO v5 x.2]) (fun x => l.length + 1 - x.1) (0, []) (by repeat (first | exact Sub.nil _ | refine Sub.cons Look.eq ?_ | refine Sub.cons (Eq.trans Look.eq (congrArg (AV.int _) (by first | omega | (dsimp only; omega)))) ?_)) ?_ ?_
  · exact ⟨Nat.zero_le _, List.nodup_nil, fun y => ⟨fun q => (by cases q), fun ⟨j, c, hj, _⟩ => absurd hj (Nat.not_lt_zero _)⟩, hS⟩
  rintro ⟨i, P⟩ h2 ⟨hi, hnd, hm, hS⟩
  dsimp only at hi hnd hm hS ⊢
  refine KA.seq ?_
  refine KA.region rfl ?_
  refine KOps.lss ?_
  refine KOps.done ?_
  refine sqQ.normal ?_
  refine KA.seq ?_
  refine KA.condD ?_ ?_
  · intro c10
    refine KA.skip ?_
    refine sqQ.normal ?_
    refine KA.sub (Sub.cons (t := 0) Look.eq (Sub.cons (t := 3) Look.eq (Sub.cons (t := 8) Look.eq (Sub.cons (t := 9) Look.eq (Sub.nil _))))) ?_
    refine KA.seq ?_
    refine KA.block ?_
    refine KA.seq ?_
    refine KA.region rfl ?_
    refine KOps.move ?_
    refine KOps.assign ?_
    refine KOps.done ?_
    refine sqQ.normal ?_
    refine KA.sub (Sub.cons (t := 0) Look.eq (Sub.cons (t := 3) Look.eq (Sub.cons (t := 4) Look.eq (Sub.cons (t := 8) Look.eq (Sub.cons (t := 9) Look.eq (Sub.nil _)))))) ?_
    refine KA.seq ?_
    refine KA.draw [] mixed rfl (by kernel_rfl) ?_
    refine KOps.move ?_
    refine KOps.move ?_
    refine KOps.move ?_
    refine KOps.wHi (j := i) rfl (by first | omega | (simp; done) | (simp; omega)) ?_
    refine KOps.wAdd (by simp only [List.length_append, List.length_take, List.length_drop, List.length_cons, List.length_nil]; omega) ?_
    refine KOps.move ?_
    refine KOps.move ?_
    refine KOps.wLo (j := i) rfl (by first | omega | (simp; done) | (simp; omega)) ?_
    refine KOps.wAdd (by simp only [List.length_append, List.length_take, List.length_drop, List.length_cons, List.length_nil]; omega) ?_
    refine KOps.setPut hS hv5 (i := 0) rfl rfl ?_
    intro h' hS
    simp only [List.set_cons_zero, List.set_cons_succ, Nat.zero_add] at hS
    refine KOps.done ?_
    refine sqQ.normal ?_
    refine KA.sub (Sub.cons (t := 0) Look.eq (Sub.cons (t := 3) Look.eq (Sub.cons (t := 4) Look.eq (Sub.cons (t := 8) Look.eq (Sub.cons (t := 9) Look.eq (Sub.nil _)))))) ?_
    refine KA.draw [] mixed rfl (by kernel_rfl) ?_
    refine KOps.move ?_
    refine KOps.move ?_
    refine KOps.move ?_
    refine KOps.wHi (j := i) rfl (by first | omega | (simp; done) | (simp; omega)) ?_
    refine KOps.wAdd (by simp only [List.length_append, List.length_take, List.length_drop, List.length_cons, List.length_nil]; omega) ?_
    refine KOps.move ?_
    refine KOps.move ?_
    refine KOps.wLo (j := i) rfl (by first | omega | (simp; done) | (simp; omega)) ?_
    refine KOps.wAdd (by simp only [List.length_append, List.length_take, List.length_drop, List.length_cons, List.length_nil]; omega) ?_
    refine KOps.setPut hS hv5 (i := 0) rfl rfl ?_
    intro h' hS
    simp only [List.set_cons_zero, List.set_cons_succ, Nat.zero_add] at hS
    refine KOps.done ?_
    refine blQ.normal ?_
    refine sqQ.normal ?_
    refine KA.sub (Sub.cons (t := 0) Look.eq (Sub.cons (t := 3) Look.eq (Sub.cons (t := 8) Look.eq (Sub.cons (t := 9) Look.eq (Sub.nil _))))) ?_
    refine KA.region rfl ?_
    refine KOps.add (by first | omega | (simp; omega)) (by first | omega | (simp; omega)) ?_
    refine KOps.move ?_
    refine KOps.done ?_
    refine lpQ.normal (i + 1, _) (by repeat (first | exact Sub.nil _ | refine Sub.cons Look.eq ?_ | refine Sub.cons (Eq.trans Look.eq (congrArg (AV.int _) (by first | omega | (dsimp only; omega)))) ?_)) ⟨by dsimp only; omega, addW_nodup (addW_nodup hnd), fun y => ?_, hS⟩ (by dsimp only; omega)
    refine mem_addW.trans ((or_congr_left mem_addW).trans ?_)
    rw [hm y, ins_eq, ins_eq]
    constructor
    · rintro ((⟨j, c, hj, he⟩ | rfl) | rfl)
      · exact ⟨j, c, by dsimp only; omega, he⟩
      · exact ⟨i, false, by dsimp only; omega, rfl⟩
      · exact ⟨i, true, by dsimp only; omega, rfl⟩
    · rintro ⟨j, c, hj, he⟩
      rcases Nat.lt_succ_iff_lt_or_eq.1 hj with h | rfl
      · exact .inl (.inl ⟨j, c, h, he⟩)
      · cases c
        · exact .inl (.inr he)
        · exact .inr he
  · intro c10
    refine KA.exit ?_
    refine sqQ.exit ?_
    refine lpQ.exit ?_
    refine blQ.here ?_
    refine sqQ.normal ?_
    refine KA.sub (Sub.cons (t := 3) Look.eq (Sub.nil _)) ?_
    refine KA.seq ?_
    refine KA.region rfl ?_
    refine KOps.move ?_
    refine KOps.assign ?_
    refine KOps.done ?_
    refine sqQ.normal ?_
    refine KA.sub (Sub.cons (t := 2) Look.eq (Sub.nil _)) ?_
    refine KA.ret ?_
    refine fnQ.ret1 ?_
    have he : i = l.length + 1 := by omega
    subst he
    exact ⟨P, hv5, hnd, fun x => (hm x).trans ⟨fun ⟨j, c, hj, he⟩ => isDel_ins.2 ⟨j, c, by omega, he⟩, fun q => by
      obtain ⟨j, c, hj, he⟩ := isDel_ins.1 q
      exact ⟨j, c, by omega, he⟩⟩, hS⟩

theorem all_c {h : AHeap} {v u : AV} {l P : List (List Bool)} {m : Int} (hv : WRow h v l) (hu : RdM h u (setE P)) (hP : ∀ x ∈ l, x ∈ P) (ha : Asc l) (hlp : l.length = P.length) (hm : m = (l.length : Int)) (hn : l.length ≤ 4096) : ACalls Go.Proofs.Tryd.prog 42 [v, u, .int .i64 m] h (fun q h' => q = .bool true ∧ h = h') := by
  refine KA.fn 45 [.tmp 6] Go.Proofs.Tryd.func42 rfl (by decide) rfl rfl (Nat.le_of_ble_eq_true rfl) ?_
  show KA _ 45 _ _ [(0, v), (1, u), (2, .int .i64 m)] _
  refine KA.seq ?_
  refine KA.region rfl ?_
  refine KOps.assign ?_
  refine KOps.done ?_
  refine sqQ.normal ?_
  refine KA.sub (Sub.cons (t := 0) Look.eq (Sub.cons (t := 1) Look.eq (Sub.cons (t := 2) Look.eq (Sub.nil _)))) ?_
  refine KA.seq ?_
  refine KA.seq ?_
  refine KA.region rfl ?_
  refine KOps.move ?_
  refine KOps.lenI hv ?_
  refine KOps.move ?_
  refine KOps.done ?_
  refine sqQ.normal ?_
  refine KA.block ?_
  refine KA.loop (X := Nat) (fun i => [(0, v), (1, u), (2, .int .i64 m), (9, v), (10, .int .i64 (l.length : Int)), (11, .int .i64 (i : Int))]) (fun i h' => i ≤ l.length ∧ h = h') (fun i => l.length - i) 0 (by repeat (first | exact Sub.nil _ | refine Sub.cons Look.eq ?_ | refine Sub.cons (Eq.trans Look.eq (congrArg (AV.int _) (by first | omega | (dsimp only; omega)))) ?_)) ?_ ?_
  · exact ⟨Nat.zero_le _, rfl⟩
  rintro i h2 ⟨hi, rfl⟩
  refine KA.seq ?_
  refine KA.region rfl ?_
  refine KOps.lss ?_
  refine KOps.done ?_
  refine sqQ.normal ?_
  refine KA.seq ?_
  refine KA.condD ?_ ?_
  · intro c12
    refine KA.skip ?_
    refine sqQ.normal ?_
    refine KA.sub (Sub.cons (t := 0) Look.eq (Sub.cons (t := 1) Look.eq (Sub.cons (t := 2) Look.eq (Sub.cons (t := 9) Look.eq (Sub.cons (t := 10) Look.eq (Sub.cons (t := 11) Look.eq (Sub.nil _))))))) ?_
    refine KA.seq ?_
    refine KA.block ?_
    refine KA.seq ?_
    refine KA.region rfl ?_
    refine KOps.move ?_
    refine KOps.indexIJ hv (j := i) rfl (by first | omega | (simp; done) | (simp; omega)) ?_
    intro p14 hp14
    refine KOps.loadW hp14 hv (by first | omega | (simp; done) | (simp; omega)) ?_
    refine KOps.assign ?_
    refine KOps.assign ?_
    refine KOps.done ?_
    refine sqQ.normal ?_
    refine KA.sub (Sub.cons (t := 0) Look.eq (Sub.cons (t := 1) Look.eq (Sub.cons (t := 2) Look.eq (Sub.cons (t := 7) Look.eq (Sub.cons (t := 8) Look.eq (Sub.cons (t := 9) Look.eq (Sub.cons (t := 10) Look.eq (Sub.cons (t := 11) Look.eq (Sub.nil _))))))))) ?_
    refine KA.seq ?_
    refine KA.region rfl ?_
    have hlt : i < l.length := by omega
    have hin : l.getD i [] ∈ P := hP _ (by rw [List.getD_eq_getElem?_getD, List.getElem?_eq_getElem hlt]; exact List.getElem_mem hlt)
    refine KOps.move ?_
    refine KOps.move ?_
    refine KOps.setHas hu rfl ?_
    rw [decide_eq_true hin]
    refine KOps.not ?_
    refine KOps.move ?_
    refine KOps.guardYes (dj := 20) rfl rfl ?_
    refine KOps.move ?_
    refine KOps.guardYes (dj := 20) rfl rfl ?_
    refine KOps.gtr ?_
    refine KOps.guardYes (dj := 20) rfl rfl ?_
    refine KOps.move ?_
    refine KOps.guardB (dj := 23) rfl rfl true false rfl ?_ ?_
    · intro g23
      have g23 := of_decide_eq_true g23
      refine KOps.move ?_
      refine KOps.guardYes (dj := 23) rfl rfl ?_
      refine KOps.move ?_
      refine KOps.guardYes (dj := 23) rfl rfl ?_
      refine KOps.sub (by first | omega | (simp; omega)) (by first | omega | (simp; omega)) ?_
      refine KOps.guardYes (dj := 23) rfl rfl ?_
      refine KOps.indexIJ hv (j := i - 1) (by first | omega | (simp; omega)) (by first | omega | (simp; done) | (simp; omega)) ?_
      intro p27 hp27
      refine KOps.guardYes (dj := 23) rfl rfl ?_
      refine KOps.loadW hp27 hv (by first | omega | (simp; done) | (simp; omega)) ?_
      refine KOps.guardYes (dj := 23) rfl rfl ?_
      refine KOps.move ?_
      refine KOps.guardYes (dj := 23) rfl rfl ?_
      refine KOps.wGeqF (asc_get ha (by omega) hlt) ?_
      refine KOps.guardYes (dj := 20) rfl rfl ?_
      refine KOps.pickT ?_
      refine KOps.pickF ?_
      refine KOps.done ?_
      refine sqQ.normal ?_
      refine KA.sub (Sub.cons (t := 0) Look.eq (Sub.cons (t := 1) Look.eq (Sub.cons (t := 2) Look.eq (Sub.cons (t := 9) Look.eq (Sub.cons (t := 10) Look.eq (Sub.cons (t := 11) Look.eq (Sub.cons (t := 21) Look.eq (Sub.cons (t := 22) Look.eq (Sub.cons (t := 23) Look.eq (Sub.cons (t := 24) Look.eq (Sub.cons (t := 25) Look.eq (Sub.cons (t := 26) Look.eq (Sub.cons (t := 27) Look.eq (Sub.cons (t := 28) Look.eq (Sub.cons (t := 29) Look.eq (Sub.cons (t := 30) Look.eq (Sub.cons (t := 31) Look.eq (Sub.cons (t := 32) Look.eq (Sub.nil _))))))))))))))))))) ?_
      refine KA.condF ?_
      refine KA.skip ?_
      refine blQ.normal ?_
      refine sqQ.normal ?_
      refine KA.sub (Sub.cons (t := 0) Look.eq (Sub.cons (t := 1) Look.eq (Sub.cons (t := 2) Look.eq (Sub.cons (t := 9) Look.eq (Sub.cons (t := 10) Look.eq (Sub.cons (t := 11) Look.eq (Sub.cons (t := 21) Look.eq (Sub.cons (t := 22) Look.eq (Sub.cons (t := 23) Look.eq (Sub.cons (t := 24) Look.eq (Sub.cons (t := 25) Look.eq (Sub.cons (t := 26) Look.eq (Sub.cons (t := 27) Look.eq (Sub.cons (t := 28) Look.eq (Sub.cons (t := 29) Look.eq (Sub.cons (t := 30) Look.eq (Sub.cons (t := 31) Look.eq (Sub.nil _)))))))))))))))))) ?_
      refine KA.region rfl ?_
      refine KOps.add (by first | omega | (simp; omega)) (by first | omega | (simp; omega)) ?_
      refine KOps.move ?_
      refine KOps.done ?_
      exact lpQ.normal (i + 1) (by repeat (first | exact Sub.nil _ | refine Sub.cons Look.eq ?_ | refine Sub.cons (Eq.trans Look.eq (congrArg (AV.int _) (by first | omega | (dsimp only; omega)))) ?_)) ⟨by omega, rfl⟩ (by omega)
    · intro g23
      have g23 := of_decide_eq_false g23
      refine KOps.guardNo (dj := 23) rfl rfl rfl ?_
      refine KOps.guardNo (dj := 23) rfl rfl rfl ?_
      refine KOps.guardNo (dj := 23) rfl rfl rfl ?_
      refine KOps.guardNo (dj := 23) rfl rfl rfl ?_
      refine KOps.guardNo (dj := 23) rfl rfl rfl ?_
      refine KOps.guardNo (dj := 23) rfl rfl rfl ?_
      refine KOps.guardYes (dj := 20) rfl rfl ?_
      refine KOps.pickF ?_
      refine KOps.pickF ?_
      refine KOps.done ?_
      refine sqQ.normal ?_
      refine KA.sub (Sub.cons (t := 0) Look.eq (Sub.cons (t := 1) Look.eq (Sub.cons (t := 2) Look.eq (Sub.cons (t := 9) Look.eq (Sub.cons (t := 10) Look.eq (Sub.cons (t := 11) Look.eq (Sub.cons (t := 21) Look.eq (Sub.cons (t := 22) Look.eq (Sub.cons (t := 23) Look.eq (Sub.cons (t := 24) Look.eq (Sub.cons (t := 25) Look.eq (Sub.cons (t := 26) Look.eq (Sub.cons (t := 27) Look.eq (Sub.cons (t := 28) Look.eq (Sub.cons (t := 29) Look.eq (Sub.cons (t := 30) Look.eq (Sub.cons (t := 31) Look.eq (Sub.cons (t := 32) Look.eq (Sub.nil _))))))))))))))))))) ?_
      refine KA.condF ?_
      refine KA.skip ?_
      refine blQ.normal ?_
      refine sqQ.normal ?_
      refine KA.sub (Sub.cons (t := 0) Look.eq (Sub.cons (t := 1) Look.eq (Sub.cons (t := 2) Look.eq (Sub.cons (t := 9) Look.eq (Sub.cons (t := 10) Look.eq (Sub.cons (t := 11) Look.eq (Sub.cons (t := 21) Look.eq (Sub.cons (t := 22) Look.eq (Sub.cons (t := 23) Look.eq (Sub.cons (t := 24) Look.eq (Sub.cons (t := 25) Look.eq (Sub.cons (t := 26) Look.eq (Sub.cons (t := 27) Look.eq (Sub.cons (t := 28) Look.eq (Sub.cons (t := 29) Look.eq (Sub.cons (t := 30) Look.eq (Sub.cons (t := 31) Look.eq (Sub.nil _)))))))))))))))))) ?_
      refine KA.region rfl ?_
      refine KOps.add (by first | omega | (simp; omega)) (by first | omega | (simp; omega)) ?_
      refine KOps.move ?_
      refine KOps.done ?_
      exact lpQ.normal (i + 1) (by repeat (first | exact Sub.nil _ | refine Sub.cons Look.eq ?_ | refine Sub.cons (Eq.trans Look.eq (congrArg (AV.int _) (by first | omega | (dsimp only; omega)))) ?_)) ⟨by omega, rfl⟩ (by omega)
  · intro c12
    refine KA.exit ?_
    refine sqQ.exit ?_
    refine lpQ.exit ?_
    refine blQ.here ?_
    refine sqQ.normal ?_
    refine KA.sub (Sub.cons (t := 0) Look.eq (Sub.cons (t := 1) Look.eq (Sub.cons (t := 2) Look.eq (Sub.nil _)))) ?_
    refine KA.seq ?_
    refine KA.region rfl ?_
    refine KOps.move ?_
    refine KOps.lenI hv ?_
    refine KOps.move ?_
    refine KOps.mapLen hu ?_
    rw [List.length_map, List.length_map]
    refine KOps.eqlY (by omega) ?_
    refine KOps.move ?_
    refine KOps.guardYes (dj := 39) rfl rfl ?_
    refine KOps.move ?_
    refine KOps.guardYes (dj := 39) rfl rfl ?_
    refine KOps.lenI hv ?_
    refine KOps.guardYes (dj := 39) rfl rfl ?_
    refine KOps.move ?_
    refine KOps.guardYes (dj := 39) rfl rfl ?_
    refine KOps.eqlY (by omega) ?_
    refine KOps.pickT ?_
    refine KOps.assign ?_
    refine KOps.done ?_
    refine sqQ.normal ?_
    refine KA.sub (Sub.cons (t := 6) Look.eq (Sub.nil _)) ?_
    refine KA.ret ?_
    refine fnQ.ret1 ?_
    exact ⟨rfl, rfl⟩

theorem law_reads {h : AHeap} {x n : Nat} (hTab : Tab h) (hx : x < 65536) (hn : n < 256) : ACalls Go.Proofs.Tryd.prog 7 [.int .u16 (x : Int), .int .u8 (n : Int)] h (fun r _ => r = .bool true) := by
  refine KA.fn 86 [.tmp 4] Go.Proofs.Tryd.func7 rfl (by decide) rfl rfl (Nat.le_of_ble_eq_true rfl) ?_
  have hS := St.refl h
  have hm10 : n % 10 < 10 := Nat.mod_lt _ (by decide)
  show KA _ 86 _ _ [(0, .int .u16 (x : Int)), (1, .int .u8 (n : Int))] _
  refine KA.seq ?_
  refine KA.region rfl ?_
  refine KOps.assign ?_
  refine KOps.done ?_
  refine sqQ.normal ?_
  refine KA.sub (Sub.cons (t := 0) Look.eq (Sub.cons (t := 1) Look.eq (Sub.nil _))) ?_
  refine KA.seq ?_
  refine KA.region rfl ?_
  refine KOps.move ?_
  refine KOps.convU (by omega) (by omega) ?_
  refine KOps.remN (i := n) (j := 10) rfl rfl (by omega) (by omega) ?_
  generalize n % 10 = m at hm10 ⊢
  refine KOps.assign ?_
  refine KOps.done ?_
  refine sqQ.normal ?_
  refine KA.sub (Sub.cons (t := 0) Look.eq (Sub.cons (t := 5) Look.eq (Sub.nil _))) ?_
  refine KA.seq ?_
  refine KA.region rfl ?_
  have hwl := wordN_len x m
  refine KOps.move ?_
  refine KOps.move ?_
  refine KOps.call rfl (word_c (by omega) (by omega)) ?_
  rintro _ _ ⟨rfl, rfl⟩
  refine KOps.assign ?_
  refine KOps.done ?_
  refine sqQ.normal ?_
  refine KA.sub (Sub.cons (t := 5) Look.eq (Sub.cons (t := 6) Look.eq (Sub.nil _))) ?_
  refine KA.seq ?_
  refine KA.region rfl ?_
  refine KOps.assign ?_
  refine KOps.done ?_
  refine sqQ.normal ?_
  refine KA.seq ?_
  refine KA.seq ?_
  refine KA.region rfl ?_
  refine KOps.move ?_
  refine KOps.move ?_
  refine KOps.done ?_
  refine sqQ.normal ?_
  refine KA.block ?_
  refine KA.loop (X := Nat) (fun i => [(5, .int .i64 (m : Int)), (6, .str (wd (wordN x m))), (7, .int .i64 ((startsTo (wordN x m) i).length : Int)), (20, .int .i64 (m : Int)), (21, .int .i64 (i : Int))]) (fun i h' => i ≤ m ∧ (startsTo (wordN x m) i).length ≤ i ∧ St h h' []) (fun i => m - i) 0 (by repeat (first | exact Sub.nil _ | refine Sub.cons Look.eq ?_ | refine Sub.cons (Eq.trans Look.eq (congrArg (AV.int _) (by first | omega | (dsimp only; omega)))) ?_ | refine Sub.cons (Eq.trans Look.eq (rfl)) ?_)) ?_ ?_
  · exact ⟨Nat.zero_le _, Nat.le_refl _, hS⟩
  rintro i h2 ⟨hi, hsl, hS⟩
  refine KA.seq ?_
  refine KA.region rfl ?_
  refine KOps.lss ?_
  refine KOps.done ?_
  refine sqQ.normal ?_
  refine KA.seq ?_
  refine KA.condD ?_ ?_
  · intro c22
    refine KA.skip ?_
    refine sqQ.normal ?_
    refine KA.sub (Sub.cons (t := 5) Look.eq (Sub.cons (t := 6) Look.eq (Sub.cons (t := 7) Look.eq (Sub.cons (t := 20) Look.eq (Sub.cons (t := 21) Look.eq (Sub.nil _)))))) ?_
    refine KA.seq ?_
    refine KA.block ?_
    refine KA.seq ?_
    refine KA.region rfl ?_
    refine KOps.move ?_
    refine KOps.assign ?_
    refine KOps.done ?_
    refine sqQ.normal ?_
    refine KA.sub (Sub.cons (t := 5) Look.eq (Sub.cons (t := 6) Look.eq (Sub.cons (t := 7) Look.eq (Sub.cons (t := 8) Look.eq (Sub.cons (t := 20) Look.eq (Sub.cons (t := 21) Look.eq (Sub.nil _))))))) ?_
    refine KA.seq ?_
    refine KA.draw [] mixed rfl (by kernel_rfl) ?_
    have hst : i = 0 ∨ (isStart (wordN x m) i = true ↔ ¬ ((bch ((wordN x m).getD i false)).toNat : Int) = ((bch ((wordN x m).getD (i - 1) false)).toNat : Int)) := by
      rcases Nat.eq_zero_or_pos i with h0 | h0
      · exact .inl h0
      · refine .inr ?_
        rw [start_last (by omega), lastR, if_neg (by omega)]
    have hs0 : i = 0 → isStart (wordN x m) i = true := fun e => by subst e; rfl
    have hss := starts_succ (wordN x m) i
    refine KOps.move ?_
    refine KOps.eql ?_
    refine KOps.move ?_
    refine KOps.guardB (dj := 26) rfl rfl false true rfl ?_ ?_
    · intro g26
      have g26 := of_decide_eq_false g26
      refine KOps.move ?_
      refine KOps.guardYes (dj := 26) rfl rfl ?_
      refine KOps.move ?_
      refine KOps.guardYes (dj := 26) rfl rfl ?_
      refine KOps.wAt (j := i) rfl (by omega) ?_
      refine KOps.guardYes (dj := 26) rfl rfl ?_
      refine KOps.move ?_
      refine KOps.guardYes (dj := 26) rfl rfl ?_
      refine KOps.move ?_
      refine KOps.guardYes (dj := 26) rfl rfl ?_
      refine KOps.sub (by first | omega | (simp; omega)) (by first | omega | (simp; omega)) ?_
      refine KOps.guardYes (dj := 26) rfl rfl ?_
      refine KOps.wAt (j := i - 1) (by omega) (by omega) ?_
      refine KOps.guardYes (dj := 26) rfl rfl ?_
      refine KOps.neq ?_
      refine KOps.pickF ?_
      refine KOps.done ?_
      refine sqQ.normal ?_
      refine KA.sub (Sub.cons (t := 5) Look.eq (Sub.cons (t := 6) Look.eq (Sub.cons (t := 7) Look.eq (Sub.cons (t := 20) Look.eq (Sub.cons (t := 21) Look.eq (Sub.cons (t := 27) Look.eq (Sub.cons (t := 28) Look.eq (Sub.cons (t := 29) Look.eq (Sub.cons (t := 30) Look.eq (Sub.cons (t := 31) Look.eq (Sub.cons (t := 32) Look.eq (Sub.cons (t := 33) Look.eq (Sub.cons (t := 34) Look.eq (Sub.cons (t := 35) Look.eq (Sub.nil _))))))))))))))) ?_
      refine KA.condN ?_ ?_
      · intro c35
        refine KA.region rfl ?_
        refine KOps.move ?_
        refine KOps.add (by first | omega | (simp; omega)) (by first | omega | (simp; omega)) ?_
        refine KOps.assign ?_
        refine KOps.done ?_
        refine blQ.normal ?_
        refine sqQ.normal ?_
        refine KA.sub (Sub.cons (t := 5) Look.eq (Sub.cons (t := 6) Look.eq (Sub.cons (t := 7) Look.eq (Sub.cons (t := 20) Look.eq (Sub.cons (t := 21) Look.eq (Sub.cons (t := 27) Look.eq (Sub.cons (t := 28) Look.eq (Sub.cons (t := 29) Look.eq (Sub.cons (t := 30) Look.eq (Sub.cons (t := 31) Look.eq (Sub.cons (t := 32) Look.eq (Sub.cons (t := 33) Look.eq (Sub.cons (t := 34) Look.eq (Sub.nil _)))))))))))))) ?_
        refine KA.region rfl ?_
        refine KOps.add (by first | omega | (simp; omega)) (by first | omega | (simp; omega)) ?_
        refine KOps.move ?_
        refine KOps.done ?_
        have hyes : isStart (wordN x m) i = true := by
          rcases hst with q | q
          · exact hs0 q
          · exact q.2 c35
        rw [if_pos hyes] at hss
        exact lpQ.normal (i + 1) (by repeat (first | exact Sub.nil _ | refine Sub.cons Look.eq ?_ | refine Sub.cons (Eq.trans Look.eq (congrArg (AV.int _) (by first | omega | (dsimp only; omega)))) ?_)) ⟨by omega, by omega, hS⟩ (by omega)
      · intro c35
        refine KA.skip ?_
        refine blQ.normal ?_
        refine sqQ.normal ?_
        refine KA.sub (Sub.cons (t := 5) Look.eq (Sub.cons (t := 6) Look.eq (Sub.cons (t := 7) Look.eq (Sub.cons (t := 20) Look.eq (Sub.cons (t := 21) Look.eq (Sub.cons (t := 27) Look.eq (Sub.cons (t := 28) Look.eq (Sub.cons (t := 29) Look.eq (Sub.cons (t := 30) Look.eq (Sub.cons (t := 31) Look.eq (Sub.cons (t := 32) Look.eq (Sub.cons (t := 33) Look.eq (Sub.cons (t := 34) Look.eq (Sub.nil _)))))))))))))) ?_
        refine KA.region rfl ?_
        refine KOps.add (by first | omega | (simp; omega)) (by first | omega | (simp; omega)) ?_
        refine KOps.move ?_
        refine KOps.done ?_
        have hno : ¬ isStart (wordN x m) i = true := by
          rcases hst with q | q
          · omega
          · exact fun q2 => q.1 q2 c35
        rw [if_neg hno] at hss
        exact lpQ.normal (i + 1) (by repeat (first | exact Sub.nil _ | refine Sub.cons Look.eq ?_ | refine Sub.cons (Eq.trans Look.eq (congrArg (AV.int _) (by first | omega | (dsimp only; omega)))) ?_)) ⟨by omega, by omega, hS⟩ (by omega)
    · intro g26
      have g26 := of_decide_eq_true g26
      refine KOps.guardNo (dj := 26) rfl rfl rfl ?_
      refine KOps.guardNo (dj := 26) rfl rfl rfl ?_
      refine KOps.guardNo (dj := 26) rfl rfl rfl ?_
      refine KOps.guardNo (dj := 26) rfl rfl rfl ?_
      refine KOps.guardNo (dj := 26) rfl rfl rfl ?_
      refine KOps.guardNo (dj := 26) rfl rfl rfl ?_
      refine KOps.guardNo (dj := 26) rfl rfl rfl ?_
      refine KOps.pickT ?_
      refine KOps.done ?_
      refine sqQ.normal ?_
      refine KA.sub (Sub.cons (t := 5) Look.eq (Sub.cons (t := 6) Look.eq (Sub.cons (t := 7) Look.eq (Sub.cons (t := 20) Look.eq (Sub.cons (t := 21) Look.eq (Sub.cons (t := 27) Look.eq (Sub.cons (t := 28) Look.eq (Sub.cons (t := 29) Look.eq (Sub.cons (t := 30) Look.eq (Sub.cons (t := 31) Look.eq (Sub.cons (t := 32) Look.eq (Sub.cons (t := 33) Look.eq (Sub.cons (t := 34) Look.eq (Sub.cons (t := 35) Look.eq (Sub.nil _))))))))))))))) ?_
      refine KA.condT ?_
      refine KA.region rfl ?_
      refine KOps.move ?_
      refine KOps.add (by first | omega | (simp; omega)) (by first | omega | (simp; omega)) ?_
      refine KOps.assign ?_
      refine KOps.done ?_
      refine blQ.normal ?_
      refine sqQ.normal ?_
      refine KA.sub (Sub.cons (t := 5) Look.eq (Sub.cons (t := 6) Look.eq (Sub.cons (t := 7) Look.eq (Sub.cons (t := 20) Look.eq (Sub.cons (t := 21) Look.eq (Sub.cons (t := 27) Look.eq (Sub.cons (t := 28) Look.eq (Sub.cons (t := 29) Look.eq (Sub.cons (t := 30) Look.eq (Sub.cons (t := 31) Look.eq (Sub.cons (t := 32) Look.eq (Sub.cons (t := 33) Look.eq (Sub.cons (t := 34) Look.eq (Sub.nil _)))))))))))))) ?_
      refine KA.region rfl ?_
      refine KOps.add (by first | omega | (simp; omega)) (by first | omega | (simp; omega)) ?_
      refine KOps.move ?_
      refine KOps.done ?_
      rw [if_pos (hs0 (by omega))] at hss
      exact lpQ.normal (i + 1) (by repeat (first | exact Sub.nil _ | refine Sub.cons Look.eq ?_ | refine Sub.cons (Eq.trans Look.eq (congrArg (AV.int _) (by first | omega | (dsimp only; omega)))) ?_)) ⟨by omega, by omega, hS⟩ (by omega)
  · intro c22
    refine KA.exit ?_
    refine sqQ.exit ?_
    refine lpQ.exit ?_
    refine blQ.here ?_
    refine sqQ.normal ?_
    refine KA.sub (Sub.cons (t := 5) Look.eq (Sub.cons (t := 6) Look.eq (Sub.cons (t := 7) Look.eq (Sub.nil _)))) ?_
    refine KA.seq ?_
    refine KA.region rfl ?_
    have him : i = m := by omega
    have hLE : longE (wd (wordN x m)) = 0 := by rw [longE_wd (by omega), if_neg (by omega)]
    have hLS := longS_wd hLE
    have hLL := longW_len (wordN x m)
    have hLA := longW_asc (wordN x m)
    refine KOps.assign ?_
    refine KOps.done ?_
    refine sqQ.normal ?_
    refine KA.seq ?_
    refine KA.region rfl ?_
    refine KOps.move ?_
    refine KOps.call rfl (longP_c) ?_
    rintro _ h41 ⟨v41, rfl, hS41⟩
    have hS0 : St _ _ (_ :: _) := St.trans hS hS41
    clear hS
    have hS := hS0
    clear hS0
    refine KOps.move ?_
    refine KOps.extract ?_
    refine KOps.extract ?_
    refine KOps.assign ?_
    refine KOps.assign ?_
    refine KOps.done ?_
    refine sqQ.normal ?_
    refine KA.sub (Sub.cons (t := 5) Look.eq (Sub.cons (t := 6) Look.eq (Sub.cons (t := 7) Look.eq (Sub.cons (t := 9) Look.eq (Sub.cons (t := 10) Look.eq (Sub.cons (t := 11) Look.eq (Sub.nil _))))))) ?_
    refine KA.seq ?_
    refine KA.seq ?_
    refine KA.region rfl ?_
    rw [hLS] at hS
    refine KOps.move ?_
    refine KOps.neqF hLE ?_
    refine KOps.move ?_
    refine KOps.guardYes (dj := 46) rfl rfl ?_
    refine KOps.move ?_
    refine KOps.guardYes (dj := 46) rfl rfl ?_
    refine KOps.move ?_
    refine KOps.guardYes (dj := 46) rfl rfl ?_
    refine KOps.move ?_
    refine KOps.guardYes (dj := 46) rfl rfl ?_
    refine KOps.call rfl (longs_c (by omega)) ?_
    rintro v50 h50 ⟨P50, hv50, hnd50, hm50, hS50⟩
    have hS0 : St _ _ (_ :: _) := St.trans hS hS50
    clear hS
    have hS := hS0
    clear hS0
    refine KOps.guardYes (dj := 46) rfl rfl ?_
    refine KOps.move ?_
    refine KOps.guardYes (dj := 46) rfl rfl ?_
    refine KOps.add (by first | omega | (simp; omega)) (by first | omega | (simp; omega)) ?_
    refine KOps.guardYes (dj := 46) rfl rfl ?_
    refine KOps.call rfl (all_c (l := longW (wordN x m)) (P := P50) (hS.rd 1 rfl) (St.rdM hS 0 rfl hv50) (fun y hy => (hm50 y).2 (mem_longW.1 hy)) hLA (nodup_len hLA.nodup hnd50 (fun y => mem_longW.trans (hm50 y).symm)) (by omega) (by omega)) ?_
    rintro _ _ ⟨rfl, rfl⟩
    refine KOps.guardYes (dj := 46) rfl rfl ?_
    refine KOps.not ?_
    refine KOps.pickF ?_
    refine KOps.done ?_
    refine sqQ.normal ?_
    refine KA.sub (Sub.cons (t := 5) Look.eq (Sub.cons (t := 6) Look.eq (Sub.cons (t := 7) Look.eq (Sub.cons (t := 9) Look.eq (Sub.cons (t := 55) Look.eq (Sub.nil _)))))) ?_
    refine KA.condF ?_
    refine KA.skip ?_
    refine sqQ.normal ?_
    refine KA.sub (Sub.cons (t := 5) Look.eq (Sub.cons (t := 6) Look.eq (Sub.cons (t := 7) Look.eq (Sub.cons (t := 9) Look.eq (Sub.nil _))))) ?_
    refine KA.seq ?_
    refine KA.region rfl ?_
    refine KOps.move ?_
    refine KOps.call rfl (shortP_c) ?_
    rintro _ h58 ⟨v58, rfl, hS58⟩
    have hS0 : St _ _ (_ :: _) := St.trans hS hS58
    clear hS
    have hS := hS0
    clear hS0
    refine KOps.move ?_
    refine KOps.extract ?_
    refine KOps.extract ?_
    refine KOps.assign ?_
    refine KOps.assign ?_
    refine KOps.done ?_
    refine sqQ.normal ?_
    refine KA.sub (Sub.cons (t := 5) Look.eq (Sub.cons (t := 6) Look.eq (Sub.cons (t := 7) Look.eq (Sub.cons (t := 9) Look.eq (Sub.cons (t := 12) Look.eq (Sub.cons (t := 13) Look.eq (Sub.nil _))))))) ?_
    refine KA.seq ?_
    refine KA.seq ?_
    refine KA.region rfl ?_
    refine KOps.move ?_
    refine KOps.eql ?_
    refine KOps.done ?_
    refine sqQ.normal ?_
    refine KA.sub (Sub.cons (t := 6) Look.eq (Sub.cons (t := 7) Look.eq (Sub.cons (t := 9) Look.eq (Sub.cons (t := 12) Look.eq (Sub.cons (t := 13) Look.eq (Sub.cons (t := 62) Look.eq (Sub.nil _))))))) ?_
    refine KA.condD ?_ ?_
    · intro c62
      have hw0 : wordN x m = [] := List.length_eq_zero_iff.1 (by omega)
      have hSE0 : shortE (wd (wordN x m)) = 4 := by rw [shortE_wd (by omega), if_pos hw0]
      have hS0n : (shortS (wd (wordN x m))).length = 0 := by rw [shortS_bad (by rw [hSE0]; decide)]; rfl
      refine KA.seq ?_
      refine KA.region rfl ?_
      refine KOps.move ?_
      refine KOps.eqlY hSE0 ?_
      refine KOps.move ?_
      refine KOps.guardYes (dj := 65) rfl rfl ?_
      refine KOps.move ?_
      refine KOps.guardYes (dj := 65) rfl rfl ?_
      refine KOps.lenI (hS.rd 0 rfl) ?_
      refine KOps.guardYes (dj := 65) rfl rfl ?_
      refine KOps.eqlY (by rw [hS0n]; rfl) ?_
      refine KOps.pickT ?_
      refine KOps.move ?_
      refine KOps.guardYes (dj := 70) rfl rfl ?_
      refine KOps.call rfl (works_c (hTab.ext hS.keeps)) ?_
      rintro _ hx ⟨rfl, hK⟩
      have hS0 : St _ _ _ := St.trans hS (St.ofK hK)
      clear hS
      have hS := hS0
      clear hS0
      simp only [List.nil_append] at hS
      refine KOps.pickT ?_
      refine KOps.assign ?_
      refine KOps.done ?_
      refine sqQ.normal ?_
      refine KA.sub (Sub.cons (t := 4) Look.eq (Sub.nil _)) ?_
      refine KA.ret ?_
      refine sqQ.ret ?_
      refine fnQ.ret1 ?_
      exact rfl
    · intro c62
      have hSE : shortE (wd (wordN x m)) = 0 := by rw [shortE_wd (by omega), if_neg (fun e => by rw [e] at hwl; simp at hwl; omega)]
      have hSS := shortS_wd hSE
      have hSL := shortW_starts (wordN x m)
      have hSA := shortW_asc (wordN x m)
      refine KA.skip ?_
      refine sqQ.normal ?_
      refine KA.sub (Sub.cons (t := 6) Look.eq (Sub.cons (t := 7) Look.eq (Sub.cons (t := 9) Look.eq (Sub.cons (t := 12) Look.eq (Sub.cons (t := 13) Look.eq (Sub.nil _)))))) ?_
      refine KA.seq ?_
      refine KA.region rfl ?_
      rw [hSS] at hS
      refine KOps.move ?_
      refine KOps.eqlY hSE ?_
      refine KOps.move ?_
      refine KOps.guardYes (dj := 75) rfl rfl ?_
      refine KOps.move ?_
      refine KOps.guardYes (dj := 75) rfl rfl ?_
      refine KOps.move ?_
      refine KOps.guardYes (dj := 75) rfl rfl ?_
      refine KOps.move ?_
      refine KOps.guardYes (dj := 75) rfl rfl ?_
      refine KOps.call rfl (shorts_c (by omega)) ?_
      rintro v79 h79 ⟨P79, hv79, hnd79, hm79, hS79⟩
      have hS0 : St _ _ (_ :: _) := St.trans hS hS79
      clear hS
      have hS := hS0
      clear hS0
      refine KOps.guardYes (dj := 75) rfl rfl ?_
      refine KOps.move ?_
      refine KOps.guardYes (dj := 75) rfl rfl ?_
      refine KOps.call rfl (all_c (l := shortW (wordN x m)) (P := P79) (hS.rd 1 rfl) (St.rdM hS 0 rfl hv79) (fun y hy => (hm79 y).2 (mem_shortW.1 hy)) hSA (nodup_len hSA.nodup hnd79 (fun y => mem_shortW.trans (hm79 y).symm)) (by rw [hSL, hwl, him]) (by rw [him] at hsl; rw [hSL, hwl]; omega)) ?_
      rintro _ _ ⟨rfl, rfl⟩
      refine KOps.pickT ?_
      refine KOps.move ?_
      refine KOps.guardYes (dj := 83) rfl rfl ?_
      refine KOps.call rfl (works_c (hTab.ext hS.keeps)) ?_
      rintro _ hx ⟨rfl, hK⟩
      have hS0 : St _ _ _ := St.trans hS (St.ofK hK)
      clear hS
      have hS := hS0
      clear hS0
      simp only [List.nil_append] at hS
      refine KOps.pickT ?_
      refine KOps.assign ?_
      refine KOps.done ?_
      refine sqQ.normal ?_
      refine KA.sub (Sub.cons (t := 4) Look.eq (Sub.nil _)) ?_
      refine KA.ret ?_
      refine fnQ.ret1 ?_
      exact rfl

theorem wf_u16 {a : Int} (h : (Lit.int .u16 a).wf = true) : 0 ≤ a ∧ a ≤ 65535 := by
  simp [Lit.wf, IntKind.min, IntKind.max, IntKind.signed, IntKind.bits] at h
  omega
theorem law_reads_i {h : AHeap} {x n : Int} (hTab : Tab h) (h0 : 0 ≤ x) (h1 : x ≤ 65535) (h2 : 0 ≤ n) (h3 : n ≤ 255) : ACalls Go.Proofs.Tryd.prog 7 [.int .u16 x, .int .u8 n] h (fun r _ => r = .bool true) := by
  obtain ⟨a, rfl⟩ : ∃ a : Nat, x = (a : Int) := ⟨x.toNat, by omega⟩
  obtain ⟨b, rfl⟩ : ∃ b : Nat, n = (b : Int) := ⟨n.toNat, by omega⟩
  exact law_reads hTab (by omega) (by omega)
end Go.Am
