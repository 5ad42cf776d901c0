/-
  Layer 08: sets of words as maps; words by numbers.
  Conditions: none.
-/
import Derived.Test.YtfoiccnlcheklaaDoorCl
import Derived.Test.YtfoiccnlcheklaaDoorCa
namespace Go.Am
theorem nodup_le {α : Type} [DecidableEq α] : ∀ {l m : List α}, l.Nodup → (∀ x ∈ l, x ∈ m) → l.length ≤ m.length := by
  intro l
  induction l with
  | nil => intro m _ _; exact Nat.zero_le _
  | cons a l ih =>
    intro m hn hs
    have hn' := List.nodup_cons.1 hn
    have ha := hs a (by simp)
    have h1 := ih (m := m.erase a) hn'.2 (fun x hx => (List.mem_erase_of_ne (by rintro rfl; exact hn'.1 hx)).2 (hs x (by simp [hx])))
    rw [List.length_erase_of_mem ha] at h1
    have := List.length_pos_of_mem ha
    rw [List.length_cons]
    omega
def wordN (x n : Nat) : List Bool := (List.range n).map x.testBit
theorem wordN_len (x n : Nat) : (wordN x n).length = n := by rw [wordN, List.length_map, List.length_range]
theorem wordN_succ (x n : Nat) : wordN x (n + 1) = wordN x n ++ [x.testBit n] := by rw [wordN, wordN, List.range_succ, List.map_append]; rfl
theorem and16 {y : Nat} (hy : y < 65536) : Go.bits .and .u16 (y : Int) 1 = ((y % 2 : Nat) : Int) := by
  have h0 : ∀ z : Nat, z < 65536 → (BitVec.ofInt 16 (z : Int)).toNat = z := fun z hz => by
    rw [BitVec.ofInt_natCast, BitVec.toNat_ofNat]
    exact Nat.mod_eq_of_lt hz
  have h1 : (BitVec.ofInt 16 (y : Int) &&& BitVec.ofInt 16 ((1 : Nat) : Int)).toNat = y % 2 := by rw [BitVec.toNat_and, h0 y hy, h0 1 (by decide), Nat.and_one_is_mod]
  show IntKind.u16.wrap (((BitVec.ofInt 16 (y : Int) &&& BitVec.ofInt 16 ((1 : Nat) : Int)).toNat : Nat) : Int) = _
  rw [h1]
  exact wrapU16 (by omega) (by omega)
theorem bit_mod (x i : Nat) : (([false, true].drop (x >>> i % 2)).take 1) = [x.testBit i] := by
  have h : x.testBit i = decide (x >>> i % 2 = 1) := by
    rw [Nat.testBit, Nat.one_and_eq_mod_two]
    rcases Nat.mod_two_eq_zero_or_one (x >>> i) with e | e <;> rw [e] <;> rfl
  rw [h]
  rcases Nat.mod_two_eq_zero_or_one (x >>> i) with e | e <;> rw [e] <;> rfl
/-! Sets. -/
abbrev kw (w : List Bool) : AV := .str (wd w)
instance kyW : KeyT Go.Proofs.Tryd.prog 9 kw := ⟨fun a => (KeyT.str (P := Go.Proofs.Tryd.prog) (kt := 9) (by kernel_rfl)).ok (wd a), fun a b => by
  have h := (KeyT.str (P := Go.Proofs.Tryd.prog) (kt := 9) (by kernel_rfl)).eq (wd a) (wd b)
  show akeq _ _ (AV.str (wd a)) (AV.str (wd b)) = _
  rw [h]
  exact congrArg some (decide_eq_decide.2 ⟨wd_inj, fun e => by rw [e]⟩)⟩
abbrev setL (P : List (List Bool)) : List (List Bool × Bool) := P.map fun x => (x, true)
abbrev setE (P : List (List Bool)) : List (AV × AV) := entL kw AV.bool (setL P)
abbrev setO (v : AV) (P : List (List Bool)) : Obj := mapO v (setE P)
def addW (P : List (List Bool)) (a : List Bool) : List (List Bool) := if a ∈ P then P else P ++ [a]
theorem mem_addW {P : List (List Bool)} {a x : List Bool} : x ∈ addW P a ↔ x ∈ P ∨ x = a := by
  unfold addW
  by_cases h : a ∈ P
  · rw [if_pos h]; exact ⟨.inl, fun q => q.elim id fun e => e ▸ h⟩
  · rw [if_neg h, List.mem_append, List.mem_singleton]
theorem addW_nodup {P : List (List Bool)} {a : List Bool} (h : P.Nodup) : (addW P a).Nodup := by
  unfold addW
  by_cases ha : a ∈ P
  · rw [if_pos ha]; exact h
  · rw [if_neg ha]
    refine List.nodup_append.2 ⟨h, by simp, ?_⟩
    rintro x hx y hy rfl
    exact ha (List.mem_singleton.1 hy ▸ hx)
theorem mput_same {P : List (List Bool)} {a : List Bool} (h : a ∈ P) : mput (setL P) a true = setL P := by
  induction P with
  | nil => cases h
  | cons p P ih =>
    simp only [setL, List.map_cons, mput]
    by_cases he : a = p
    · rw [if_pos he, he]
    · rw [if_neg he]
      rcases List.mem_cons.1 h with e | e
      · exact absurd e he
      · rw [show mput (P.map fun x => (x, true)) a true = P.map fun x => (x, true) from ih e]
theorem mput_add (P : List (List Bool)) (a : List Bool) : mput (setL P) a true = setL (addW P a) := by
  unfold addW
  by_cases h : a ∈ P
  · rw [if_pos h, mput_same h]
  · rw [if_neg h]; exact mput_set h
theorem mget_W (P : List (List Bool)) (a : List Bool) : (mget (setL P) a).getD false = decide (a ∈ P) := by
  rw [mget_set]
  by_cases h : a ∈ P
  · rw [if_pos h, decide_eq_true h]; rfl
  · rw [if_neg h, decide_eq_false h]; rfl
section
variable {P : Program} {n : Nat} {ops : Array Oper} {ex : List Nat} {Q : KF → AHeap → Prop} {k : Nat} {os : List Oper} {K : KF} {h h0 : AHeap} {d : Nat} {ty : TypeId} {pos : String} {after : Array Edge} {objs : List Obj}
theorem KOps.setPut {t kt : TypeId} {z : AV} {p : List (List Bool)} {v : AV} {x ix y : Operand} {a : List Bool} {i : Nat} [hx : EvK h.globs n K x v] [hi : EvK h.globs n K ix (.str (wd a))] [hy : EvK h.globs n K y (.bool true)] [ht : MpT P t kt z] [hkt : KeyT P kt kw]
    (st : St h0 h objs) (hv : IsMp v) (hk' : objs[i]? = some (setO v p)) (hex : ex.contains k = false)
    (hk : ∀ h', St h0 h' (objs.set i (setO v (addW p a))) → KOps P n ops ex Q (k + 1) os K h') : KOps P n ops ex Q k (⟨none, .mapUpdate t x ix y, ty, pos, after, none⟩ :: os) K h := by
  refine KOps.mapPutK (kf := kw) (vf := AV.bool) (l := setL p) (a := a) (b := true) (u := .bool true) hi.eq rfl st hv hk' hex fun h' hS => hk h' ?_
  rw [mput_add] at hS
  exact hS
end
end Go.Am

namespace Go.Am
theorem word_c {h : AHeap} {x n : Nat} (hx : x < 65536) (hn : n ≤ 12) : ACalls Go.Proofs.Tryd.prog 37 [.int .u16 (x : Int), .int .i64 (n : Int)] h (fun q h' => q = .str (wd (wordN x n)) ∧ h = h') := by
  refine KA.fn 21 [.tmp 4] Go.Proofs.Tryd.func37 rfl (by decide) rfl rfl (Nat.le_of_ble_eq_true rfl) ?_
  show KA _ 21 _ _ [(0, .int .u16 (x : Int)), (1, .int .i64 (n : Int))] _
  refine KA.seq ?_
  refine KA.region rfl ?_
  refine KOps.assign ?_
  refine KOps.done ?_
  refine sqQ.normal ?_
  refine KA.sub (Sub.cons (t := 0) Look.eq (Sub.cons (t := 1) Look.eq (Sub.nil _))) ?_
  refine KA.seq ?_
  refine KA.region rfl ?_
  refine KOps.assign ?_
  refine KOps.done ?_
  refine sqQ.normal ?_
  refine KA.seq ?_
  refine KA.seq ?_
  refine KA.region rfl ?_
  refine KOps.move ?_
  refine KOps.move ?_
  refine KOps.done ?_
  refine sqQ.normal ?_
  refine KA.sub (Sub.cons (t := 0) Look.eq (Sub.cons (t := 5) Look.eq (Sub.cons (t := 7) Look.eq (Sub.cons (t := 8) Look.eq (Sub.nil _))))) ?_
  refine KA.block ?_
  refine KA.loop (X := Nat) (fun i => [(0, .int .u16 (x : Int)), (5, .str (wd (wordN x i))), (7, .int .i64 (n : Int)), (8, .int .i64 (i : Int))]) (fun i h' => i ≤ n ∧ h = h') (fun i => n - i) 0 (by repeat (first | exact Sub.nil _ | refine Sub.cons Look.eq ?_ | refine Sub.cons (Eq.trans Look.eq (congrArg (AV.int _) (by first | omega | (dsimp only; omega)))) ?_)) ?_ ?_
  · exact ⟨Nat.zero_le _, rfl⟩
  rintro i h2 ⟨hi, rfl⟩
  refine KA.seq ?_
  refine KA.region rfl ?_
  refine KOps.lss ?_
  refine KOps.done ?_
  refine sqQ.normal ?_
  refine KA.seq ?_
  refine KA.condD ?_ ?_
  · intro c9
    refine KA.skip ?_
    refine sqQ.normal ?_
    refine KA.sub (Sub.cons (t := 0) Look.eq (Sub.cons (t := 5) Look.eq (Sub.cons (t := 7) Look.eq (Sub.cons (t := 8) Look.eq (Sub.nil _))))) ?_
    refine KA.seq ?_
    refine KA.block ?_
    refine KA.seq ?_
    refine KA.region rfl ?_
    refine KOps.move ?_
    refine KOps.assign ?_
    refine KOps.done ?_
    refine sqQ.normal ?_
    refine KA.sub (Sub.cons (t := 0) Look.eq (Sub.cons (t := 5) Look.eq (Sub.cons (t := 6) Look.eq (Sub.cons (t := 7) Look.eq (Sub.cons (t := 8) Look.eq (Sub.nil _)))))) ?_
    refine KA.region rfl ?_
    have hwl := wordN_len x i
    have hsh : x >>> i < 65536 := by
      rw [Nat.shiftRight_eq_div_pow]
      exact Nat.lt_of_le_of_lt (Nat.div_le_self ..) hx
    refine KOps.move ?_
    refine KOps.move ?_
    refine KOps.move ?_
    refine KOps.shr (by omega) ?_
    rw [shrU x i .u16 (show i ≤ 16 by omega)]
    refine KOps.bits (by simp) ?_
    rw [and16 hsh]
    refine KOps.wLo (l := [false, true]) (j := x >>> i % 2) rfl (by simp only [List.length_cons, List.length_nil]; omega) ?_
    refine KOps.wHi (j := 1) rfl (by rw [List.length_drop]; simp only [List.length_cons, List.length_nil]; omega) ?_
    rw [bit_mod]
    refine KOps.wAdd (by simp only [List.length_cons, List.length_nil]; omega) ?_
    refine KOps.assign ?_
    refine KOps.done ?_
    refine blQ.normal ?_
    refine sqQ.normal ?_
    refine KA.sub (Sub.cons (t := 0) Look.eq (Sub.cons (t := 5) Look.eq (Sub.cons (t := 7) Look.eq (Sub.cons (t := 8) Look.eq (Sub.nil _))))) ?_
    refine KA.region rfl ?_
    refine KOps.add (by first | omega | (simp; omega)) (by first | omega | (simp; omega)) ?_
    refine KOps.move ?_
    refine KOps.done ?_
    exact lpQ.normal (i + 1) (by repeat (first | exact Sub.nil _ | refine Sub.cons Look.eq ?_ | refine Sub.cons (Eq.trans Look.eq (congrArg (AV.int _) (by first | omega | (dsimp only; omega)))) ?_ | refine Sub.cons (Eq.trans Look.eq (congrArg (fun w => AV.str (wd w)) (wordN_succ x i).symm)) ?_)) ⟨by omega, rfl⟩ (by omega)
  · intro c9
    refine KA.exit ?_
    refine sqQ.exit ?_
    refine lpQ.exit ?_
    refine blQ.here ?_
    refine sqQ.normal ?_
    refine KA.sub (Sub.cons (t := 5) Look.eq (Sub.nil _)) ?_
    refine KA.seq ?_
    refine KA.region rfl ?_
    refine KOps.move ?_
    refine KOps.assign ?_
    refine KOps.done ?_
    refine sqQ.normal ?_
    refine KA.sub (Sub.cons (t := 4) Look.eq (Sub.nil _)) ?_
    refine KA.ret ?_
    refine fnQ.ret1 ?_
    have he : i = n := by omega
    subst he
    exact ⟨rfl, rfl⟩

theorem shorts_c {h : AHeap} {l : List Bool} (hl : l.length ≤ 12) : ACalls Go.Proofs.Tryd.prog 40 [.str (wd l)] h (fun v h' => ∃ P, IsMp v ∧ P.Nodup ∧ (∀ x, x ∈ P ↔ isDel l x = true) ∧ St h h' [setO v P]) := by
  refine KA.fn 22 [.tmp 2] Go.Proofs.Tryd.func40 rfl (by decide) rfl rfl (Nat.le_of_ble_eq_true rfl) ?_
  have hS := St.refl h
  show KA _ 22 _ _ [(0, .str (wd l))] _
  refine KA.seq ?_
  refine KA.region rfl ?_
  refine KOps.assign ?_
  refine KOps.done ?_
  refine sqQ.normal ?_
  refine KA.sub (Sub.cons (t := 0) Look.eq (Sub.nil _)) ?_
  refine KA.seq ?_
  refine KA.region rfl ?_
  refine KOps.makeMap hS rfl ?_
  intro v5 h' hv5 hS
  refine KOps.assign ?_
  refine KOps.done ?_
  refine sqQ.normal ?_
  refine KA.sub (Sub.cons (t := 0) Look.eq (Sub.cons (t := 3) Look.eq (Sub.nil _))) ?_
  refine KA.seq ?_
  refine KA.seq ?_
  refine KA.region rfl ?_
  refine KOps.move ?_
  refine KOps.lenW ?_
  refine KOps.move ?_
  refine KOps.done ?_
  refine sqQ.normal ?_
  refine KA.sub (Sub.cons (t := 0) Look.eq (Sub.cons (t := 3) Look.eq (Sub.cons (t := 7) Look.eq (Sub.cons (t := 8) Look.eq (Sub.nil _))))) ?_
  refine KA.block ?_
  refine KA.loop (X := Nat × List (List Bool)) (fun x => [(0, .str (wd l)), (3, v5), (7, .int .i64 (l.length : Int)), (8, .int .i64 (x.1 : Int))]) (fun x h' => x.1 ≤ l.length ∧ x.2.Nodup ∧ (∀ y, y ∈ x.2 ↔ ∃ j, j < x.1 ∧ l.eraseIdx j = y) ∧ St h h' [setO v5 x.2]) (fun x => l.length - x.1) (0, []) (by repeat (first | exact Sub.nil _ | refine Sub.cons Look.eq ?_ | refine Sub.cons (Eq.trans Look.eq (congrArg (AV.int _) (by first | omega | (dsimp only; omega)))) ?_)) ?_ ?_
  · exact ⟨Nat.zero_le _, List.nodup_nil, fun y => ⟨fun q => (by cases q), fun ⟨j, hj, _⟩ => absurd hj (Nat.not_lt_zero _)⟩, hS⟩
  rintro ⟨i, P⟩ h2 ⟨hi, hnd, hm, hS⟩
  dsimp only at hi hnd hm hS ⊢
  refine KA.seq ?_
  refine KA.region rfl ?_
  refine KOps.lss ?_
  refine KOps.done ?_
  refine sqQ.normal ?_
  refine KA.seq ?_
  refine KA.condD ?_ ?_
  · intro c9
    refine KA.skip ?_
    refine sqQ.normal ?_
    refine KA.sub (Sub.cons (t := 0) Look.eq (Sub.cons (t := 3) Look.eq (Sub.cons (t := 7) Look.eq (Sub.cons (t := 8) Look.eq (Sub.nil _))))) ?_
    refine KA.seq ?_
    refine KA.block ?_
    refine KA.seq ?_
    refine KA.region rfl ?_
    refine KOps.move ?_
    refine KOps.assign ?_
    refine KOps.done ?_
    refine sqQ.normal ?_
    refine KA.sub (Sub.cons (t := 0) Look.eq (Sub.cons (t := 3) Look.eq (Sub.cons (t := 4) Look.eq (Sub.cons (t := 7) Look.eq (Sub.cons (t := 8) Look.eq (Sub.nil _)))))) ?_
    refine KA.draw [] mixed rfl (by kernel_rfl) ?_
    refine KOps.move ?_
    refine KOps.move ?_
    refine KOps.move ?_
    refine KOps.wHi (j := i) rfl (by first | omega | (simp; done) | (simp; omega)) ?_
    refine KOps.move ?_
    refine KOps.move ?_
    refine KOps.add (by first | omega | (simp; omega)) (by first | omega | (simp; omega)) ?_
    refine KOps.wLo (j := i + 1) (by first | omega | (simp; omega)) (by first | omega | (simp; done) | (simp; omega)) ?_
    refine KOps.wAdd (by simp only [List.length_append, List.length_take, List.length_drop, List.length_cons, List.length_nil]; omega) ?_
    refine KOps.setPut hS hv5 (i := 0) rfl rfl ?_
    intro h' hS
    simp only [List.set_cons_zero, List.set_cons_succ, Nat.zero_add] at hS
    refine KOps.done ?_
    refine blQ.normal ?_
    refine sqQ.normal ?_
    refine KA.sub (Sub.cons (t := 0) Look.eq (Sub.cons (t := 3) Look.eq (Sub.cons (t := 7) Look.eq (Sub.cons (t := 8) Look.eq (Sub.nil _))))) ?_
    refine KA.region rfl ?_
    refine KOps.add (by first | omega | (simp; omega)) (by first | omega | (simp; omega)) ?_
    refine KOps.move ?_
    refine KOps.done ?_
    refine lpQ.normal (i + 1, _) (by repeat (first | exact Sub.nil _ | refine Sub.cons Look.eq ?_ | refine Sub.cons (Eq.trans Look.eq (congrArg (AV.int _) (by first | omega | (dsimp only; omega)))) ?_)) ⟨by dsimp only; omega, addW_nodup hnd, fun y => ?_, hS⟩ (by dsimp only; omega)
    refine mem_addW.trans ?_
    rw [hm y, ← erase_take]
    constructor
    · rintro (⟨j, hj, he⟩ | rfl)
      · exact ⟨j, by dsimp only; omega, he⟩
      · exact ⟨i, by dsimp only; omega, rfl⟩
    · rintro ⟨j, hj, he⟩
      rcases Nat.lt_succ_iff_lt_or_eq.1 hj with h | rfl
      · exact .inl ⟨j, h, he⟩
      · exact .inr he.symm
  · intro c9
    refine KA.exit ?_
    refine sqQ.exit ?_
    refine lpQ.exit ?_
    refine blQ.here ?_
    refine sqQ.normal ?_
    refine KA.sub (Sub.cons (t := 3) Look.eq (Sub.nil _)) ?_
    refine KA.seq ?_
    refine KA.region rfl ?_
    refine KOps.move ?_
    refine KOps.assign ?_
    refine KOps.done ?_
    refine sqQ.normal ?_
    refine KA.sub (Sub.cons (t := 2) Look.eq (Sub.nil _)) ?_
    refine KA.ret ?_
    refine fnQ.ret1 ?_
    have he : i = l.length := by omega
    subst he
    exact ⟨P, hv5, hnd, fun x => (hm x).trans isDel_iff.symm, hS⟩

theorem wf_u16 {a : Int} (h : (Lit.int .u16 a).wf = true) : 0 ≤ a ∧ a ≤ 65535 := by
  simp [Lit.wf, IntKind.min, IntKind.max, IntKind.signed, IntKind.bits] at h
  omega
end Go.Am

namespace Go.Am
theorem least {P : Nat → Prop} (h : ∃ n, P n) : ∃ n, P n ∧ ∀ m, m < n → ¬ P m := by
  obtain ⟨n, hn⟩ := h
  induction n using Nat.strongRecOn with
  | _ n ih =>
    by_cases hx : ∃ m, m < n ∧ P m
    · obtain ⟨m, hm, hp⟩ := hx
      exact ih m hm hp
    · exact ⟨n, hn, fun m hm hp => hx ⟨m, hm, hp⟩⟩
end Go.Am

namespace Go.Am
theorem anyS_words {l : List (List Bool)} {w : List Bool} : anyS (l.map wd) (wd w) = decide (w ∈ l) := by
  by_cases h : w ∈ l
  · rw [decide_eq_true h, anyS_iff]; exact List.mem_map_of_mem h
  · rw [decide_eq_false h]
    cases hq : anyS (l.map wd) (wd w) with
    | false => rfl
    | true =>
      obtain ⟨y, hy, he⟩ := List.mem_map.1 (anyS_iff.1 hq)
      exact absurd (wd_inj he ▸ hy) h

set_option synthInstance.maxSize 4000
set_option synthInstance.maxHeartbeats 2000000

end Go.Am

namespace Go.Am
open Go.RowKit
def Fr (φ : Emb) (h : AHeap) : Prop := ∀ b, h.next ≤ b → φ b = none
theorem Fr.fresh {φ : Emb} {h h' : AHeap} (hf : Fr φ h) : Fresh φ h h' := fun b h1 _ => hf b h1
theorem Fr.right {φ φ' : Emb} {h h' : AHeap} {w w' : World} (hf : Fr φ h) (g : HGrow h h') (t : Trans φ h w φ' h' w') : Fr φ' h' := by
  intro b hb
  cases hq : φ' b with
  | none => rfl
  | some p =>
    have := (t.new b p (hf b (Nat.le_trans g.next hb)) hq).2
    omega
/-- Whichever way it goes, at its end Q holds. -/
def NW (P : Program) (c : Code) (Q : Ex → List AV → AHeap → Prop) (fr : List AV) (h : AHeap) : Prop :=
  ∀ (φ : Emb) (a : Act) (w : World), Fr φ h → Sim φ fr h a w → c.wp P (fun e' a' w' => ∃ e fr' h' φ', e' = e.toExit ∧ HGrow h h' ∧ Trans φ h w φ' h' w' ∧ Sim φ' fr' h' a' w' ∧ Q e fr' h') a w
theorem NW.of {P : Program} {c : Code} {Q : Ex → List AV → AHeap → Prop} {fr : List AV} {h : AHeap} (hw : AW P c Q fr h) : NW P c Q fr h := by
  obtain ⟨e, fr', h', ⟨g, hx⟩, q⟩ := hw
  intro φ a w hf s
  refine wp_mono (hx φ a w hf.fresh s) ?_
  rintro e' a' w' ⟨rfl, φ', t, s'⟩
  exact ⟨e, fr', h', φ', rfl, g, t, s', q⟩
theorem NW.mono {P : Program} {c : Code} {Q Q' : Ex → List AV → AHeap → Prop} {fr : List AV} {h : AHeap} (hw : NW P c Q fr h) (hq : ∀ e fr h, Q e fr h → Q' e fr h) : NW P c Q' fr h := by
  intro φ a w hf s
  refine wp_mono (hw φ a w hf s) ?_
  rintro e' a' w' ⟨e, fr', h', φ', h1, h2, h3, h4, q⟩
  exact ⟨e, fr', h', φ', h1, h2, h3, h4, hq _ _ _ q⟩
theorem NW.seq {P : Program} {c d : Code} {Q : Ex → List AV → AHeap → Prop} {fr : List AV} {h : AHeap} (hw : NW P c (fun e fr h => match e with | .normal => NW P d Q fr h | e => Q e fr h) fr h) : NW P (.seq c d) Q fr h := by
  intro φ a w hf s
  refine wp_seq (wp_mono (hw φ a w hf s) ?_)
  rintro e' a' w' ⟨e, fr1, h1, φ1, rfl, g1, t1, s1, q⟩
  cases e with
  | normal =>
    show d.wp P _ a' w'
    refine wp_mono (q φ1 a' w' (hf.right g1 t1) s1) ?_
    rintro e'' a'' w'' ⟨e2, fr2, h2, φ2, rfl, g2, t2, s2, q2⟩
    exact ⟨e2, fr2, h2, φ2, rfl, g1.trans g2, t1.trans hf.fresh g1 g2 t2, s2, q2⟩
  | ret => exact ⟨.ret, fr1, h1, φ1, rfl, g1, t1, s1, q⟩
  | exit id => exact ⟨.exit id, fr1, h1, φ1, rfl, g1, t1, s1, q⟩
theorem NW.cond {P : Program} {c : Operand} {x y : Code} {Q : Ex → List AV → AHeap → Prop} {fr : List AV} {h : AHeap} {t : Bool} (hc : evalA h.globs fr c = .bool t) (hw : NW P (if t then x else y) Q fr h) : NW P (.cond c x y) Q fr h := by
  intro φ a w hf s
  have hv := evalA_rel s.heap s.fr c
  rw [hc] at hv
  generalize hcv : a.eval c = cv at hv
  cases hv
  exact wp_cond hcv (hw φ a w hf s)
theorem NW.block {P : Program} {id : Nat} {c : Code} {Q : Ex → List AV → AHeap → Prop} {fr : List AV} {h : AHeap} (hw : NW P c (fun e fr h => if e = .exit id then Q .normal fr h else Q e fr h) fr h) : NW P (.block id c) Q fr h := by
  intro φ a w hf s
  refine wp_block (wp_mono (hw φ a w hf s) ?_)
  rintro e' a' w' ⟨e, fr1, h1, φ1, rfl, g1, t1, s1, q⟩
  by_cases he : e = .exit id
  · subst he
    rw [if_pos rfl] at q
    simp only [Ex.toExit, Exit.inBlock, if_true]
    exact ⟨.normal, fr1, h1, φ1, rfl, g1, t1, s1, q⟩
  · rw [if_neg he] at q
    cases e with
    | normal => exact ⟨.normal, fr1, h1, φ1, rfl, g1, t1, s1, q⟩
    | ret => exact ⟨.ret, fr1, h1, φ1, rfl, g1, t1, s1, q⟩
    | exit id' =>
      have : id' ≠ id := fun h => he (by rw [h])
      simp only [Ex.toExit, Exit.inBlock, if_neg this]
      exact ⟨.exit id', fr1, h1, φ1, rfl, g1, t1, s1, q⟩
theorem NW.loop {P : Program} {c : Code} {Q : Ex → List AV → AHeap → Prop} (I : Nat → List AV → AHeap → Prop)
    (round : ∀ n fr h, I n fr h → NW P c (fun e fr' h' => match e with | .normal => ∃ m, m < n ∧ I m fr' h' | e => Q e fr' h') fr h) :
    ∀ n fr h, I n fr h → NW P (.loop c) Q fr h := by
  have key : ∀ N n fr h, n < N → I n fr h → ∀ (φ : Emb) (a : Act) (w : World), Fr φ h → Sim φ fr h a w →
      Code.rounds P c (fun e' a' w' => ∃ e fr' h' φ', e' = e.toExit ∧ HGrow h h' ∧ Trans φ h w φ' h' w' ∧ Sim φ' fr' h' a' w' ∧ Q e fr' h') N a w := by
    intro N
    induction N with
    | zero => intro n fr h hn; exact absurd hn (Nat.not_lt_zero _)
    | succ N ih =>
      intro n fr h hn hI φ a w hf s
      rw [rounds_succ]
      refine wp_mono (round n fr h hI φ a w hf s) ?_
      rintro e' a' w' ⟨e, fr1, h1, φ1, rfl, g1, t1, s1, q⟩
      cases e with
      | normal =>
        obtain ⟨m, hm, hIm⟩ := q
        show Code.rounds P c _ N a' w'
        refine rounds_mono ?_ N a' w' (ih m fr1 h1 (by omega) hIm φ1 a' w' (hf.right g1 t1) s1)
        rintro e'' a'' w'' ⟨e2, fr2, h2, φ2, rfl, g2, t2, s2, q2⟩
        exact ⟨e2, fr2, h2, φ2, rfl, g1.trans g2, t1.trans hf.fresh g1 g2 t2, s2, q2⟩
      | ret => exact ⟨.ret, fr1, h1, φ1, rfl, g1, t1, s1, q⟩
      | exit id => exact ⟨.exit id, fr1, h1, φ1, rfl, g1, t1, s1, q⟩
  intro n fr h hI φ a w hf s
  exact wp_loop_rounds (n + 1) (key (n + 1) n fr h (Nat.lt_succ_self n) hI φ a w hf s)
theorem NW.sub {P : Program} {c : Code} {Q : Ex → List AV → AHeap → Prop} {n : Nat} {K K' : KF} {h : AHeap} (hs : Sub K' K) (hw : NW P c Q (toFr n K') h) : NW P c Q (toFr n K) h :=
  fun φ a w hf s => hw φ a w hf ⟨s.heap, s.fr.sub hs⟩
/-- A region whose first operation asks for the next entry of a map: whichever comes. -/
theorem NW.regionNext {P : Program} {id : Nat} {ops : Array Oper} {onx : Oper} {os1 : List Oper} {x : Operand} {b F bm Fm : Nat} {es : List (AV × AV)} {D : List Nat} {Q : Ex → List AV → AHeap → Prop} {fr : List AV} {h : AHeap}
    (hl : ops.toList = onx :: os1) (ho : onx.op = .next x false) (hgd : onx.guard = none) (hD : OkD es.length D)
    (hx : evalA h.globs fr x = .it b) (hI : h.get b = some (.obj F (.mwalk bm es.length D))) (hM : h.get bm = some (.obj Fm (.map es)))
    (more : ∀ j k v, j ∉ D → es[j]? = some (k, v) → AOps P ops TXT (Q .normal) 1 os1 (setF fr onx.dst (.tup [.bool true, k, v])) (h.set b (.obj F (.mwalk bm es.length (D ++ [j])))))
    (over : (∀ j, j < es.length → j ∈ D) → AOps P ops TXT (Q .normal) 1 os1 (setF fr onx.dst (.tup [.bool false])) h) : NW P (.region id ops false) Q fr h := by
  by_cases hfull : ∀ j, j < es.length → j ∈ D
  · refine NW.of (AW.region (ex := TXT) hl ?_)
    unfold AOps
    simp only [hgd]
    exact ⟨_, _, .inr ⟨trivial, mnext_over ho hx hI hM hfull⟩, fun hc => absurd hc (by decide), over hfull⟩
  · obtain ⟨j0, hj0, hj1⟩ : ∃ j, j < es.length ∧ j ∉ D := Classical.byContradiction fun hn => hfull fun j hj => Classical.byContradiction fun hm => hn ⟨j, hj, hm⟩
    have ho0 : ops[0]? = some onx := by rw [← Array.getElem?_toList, hl]; rfl
    have hrest : ∀ i, os1[i]? = ops[1 + i]? := by intro i; rw [← Array.getElem?_toList, hl, Nat.add_comm]; rfl
    have hsz : ops.size = os1.length + 1 := by rw [← Array.length_toList, hl]; rfl
    intro φ a w hf s
    refine wp_region ?_
    rw [List.range_eq_range', hsz, List.range'_succ]
    simp only [wpOps, ho0, Region.wanted, hgd, if_true]
    refine .inl (mnext_more ho hI hM hj0 hj1 s.heap (by rw [← hx]; exact evalA_rel s.heap s.fr x) ?_)
    intro j kk v hj2 hj3 c w1 t1 r1' hc
    have g0 : HGrow h (h.set b (.obj F (.mwalk bm es.length (D ++ [j])))) := HGrow.setT hI
    obtain ⟨fr1, h1, hq, g1, hrun⟩ := aops_run os1 1 _ _ hrest (more j kk v hj2 hj3)
    have f1 : Fr φ (h.set b (.obj F (.mwalk bm es.length (D ++ [j])))) := hf.right g0 t1
    refine hrun φ _ w1 _ f1.fresh ⟨r1', (s.fr).put onx.dst hc⟩ ?_
    intro φ2 a2 w2 t2 s2
    exact ⟨.normal, fr1, h1, φ2, rfl, g0.trans g1, t1.trans hf.fresh g0 g1 t2, s2, hq⟩
/-! Over frames of which some slots are known. -/
def NA (P : Program) (n : Nat) (c : Code) (Q : Ex → KF → AHeap → Prop) (K : KF) (h : AHeap) : Prop := NW P c (fun e fr h => ∃ K', fr = toFr n K' ∧ Q e K' h) (toFr n K) h
def sqN (P : Program) (n : Nat) (d : Code) (Q : Ex → KF → AHeap → Prop) (e : Ex) (K : KF) (h : AHeap) : Prop := match e with | .normal => NA P n d Q K h | e => Q e K h
theorem NA.mono {P : Program} {n : Nat} {c : Code} {Q Q' : Ex → KF → AHeap → Prop} {K : KF} {h : AHeap} (hw : NA P n c Q K h) (hq : ∀ e K h, Q e K h → Q' e K h) : NA P n c Q' K h :=
  NW.mono hw fun e _ h ⟨K, hf, q⟩ => ⟨K, hf, hq e K h q⟩
theorem NA.sub {P : Program} {n : Nat} {c : Code} {Q : Ex → KF → AHeap → Prop} {K K' : KF} {h : AHeap} (hs : Sub K' K) (hw : NA P n c Q K' h) : NA P n c Q K h := NW.sub hs hw
section
variable {P : Program} {n : Nat} {Q : Ex → KF → AHeap → Prop} {K : KF} {h : AHeap}
theorem NA.of {c : Code} (hw : KA P n c Q K h) : NA P n c Q K h := NW.of hw
theorem NA.skip (hq : Q .normal K h) : NA P n .skip Q K h := NA.of (KA.skip hq)
theorem NA.label {l : Nat} (hq : Q .normal K h) : NA P n (.label l) Q K h := NA.of (KA.label hq)
theorem NA.ret (hq : Q .ret K h) : NA P n .ret Q K h := NA.of (KA.ret hq)
theorem NA.exit {id : Nat} (hq : Q (.exit id) K h) : NA P n (.exit id) Q K h := NA.of (KA.exit hq)
theorem NA.seq {c d : Code} (hw : NA P n c (sqN P n d Q) K h) : NA P n (.seq c d) Q K h := by
  refine NW.seq (NW.mono hw ?_)
  rintro e fr h ⟨K, rfl, q⟩
  cases e with
  | normal => exact q
  | ret => exact ⟨K, rfl, q⟩
  | exit id => exact ⟨K, rfl, q⟩
theorem NA.block {id : Nat} {c : Code} (hw : NA P n c (blQ id Q) K h) : NA P n (.block id c) Q K h := by
  refine NW.block (NW.mono hw ?_)
  rintro e fr h ⟨K, rfl, q⟩
  unfold blQ at q
  split
  · rename_i he; rw [if_pos he] at q; exact ⟨K, rfl, q⟩
  · rename_i he; rw [if_neg he] at q; exact ⟨K, rfl, q⟩
theorem NA.cond {x : Operand} {c d : Code} {t : Bool} (hc : evalK h.globs n K x = .bool t) (h1 : t = true → NA P n c Q K h) (h2 : t = false → NA P n d Q K h) : NA P n (.cond x c d) Q K h := by
  refine NW.cond (t := t) (by rw [evalA_toFr]; exact hc) ?_
  cases t with
  | true => exact h1 rfl
  | false => exact h2 rfl
theorem NA.condT {x : Operand} {c d : Code} [hc : EvK h.globs n K x (.bool true)] (h1 : NA P n c Q K h) : NA P n (.cond x c d) Q K h := NA.cond hc.eq (fun _ => h1) nofun
theorem NA.condF {x : Operand} {c d : Code} [hc : EvK h.globs n K x (.bool false)] (h1 : NA P n d Q K h) : NA P n (.cond x c d) Q K h := NA.cond hc.eq nofun (fun _ => h1)
theorem NA.condB {x : Operand} {c d : Code} {t : Bool} [hc : EvK h.globs n K x (.bool t)] (h1 : t = true → NA P n c Q K h) (h2 : t = false → NA P n d Q K h) : NA P n (.cond x c d) Q K h := NA.cond hc.eq h1 h2
theorem NA.condD {x : Operand} {c d : Code} {p : Prop} [Decidable p] [hc : EvK h.globs n K x (.bool (decide p))] (h1 : p → NA P n c Q K h) (h2 : ¬ p → NA P n d Q K h) : NA P n (.cond x c d) Q K h :=
  NA.cond hc.eq (fun he => h1 (of_decide_eq_true he)) (fun he => h2 (of_decide_eq_false he))
theorem NA.condN {x : Operand} {c d : Code} {p : Prop} [Decidable p] [hc : EvK h.globs n K x (.bool (!decide p))] (h1 : ¬ p → NA P n c Q K h) (h2 : p → NA P n d Q K h) : NA P n (.cond x c d) Q K h :=
  NA.cond hc.eq (fun he => h1 (not_of_not_decide he)) (fun he => h2 (of_not_decide he))
theorem NA.region {id : Nat} {ops : Array Oper} {l : List Oper} (hl : ops.toList = l) (hw : KOps P n ops TXT (Q .normal) 0 l K h) : NA P n (.region id ops false) Q K h := NA.of (KA.region hl hw)
theorem NA.draw {id : Nat} {ops : Array Oper} {l : List Oper} (ex : List Nat) (hm : P.follows .mixedOrders = true) (hl : ops.toList = l) (hok : rgOk n l ex = true) (hw : KOps P n ops ex (Q .normal) 0 l K h) : NA P n (.region id ops true) Q K h := NA.of (KA.draw ex hm hl hok hw)
theorem sqN.normal {d : Code} (hq : NA P n d Q K h) : sqN P n d Q .normal K h := hq
theorem sqN.ret {d : Code} (hq : Q .ret K h) : sqN P n d Q .ret K h := hq
theorem sqN.exit {d : Code} {id : Nat} (hq : Q (.exit id) K h) : sqN P n d Q (.exit id) K h := hq
theorem NA.meet {c d : Code} {X : Type} (pat : X → KF) (I : X → AHeap → Prop) (hc : NA P n c (mtQ pat I Q) K h) (hd : ∀ x h, I x h → NA P n d Q (pat x) h) : NA P n (.seq c d) Q K h := by
  refine NA.seq (hc.mono ?_)
  intro e K h q
  cases e with
  | normal => obtain ⟨x, hs, hI⟩ := q; exact NA.sub hs (hd x h hI)
  | ret => exact q
  | exit id => exact q
end
theorem NA.loop {P : Program} {n : Nat} {c : Code} {Q : Ex → KF → AHeap → Prop} {K : KF} {h : AHeap} {X : Type} (pat : X → KF) (I : X → AHeap → Prop) (m : X → Nat) (x : X) (hs : Sub (pat x) K) (hI : I x h)
    (round : ∀ x h, I x h → NA P n c (lpQ pat I m x Q) (pat x) h) : NA P n (.loop c) Q K h := by
  refine NW.loop (fun k fr h => ∃ x K, fr = toFr n K ∧ Sub (pat x) K ∧ I x h ∧ m x = k) ?_ (m x) (toFr n K) h ⟨x, K, rfl, hs, hI, rfl⟩
  rintro k fr h ⟨x, K, rfl, hs, hI, rfl⟩
  refine NW.sub hs (NW.mono (round x h hI) ?_)
  rintro e fr' h' ⟨K', rfl, q⟩
  cases e with
  | normal =>
    obtain ⟨y, hy, hIy, hm⟩ := q
    exact ⟨m y, hm, y, K', rfl, hy, hIy, rfl⟩
  | ret => exact ⟨K', rfl, q⟩
  | exit id => exact ⟨K', rfl, q⟩
/-- A walk through a map, owned. -/
abbrev mwalkO (v : AV) (bm n : Nat) (D : List Nat) : Obj := ⟨v, 0, Thing.enc (.mwalk bm n D), false⟩
theorem Mu.mwalk {lo : Nat} {h : AHeap} {F : Option Nat} {v : AV} {bm n : Nat} {D : List Nat} (hv : IsIt v) (hm : Mu lo h F (mwalkO v bm n D)) : ∃ b G f, F = some G ∧ lo ≤ b ∧ v = .it b ∧ h.get b = some (.obj G (.mwalk bm n D)) ∧ h.fam G = some f := by
  obtain ⟨b0, rfl⟩ := hv
  cases F with
  | none => cases hm.1
  | some G =>
    rcases hm with ⟨b, off, p, cs, f, _, hw, _⟩ | ⟨b, x, f, h1, h2, h3, h4, h5, h6⟩
    · rcases hw with ⟨_, _, hw, _⟩ | ⟨_, hw⟩ <;> cases hw
    · cases x with
      | map es' => cases h2
      | walk _ _ => simp [Thing.enc] at h6
      | gone => simp [Thing.enc] at h6
      | mwalk bm' n' D' =>
        simp only [Thing.at, AV.it.injEq] at h2
        subst h2
        simp only [Thing.enc, List.cons.injEq, AV.mp.injEq, AV.int.injEq, AV.tup.injEq, and_true, true_and] at h6
        obtain ⟨e1, e2, e3⟩ := h6
        have e3 : D' = D := by
          refine (List.map_inj_right (f := fun i : Nat => AV.int .i64 (i : Int)) ?_).1 ?_
          · intro x y hxy; simp only [AV.int.injEq, true_and] at hxy; omega
          · first | exact e3 | exact e3.symm
        have e2 : n' = n := by omega
        subst e1 e2 e3
        exact ⟨b0, G, f, rfl, h1, rfl, h4, h5⟩
section
variable {P : Program} {n : Nat} {ops : Array Oper} {ex : List Nat} {Q : KF → AHeap → Prop} {k : Nat} {os : List Oper} {K : KF} {h h0 : AHeap} {d : Nat} {ty : TypeId} {pos : String} {after : Array Edge} {objs : List Obj}
theorem KOps.mrange {t kt : TypeId} {z : AV} {x : Operand} {bm : Nat} {es : List (AV × AV)} [hx : EvK h.globs n K x (.mp bm)] [ht : MpT P t kt z] (st : St h0 h objs) (hM : RdM h (.mp bm) es) (hk : ∀ v h', IsIt v → St h0 h' (mwalkO v bm es.length [] :: objs) → KOps P n ops TXT Q (k + 1) os ((d, v) :: K) h') (hlt : Nat.beq k 1000000 = false := by rfl) :
    KOps P n ops TXT Q k (⟨some d, .range t x, ty, pos, after, none⟩ :: os) K h := by
  obtain ⟨et, h1, h2⟩ := ht.mp
  obtain ⟨b, F, he, hg⟩ := hM
  cases he
  exact KOps.stepT (mrange_step rfl h1 hx.eq hg) (hk _ _ ⟨_, rfl⟩ (St.allocT st (.mwalk bm es.length []))) hlt
end
theorem NA.regionNext {P : Program} {n id : Nat} {ops : Array Oper} {os1 : List Oper} {a : Nat} {ty : TypeId} {pos : String} {after : Array Edge} {x : Operand} {v : AV} {bm i : Nat} {es : List (AV × AV)} {D : List Nat} {Q : Ex → KF → AHeap → Prop} {K : KF} {h h0 : AHeap} {objs : List Obj}
    (hl : ops.toList = ⟨some a, .next x false, ty, pos, after, none⟩ :: os1) [hx : EvK h.globs n K x v] (hD : OkD es.length D) (st : St h0 h objs) (hv : IsIt v) (hk' : objs[i]? = some (mwalkO v bm es.length D)) (hM : RdM h (.mp bm) es)
    (more : ∀ j k u, j ∉ D → es[j]? = some (k, u) → ∀ h', St h0 h' (objs.set i (mwalkO v bm es.length (D ++ [j]))) → KOps P n ops TXT (Q .normal) 1 os1 ((a, .tup [.bool true, k, u]) :: K) h')
    (over : (∀ j, j < es.length → j ∈ D) → KOps P n ops TXT (Q .normal) 1 os1 ((a, .tup [.bool false]) :: K) h) : NA P n (.region id ops false) Q K h := by
  obtain ⟨_, fs, hlen, hm, _⟩ := (show _ from st)
  have hlt : i < fs.length := by rw [hlen]; exact (List.getElem?_eq_some_iff.1 hk').1
  obtain ⟨b, G, f, _, _, rfl, hg, _⟩ := (hm i _ _ hk' (List.getElem?_eq_getElem hlt)).mwalk hv
  obtain ⟨bm', Fm, he, hgm⟩ := hM
  cases he
  refine NW.regionNext hl rfl rfl hD (by rw [evalA_toFr]; exact hx.eq) hg hgm ?_ ?_
  · intro j k u hj hjk
    have := more j k u hj hjk _ (St.setT (x := .mwalk bm es.length D) (x' := .mwalk bm es.length (D ++ [j])) st hk' (fun _ => rfl) rfl hg (by
      intro F hm'
      obtain ⟨b', G', f', hF, hlo, hb', hg', hf⟩ := hm'.mwalk hv
      cases hb'
      rw [hg] at hg'; cases hg'
      exact ⟨hF, hlo, f', hf⟩))
    unfold KOps at this
    rw [← toFr_set] at this
    exact this
  · intro hfull
    have := over hfull
    unfold KOps at this
    rw [← toFr_set] at this
    exact this
/-! Calls. -/
def NCalls (P : Program) (f : FuncId) (args : List AV) (h : AHeap) (R : AV → AHeap → Prop) : Prop :=
  ∀ (φ : Emb) (w : World) (cs : List Value), Fr φ h → HRel φ h w → VRels φ args cs → Calls P f cs.toArray w fun e w' => ∃ v φ' r h', e = .returned v ∧ HGrow h h' ∧ Trans φ h w φ' h' w' ∧ HRel φ' h' w' ∧ VRel φ' r v ∧ R r h'
theorem NCalls.of_body {P : Program} {f : FuncId} {fn : Func} {c : Code} {args : List AV} {h : AHeap} {R : AV → AHeap → Prop} (hf : P.funcs[f]? = some fn) (hb : fn.body = some c)
    (hw : NW P c (fun e fr' h' => (e = .normal ∨ e = .ret) ∧ ∃ x, resultA fr' fn.results.toList = some x ∧ R x h') (mkFr args fn.ntmps) h) : NCalls P f args h R := by
  intro φ w cs hfr r hargs
  refine calls_of_wp hf hb ?_
  have hs : Sim φ (mkFr args fn.ntmps) h { tmps := cs.toArray ++ Array.replicate (fn.ntmps - cs.toArray.size) undef, defers := [] } w := by
    refine ⟨r, rfl, ?_, ?_⟩
    · simp [mkFr, hargs.1]
    · intro t y v hy hv
      simp only [mkFr] at hy
      rw [← Array.getElem?_toList] at hv
      simp only [Array.toList_append, Array.toList_replicate] at hv
      rw [List.getElem?_append] at hy hv
      rw [hargs.1] at hy
      split at hy
      · rename_i hlt
        rw [if_pos hlt] at hv
        exact hargs.2 t y v hy hv
      · rename_i hlt
        rw [if_neg hlt] at hv
        rw [List.getElem?_replicate] at hy hv
        split at hy
        · cases hy
          split at hv
          · cases hv; exact VRel.undef φ
          · cases hv
        · cases hy
  refine wp_mono (hw φ _ w hfr hs) ?_
  rintro e' a' w' ⟨e, fr', h', φ', rfl, g, t, s', he, x, hr, hR⟩
  obtain ⟨v, hv, hrel⟩ := result_run (P := P) s'.fr w' hr
  rcases he with rfl | rfl
  · exact ⟨s'.fr.1, v, hv, v, φ', x, h', rfl, g, t, s'.heap, hrel, hR⟩
  · exact ⟨s'.fr.1, v, hv, v, φ', x, h', rfl, g, t, s'.heap, hrel, hR⟩
theorem NA.fn {P : Program} {f : FuncId} {fn : Func} {c : Code} {args : List AV} {h : AHeap} {R : AV → AHeap → Prop} (n : Nat) (rs : List ResultVar) (hf : P.funcs[f]? = some fn) (hb : fn.body = some c)
    (h1 : fn.ntmps = n) (h2 : fn.results.toList = rs) (hle : args.length ≤ n) (hw : NA P n c (fnQ n rs R) (argK 0 args) h) : NCalls P f args h R := by
  subst h1 h2
  refine NCalls.of_body hf hb ?_
  intro φ a w hfr s
  have := hw φ a w hfr ⟨s.heap, s.fr.args hle⟩
  refine wp_mono this ?_
  rintro e' a' w' ⟨e, fr', h', φ', rfl, g, t, s', K, rfl, he, l, hl, hR⟩
  refine ⟨e, _, h', φ', rfl, g, t, s', he, resV l, ?_, hR⟩
  rw [resultA, resA_toFr, hl]
  rfl
theorem NCalls.law {P : Program} {f : FuncId} {args : List AV} {h : AHeap} {R : AV → AHeap → Prop} (hc : NCalls P f args h R) (hR : ∀ r h', R r h' → r = .bool true) {W : World} {φ : Emb} (im : Imp W φ h) {cs : List Value} (ha : VRels φ args cs) :
    Calls P f cs.toArray W fun e w' => e = .returned (.bool true) ∧ Below W.heap.size W w' := by
  refine (hc φ W cs (fun b h1 => im.out b h1) im.rel ha).mono ?_
  rintro e w' ⟨v, φ', r, h', rfl, _, t, _, hv, hr⟩
  have := hR r h' hr
  subst this
  cases hv
  exact ⟨rfl, im.below t⟩
end Go.Am

namespace Go.Am
theorem set_at {P : List (List Bool)} {j : Nat} {k u : AV} (h : (setE P)[j]? = some (k, u)) : ∃ x, P[j]? = some x ∧ k = .str (wd x) ∧ u = .bool true := by
  rw [List.getElem?_map, List.getElem?_map] at h
  cases hq : P[j]? with
  | none => rw [hq] at h; cases h
  | some x =>
    rw [hq] at h
    simp only [Option.map_some, Option.some.injEq, Prod.mk.injEq] at h
    exact ⟨x, rfl, h.1.symm, h.2.symm⟩
theorem setE_len (P : List (List Bool)) : (setE P).length = P.length := by rw [List.length_map, List.length_map]
theorem OkD.nil (n : Nat) : OkD n [] := ⟨List.nodup_nil, fun j hj => by cases hj⟩
theorem OkD.len {n : Nat} {D : List Nat} (h : OkD n D) : D.length ≤ n := by
  have := nodup_le (m := List.range n) h.1 fun x hx => List.mem_range.2 (h.2 x hx)
  rwa [List.length_range] at this
section
variable {P : Program} {n : Nat} {ops : Array Oper} {Q : KF → AHeap → Prop} {k : Nat} {os : List Oper} {K : KF} {h h0 : AHeap} {d : Nat} {ty : TypeId} {pos : String} {after : Array Edge} {objs : List Obj}
/-- The entry that came. -/
theorem KOps.mentry {x : Operand} {v a b : AV} {bm i j m : Nat} {D : List Nat} {es : List (AV × AV)} [hx : EvK h.globs n K x v] (st : St h0 h objs) (hv : IsIt v) (hk' : objs[i]? = some (mwalkO v bm m (D ++ [j]))) (hM : RdM h (.mp bm) es) (hm : m = es.length) (hj : es[j]? = some (a, b))
    (hk : KOps P n ops TXT Q (k + 1) os ((d, .tup [a, b]) :: K) h) (hlt : Nat.beq k 1000000 = false := by rfl) : KOps P n ops TXT Q k (⟨some d, .entry x, ty, pos, after, none⟩ :: os) K h := by
  subst hm
  have st' := st
  obtain ⟨_, fs, hlen, hmu, _⟩ := st'
  have hl : i < fs.length := by rw [hlen]; exact (List.getElem?_eq_some_iff.1 hk').1
  obtain ⟨bb, G, f, _, _, rfl, hg, _⟩ := (hmu i _ _ hk' (List.getElem?_eq_getElem hl)).mwalk hv
  obtain ⟨bm', Fm, he, hgm⟩ := hM
  cases he
  exact KOps.stepT (mentry_step rfl hx.eq hg hgm hj) hk hlt
end
/-! Common words. -/
end Go.Am

namespace Go.Am.R
open Go.Am
/-- The class of a step, by its place. -/
def clsI (ex : List Nat) (i : Nat) (op : Op) : Cls := if ex.contains (i + 1000) = true then .chain else clsOf op
def SemI (P : Program) (ex : List Nat) (i : Nat) (ρ : Operand → AV) (o : Oper) (h : AHeap) (v : AV) (h' : AHeap) : Prop :=
  match clsI ex i o.op with
  | .pure => apure P ρ o.op = some v ∧ h' = h
  | .read => areadR P h ρ o.op = some v ∧ h' = h
  | .allo => ∃ mk cs, aallo P ρ o.op = some (mk, cs) ∧ v = mk.val h.next ∧ h' = h.alloc cs
  | .chain => StepS P ρ o h v h'
theorem SemI.of {P : Program} {ex : List Nat} {i : Nat} {ρ : Operand → AV} {o : Oper} {h h' : AHeap} {v : AV} (hs : SemStep P ρ o h v h') : SemI P ex i ρ o h v h' := by
  unfold SemI clsI
  by_cases hm : ex.contains (i + 1000) = true
  · rw [if_pos hm]; exact hs.stepS
  · rw [if_neg hm]; exact hs
theorem SemI.mark {P : Program} {ex : List Nat} {i : Nat} {ρ : Operand → AV} {o : Oper} {h h' : AHeap} {v : AV} (hm : ex.contains (i + 1000) = true) (hs : StepS P ρ o h v h') : SemI P ex i ρ o h v h' := by
  unfold SemI clsI
  rw [if_pos hm]; exact hs
theorem SemI.stepS {P : Program} {ex : List Nat} {i : Nat} {ρ : Operand → AV} {o : Oper} {h h' : AHeap} {v : AV} (hs : SemI P ex i ρ o h v h') : StepS P ρ o h v h' := by
  unfold SemI clsI at hs
  by_cases hm : ex.contains (i + 1000) = true
  · rw [if_pos hm] at hs; exact hs
  · rw [if_neg hm] at hs; exact SemStep.stepS hs
/-- What the check says. -/
structure RgOk (sz : Nat) (ops : Array Oper) (ex : List Nat) (st : List (Nat × Nat)) : Prop where
  ntx : ex ≠ TXT
  back : ∀ (i : Nat) (o : Oper) e, ops[i]? = some o → e ∈ o.after → Region.binds .any e = true → e.on < i
  dst : ∀ (i : Nat) (o : Oper) d, ops[i]? = some o → o.dst = some d → d < sz
  inj : ∀ (i j : Nat) (oi oj : Oper) d, ops[i]? = some oi → ops[j]? = some oj → oi.dst = some d → oj.dst = some d → i = j
  opnd : ∀ (i j : Nat) (oi oj : Oper) t, ops[i]? = some oi → ops[j]? = some oj → .tmp t ∈ oi.op.operands → oj.dst = some t → (j < i ∧ Dep ops i j) ∨ (i < j ∧ Dep ops j i)
  guard : ∀ (i : Nat) (o : Oper) g want, ops[i]? = some o → o.guard = some (g, want) → Dep ops i g
  chain : ∀ (i j : Nat) (oi oj : Oper), ops[i]? = some oi → ops[j]? = some oj → clsI ex i oi.op = .chain → clsI ex j oj.op = .chain → j < i → Dep ops i j
  read : ∀ (c r : Nat) (oc or : Oper), ops[c]? = some oc → ops[r]? = some or → clsI ex c oc.op = .chain → clsI ex r or.op = .read → ex.contains c = true ∨ Dep ops c r ∨ Dep ops r c ∨ (r < c ∧ (c, r) ∈ st)
  allo : ∀ (c j : Nat) (oc oj : Oper), ops[c]? = some oc → ops[j]? = some oj → clsI ex c oc.op = .chain → clsI ex j oj.op = .allo → j < c → ex.contains c = true ∨ Dep ops c j

/-- One operation in the order of the text. -/
def TS (P : Program) (ops : Array Oper) (ex : List Nat) (i : Nat) (o : Oper) (fr : List AV) (h : AHeap) (v : AV) (fr' : List AV) (h' : AHeap) : Prop :=
  fr' = setF fr o.dst v ∧
  ((∃ j want b, o.guard = some (j, want) ∧ guardA ops fr j = some b ∧ b ≠ some want ∧ v = .tup [] ∧ h' = h) ∨
   ((o.guard = none ∨ ∃ j want, o.guard = some (j, want) ∧ guardA ops fr j = some (some want)) ∧ SemI P ex i (evalA h.globs fr) o h v h' ∧ (ex.contains i = true → WFH h → HExt h h')))

section drawn
variable {P : Program} {ops : Array Oper} {ex : List Nat} {st : List (Nat × Nat)} {sz : Nat} {vs : Nat → AV} {frs : Nat → List AV} {hs : Nat → AHeap}

theorem TS.grow {i : Nat} {o : Oper} {fr fr' : List AV} {h h' : AHeap} {v : AV} (t : TS P ops ex i o fr h v fr' h') : HGrow h h' := by
  rcases t.2 with ⟨_, _, _, _, _, _, _, rfl⟩ | ⟨_, hs, _⟩
  · exact HGrow.refl _
  · exact hs.stepS.1

/-- In the order of the text there is a world at each place. -/
theorem text_states (hts : ∀ i o, i < ops.size → ops[i]? = some o → TS P ops ex i o (frs i) (hs i) (vs i) (frs (i + 1)) (hs (i + 1)))
    {φ0 : Emb} {a0 : Act} {w0 : World} (hfr : Fresh φ0 (hs 0) (hs ops.size)) (s0 : Sim φ0 (frs 0) (hs 0) a0 w0) :
    (∀ i, i ≤ ops.size → HGrow (hs 0) (hs i)) ∧ (∀ i, i ≤ ops.size → HGrow (hs i) (hs ops.size)) ∧ ∀ i, i ≤ ops.size → ∃ φ a w, Sim φ (frs i) (hs i) a w ∧ Fresh φ (hs i) (hs ops.size) := by
  have hg : ∀ i, i < ops.size → HGrow (hs i) (hs (i + 1)) := fun i hi => (hts i _ hi (Array.getElem?_eq_getElem hi)).grow
  have g0 : ∀ i, i ≤ ops.size → HGrow (hs 0) (hs i) := by
    intro i
    induction i with
    | zero => intro _; exact HGrow.refl _
    | succ i ih => intro hi; exact (ih (by omega)).trans (hg i (by omega))
  have gn : ∀ d i, i + d = ops.size → HGrow (hs i) (hs ops.size) := by
    intro d
    induction d with
    | zero => intro i hi; simp at hi; subst hi; exact HGrow.refl _
    | succ d ih => intro i hi; exact (hg i (by omega)).trans (ih (i + 1) (by omega))
  have gn' : ∀ i, i ≤ ops.size → HGrow (hs i) (hs ops.size) := fun i hi => gn (ops.size - i) i (by omega)
  refine ⟨g0, gn', ?_⟩
  intro i
  induction i with
  | zero => intro _; exact ⟨φ0, a0, w0, s0, hfr⟩
  | succ i ih =>
    intro hi
    obtain ⟨φ, a, w, s, hf⟩ := ih (by omega)
    have ho := Array.getElem?_eq_getElem (xs := ops) (i := i) (by omega)
    have t := hts i _ (by omega) ho
    obtain ⟨hfr', t2⟩ := t
    rcases t2 with ⟨j, want, b, _, _, _, hv, hh⟩ | ⟨_, hst, _⟩
    · rw [hfr', hh, hv]
      exact ⟨φ, a.put ops[i].dst undef, w, ⟨s.heap, s.fr.put _ (VRel.undef φ)⟩, hf⟩
    · obtain ⟨g, hrun⟩ := hst.stepS
      have := hrun φ a w (fun a' w' => ∃ φ', Trans φ (hs i) w φ' (hs (i + 1)) w' ∧ Sim φ' (frs (i + 1)) (hs (i + 1)) a' w') (fun _ _ _ => False) (hf.left (gn' (i + 1) (by omega))) s.heap (fun x _ => evalA_rel s.heap s.fr x) (by
        intro φ' c w' t' r' hv'
        rw [hfr']
        exact ⟨φ', t', r', (s.fr.mono t'.le).put _ hv'⟩)
      obtain ⟨a', w', φ', t', s'⟩ := wp_some this
      exact ⟨φ', a', w', s', hf.right g t'⟩

/-- What holds while operations are taken in some order. -/
structure Inv (P : Program) (ops : Array Oper) (ex : List Nat) (sz : Nat) (vs : Nat → AV) (frs : Nat → List AV) (hs : Nat → AHeap) (φ0 : Emb) (w0 : World) (L : Nat → Bool) (φ : Emb) (a : Act) (w : World) : Prop where
  closed : ∀ i (o : Oper) e, ops[i]? = some o → L i = true → e ∈ o.after → Region.binds .any e = true → L e.on = true
  lt : ∀ i, L i = true → i < ops.size
  defers : a.defers = []
  size : a.tmps.size = sz
  new : ∀ i (o : Oper) d v, ops[i]? = some o → L i = true → o.dst = some d → a.tmps[d]? = some v → VRel φ (vs i) v
  old : ∀ (t : Nat) (x : AV) (v : Value), (∀ i (o : Oper), ops[i]? = some o → L i = true → o.dst ≠ some t) → (frs 0)[t]? = some x → a.tmps[t]? = some v → VRel φ x v
  free : ∀ i, i < ops.size → L i = false → ∀ b, (hs i).next ≤ b → b < (hs (i + 1)).next → φ b = none
  defd : ∀ i, L i = true → ∀ b, (hs i).next ≤ b → b < (hs (i + 1)).next → ∃ p, φ b = some p
  glob : ∀ g ∈ (hs 0).globs, ∃ z, φ g = some (g, 0, z)
  lies : ∀ b k i z, φ b = some (k, i, z) → k < w.heap.size
  heap : ∀ i, i ≤ ops.size → (∀ c (o : Oper), ops[c]? = some o → clsI ex c o.op = .chain → hs (c + 1) ≠ hs c → ((c < i ∧ L c = false) ∨ (i ≤ c ∧ L c = true)) → ex.contains c = true) → HRel φ (hs i) w
  own : ∀ j (o : Oper) cs, ops[j]? = some o → L j = true → clsI ex j o.op = .allo → hs (j + 1) = (hs j).alloc cs → (∀ c (o : Oper), ops[c]? = some o → clsI ex c o.op = .chain → L c = true → c < j) → Own φ w (hs j).next cs
  -- towards the whole step
  le : φ0.le φ
  fresh : ∀ b p, φ0 b = none → φ b = some p → (hs 0).next ≤ b ∧ b < (hs ops.size).next
  img : ∀ b k i z, φ0 b = none → φ b = some (k, i, z) → w0.heap.size ≤ k ∨ ∃ b0 i0 z0 F p cs, φ0 b0 = some (k, i0, z0) ∧ (hs 0).get b0 = some (.cells (some F) p cs)
  frame : ∀ k, k < w0.heap.size → ¬ (hs 0).mut φ0 k → w.heap[k]? = w0.heap[k]?
  os : w.os = w0.os
  tape : w.tape = w0.tape
  output : w.output = w0.output
  wsize : w0.heap.size ≤ w.heap.size

theorem dep_lt (hok : RgOk sz ops ex st) {i j : Nat} (h : Dep ops i j) : j < i := by
  induction h with
  | edge i o e ho he hb => exact hok.back i o e ho he hb
  | trans i j k _ _ h1 h2 => omega

theorem Dep.closed {L : Nat → Bool} (hcl : ∀ i (o : Oper) e, ops[i]? = some o → L i = true → e ∈ o.after → Region.binds .any e = true → L e.on = true) {i j : Nat} (h : Dep ops i j) : L i = true → L j = true := by
  induction h with
  | edge i o e ho he hb => intro hL; exact hcl i o e ho hL he hb
  | trans i j k _ _ h1 h2 => intro hL; exact h2 (h1 hL)

theorem Dep.ready {L : Nat → Bool} (hcl : ∀ i (o : Oper) e, ops[i]? = some o → L i = true → e ∈ o.after → Region.binds .any e = true → L e.on = true) {i j : Nat} {o : Oper} (ho : ops[i]? = some o)
    (hr : ∀ e ∈ o.after, Region.binds .any e = true → L e.on = true) (h : Dep ops i j) : L j = true := by
  induction h with
  | edge i o' e ho' he hb => rw [ho] at ho'; cases ho'; exact hr e he hb
  | trans i j k _ h2 h1 _ => exact h2.closed hcl (h1 ho)

/-- What the heaps of the text are among themselves. -/
structure Txt (P : Program) (ops : Array Oper) (ex : List Nat) (sz : Nat) (vs : Nat → AV) (frs : Nat → List AV) (hs : Nat → AHeap) : Prop where
  ts : ∀ i o, i < ops.size → ops[i]? = some o → TS P ops ex i o (frs i) (hs i) (vs i) (frs (i + 1)) (hs (i + 1))
  wf : ∀ i, i ≤ ops.size → WFH (hs i)
  glob : ∀ i, i ≤ ops.size → (hs i).globs = (hs 0).globs
  size : (frs 0).length = sz

theorem Txt.len (T : Txt P ops ex sz vs frs hs) : ∀ i, i ≤ ops.size → (frs i).length = sz := by
  intro i
  induction i with
  | zero => intro _; exact T.size
  | succ i ih =>
    intro hi
    have t := T.ts i _ (by omega) (Array.getElem?_eq_getElem (by omega))
    rw [t.1]
    unfold setF
    split
    · rw [List.length_set]; exact ih (by omega)
    · exact ih (by omega)

theorem Txt.nextLe (T : Txt P ops ex sz vs frs hs) : ∀ i j, i ≤ j → j ≤ ops.size → HGrow (hs i) (hs j) := by
  intro i j hij hj
  obtain ⟨d, rfl⟩ : ∃ d, j = i + d := ⟨j - i, by omega⟩
  clear hij
  induction d with
  | zero => exact HGrow.refl _
  | succ d ih => exact (ih (by omega)).trans (T.ts (i + d) _ (by omega) (Array.getElem?_eq_getElem (by omega))).grow

/-- A slot of the text's frame. -/
theorem Txt.slot (T : Txt P ops ex sz vs frs hs) (_hok : RgOk sz ops ex st) : ∀ i, i ≤ ops.size → ∀ t, t < sz →
    ((∃ j o, j < i ∧ ops[j]? = some o ∧ o.dst = some t ∧ (frs i)[t]? = some (vs j)) ∨ ((∀ j (o : Oper), j < i → ops[j]? = some o → o.dst ≠ some t) ∧ (frs i)[t]? = (frs 0)[t]?)) := by
  intro i
  induction i with
  | zero => intro _ t _; exact .inr ⟨fun j o hj => by omega, rfl⟩
  | succ i ih =>
    intro hi t ht
    have ho := Array.getElem?_eq_getElem (xs := ops) (i := i) (by omega)
    have hts := T.ts i _ (by omega) ho
    by_cases hd : ops[i].dst = some t
    · refine .inl ⟨i, ops[i], by omega, ho, hd, ?_⟩
      rw [hts.1]
      simp only [setF, hd]
      rw [List.getElem?_set, if_pos rfl, if_pos (by rw [T.len i (by omega)]; exact ht)]
    · have hsame : (frs (i + 1))[t]? = (frs i)[t]? := by
        rw [hts.1]
        unfold setF
        split
        · rename_i d hd'
          rw [List.getElem?_set_ne]
          rintro rfl
          exact hd hd'
        · rfl
      rcases ih (by omega) t ht with ⟨j, o, hj, hoj, hdj, hv⟩ | ⟨hno, hv⟩
      · exact .inl ⟨j, o, by omega, hoj, hdj, hsame.trans hv⟩
      · refine .inr ⟨?_, hsame.trans hv⟩
        intro j o hj hoj
        by_cases hji : j = i
        · subst hji
          rw [ho] at hoj; cases hoj; exact hd
        · exact hno j o (by omega) hoj

/-- A slot that an operation looks at holds what it holds in the text. -/
theorem Inv.slot {φ0 φ : Emb} {w0 w : World} {a : Act} {L : Nat → Bool} (I : Inv P ops ex sz vs frs hs φ0 w0 L φ a w) (T : Txt P ops ex sz vs frs hs) (hok : RgOk sz ops ex st) {i : Nat} {o : Oper} (hi : ops[i]? = some o) (hun : L i = false)
    (hr : ∀ e ∈ o.after, Region.binds .any e = true → L e.on = true) (t : Nat) (hdep : ∀ j oj, ops[j]? = some oj → oj.dst = some t → (j < i ∧ Dep ops i j) ∨ (i < j ∧ Dep ops j i)) :
    VRel φ ((frs i).getD t .bot) (a.tmps.getD t undef) := by
  have hin : i < ops.size := (Array.getElem?_eq_some_iff.1 hi).1
  by_cases ht : t < sz
  · have hta : t < a.tmps.size := by rw [I.size]; exact ht
    rw [List.getD_eq_getElem?_getD, Array.getD_eq_getD_getElem?, Array.getElem?_eq_getElem hta]
    simp only [Option.getD_some]
    rcases T.slot hok i (by omega) t ht with ⟨j, oj, hj, hoj, hdj, hv⟩ | ⟨hno, hv⟩
    · rw [hv]
      rcases hdep j oj hoj hdj with ⟨_, hd⟩ | ⟨hlt, _⟩
      · exact I.new j oj t _ hoj (hd.ready I.closed hi hr) hdj (Array.getElem?_eq_getElem hta)
      · omega
    · rw [hv]
      have h0 : t < (frs 0).length := by rw [T.size]; exact ht
      rw [List.getElem?_eq_getElem h0]
      refine I.old t _ _ ?_ (List.getElem?_eq_getElem h0) (Array.getElem?_eq_getElem hta)
      intro j oj hoj hL hd
      rcases hdep j oj hoj hd with ⟨hlt, _⟩ | ⟨_, hdp⟩
      · exact hno j oj hlt hoj hd
      · have := hdp.closed I.closed hL
        rw [hun] at this; cases this
  · rw [List.getD_eq_getElem?_getD, List.getElem?_eq_none (by rw [T.len i (by omega)]; omega)]
    exact .bot _

theorem Inv.opnd {φ0 φ : Emb} {w0 w : World} {a : Act} {L : Nat → Bool} (I : Inv P ops ex sz vs frs hs φ0 w0 L φ a w) (T : Txt P ops ex sz vs frs hs) (hok : RgOk sz ops ex st) {i : Nat} {o : Oper} (hi : ops[i]? = some o) (hun : L i = false)
    (hr : ∀ e ∈ o.after, Region.binds .any e = true → L e.on = true) : ∀ x ∈ o.op.operands, VRel φ (evalA (hs i).globs (frs i) x) (a.eval x) := by
  intro x hx
  cases x with
  | tmp t => exact I.slot T hok hi hun hr t fun j oj hj hd => hok.opnd i j o oj t hi hj hx hd
  | const v => exact AV.of_rel φ 4 v
  | global g =>
    simp only [evalA, Act.eval]
    split
    · rename_i hg
      rw [T.glob i (by have := (Array.getElem?_eq_some_iff.1 hi).1; omega)] at hg
      obtain ⟨z, hz⟩ := I.glob g (by simpa using hg)
      exact .ptr g 0 g 0 z hz
    · exact .bot _
  | func f => exact .fn f [] [] rfl (by simp)

/-- Is it to be done? As the text says. -/
theorem Inv.wanted {φ0 φ : Emb} {w0 w : World} {a : Act} {L : Nat → Bool} (I : Inv P ops ex sz vs frs hs φ0 w0 L φ a w) (T : Txt P ops ex sz vs frs hs) (hok : RgOk sz ops ex st) {i : Nat} {o : Oper} (hi : ops[i]? = some o) (hun : L i = false)
    (hr : ∀ e ∈ o.after, Region.binds .any e = true → L e.on = true) {j : Nat} {want : Bool} {b : Option Bool} (hg : o.guard = some (j, want)) (hb : guardA ops (frs i) j = some b) : yielded ops a.tmps j = b := by
  have hin : i < ops.size := (Array.getElem?_eq_some_iff.1 hi).1
  have hdep := hok.guard i o j want hi hg
  unfold guardA at hb
  split at hb
  · rename_i d hd
    obtain ⟨oj, hoj, hdj⟩ : ∃ oj, ops[j]? = some oj ∧ oj.dst = some d := by
      cases hoj : ops[j]? with
      | none => rw [hoj] at hd; cases hd
      | some oj => rw [hoj] at hd; exact ⟨oj, rfl, hd⟩
    have := I.slot T hok hi hun hr d fun j' oj' hj' hd' => by
      have := hok.inj j' j oj' oj d hj' hoj hd' hdj
      subst this
      exact .inl ⟨dep_lt hok hdep, hdep⟩
    have hlt : d < a.tmps.size := by
      rw [I.size]
      exact hok.dst j oj d hoj hdj
    split at hb
    · rename_i b' hb'
      cases hb
      exact (yielded_of hd this).1 _ hb' hlt
    · rename_i l hb'
      cases hb
      exact (yielded_of hd this).2 _ hb'
    · cases hb
  · cases hb

end drawn

section drawn
variable {P : Program} {ops : Array Oper} {ex : List Nat} {st : List (Nat × Nat)} {sz : Nat} {vs : Nat → AV} {frs : Nat → List AV} {hs : Nat → AHeap}

/-- May the operation change what is known of old blocks? -/
def Quiet (ops : Array Oper) (ex : List Nat) (hs : Nat → AHeap) (k : Nat) : Prop := ∀ (o : Oper), ops[k]? = some o → clsI ex k o.op = .chain → hs (k + 1) ≠ hs k → ex.contains k = true

theorem Txt.ext (T : Txt P ops ex sz vs frs hs) {k : Nat} (hk : k < ops.size) (q : Quiet ops ex hs k) : HExt (hs k) (hs (k + 1)) := by
  have ho := Array.getElem?_eq_getElem (xs := ops) (i := k) hk
  by_cases hsame : hs (k + 1) = hs k
  · rw [hsame]; exact HExt.refl _
  · rcases (T.ts k _ hk ho).2 with ⟨_, _, _, _, _, _, _, h⟩ | ⟨_, hst, hex⟩
    · exact absurd h hsame
    · cases hc : clsI ex k ops[k].op with
      | pure => unfold SemI at hst; rw [hc] at hst; exact absurd hst.2 hsame
      | read => unfold SemI at hst; rw [hc] at hst; exact absurd hst.2 hsame
      | allo =>
        unfold SemI at hst; rw [hc] at hst
        obtain ⟨mk, cs, _, _, h⟩ := hst
        rw [h]
        exact HExt.alloc' (T.wf k (by omega)) cs
      | chain => exact hex (q _ ho hc hsame) (T.wf k (by omega))

theorem Txt.extRange (T : Txt P ops ex sz vs frs hs) {i j : Nat} (hij : i ≤ j) (hj : j ≤ ops.size) (q : ∀ k, i ≤ k → k < j → Quiet ops ex hs k) : HExt (hs i) (hs j) := by
  obtain ⟨d, rfl⟩ : ∃ d, j = i + d := ⟨j - i, by omega⟩
  clear hij
  induction d with
  | zero => exact HExt.refl _
  | succ d ih => exact (ih (by omega) (fun k h1 h2 => q k h1 (by omega))).trans (T.ext (k := i + d) (by omega) (q (i + d) (by omega) (by omega)))

theorem Txt.down (T : Txt P ops ex sz vs frs hs) {φ : Emb} {w : World} {i j : Nat} (hij : i ≤ j) (hj : j ≤ ops.size) (q : ∀ k, i ≤ k → k < j → Quiet ops ex hs k) (r : HRel φ (hs j) w) : HRel φ (hs i) w :=
  r.down (T.extRange hij hj q) (T.nextLe i j hij hj) (T.wf i (by omega))

/-- Upwards: what was made and is there is its own. -/
theorem Txt.up (T : Txt P ops ex sz vs frs hs) {φ : Emb} {w : World} {i j : Nat} (hij : i ≤ j) (hj : j ≤ ops.size) (q : ∀ k, i ≤ k → k < j → Quiet ops ex hs k)
    (hnew : ∀ k (o : Oper), i ≤ k → k < j → ops[k]? = some o → (∀ b, (hs k).next ≤ b → b < (hs (k + 1)).next → φ b = none) ∨ hs (k + 1) = hs k ∨ ∃ cs, hs (k + 1) = (hs k).alloc cs ∧ Own φ w (hs k).next cs) (r : HRel φ (hs i) w) : HRel φ (hs j) w := by
  obtain ⟨d, rfl⟩ : ∃ d, j = i + d := ⟨j - i, by omega⟩
  clear hij
  induction d with
  | zero => exact r
  | succ d ih =>
    have r' := ih (by omega) (fun k h1 h2 => q k h1 (by omega)) (fun k o h1 h2 ho => hnew k o h1 (by omega) ho)
    have ho := Array.getElem?_eq_getElem (xs := ops) (i := i + d) (by omega)
    rcases hnew (i + d) _ (by omega) (by omega) ho with h | h | ⟨cs, h, own⟩
    · exact r'.up (T.ext (k := i + d) (by omega) (q (i + d) (by omega) (by omega))) (T.nextLe (i + d) (i + d + 1) (by omega) (by omega)) (T.wf (i + d + 1) (by omega)) h
    · show HRel φ (hs (i + d + 1)) w
      rw [h]; exact r'
    · show HRel φ (hs (i + d + 1)) w
      rw [h]; exact r'.add own

/-- What is its own stays so behind a step that knows nothing of it. -/
theorem Own.step {φ φ' : Emb} {h h' : AHeap} {w w' : World} {b : Nat} {cs : List AV} (o : Own φ w b cs) (hb : h.next ≤ b) (t : Trans φ h w φ' h' w') : Own φ' w' b cs := by
  obtain ⟨k, z, c, e, h1, h2, h3, h4, h5, h6⟩ := o.lies
  have hk : k < w.heap.size := (Array.getElem?_eq_some_iff.1 h2).1
  have hnot : ∀ b0 i0 z0 B, φ b0 = some (k, i0, z0) → h.get b0 = some B → False := by
    intro b0 i0 z0 B hb0 hB
    have := h6 b0 i0 z0 hb0
    subst this
    have := AHeap.get_lt hB
    omega
  refine ⟨k, z, c, e, t.le _ _ h1, ?_, h3, h4, ?_, ?_⟩
  · rw [t.frame k hk]
    · exact h2
    · rintro ⟨b0, i0, z0, hb0, hm⟩
      rcases hm with ⟨F, p, cs', hB⟩ | ⟨_, _, hB⟩
      · exact hnot b0 i0 z0 _ hb0 hB
      · exact hnot b0 i0 z0 _ hb0 hB
  · intro j x hx
    obtain ⟨v, hv, hr⟩ := h5 j x hx
    exact ⟨v, hv, hr.mono t.le⟩
  · intro b' i' z' hb'
    cases hφ : φ b' with
    | some q =>
      have := t.le b' q hφ
      rw [hb'] at this
      cases this
      exact h6 b' i' z' hφ
    | none =>
      rcases t.img b' k i' z' hφ hb' with h7 | ⟨b0, i0, z0, F, p, cs', h7, h8⟩
      · omega
      · exact (hnot b0 i0 z0 _ h7 h8).elim

/-- The frame's part of a step. -/
theorem Inv.frameStep {φ0 φ φ' : Emb} {w0 w : World} {a : Act} {L : Nat → Bool} (I : Inv P ops ex sz vs frs hs φ0 w0 L φ a w) (hok : RgOk sz ops ex st) {i : Nat} {o : Oper} (hi : ops[i]? = some o)
    (hr : ∀ e ∈ o.after, Region.binds .any e = true → L e.on = true) (hle : φ.le φ') {c : Value} (hc : VRel φ' (vs i) c) {L' : Nat → Bool} (hL : ∀ k, L' k = (decide (k = i) || L k)) :
    (∀ k (o : Oper) e, ops[k]? = some o → L' k = true → e ∈ o.after → Region.binds .any e = true → L' e.on = true) ∧ (∀ k, L' k = true → k < ops.size) ∧ (a.put o.dst c).defers = [] ∧ (a.put o.dst c).tmps.size = sz ∧
    (∀ k (o' : Oper) d v, ops[k]? = some o' → L' k = true → o'.dst = some d → (a.put o.dst c).tmps[d]? = some v → VRel φ' (vs k) v) ∧
    (∀ (t : Nat) (x : AV) (v : Value), (∀ k (o' : Oper), ops[k]? = some o' → L' k = true → o'.dst ≠ some t) → (frs 0)[t]? = some x → (a.put o.dst c).tmps[t]? = some v → VRel φ' x v) := by
  have hput : ∀ t v, (a.put o.dst c).tmps[t]? = some v → (o.dst = some t ∧ v = c) ∨ (o.dst ≠ some t ∧ a.tmps[t]? = some v) := by
    intro t v hv
    unfold Act.put at hv
    split at hv
    · rename_i d hd
      simp only [Array.getElem?_setIfInBounds] at hv
      by_cases hdt : d = t
      · subst hdt
        simp only [if_true] at hv
        split at hv
        · cases hv; exact .inl ⟨hd, rfl⟩
        · cases hv
      · rw [if_neg hdt] at hv
        exact .inr ⟨by rw [hd]; exact fun h => hdt (by cases h; rfl), hv⟩
    · rename_i hd
      exact .inr ⟨by rw [hd]; exact fun h => (by cases h), hv⟩
  refine ⟨?_, ?_, ?_, ?_, ?_, ?_⟩
  · intro k o' e ho' hk he hb
    rw [hL] at hk ⊢
    simp only [Bool.or_eq_true, decide_eq_true_eq] at hk ⊢
    rcases hk with rfl | hk
    · rw [hi] at ho'; cases ho'; exact .inr (hr e he hb)
    · exact .inr (I.closed k o' e ho' hk he hb)
  · intro k hk
    rw [hL] at hk
    simp only [Bool.or_eq_true, decide_eq_true_eq] at hk
    rcases hk with rfl | hk
    · exact (Array.getElem?_eq_some_iff.1 hi).1
    · exact I.lt k hk
  · unfold Act.put; split <;> exact I.defers
  · unfold Act.put; split
    · simpa using I.size
    · exact I.size
  · intro k o' d v ho' hk hd hv
    rw [hL] at hk
    simp only [Bool.or_eq_true, decide_eq_true_eq] at hk
    rcases hput d v hv with ⟨hdi, rfl⟩ | ⟨hdi, hv'⟩
    · have := hok.inj k i o' o d ho' hi hd hdi
      subst this
      exact hc
    · rcases hk with rfl | hk
      · rw [hi] at ho'; cases ho'; exact absurd hd hdi
      · exact (I.new k o' d v ho' hk hd hv').mono hle
  · intro t x v hno hx hv
    rcases hput t v hv with ⟨hdi, rfl⟩ | ⟨hdi, hv'⟩
    · exact absurd hdi (hno i o hi (by rw [hL]; simp))
    · exact (I.old t x v (fun k o' ho' hk => hno k o' ho' (by rw [hL]; simp [hk])) hx hv').mono hle

theorem ranges_apart (T : Txt P ops ex sz vs frs hs) {i j b : Nat} (hi : i < ops.size) (hj : j < ops.size) (h1 : (hs i).next ≤ b) (h2 : b < (hs (i + 1)).next) (h3 : (hs j).next ≤ b) (h4 : b < (hs (j + 1)).next) : i = j := by
  rcases Nat.lt_trichotomy i j with h | h | h
  · have := (T.nextLe (i + 1) j (by omega) (by omega)).next; omega
  · exact h
  · have := (T.nextLe (j + 1) i (by omega) (by omega)).next; omega

/-- A step that changes no memory. -/
theorem Inv.still {φ0 φ : Emb} {w0 w : World} {a : Act} {L : Nat → Bool} (I : Inv P ops ex sz vs frs hs φ0 w0 L φ a w) (_T : Txt P ops ex sz vs frs hs) (hok : RgOk sz ops ex st) {i : Nat} {o : Oper} (hi : ops[i]? = some o)
    (hr : ∀ e ∈ o.after, Region.binds .any e = true → L e.on = true) (hsame : hs (i + 1) = hs i) {c : Value} (hc : VRel φ (vs i) c) {L' : Nat → Bool} (hL : ∀ k, L' k = (decide (k = i) || L k)) :
    Inv P ops ex sz vs frs hs φ0 w0 L' φ (a.put o.dst c) w := by
  obtain ⟨f1, f2, f3, f4, f5, f6⟩ := I.frameStep hok hi hr (Emb.le_refl φ) hc hL
  have hmono : ∀ k, L k = true → L' k = true := fun k hk => by rw [hL]; simp [hk]
  refine ⟨f1, f2, f3, f4, f5, f6, ?_, ?_, I.glob, I.lies, ?_, ?_, I.le, I.fresh, I.img, I.frame, I.os, I.tape, I.output, I.wsize⟩
  · intro k hk hLk b h1 h2
    rw [hL] at hLk
    simp only [Bool.or_eq_false_iff] at hLk
    exact I.free k hk hLk.2 b h1 h2
  · intro k hLk b h1 h2
    rw [hL] at hLk
    simp only [Bool.or_eq_true, decide_eq_true_eq] at hLk
    rcases hLk with rfl | hLk
    · rw [hsame] at h2; omega
    · exact I.defd k hLk b h1 h2
  · intro k hk hcomp
    refine I.heap k hk ?_
    intro c' oc hoc hcl hne hside
    refine hcomp c' oc hoc hcl hne ?_
    have hci : c' ≠ i := fun h => hne (by rw [h]; exact hsame)
    rcases hside with ⟨h1, h2⟩ | ⟨h1, h2⟩
    · exact .inl ⟨h1, by rw [hL]; simp [hci, h2]⟩
    · exact .inr ⟨h1, hmono c' h2⟩
  · intro j oj cs hoj hLj hcl hal hall
    rw [hL] at hLj
    simp only [Bool.or_eq_true, decide_eq_true_eq] at hLj
    rcases hLj with rfl | hLj
    · have := congrArg AHeap.next hal
      rw [hsame, AHeap.next_alloc] at this
      omega
    · exact I.own j oj cs hoj hLj hcl hal (fun c' oc hoc hcc hLc => hall c' oc hoc hcc (hmono c' hLc))

/-- A new block. -/
theorem Inv.allo {φ0 φ : Emb} {w0 w : World} {a : Act} {L : Nat → Bool} (I : Inv P ops ex sz vs frs hs φ0 w0 L φ a w) (T : Txt P ops ex sz vs frs hs) (hok : RgOk sz ops ex st) {i : Nat} {o : Oper} (hi : ops[i]? = some o) (hun : L i = false)
    (hcls : clsI ex i o.op = .allo) (hr : ∀ e ∈ o.after, Region.binds .any e = true → L e.on = true) {cs : List AV} (hal : hs (i + 1) = (hs i).alloc cs) {c : Array Value} {e : TypeId} (hlen : cs.length ≤ c.size) (hcells : CellsAt φ cs c 0)
    {v : Value} (hv : VRel (φ.upd (hs i).next (w.heap.size, 0, c.size)) (vs i) v) {L' : Nat → Bool} (hL : ∀ k, L' k = (decide (k = i) || L k)) :
    Inv P ops ex sz vs frs hs φ0 w0 L' (φ.upd (hs i).next (w.heap.size, 0, c.size)) (a.put o.dst v) (w.alloc (.cells c e)) := by
  have hin : i < ops.size := (Array.getElem?_eq_some_iff.1 hi).1
  have hnx : (hs (i + 1)).next = (hs i).next + 1 := by rw [hal, AHeap.next_alloc]
  have hφ : φ (hs i).next = none := I.free i hin hun _ (Nat.le_refl _) (by omega)
  have hle := Emb.le_upd (φ := φ) (w.heap.size, 0, c.size) hφ
  obtain ⟨f1, f2, f3, f4, f5, f6⟩ := I.frameStep hok hi hr hle hv hL
  have hmono : ∀ k, L k = true → L' k = true := fun k hk => by rw [hL]; simp [hk]
  have hold : ∀ k, k < w.heap.size → (w.alloc (.cells c e)).heap[k]? = w.heap[k]? := fun k hk => heap_alloc_old w _ hk
  have hcase : ∀ b' p, φ.upd (hs i).next (w.heap.size, 0, c.size) b' = some p → (b' = (hs i).next ∧ p = (w.heap.size, 0, c.size)) ∨ (b' ≠ (hs i).next ∧ φ b' = some p) := by
    intro b' p hb
    by_cases hbn : b' = (hs i).next
    · subst hbn; rw [Emb.upd_same] at hb; cases hb; exact .inl ⟨rfl, rfl⟩
    · rw [Emb.upd_other φ _ hbn] at hb; exact .inr ⟨hbn, hb⟩
  have hnchain : ∀ c' (oc : Oper), ops[c']? = some oc → clsI ex c' oc.op = .chain → c' ≠ i := by
    rintro c' oc hoc hcc rfl
    rw [hi] at hoc; cases hoc; rw [hcls] at hcc; cases hcc
  refine ⟨f1, f2, f3, f4, f5, f6, ?_, ?_, ?_, ?_, ?_, ?_, Emb.le_trans I.le hle, ?_, ?_, ?_, I.os, I.tape, I.output, by simp; have := I.wsize; omega⟩
  · intro k hk hLk b h1 h2
    rw [hL] at hLk
    simp only [Bool.or_eq_false_iff, decide_eq_false_iff_not] at hLk
    have hbn : b ≠ (hs i).next := by
      rintro rfl
      exact hLk.1 (ranges_apart T hk hin h1 h2 (Nat.le_refl _) (by omega))
    rw [Emb.upd_other φ _ hbn]
    exact I.free k hk hLk.2 b h1 h2
  · intro k hLk b h1 h2
    rw [hL] at hLk
    simp only [Bool.or_eq_true, decide_eq_true_eq] at hLk
    rcases hLk with rfl | hLk
    · have : b = (hs k).next := by omega
      subst this
      exact ⟨_, Emb.upd_same _ _ _⟩
    · obtain ⟨p, hp⟩ := I.defd k hLk b h1 h2
      exact ⟨p, hle _ _ hp⟩
  · intro g hg
    obtain ⟨z, hz⟩ := I.glob g hg
    exact ⟨z, hle _ _ hz⟩
  · intro b k j z hb
    simp only [World.size_alloc]
    rcases hcase b _ hb with ⟨_, h⟩ | ⟨_, h⟩
    · cases h; omega
    · have := I.lies b k j z h; omega
  · intro k hk hcomp
    have hcompL : ∀ c' (oc : Oper), ops[c']? = some oc → clsI ex c' oc.op = .chain → hs (c' + 1) ≠ hs c' → ((c' < k ∧ L c' = false) ∨ (k ≤ c' ∧ L c' = true)) → ex.contains c' = true := by
      intro c' oc hoc hcl hne hside
      refine hcomp c' oc hoc hcl hne ?_
      have hci := hnchain c' oc hoc hcl
      rcases hside with ⟨h1, h2⟩ | ⟨h1, h2⟩
      · exact .inl ⟨h1, by rw [hL]; simp [hci, h2]⟩
      · exact .inr ⟨h1, hmono c' h2⟩
    refine (I.heap k hk hcompL).define hφ ?_ hlen hcells
    by_cases hki : k ≤ i
    · exact .inl (T.nextLe k i hki (by omega)).next
    · refine .inr ⟨(hs i).nfam, ?_⟩
      have hext : HExt (hs (i + 1)) (hs k) := T.extRange (by omega) hk (by
        intro q h1 h2 oq hoq hcq hne
        by_cases hLq : L q = true
        · rcases hok.allo q i oq o hoq hi hcq hcls (by omega) with h | h
          · exact h
          · have := h.closed I.closed hLq
            rw [hun] at this; cases this
        · exact hcompL q oq hoq hcq hne (.inl ⟨h2, by simpa using hLq⟩))
      rw [hext.get _ (by omega), hal, AHeap.get_alloc, if_pos rfl]
  · intro j oj cs' hoj hLj hcl hal' hall
    rw [hL] at hLj
    simp only [Bool.or_eq_true, decide_eq_true_eq] at hLj
    rcases hLj with rfl | hLj
    · have hcs : cs' = cs := by
        have h1 := congrArg (fun h => AHeap.get h (hs j).next) (hal.symm.trans hal')
        simp only [AHeap.get_alloc, if_pos] at h1
        cases h1; rfl
      subst hcs
      refine ⟨w.heap.size, c.size, c, e, Emb.upd_same _ _ _, heap_alloc_new w _, rfl, hlen, fun q x hx => let ⟨u, h1, h2⟩ := hcells q x hx; ⟨u, h1, h2.mono hle⟩, ?_⟩
      intro b' i' z' hb'
      rcases hcase b' _ hb' with ⟨h, _⟩ | ⟨_, h⟩
      · exact h
      · have := I.lies b' _ i' z' h; omega
    · obtain ⟨k, z, c1, e1, h1, h2, h3, h4, h5, h6⟩ := (I.own j oj cs' hoj hLj hcl hal' (fun c' oc hoc hcc hLc => hall c' oc hoc hcc (hmono c' hLc))).lies
      have hk : k < w.heap.size := (Array.getElem?_eq_some_iff.1 h2).1
      refine ⟨k, z, c1, e1, hle _ _ h1, (hold k hk).trans h2, h3, h4, fun q x hx => let ⟨u, q1, q2⟩ := h5 q x hx; ⟨u, q1, q2.mono hle⟩, ?_⟩
      intro b' i' z' hb'
      rcases hcase b' _ hb' with ⟨_, h⟩ | ⟨_, h⟩
      · cases h; omega
      · exact h6 b' i' z' h
  · intro b p h1 h2
    rcases hcase b p h2 with ⟨rfl, _⟩ | ⟨_, h⟩
    · have e1 := (T.nextLe 0 i (by omega) (by omega)).next
      have e2 := (T.nextLe (i + 1) ops.size (by omega) (by omega)).next
      omega
    · exact I.fresh b p h1 h
  · intro b k j z h1 h2
    rcases hcase b _ h2 with ⟨_, h⟩ | ⟨_, h⟩
    · cases h; exact .inl I.wsize
    · exact I.img b k j z h1 h
  · intro k hk hm
    rw [hold k (Nat.lt_of_lt_of_le hk I.wsize)]
    exact I.frame k hk hm

/-- A step of the chain. -/
theorem Inv.chain {φ0 φ φ' : Emb} {w0 w w' : World} {a : Act} {L : Nat → Bool} (I : Inv P ops ex sz vs frs hs φ0 w0 L φ a w) (T : Txt P ops ex sz vs frs hs) (hok : RgOk sz ops ex st) (hf0 : Fresh φ0 (hs 0) (hs ops.size)) {i : Nat} {o : Oper}
    (hi : ops[i]? = some o) (hun : L i = false) (hcls : clsI ex i o.op = .chain) (hr : ∀ e ∈ o.after, Region.binds .any e = true → L e.on = true) (t : Trans φ (hs i) w φ' (hs (i + 1)) w') (r' : HRel φ' (hs (i + 1)) w')
    {v : Value} (hv : VRel φ' (vs i) v) {L' : Nat → Bool} (hL : ∀ k, L' k = (decide (k = i) || L k)) : Inv P ops ex sz vs frs hs φ0 w0 L' φ' (a.put o.dst v) w' := by
  have hin : i < ops.size := (Array.getElem?_eq_some_iff.1 hi).1
  obtain ⟨f1, f2, f3, f4, f5, f6⟩ := I.frameStep hok hi hr t.le hv hL
  have hmono : ∀ k, L k = true → L' k = true := fun k hk => by rw [hL]; simp [hk]
  have hnx := (T.nextLe i (i + 1) (by omega) (by omega)).next
  have hg0 := (T.nextLe 0 i (by omega) (by omega))
  have hgn := (T.nextLe (i + 1) ops.size (by omega) (by omega)).next
  -- who is listed among the chain
  have hbefore : ∀ c' (oc : Oper), ops[c']? = some oc → clsI ex c' oc.op = .chain → c' < i → L c' = true := fun c' oc hoc hcc hlt => (hok.chain i c' o oc hi hoc hcls hcc hlt).ready I.closed hi hr
  have hbehind : ∀ c' (oc : Oper), ops[c']? = some oc → clsI ex c' oc.op = .chain → i < c' → L c' = false := by
    intro c' oc hoc hcc hlt
    cases hLc : L c' with
    | false => rfl
    | true =>
      have := (hok.chain c' i oc o hoc hi hcc hcls hlt).closed I.closed hLc
      rw [hun] at this; cases this
  have hfree : ∀ k, k < ops.size → L' k = false → ∀ b, (hs k).next ≤ b → b < (hs (k + 1)).next → φ' b = none := by
    intro k hk hLk b h1 h2
    rw [hL] at hLk
    simp only [Bool.or_eq_false_iff, decide_eq_false_iff_not] at hLk
    cases hb : φ' b with
    | none => rfl
    | some p =>
      have := t.new b p (I.free k hk hLk.2 b h1 h2) hb
      exact absurd (ranges_apart T hk hin h1 h2 this.1 this.2) hLk.1
  have hownstep : ∀ j (oj : Oper) cs, ops[j]? = some oj → L j = true → clsI ex j oj.op = .allo → hs (j + 1) = (hs j).alloc cs → i < j → Own φ' w' (hs j).next cs := by
    intro j oj cs hoj hLj hcl hal hij
    have hjn : j < ops.size := (Array.getElem?_eq_some_iff.1 hoj).1
    refine (I.own j oj cs hoj hLj hcl hal ?_).step (T.nextLe i j (by omega) (by omega)).next t
    intro c' oc hoc hcc hLc
    rcases Nat.lt_trichotomy c' i with h | h | h
    · omega
    · subst h; rw [hun] at hLc; cases hLc
    · rw [hbehind c' oc hoc hcc h] at hLc; cases hLc
  have hback : ∀ b, (∃ p, φ0 b = some p) → (∃ B, (hs i).get b = some B) → b < (hs 0).next := by
    rintro b ⟨p, hp⟩ ⟨B, hB⟩
    apply Nat.lt_of_not_le
    intro hle
    have := hf0 b hle (by have := AHeap.get_lt hB; omega)
    rw [hp] at this; cases this
  have hmut : ∀ k, k < w0.heap.size → (hs i).mut φ k → (hs 0).mut φ0 k := by
    rintro k hk ⟨b, j, z, hb, hm⟩
    cases hφ : φ0 b with
    | none =>
      rcases I.img b k j z hφ hb with h3 | ⟨b0, i0, z0, F, p, cs, h3, h4⟩
      · omega
      · exact ⟨b0, i0, z0, h3, .inl ⟨F, p, cs, h4⟩⟩
    | some q =>
      have := I.le b q hφ
      rw [hb] at this
      cases this
      rcases hm with ⟨F, p, cs, h4⟩ | ⟨_, _, h4⟩
      · obtain ⟨cs', h5, _⟩ := hg0.back (hback b ⟨_, hφ⟩ ⟨_, h4⟩) h4
        exact ⟨b, j, z, hφ, .inl ⟨F, p, cs', h5⟩⟩
      · obtain ⟨F', x', h5⟩ := hg0.backMap (hback b ⟨_, hφ⟩ ⟨_, h4⟩) h4
        exact ⟨b, j, z, hφ, .inr ⟨F', x', h5⟩⟩
  refine ⟨f1, f2, f3, f4, f5, f6, hfree, ?_, ?_, r'.lt, ?_, ?_, Emb.le_trans I.le t.le, ?_, ?_, ?_, t.os.trans I.os, t.tape.trans I.tape, t.output.trans I.output, Nat.le_trans I.wsize t.size⟩
  · intro k hLk b h1 h2
    rw [hL] at hLk
    simp only [Bool.or_eq_true, decide_eq_true_eq] at hLk
    rcases hLk with rfl | hLk
    · exact t.dom b h1 h2
    · obtain ⟨p, hp⟩ := I.defd k hLk b h1 h2
      exact ⟨p, t.le _ _ hp⟩
  · intro g hg
    obtain ⟨z, hz⟩ := I.glob g hg
    exact ⟨z, t.le _ _ hz⟩
  · intro k hk hcomp
    by_cases hki : k ≤ i
    · refine T.down (by omega) (by omega) ?_ r'
      intro q h1 h2 oq hoq hcq hne
      refine hcomp q oq hoq hcq hne (.inr ⟨h1, ?_⟩)
      by_cases hqi : q = i
      · subst hqi; rw [hL]; simp
      · exact hmono q (hbefore q oq hoq hcq (by omega))
    · refine T.up (show i + 1 ≤ k by omega) hk ?_ ?_ r'
      · intro q h1 h2 oq hoq hcq hne
        refine hcomp q oq hoq hcq hne (.inl ⟨h2, ?_⟩)
        rw [hL, hbehind q oq hoq hcq (by omega)]
        simp; omega
      · intro q oq h1 h2 hoq
        have hqn : q < ops.size := by omega
        cases hLq : L q with
        | false =>
          refine .inl (hfree q hqn ?_)
          rw [hL, hLq]; simp; omega
        | true =>
          rcases (T.ts q oq hqn hoq).2 with ⟨_, _, _, _, _, _, _, h⟩ | ⟨_, hst, _⟩
          · exact .inr (.inl h)
          · cases hc : clsI ex q oq.op with
            | pure => unfold SemI at hst; rw [hc] at hst; exact .inr (.inl hst.2)
            | read => unfold SemI at hst; rw [hc] at hst; exact .inr (.inl hst.2)
            | allo =>
              unfold SemI at hst; rw [hc] at hst
              obtain ⟨mk, cs, _, _, h⟩ := hst
              exact .inr (.inr ⟨cs, h, hownstep q oq cs hoq hLq hc h (by omega)⟩)
            | chain => rw [hbehind q oq hoq hc (by omega)] at hLq; cases hLq
  · intro j oj cs hoj hLj hcl hal hall
    have hij : i < j := hall i o hi hcls (by rw [hL]; simp)
    rw [hL] at hLj
    simp only [Bool.or_eq_true, decide_eq_true_eq] at hLj
    rcases hLj with rfl | hLj
    · omega
    · exact hownstep j oj cs hoj hLj hcl hal hij
  · intro b p h1 h2
    cases hφ : φ b with
    | some q => exact I.fresh b q h1 hφ
    | none =>
      have := t.new b p hφ h2
      have := hg0.next
      omega
  · intro b k j z h1 h2
    cases hφ : φ b with
    | some q =>
      have := t.le b q hφ
      rw [h2] at this
      cases this
      exact I.img b k j z h1 hφ
    | none =>
      rcases t.img b k j z hφ h2 with h3 | ⟨b0, i0, z0, F, p, cs, h3, h4⟩
      · exact .inl (Nat.le_trans I.wsize h3)
      · by_cases hk : w0.heap.size ≤ k
        · exact .inl hk
        · refine .inr ?_
          cases hφ0 : φ0 b0 with
          | none =>
            rcases I.img b0 k i0 z0 hφ0 h3 with h5 | h5
            · omega
            · exact h5
          | some q =>
            have := I.le b0 q hφ0
            rw [h3] at this
            cases this
            obtain ⟨cs', h5, _⟩ := hg0.back (hback b0 ⟨_, hφ0⟩ ⟨_, h4⟩) h4
            exact ⟨b0, i0, z0, F, p, cs', hφ0, h5⟩
  · intro k hk hm
    rw [t.frame k (Nat.lt_of_lt_of_le hk I.wsize) (fun hm' => hm (hmut k hk hm'))]
    exact I.frame k hk hm

/-- All of it, in whatever order. -/
theorem Inv.all {φ0 : Emb} {w0 : World} (T : Txt P ops ex sz vs frs hs) (hok : RgOk sz ops ex st) (hstab : ∀ c r (o : Oper), (c, r) ∈ st → c < ops.size → ops[r]? = some o → areadR P (hs (c + 1)) (evalA (hs r).globs (frs r)) o.op = some (vs r)) (hf0 : Fresh φ0 (hs 0) (hs ops.size)) {Q : Exit → Act → World → Prop}
    (hq : ∀ φ a w, Trans φ0 (hs 0) w0 φ (hs ops.size) w → Sim φ (frs ops.size) (hs ops.size) a w → Q .normal a w) :
    ∀ (fuel : Nat) (listed : Array Bool) (φ : Emb) (a : Act) (w : World), listed.size = ops.size → (List.range ops.size).countP (fun k => !listed.getD k false) ≤ fuel →
      Inv P ops ex sz vs frs hs φ0 w0 (fun k => listed.getD k false) φ a w → wpAny P .any ops Q fuel listed a w := by
  have hdone : ∀ (listed : Array Bool) (φ : Emb) (a : Act) (w : World), listed.size = ops.size → Inv P ops ex sz vs frs hs φ0 w0 (fun k => listed.getD k false) φ a w → Region.ready .any ops listed = [] → Q .normal a w := by
    intro listed φ a w hsz I hrd
    have hall : ∀ i, i < ops.size → listed.getD i false = true := by
      intro i
      induction i using Nat.strongRecOn with
      | _ i ih =>
        intro hi
        have ho := Array.getElem?_eq_getElem (xs := ops) (i := i) hi
        cases hL : listed.getD i false with
        | true => rfl
        | false =>
          have : i ∈ Region.ready .any ops listed := by
            rw [mem_ready]
            refine ⟨?_, ops[i], ho, ?_⟩
            · rw [Array.getD_eq_getD_getElem?, Array.getElem?_eq_getElem (by omega)] at hL ⊢
              exact hL
            · intro e he hb
              have hlt := hok.back i _ e ho he hb
              exact ih e.on hlt (by omega)
          rw [hrd] at this
          cases this
    have hrel := I.heap ops.size (Nat.le_refl _) (by
      intro c oc hoc _ _ hside
      have hc := (Array.getElem?_eq_some_iff.1 hoc).1
      rcases hside with ⟨_, h⟩ | ⟨h, _⟩
      · have := hall c hc; rw [this] at h; cases h
      · omega)
    refine hq φ a w ⟨I.le, ?_, I.fresh, I.img, I.frame, I.os, I.tape, I.output, I.wsize⟩ ⟨hrel, I.defers, ?_, ?_⟩
    · intro b h1 h2
      -- some operation made it
      have : ∀ d, d ≤ ops.size → b < (hs d).next → ∃ i, i < d ∧ (hs i).next ≤ b ∧ b < (hs (i + 1)).next := by
        intro d
        induction d with
        | zero => intro _ h; omega
        | succ d ih =>
          intro hd h
          by_cases h' : b < (hs d).next
          · obtain ⟨i, hi, h3⟩ := ih (by omega) h'
            exact ⟨i, by omega, h3⟩
          · exact ⟨d, by omega, by omega, h⟩
      obtain ⟨i, hi, h3, h4⟩ := this ops.size (Nat.le_refl _) h2
      exact I.defd i (hall i hi) b h3 h4
    · rw [T.len _ (Nat.le_refl _), I.size]
    · intro t x v hx hv
      have ht : t < sz := by rw [← T.len ops.size (Nat.le_refl _)]; exact (List.getElem?_eq_some_iff.1 hx).1
      rcases T.slot hok ops.size (Nat.le_refl _) t ht with ⟨j, oj, hj, hoj, hdj, hval⟩ | ⟨hno, hval⟩
      · rw [hval] at hx; cases hx
        exact I.new j oj t v hoj (hall j hj) hdj hv
      · rw [hval] at hx
        exact I.old t x v (fun k o ho _ => hno k o (Array.getElem?_eq_some_iff.1 ho).1 ho) hx hv
  have hnext : ∀ (listed : Array Bool) (i : Nat), listed.size = ops.size → i < ops.size → ∀ k, (listed.setIfInBounds i true).getD k false = (decide (k = i) || listed.getD k false) := by
    intro listed i hsz hi k
    by_cases hki : k = i
    · subst hki
      simp [show k < listed.size by omega]
    · rw [getD_set_ne false (fun h => hki h.symm)]
      simp [hki]
  intro fuel
  induction fuel with
  | zero =>
    intro listed φ a w hsz hcnt I
    have hrd : Region.ready .any ops listed = [] := by
      cases hr : Region.ready .any ops listed with
      | nil => rfl
      | cons i l =>
        have hm : i ∈ Region.ready .any ops listed := by rw [hr]; simp
        rw [mem_ready] at hm
        obtain ⟨h0, o, ho, _⟩ := hm
        have hi := (Array.getElem?_eq_some_iff.1 ho).1
        have : 0 < (List.range ops.size).countP (fun k => !listed.getD k false) := by
          rw [List.countP_pos_iff]
          refine ⟨i, List.mem_range.2 hi, ?_⟩
          rw [Array.getD_eq_getD_getElem?, Array.getElem?_eq_getElem (by omega)] at h0 ⊢
          simpa using h0
        omega
    exact ⟨hrd, hdone listed φ a w hsz I hrd⟩
  | succ fuel ih =>
    intro listed φ a w hsz hcnt I
    refine ⟨fun h => hdone listed φ a w hsz I h, ?_⟩
    intro i hi
    rw [mem_ready] at hi
    obtain ⟨h0, o, ho, hedges⟩ := hi
    have hin := (Array.getElem?_eq_some_iff.1 ho).1
    have hun : listed.getD i false = false := by
      rw [Array.getD_eq_getD_getElem?, Array.getElem?_eq_getElem (by omega)] at h0 ⊢
      exact h0
    have hL := hnext listed i hsz hin
    have hcnt' : (List.range ops.size).countP (fun k => !(listed.setIfInBounds i true).getD k false) ≤ fuel := by
      have hlt : (List.range ops.size).countP (fun k => !(listed.setIfInBounds i true).getD k false) < (List.range ops.size).countP (fun k => !listed.getD k false) := by
        have hgen : ∀ n, i < n → (List.range n).countP (fun k => !(listed.setIfInBounds i true).getD k false) < (List.range n).countP (fun k => !listed.getD k false) := by
          have hle : ∀ n, (List.range n).countP (fun k => !(listed.setIfInBounds i true).getD k false) ≤ (List.range n).countP (fun k => !listed.getD k false) := by
            intro n
            refine List.countP_mono_left ?_
            intro k _ hk
            rw [hL] at hk
            simp at hk ⊢
            exact hk.2
          intro n
          induction n with
          | zero => intro h; omega
          | succ n ihn =>
            intro h
            rw [List.range_succ, List.countP_append, List.countP_append, List.countP_singleton, List.countP_singleton]
            by_cases hni : i = n
            · subst hni
              have e1 : (!(listed.setIfInBounds i true).getD i false) = false := by rw [hL]; simp
              have e2 : (!listed.getD i false) = true := by rw [hun]; rfl
              rw [e1, e2]
              have := hle i
              simp
              simp at this
              omega
            · have := ihn (by omega)
              have e : (listed.setIfInBounds i true).getD n false = listed.getD n false := by rw [hL]; simp; omega
              rw [e]
              omega
        exact hgen ops.size hin
      omega
    have hrest : ∀ φ' a' w', Inv P ops ex sz vs frs hs φ0 w0 (fun k => (listed.setIfInBounds i true).getD k false) φ' a' w' → wpAny P .any ops Q fuel (listed.setIfInBounds i true) a' w' :=
      fun φ' a' w' I' => ih (listed.setIfInBounds i true) φ' a' w' (by simpa using hsz) hcnt' I'
    have hopnd := I.opnd T hok ho hun hedges
    unfold wpOp
    simp only [ho]
    rcases (T.ts i o hin ho).2 with ⟨j, want, b, hg, hb, hbw, hvs, hsame⟩ | ⟨hguard, hst, _⟩
    · have hw : Region.wanted o (yielded ops a.tmps) = false := by
        simp [Region.wanted, hg, I.wanted T hok ho hun hedges hg hb]
        exact hbw
      simp only [hw, Bool.false_eq_true, if_false]
      exact hrest φ _ w (I.still T hok ho hedges hsame (by rw [hvs]; exact VRel.undef φ) hL)
    · have hw : Region.wanted o (yielded ops a.tmps) = true := by
        rcases hguard with hg | ⟨j, want, hg, hb⟩
        · simp [Region.wanted, hg]
        · simp [Region.wanted, hg, I.wanted T hok ho hun hedges hg hb]
      simp only [hw, if_true]
      refine .inl ?_
      have hcomp0 : ∀ i', (∀ c (oc : Oper), ops[c]? = some oc → clsI ex c oc.op = .chain → hs (c + 1) ≠ hs c → ((c < i' ∧ listed.getD c false = false) ∨ (i' ≤ c ∧ listed.getD c false = true)) → ex.contains c = true) → i' ≤ ops.size → HRel φ (hs i') w := fun i' h hi' => I.heap i' hi' h
      cases hc : clsI ex i o.op with
      | pure =>
        unfold SemI at hst; rw [hc] at hst
        obtain ⟨c, hrun, hv⟩ := apure_sound (ev := a.eval) hopnd hst.1 w
        exact wp_of_run hrun (hrest φ _ w (I.still T hok ho hedges hst.2 hv hL))
      | read =>
        unfold SemI at hst; rw [hc] at hst
        by_cases hstx : ∃ (c : Nat) (oc : Oper), ops[c]? = some oc ∧ clsI ex c oc.op = .chain ∧ listed.getD c false = true ∧ (c, i) ∈ st ∧ i < c
        · -- a store that was done ahead
          have hmax : ∃ (c : Nat) (oc : Oper), (ops[c]? = some oc ∧ clsI ex c oc.op = .chain ∧ listed.getD c false = true ∧ (c, i) ∈ st ∧ i < c) ∧ ∀ (c' : Nat) (oc' : Oper), (ops[c']? = some oc' ∧ clsI ex c' oc'.op = .chain ∧ listed.getD c' false = true ∧ (c', i) ∈ st ∧ i < c') → c' ≤ c := by
            have key : ∀ (k c : Nat) (oc : Oper), ops.size - c = k → (ops[c]? = some oc ∧ clsI ex c oc.op = .chain ∧ listed.getD c false = true ∧ (c, i) ∈ st ∧ i < c) → ∃ (c : Nat) (oc : Oper), (ops[c]? = some oc ∧ clsI ex c oc.op = .chain ∧ listed.getD c false = true ∧ (c, i) ∈ st ∧ i < c) ∧ ∀ (c' : Nat) (oc' : Oper), (ops[c']? = some oc' ∧ clsI ex c' oc'.op = .chain ∧ listed.getD c' false = true ∧ (c', i) ∈ st ∧ i < c') → c' ≤ c := by
              intro k
              induction k using Nat.strongRecOn with
              | _ k ihk =>
                intro c oc hk hcc
                by_cases hb : ∃ (c' : Nat) (oc' : Oper), (ops[c']? = some oc' ∧ clsI ex c' oc'.op = .chain ∧ listed.getD c' false = true ∧ (c', i) ∈ st ∧ i < c') ∧ c < c'
                · obtain ⟨c', oc', h1, h2⟩ := hb
                  have hlt := (Array.getElem?_eq_some_iff.1 h1.1).1
                  exact ihk (ops.size - c') (by omega) c' oc' rfl h1
                · exact ⟨c, oc, hcc, fun c' oc' h1 => Classical.byContradiction fun h2 => hb ⟨c', oc', h1, by omega⟩⟩
            obtain ⟨c, oc, h⟩ := hstx
            exact key _ c oc rfl h
          obtain ⟨c, oc, ⟨hoc, hcc, hcl, hcs, hci⟩, hcm⟩ := hmax
          have hclt := (Array.getElem?_eq_some_iff.1 hoc).1
          have hrel : HRel φ (hs (c + 1)) w := by
            refine hcomp0 (c + 1) ?_ (by omega)
            intro c' oc' hoc' hcc' _ hside
            rcases hside with ⟨h1, h2⟩ | ⟨h1, h2⟩
            · by_cases hce : c' = c
              · subst hce; rw [hcl] at h2; cases h2
              · have := (hok.chain c c' oc oc' hoc hoc' hcc hcc' (by omega)).closed I.closed hcl
                rw [h2] at this; cases this
            · rcases hok.read c' i oc' o hoc' ho hcc' hc with h | h | h | ⟨h, h'⟩
              · exact h
              · have := h.closed I.closed h2
                rw [hun] at this; cases this
              · have := dep_lt hok h; omega
              · have := hcm c' oc' ⟨hoc', hcc', h2, h', h⟩; omega
          obtain ⟨cv, hrun, hv⟩ := areadR_sound (ev := a.eval) hrel hopnd (hstab c i o hcs hclt ho)
          exact wp_of_run hrun (hrest φ _ w (I.still T hok ho hedges hst.2 hv hL))
        have hrel : HRel φ (hs i) w := by
          refine hcomp0 i ?_ (by omega)
          intro c oc hoc hcc _ hside
          rcases hok.read c i oc o hoc ho hcc hc with h | h | h | ⟨h, h'⟩
          · exact h
          · have hlt := dep_lt hok h
            rcases hside with ⟨h1, _⟩ | ⟨_, h2⟩
            · omega
            · have := h.closed I.closed h2
              rw [hun] at this; cases this
          · have hlt := dep_lt hok h
            have := h.ready I.closed ho hedges
            rcases hside with ⟨_, h2⟩ | ⟨h1, _⟩
            · rw [h2] at this; cases this
            · omega
          · rcases hside with ⟨h1, _⟩ | ⟨_, h2⟩
            · omega
            · exact absurd ⟨c, oc, hoc, hcc, h2, h', h⟩ hstx
        obtain ⟨c, hrun, hv⟩ := areadR_sound (ev := a.eval) hrel hopnd hst.1
        exact wp_of_run hrun (hrest φ _ w (I.still T hok ho hedges hst.2 hv hL))
      | allo =>
        unfold SemI at hst; rw [hc] at hst
        obtain ⟨mk, cs, hal, hvs, hh⟩ := hst
        obtain ⟨c, e, v, hrun, hlen, hcells, hval⟩ := aallo_sound (ev := a.eval) (w := w) hopnd hal
        refine wp_of_run hrun (hrest _ _ _ (I.allo T hok ho hun hc hedges hh hlen hcells ?_ hL))
        rw [hvs]
        exact hval _ _ (Emb.upd_same _ _ _)
      | chain =>
        have hrel : HRel φ (hs i) w := by
          refine hcomp0 i ?_ (by omega)
          intro c oc hoc hcc _ hside
          rcases hside with ⟨h1, h2⟩ | ⟨h1, h2⟩
          · have := (hok.chain i c o oc ho hoc hc hcc h1).ready I.closed ho hedges
            rw [h2] at this; cases this
          · by_cases hci : c = i
            · subst hci; rw [hun] at h2; cases h2
            · have := (hok.chain c i oc o hoc ho hcc hc (by omega)).closed I.closed h2
              rw [hun] at this; cases this
        unfold SemI at hst; rw [hc] at hst
        refine hst.2 φ a w _ Q (fun b h1 h2 => I.free i hin hun b h1 h2) hrel hopnd ?_
        intro φ' c w' t r' hv
        exact hrest φ' _ w' (I.chain T hok hf0 ho hun hc hedges t r' hv hL)

end drawn

/-- A region whose order is open, by a run in the order of its text. -/
theorem AW.region_run {P : Program} {id : Nat} {ops : Array Oper} {ex : List Nat} {st : List (Nat × Nat)} {sz : Nat} {Q : Ex → List AV → AHeap → Prop} {fr : List AV} {h : AHeap} (hm : P.follows .mixedOrders = true)
    (hok : RgOk sz ops ex st) (hsz : fr.length = sz) {vs : Nat → AV} {frs : Nat → List AV} {hs : Nat → AHeap} (e1 : frs 0 = fr) (e2 : hs 0 = h) (hK : Q .normal (frs ops.size) (hs ops.size))
    (hts : ∀ i o, i < ops.size → ops[i]? = some o → TS P ops ex i o (frs i) (hs i) (vs i) (frs (i + 1)) (hs (i + 1)))
    (hstab : ∀ c r (o : Oper), (c, r) ∈ st → c < ops.size → ops[r]? = some o → areadR P (hs (c + 1)) (evalA (hs r).globs (frs r)) o.op = some (vs r)) : AW P (.region id ops true) Q fr h := by
  have hgrow : HGrow h (hs ops.size) := by
    have : ∀ i, i ≤ ops.size → HGrow (hs 0) (hs i) := by
      intro i
      induction i with
      | zero => intro _; exact HGrow.refl _
      | succ i ih => intro hi; exact (ih (by omega)).trans (hts i _ (by omega) (Array.getElem?_eq_getElem (by omega))).grow
    rw [← e2]
    exact this _ (Nat.le_refl _)
  refine ⟨.normal, frs ops.size, hs ops.size, ⟨hgrow, ?_⟩, hK⟩
  intro φ a w hfr s
  refine wp_region_any hm ?_
  rw [← e1, ← e2] at s
  rw [← e2] at hfr
  obtain ⟨g0, gn, hst⟩ := text_states hts hfr s
  have T : Txt P ops ex sz vs frs hs := by
    refine ⟨hts, ?_, fun i hi => (g0 i hi).globs, by rw [e1]; exact hsz⟩
    intro i hi
    obtain ⟨φ', a', w', s', _⟩ := hst i hi
    exact s'.heap.ext
  have hdrew : ({ w with drawn := w.drawn + 1 } : World) = w.drew := rfl
  rw [hdrew]
  refine Inv.all T hok hstab hfr (Q := fun e' a' w' => e' = Ex.normal.toExit ∧ ∃ φ', Trans φ h w φ' (hs ops.size) w' ∧ Sim φ' (frs ops.size) (hs ops.size) a' w') (w0 := w.drew) ?_ ops.size _ φ a w.drew (by simp) ?_ ?_
  · intro φ' a' w' t s'
    rw [e2] at t
    exact ⟨rfl, φ', t.drew, s'⟩
  · exact Nat.le_trans List.countP_le_length (by simp)
  · have hno : ∀ k, (Array.replicate ops.size false).getD k false = false := by
      intro k
      rw [Array.getD_eq_getD_getElem?]
      by_cases hk : k < ops.size
      · simp [hk]
      · simp [hk]
    have hd := s.heap.drew
    refine ⟨?_, ?_, s.fr.1, ?_, ?_, ?_, ?_, ?_, hd.glob, hd.lt, ?_, ?_, Emb.le_refl φ, ?_, ?_, fun _ _ _ => rfl, rfl, rfl, rfl, Nat.le_refl _⟩
    · intro i o e _ h _ _; rw [hno] at h; cases h
    · intro i h; rw [hno] at h; cases h
    · rw [← s.fr.2.1, e1]; exact hsz
    · intro i o d v _ h _ _; rw [hno] at h; cases h
    · intro t x v _ hx hv; exact s.fr.2.2 t x v hx hv
    · intro i hi _ b h1 h2
      exact hfr b (Nat.le_trans (g0 i (by omega)).next h1) (Nat.lt_of_lt_of_le h2 (gn (i + 1) (by omega)).next)
    · intro i h; rw [hno] at h; cases h
    · intro i hi hcomp
      refine T.up (Nat.zero_le i) hi ?_ ?_ hd
      · intro k _ hk oc hoc hcc hne
        exact hcomp k oc hoc hcc hne (.inl ⟨hk, hno k⟩)
      · intro k o _ hk _
        refine .inl ?_
        intro b h1 h2
        exact hfr b (Nat.le_trans (g0 k (by omega)).next h1) (Nat.lt_of_lt_of_le h2 (gn (k + 1) (by omega)).next)
    · intro j o cs _ h _ _ _; rw [hno] at h; cases h
    · intro b p h1 h2; rw [h1] at h2; cases h2
    · intro b k i z h1 h2; rw [h1] at h2; cases h2

def isChain (ex : List Nat) (i : Nat) (o : Oper) : Bool := clsI ex i o.op == .chain
def isRead (ex : List Nat) (i : Nat) (o : Oper) : Bool := clsI ex i o.op == .read
def isAllo (ex : List Nat) (i : Nat) (o : Oper) : Bool := clsI ex i o.op == .allo

def tmpsOf (o : Oper) : List Nat := o.op.operands.toList.filterMap fun | .tmp t => some t | _ => none

/-- One pair of operations. -/
def pairOk (ex : List Nat) (st : List (Nat × Nat)) (ri rj : Nat) (i j : Nat) (oi oj : Oper) : Bool :=
  (i == j || oi.dst.isNone || !(oi.dst == oj.dst)) &&
  (match oj.dst with
    | some t => !(tmpsOf oi).contains t || (decide (j < i) && inMask ri j) || (decide (i < j) && inMask rj i)
    | none => true) &&
  (!(isChain ex i oi && isChain ex j oj && decide (j < i)) || inMask ri j) &&
  (!(isChain ex i oi && isRead ex j oj) || ex.contains i || inMask ri j || inMask rj i || (decide (j < i) && st.contains (i, j))) &&
  (!(isChain ex i oi && isAllo ex j oj && decide (j < i)) || ex.contains i || inMask ri j)

def oneOk (sz : Nat) (ri : Nat) (i : Nat) (o : Oper) : Bool :=
  o.after.toList.all (fun e => !Region.binds .any e || decide (e.on < i)) &&
  (match o.dst with | some d => decide (d < sz) | none => true) &&
  (match o.guard with | some (g, _) => inMask ri g | none => true)

def rgOk (sz : Nat) (l : List Oper) (ex : List Nat) (st : List (Nat × Nat) := []) : Bool :=
  let rl := reachM [] l
  !(ex == TXT) && l.zipIdx.all fun (o, i) => oneOk sz (rl.getD i 0) i o && l.zipIdx.all fun (o', j) => pairOk ex st (rl.getD i 0) (rl.getD j 0) i j o o'

theorem rgOk_sound {sz : Nat} {ops : Array Oper} {l : List Oper} {ex : List Nat} {st : List (Nat × Nat)} (hl : ops.toList = l) (h : rgOk sz l ex st = true) : RgOk sz ops ex st := by
  subst hl
  have hdep : ∀ k j, inMask ((reachM [] ops.toList).getD k 0) j = true → Dep ops k j := reachM_dep ops.toList [] (by simp) (by intro k j h; simp [inMask] at h)
  unfold rgOk at h
  simp only [Bool.and_eq_true] at h
  obtain ⟨hntx, h⟩ := h
  simp only [List.all_eq_true] at h
  have hmem : ∀ i o, ops[i]? = some o → (o, i) ∈ ops.toList.zipIdx := by
    intro i o ho
    rw [List.mem_zipIdx_iff_getElem?]
    simpa using ho
  have h1 : ∀ i o, ops[i]? = some o → oneOk sz ((reachM [] ops.toList).getD i 0) i o = true := fun i o ho => (Bool.and_eq_true _ _ ▸ h (o, i) (hmem i o ho)).1
  have h2 : ∀ i j oi oj, ops[i]? = some oi → ops[j]? = some oj → pairOk ex st ((reachM [] ops.toList).getD i 0) ((reachM [] ops.toList).getD j 0) i j oi oj = true := by
    intro i j oi oj hi hj
    have := (Bool.and_eq_true _ _ ▸ h (oi, i) (hmem i oi hi)).2
    exact List.all_eq_true.1 this (oj, j) (hmem j oj hj)
  refine ⟨by simpa using hntx, ?_, ?_, ?_, ?_, ?_, ?_, ?_, ?_⟩
  · intro i o e ho he hb
    have := h1 i o ho
    simp only [oneOk, Bool.and_eq_true, List.all_eq_true] at this
    have := this.1.1 e (by simpa using he)
    simpa [hb] using this
  · intro i o d ho hd
    have := h1 i o ho
    simp only [oneOk, Bool.and_eq_true, hd] at this
    simpa using this.1.2
  · intro i j oi oj d hi hj hdi hdj
    have := h2 i j oi oj hi hj
    simp only [pairOk, Bool.and_eq_true, hdi, hdj] at this
    have := this.1.1.1.1
    simpa using this
  · intro i j oi oj t hi hj ht hdj
    have := h2 i j oi oj hi hj
    simp only [pairOk, Bool.and_eq_true, hdj] at this
    have := this.1.1.1.2
    have hin : (tmpsOf oi).contains t = true := by
      simp only [tmpsOf, List.contains_iff_mem, List.mem_filterMap]
      exact ⟨.tmp t, by simpa using ht, rfl⟩
    simp only [hin, Bool.not_true, Bool.false_or, Bool.or_eq_true, Bool.and_eq_true, decide_eq_true_eq] at this
    rcases this with ⟨a, b⟩ | ⟨a, b⟩
    · exact .inl ⟨a, hdep _ _ b⟩
    · exact .inr ⟨a, hdep _ _ b⟩
  · intro i o g want ho hg
    have := h1 i o ho
    simp only [oneOk, Bool.and_eq_true, hg] at this
    exact hdep _ _ this.2
  · intro i j oi oj hi hj hci hcj hlt
    have := h2 i j oi oj hi hj
    simp only [pairOk, Bool.and_eq_true] at this
    have := this.1.1.2
    simp only [isChain, hci, hcj, beq_self_eq_true, hlt, decide_true, Bool.and_self, Bool.not_true, Bool.false_or] at this
    exact hdep _ _ this
  · intro c r oc or hc hr hcc hrr
    have := h2 c r oc or hc hr
    simp only [pairOk, Bool.and_eq_true] at this
    have := this.1.2
    simp only [isChain, isRead, hcc, hrr, beq_self_eq_true, Bool.and_self, Bool.not_true, Bool.false_or, Bool.or_eq_true] at this
    rcases this with ((a | a) | a) | a
    · exact .inl a
    · exact .inr (.inl (hdep _ _ a))
    · exact .inr (.inr (.inl (hdep _ _ a)))
    · simp only [Bool.and_eq_true, decide_eq_true_eq, List.contains_iff_mem] at a
      exact .inr (.inr (.inr a))
  · intro c j oc oj hc hj hcc hjj hlt
    have := h2 c j oc oj hc hj
    simp only [pairOk, Bool.and_eq_true] at this
    have := this.2
    simp only [isChain, isAllo, hcc, hjj, beq_self_eq_true, hlt, decide_true, Bool.and_self, Bool.not_true, Bool.false_or, Bool.or_eq_true] at this
    rcases this with a | a
    · exact .inl a
    · exact .inr (hdep _ _ a)

theorem TS.of {P : Program} {ops : Array Oper} {ex : List Nat} {i : Nat} {o : Oper} {fr fr' : List AV} {h h' : AHeap} {v : AV} (t : Go.Am.TS P ops ex i o fr h v fr' h') : TS P ops ex i o fr h v fr' h' :=
  ⟨t.1, t.2.imp id fun ⟨h1, h2, h3⟩ => ⟨h1, SemI.of h2, h3⟩⟩
theorem AW.region_drawL {P : Program} {id c : Nat} {ops : Array Oper} {l1 l2 : List Oper} {oc : Oper} {ex : List Nat} {sz : Nat} {Q : Ex → List AV → AHeap → Prop} {fr : List AV} {h : AHeap} (hm : P.follows .mixedOrders = true) (hl : ops.toList = l1 ++ oc :: l2) (hc : l1.length = c)
    (hok : RgOk sz ops ex []) (hsz : fr.length = sz) (hg : oc.guard = none) (hmk : ex.contains (c + 1000) = true)
    (hw : AOps P ops ex (fun fr1 h1 => ∃ v, StepS P (evalA h1.globs fr1) oc h1 v h1 ∧ AOps P ops ex (Q .normal) (c + 1) l2 (setF fr1 oc.dst v) h1) 0 l1 fr h) : AW P (.region id ops true) Q fr h := by
  have hsize : ops.size = l1.length + (l2.length + 1) := by rw [← Array.length_toList, hl, List.length_append, List.length_cons]
  have g1 : ∀ i, i < l1.length → l1[i]? = ops[0 + i]? := by
    intro i hi
    rw [Nat.zero_add, ← Array.getElem?_toList, hl, List.getElem?_append_left hi]
  have hoc : ops[c]? = some oc := by
    rw [← Array.getElem?_toList, hl, List.getElem?_append_right (by omega), hc, Nat.sub_self]; rfl
  have g2 : ∀ i, l2[i]? = ops[c + 1 + i]? := by
    intro i
    rw [← Array.getElem?_toList, hl, List.getElem?_append_right (by omega), hc, show c + 1 + i - c = i + 1 by omega]
    rfl
  obtain ⟨vs1, frs1, hs1, e1, e2, ⟨v, hst, hK1⟩, hall1⟩ := aops_textP hok.ntx l1 0 fr h g1 hw
  simp only [Nat.zero_add, hc] at hst hK1 hall1
  obtain ⟨vs2, frs2, hs2, e3, e4, hK2, hall2⟩ := aops_text hok.ntx l2 (c + 1) _ _ g2 hK1
  refine AW.region_run hm hok hsz (vs := fun i => if i < c then vs1 i else if i = c then v else vs2 i) (frs := fun i => if i ≤ c then frs1 i else frs2 i) (hs := fun i => if i ≤ c then hs1 i else hs2 i) (by simp [e1]) (by simp [e2]) ?_ ?_ ?_
  · simp only [if_neg (show ¬ ops.size ≤ c by omega)]
    rw [show ops.size = c + 1 + l2.length by omega]
    exact hK2
  · intro i oi hi hoi
    by_cases h1 : i < c
    · simp only [if_pos h1, if_pos (show i ≤ c by omega), if_pos (show i + 1 ≤ c by omega)]
      exact TS.of (hall1 i oi (Nat.zero_le _) (by omega) hoi)
    · by_cases h2 : i = c
      · subst h2
        rw [hoc] at hoi
        cases hoi
        simp only [if_neg h1, if_true, Nat.le_refl, if_neg (show ¬ i + 1 ≤ i by omega), e3, e4]
        exact ⟨rfl, .inr ⟨.inl hg, SemI.mark hmk hst, fun _ w => HExt.refl _⟩⟩
      · simp only [if_neg h1, if_neg h2, if_neg (show ¬ i ≤ c by omega), if_neg (show ¬ i + 1 ≤ c by omega)]
        exact TS.of (hall2 i oi (by omega) (by omega) hoi)
  · intro c r o hcr; cases hcr
end Go.Am.R
namespace Go.Am
section drawL
variable {P : Program} {n : Nat} {Q : Ex → KF → AHeap → Prop} {K : KF} {h : AHeap}
theorem KA.drawL {id c d : Nat} {ops : Array Oper} {l1 l2 : List Oper} {op : Op} {ty : TypeId} {pos : String} {after : Array Edge} (ex : List Nat) (hm : P.follows .mixedOrders = true) (hl1 : ops.toList.take c = l1) (hl2 : ops.toList.drop c = ⟨some d, op, ty, pos, after, none⟩ :: l2) (hc : l1.length = c) (hok : R.rgOk n ops.toList ex = true) (hmk : ex.contains (c + 1000) = true)
    (hw : KOps P n ops ex (fun K1 h1 => ∃ v, StepS P (evalK h1.globs n K1) ⟨some d, op, ty, pos, after, none⟩ h1 v h1 ∧ KOps P n ops ex (Q .normal) (c + 1) l2 ((d, v) :: K1) h1) 0 l1 K h) : KA P n (.region id ops true) Q K h := by
  refine R.AW.region_drawL (c := c) (l1 := l1) (l2 := l2) hm (by rw [← hl1, ← hl2, List.take_append_drop]) hc (R.rgOk_sound rfl hok) (toFr_length n K) rfl hmk ?_
  refine aops_mono ?_ _ _ _ _ hw
  rintro fr1 h1 ⟨K1, rfl, v, hst, hrest⟩
  refine ⟨v, ?_, ?_⟩
  · rw [evalA_toFr]; exact hst
  · simp only [setF, toFr_set]; exact hrest
theorem NA.drawL {id c d : Nat} {ops : Array Oper} {l1 l2 : List Oper} {op : Op} {ty : TypeId} {pos : String} {after : Array Edge} (ex : List Nat) (hm : P.follows .mixedOrders = true) (hl1 : ops.toList.take c = l1) (hl2 : ops.toList.drop c = ⟨some d, op, ty, pos, after, none⟩ :: l2) (hc : l1.length = c) (hok : R.rgOk n ops.toList ex = true) (hmk : ex.contains (c + 1000) = true)
    (hw : KOps P n ops ex (fun K1 h1 => ∃ v, StepS P (evalK h1.globs n K1) ⟨some d, op, ty, pos, after, none⟩ h1 v h1 ∧ KOps P n ops ex (Q .normal) (c + 1) l2 ((d, v) :: K1) h1) 0 l1 K h) : NA P n (.region id ops true) Q K h := NA.of (KA.drawL ex hm hl1 hl2 hc hok hmk hw)
end drawL
section
variable {P : Program} {n : Nat} {ops : Array Oper} {ex : List Nat} {Q : KF → AHeap → Prop} {k j : Nat} {l2 : List Oper} {K : KF} {h : AHeap} {d : Nat} {ty : TypeId} {pos : String} {after : Array Edge}
end
end Go.Am

namespace Go.Am
/-! Sets of numbers of which no two clash, by what may still come. -/
def cand (sf : Nat → Nat → Bool) (m i : Nat) (l : List Nat) : List Nat := (List.range' i (m - i)).filter fun x => l.all fun j => sf j x
theorem cand_end {sf : Nat → Nat → Bool} {m i : Nat} {l : List Nat} (h : m ≤ i) : cand sf m i l = [] := by
  unfold cand
  rw [show m - i = 0 by omega]; rfl
theorem cand_step {sf : Nat → Nat → Bool} {m i : Nat} {l : List Nat} (h : i < m) : cand sf m i l = if (l.all fun j => sf j i) = true then i :: cand sf m (i + 1) l else cand sf m (i + 1) l := by
  unfold cand
  rw [show m - i = (m - (i + 1)) + 1 by omega, List.range'_succ, List.filter_cons]
theorem cand_push {sf : Nat → Nat → Bool} {m i k : Nat} {l : List Nat} : (cand sf m i l).filter (sf k) = cand sf m i (l ++ [k]) := by
  unfold cand
  rw [List.filter_filter]
  refine congrArg (fun p => (List.range' i (m - i)).filter p) (funext fun x => ?_)
  simp [List.all_append, Bool.and_comm]
theorem cand_all {sf : Nat → Nat → Bool} {m : Nat} : cand sf m 0 [] = List.range m := by
  unfold cand
  rw [Nat.sub_zero, ← List.range_eq_range']
  exact List.filter_eq_self.2 fun x _ => rfl
def clW (n i j : Nat) : Bool := clashW (wordN i n) (wordN j n)
def sfW (n i j : Nat) : Bool := !clW n i j
theorem most_words {n : Nat} (h : 1 ≤ n ∧ n ≤ 4) : misL (sfW n) (List.range (2 ^ n)) = mostN n ∧ (codeW n 0).length = mostN n := by
  obtain ⟨m1, m2, m3, m4, -⟩ := most_nums
  have hn : n = 1 ∨ n = 2 ∨ n = 3 ∨ n = 4 := by omega
  rcases hn with rfl | rfl | rfl | rfl
  · rw [m1]; decide +kernel
  · rw [m2]; decide +kernel
  · rw [m3]; decide +kernel
  · rw [m4]; decide +kernel
/-! Maps by two numbers. -/
abbrev kp (p : Nat × Nat) : AV := .agg [.int .i64 (p.1 : Int), .int .i64 (p.2 : Int)]
instance kyP : KeyT Go.Proofs.Tryd.prog 55 kp := by
  have K := KeyT.arr (P := Go.Proofs.Tryd.prog) (kt := 55) (e := 3) (n := 2) (k := .i64) (by kernel_rfl) (by kernel_rfl) (by kernel_rfl) (by kernel_rfl)
  refine ⟨fun a => K.ok ⟨[(a.1 : Int), (a.2 : Int)], rfl⟩, fun a b => ?_⟩
  have h := K.eq ⟨[(a.1 : Int), (a.2 : Int)], rfl⟩ ⟨[(b.1 : Int), (b.2 : Int)], rfl⟩
  refine Eq.trans h (congrArg some (decide_eq_decide.2 ⟨fun e => ?_, fun e => by rw [e]⟩))
  have e := congrArg Subtype.val e
  simp only [List.cons.injEq, and_true] at e
  exact Prod.ext (Int.natCast_inj.1 e.1) (Int.natCast_inj.1 e.2)
abbrev pairE (L : List ((Nat × Nat) × Bool)) : List (AV × AV) := entL kp AV.bool L
def gp (L : List ((Nat × Nat) × Bool)) (a b : Nat) : Bool := (mget L (a, b)).getD false
theorem gp_put (L : List ((Nat × Nat) × Bool)) (i j a b : Nat) (u : Bool) : gp (mput L (i, j) u) a b = if a = i ∧ b = j then u else gp L a b := by
  unfold gp
  rw [mget_mput]
  by_cases h : a = i ∧ b = j
  · rw [if_pos h, if_pos (Prod.ext h.1 h.2)]; rfl
  · rw [if_neg h, if_neg (fun e => h ⟨congrArg Prod.fst e, congrArg Prod.snd e⟩)]
section
variable {P : Program} {n : Nat} {ops : Array Oper} {ex : List Nat} {Q : KF → AHeap → Prop} {k : Nat} {os : List Oper} {K : KF} {h h0 : AHeap} {d : Nat} {ty : TypeId} {pos : String} {after : Array Edge} {objs : List Obj}
theorem KOps.chainE {op : Op} {v : AV} (hc : clsOf op = .chain) (hs : StepS P (evalK h.globs n K) ⟨some d, op, ty, pos, after, none⟩ h v h) (hk : KOps P n ops ex Q (k + 1) os ((d, v) :: K) h) :
    KOps P n ops ex Q k (⟨some d, op, ty, pos, after, none⟩ :: os) K h :=
  KOps.step (by unfold SemStep; simp only [hc]; exact hs) (fun _ _ => HExt.refl _) hk
theorem KOps.hasP {t kt : TypeId} {L : List ((Nat × Nat) × Bool)} {v : AV} {x ix : Operand} {a b : Nat} [hx : EvK h.globs n K x v] [hi : EvK h.globs n K ix (kp (a, b))] [ht : MpT P t kt (.bool false)] [hkt : KeyT P kt kp] (hr : RdM h v (pairE L))
    (hk : KOps P n ops ex Q (k + 1) os ((d, .bool (gp L a b)) :: K) h) : KOps P n ops ex Q k (⟨some d, .lookup t x ix false, ty, pos, after, none⟩ :: os) K h := by
  refine KOps.chainE (v := .bool (gp L a b)) rfl (lookup_step rfl ?_) hk
  rw [hx.eq, hi.eq, hr.look]
  unfold gp
  cases mget L (a, b) <;> rfl
theorem KOps.setHasE {t kt : TypeId} {p : List (List Bool)} {v : AV} {x ix : Operand} {a : List Bool} [hx : EvK h.globs n K x v] [hi : EvK h.globs n K ix (.str (wd a))] [ht : MpT P t kt (.bool false)] [hkt : KeyT P kt kw] (hr : RdM h v (setE p))
    (hk : KOps P n ops ex Q (k + 1) os ((d, .bool (decide (a ∈ p))) :: K) h) : KOps P n ops ex Q k (⟨some d, .lookup t x ix false, ty, pos, after, none⟩ :: os) K h := by
  refine KOps.chainE (v := .bool (decide (a ∈ p))) rfl (lookup_step rfl ?_) hk
  rw [← mget_W, hx.eq, hi.eq]
  refine (RdM.look (kf := kw) (vf := AV.bool) (l := setL p) hr a false).trans ?_
  cases mget (setL p) a <;> rfl
theorem KOps.putP {t kt : TypeId} {z : AV} {L : List ((Nat × Nat) × Bool)} {v : AV} {x ix y : Operand} {a b i : Nat} {u : Bool} [hx : EvK h.globs n K x v] [hi : EvK h.globs n K ix (kp (a, b))] [hy : EvK h.globs n K y (.bool u)] [ht : MpT P t kt z] [hkt : KeyT P kt kp]
    (st : St h0 h objs) (hv : IsMp v) (hk' : objs[i]? = some (mapO v (pairE L))) (hex : ex.contains k = false)
    (hk : ∀ h', St h0 h' (objs.set i (mapO v (pairE (mput L (a, b) u)))) → KOps P n ops ex Q (k + 1) os K h') : KOps P n ops ex Q k (⟨none, .mapUpdate t x ix y, ty, pos, after, none⟩ :: os) K h :=
  KOps.mapPutK (kf := kp) (vf := AV.bool) (l := L) (a := (a, b)) (b := u) (u := .bool u) hi.eq rfl st hv hk' hex hk
end
/-- Some of the objects in front, in another order. -/
theorem St.pickT {h0 h : AHeap} {A A' F : List Obj} (k : Nat) (σ : List Nat) (hk : A.length = k) (hn : σ.Nodup) (hlt : ∀ i ∈ σ, i < k) (he : σ.map (fun i => A[i]?) = A'.map some) (st : St h0 h (A ++ F)) : St h0 h (A' ++ F) := by
  subst hk
  refine St.pick (σ ++ List.range' A.length F.length) (List.nodup_append.2 ⟨hn, List.nodup_range', fun a ha b hb e => ?_⟩) ?_ st
  · have h1 := hlt a ha
    have h2 := (List.mem_range'_1.1 hb).1
    omega
  · have h1 : σ.map (fun i => (A ++ F)[i]?) = A'.map some := by
      rw [← he]
      refine List.map_congr_left fun i hi => ?_
      rw [List.getElem?_append_left (hlt i hi)]
    have h2 : (List.range' A.length F.length).map (fun i => (A ++ F)[i]?) = F.map some := by
      refine List.ext_getElem? fun i => ?_
      rw [List.getElem?_map, List.getElem?_map]
      by_cases hi : i < F.length
      · rw [List.getElem?_range' hi, List.getElem?_eq_getElem hi]
        simp only [Option.map_some, Nat.one_mul]
        rw [List.getElem?_append_right (by omega), Nat.add_sub_cancel_left, List.getElem?_eq_getElem hi]
      · rw [List.getElem?_eq_none (by rw [List.length_range']; omega), List.getElem?_eq_none (by omega)]; rfl
    rw [List.map_append, List.map_append, h1, h2]
theorem all_take {l : List Nat} {f : Nat → Bool} {q : Nat} (hq : q < l.length) : (l.take (q + 1)).all f = ((l.take q).all f && f (l.getD q 0)) := by
  rw [List.take_add_one, List.all_append, List.getD_eq_getElem?_getD, List.getElem?_eq_getElem hq]
  simp
abbrev li (l : List Nat) : List Int := l.map fun (i : Nat) => (i : Int)
end Go.Am
