/-
  The abstract machine: rows of noughts, closures, boxes.
  Conditions: none.
-/
import Derived.Test.YtenkokebdgekbaaAm27
namespace Go.Am
theorem wrapU64 {a : Int} (h1 : 0 ≤ a) (h2 : a ≤ 18446744073709551615) : IntKind.u64.wrap a = a := by
  unfold IntKind.wrap
  simp only [IntKind.bits, IntKind.signed, Bool.false_and]
  have e1 : (2 : Int) ^ 64 = 18446744073709551616 := by decide
  rw [e1]
  simp
  omega
theorem half_nat (i j : Nat) : ((i : Int) + (j : Int)).fdiv (2 ^ Min.min (1 : Int).toNat (IntKind.bits .u64)) = (((i + j) / 2 : Nat) : Int) := by
  have e : (2 : Int) ^ Min.min (1 : Int).toNat (IntKind.bits .u64) = 2 := by decide
  rw [e, Int.fdiv_eq_ediv_of_nonneg _ (by omega)]
  omega
theorem St.hole {h0 h : AHeap} {vo : AV} {vs : List AV} {tip : Bool} {pre rest : List Obj} (st : St h0 h (pre ++ (⟨vo, 1, vs, tip⟩ :: rest))) : Rd h vo 1 vs := St.rd (St.drop st) 0 (o := ⟨vo, 1, vs, tip⟩) rfl
section
variable {P : Program} {n : Nat} {ops : Array Oper} {ex : List Nat} {Q : KF → AHeap → Prop} {k : Nat} {os : List Oper} {K : KF} {h h0 : AHeap} {d : Nat} {ty : TypeId} {pos : String} {after : Array Edge} {objs pre rest : List Obj}
/-- A row of noughts. -/
theorem KOps.makeI {t e : TypeId} {x y : Operand} {kx ky : IntKind} {a b : Int} [hx : EvK h.globs n K x (.int kx a)] [hy : EvK h.globs n K y (.int ky b)] [ht : SlT P t e 1 [.int .i64 0]] (st : St h0 h objs) (ha : 0 ≤ a) (hab : a ≤ b) (hb : b ≤ 4294967296)
    (hk : ∀ v h', St h0 h' (⟨v, 1, ints (List.replicate a.toNat 0), true⟩ :: objs) → KOps P n ops ex Q (k + 1) os ((d, v) :: K) h') : KOps P n ops ex Q k (⟨some d, .makeSlice t x y, ty, pos, after, none⟩ :: os) K h := by
  refine KOps.makeSlice (e := e) (z := .int .i64 0) st ha hab hb ?_
  intro v h' hS
  refine hk v h' ?_
  simpa [ints, List.map_replicate] using hS
theorem KOps.eqlB {t t' : TypeId} {x y : Operand} {a b : Bool} [hx : EvK h.globs n K x (.bool a)] [hy : EvK h.globs n K y (.bool b)] (ht : isBoolA P t = true) (hk : KOps P n ops ex Q (k + 1) os ((d, .bool (a == b)) :: K) h) : KOps P n ops ex Q k (⟨some d, .binOp .eql t x y t', ty, pos, after, none⟩ :: os) K h :=
  KOps.pure rfl (by simp only [apure, hx.eq, hy.eq, abin]; rw [if_pos ht]) hk
theorem KOps.neqB {t t' : TypeId} {x y : Operand} {a b : Bool} [hx : EvK h.globs n K x (.bool a)] [hy : EvK h.globs n K y (.bool b)] (ht : isBoolA P t = true) (hk : KOps P n ops ex Q (k + 1) os ((d, .bool (!(a == b))) :: K) h) : KOps P n ops ex Q k (⟨some d, .binOp .neq t x y t', ty, pos, after, none⟩ :: os) K h :=
  KOps.pure rfl (by simp only [apure, hx.eq, hy.eq, abin]; rw [if_pos ht]) hk
end
end Go.Am
