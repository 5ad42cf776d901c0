/-
  The abstract machine: quotients, remainders, slices held against nil.
  Conditions: none.
-/
import Derived.Test.YtenkokebdgekbaaAmE
namespace Go.Am
section
variable {P : Program} {n : Nat} {ops : Array Oper} {ex : List Nat} {Q : KF → AHeap → Prop} {k : Nat} {os : List Oper} {K : KF} {h h0 : AHeap} {d : Nat} {ty : TypeId} {pos : String} {after : Array Edge} {objs pre rest : List Obj}
theorem KOps.quo {t t' : TypeId} {x y : Operand} {a b : Int} [hx : EvK h.globs n K x (.int .i64 a)] [hy : EvK h.globs n K y (.int .i64 b)] (h0 : b ≠ 0) (h1 : -9223372036854775808 ≤ a.tdiv b) (h2 : a.tdiv b ≤ 9223372036854775807)
    (hk : KOps P n ops ex Q (k + 1) os ((d, .int .i64 (a.tdiv b)) :: K) h) : KOps P n ops ex Q k (⟨some d, .binOp .quo t x y t', ty, pos, after, none⟩ :: os) K h :=
  KOps.int (.inr (.inr rfl)) (by simp only [aint, if_neg h0, wrap64 h1 h2]) hk
theorem KOps.rem {t t' : TypeId} {x y : Operand} {a b : Int} [hx : EvK h.globs n K x (.int .i64 a)] [hy : EvK h.globs n K y (.int .i64 b)] (h0 : b ≠ 0) (h1 : -9223372036854775808 ≤ a.tmod b) (h2 : a.tmod b ≤ 9223372036854775807)
    (hk : KOps P n ops ex Q (k + 1) os ((d, .int .i64 (a.tmod b)) :: K) h) : KOps P n ops ex Q k (⟨some d, .binOp .rem t x y t', ty, pos, after, none⟩ :: os) K h :=
  KOps.int (.inr (.inr rfl)) (by simp only [aint, if_neg h0, wrap64 h1 h2]) hk
end
end Go.Am
