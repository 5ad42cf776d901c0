/-
  The abstract machine: comparisons that come out true; calls that the kernel has run.
  Conditions: none.
-/
import Derived.Test.YtenkokebdgekbaaAm29
namespace Go.Am
section
variable {P : Program} {n : Nat} {ops : Array Oper} {ex : List Nat} {Q : KF → AHeap → Prop} {k : Nat} {os : List Oper} {K : KF} {h h0 : AHeap} {d : Nat} {ty : TypeId} {pos : String} {after : Array Edge} {objs pre rest : List Obj}
theorem KOps.eqlT {t t' : TypeId} {x y : Operand} {kd : IntKind} {a b : Int} [hx : EvK h.globs n K x (.int kd a)] [hy : EvK h.globs n K y (.int kd b)] (he : a = b) (hk : KOps P n ops ex Q (k + 1) os ((d, .bool true) :: K) h) : KOps P n ops ex Q k (⟨some d, .binOp .eql t x y t', ty, pos, after, none⟩ :: os) K h :=
  KOps.eql (by rw [decide_eq_true he]; exact hk)
theorem KOps.eqlF {t t' : TypeId} {x y : Operand} {kd : IntKind} {a b : Int} [hx : EvK h.globs n K x (.int kd a)] [hy : EvK h.globs n K y (.int kd b)] (he : ¬ a = b) (hk : KOps P n ops ex Q (k + 1) os ((d, .bool false) :: K) h) : KOps P n ops ex Q k (⟨some d, .binOp .eql t x y t', ty, pos, after, none⟩ :: os) K h :=
  KOps.eql (by rw [decide_eq_false he]; exact hk)
theorem KOps.neqT {t t' : TypeId} {x y : Operand} {kd : IntKind} {a b : Int} [hx : EvK h.globs n K x (.int kd a)] [hy : EvK h.globs n K y (.int kd b)] (he : ¬ a = b) (hk : KOps P n ops ex Q (k + 1) os ((d, .bool true) :: K) h) : KOps P n ops ex Q k (⟨some d, .binOp .neq t x y t', ty, pos, after, none⟩ :: os) K h :=
  KOps.neq (by rw [decide_eq_false he]; exact hk)
theorem KOps.neqF {t t' : TypeId} {x y : Operand} {kd : IntKind} {a b : Int} [hx : EvK h.globs n K x (.int kd a)] [hy : EvK h.globs n K y (.int kd b)] (he : a = b) (hk : KOps P n ops ex Q (k + 1) os ((d, .bool false) :: K) h) : KOps P n ops ex Q k (⟨some d, .binOp .neq t x y t', ty, pos, after, none⟩ :: os) K h :=
  KOps.neq (by rw [decide_eq_true he]; exact hk)
/-- A comparison that is known. -/
theorem KOps.known {op : Op} {b c : Bool} (he : b = c) (h1 : KOps P n ops ex Q (k + 1) os ((d, .bool c) :: K) h) : KOps P n ops ex Q (k + 1) os ((d, .bool b) :: K) h := by rw [he]; exact h1
end
theorem Ev.acalls {P : Program} {f : FuncId} {b : Bool} {h1 : AHeap} (he : Ev P f [] h00 (.bool b) h1) (h : AHeap) : ACalls P f [] h (fun r h' => r = .bool b ∧ h = h') := ⟨_, _, he.beside h, rfl, rfl⟩
end Go.Am
