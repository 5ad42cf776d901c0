/-
  The abstract machine: one rule for each kind of operation, over frames of live slots.
  Conditions: none.
-/
import Derived.Test.YtenkokebdgekbaaAm22
namespace Go.Am

class Nth (l : List AV) (i : Nat) (v : outParam AV) : Prop where
  eq : l[i]? = some v
instance (v : AV) (l : List AV) : Nth (v :: l) 0 v := ⟨rfl⟩
instance (x v : AV) (l : List AV) (i : Nat) [h : Nth l i v] : Nth (x :: l) (i + 1) v := ⟨by simpa using h.eq⟩

class EvKs (globs : List Nat) (n : Nat) (K : KF) (l : List Operand) (vs : outParam (List AV)) : Prop where
  eq : l.map (evalK globs n K) = vs
instance (globs : List Nat) (n : Nat) (K : KF) : EvKs globs n K [] [] := ⟨rfl⟩
instance (globs : List Nat) (n : Nat) (K : KF) (x : Operand) (l : List Operand) (v : AV) (vs : List AV) [h : EvK globs n K x v] [hs : EvKs globs n K l vs] : EvKs globs n K (x :: l) (v :: vs) := ⟨by simp [h.eq, hs.eq]⟩
class EvKp (globs : List Nat) (n : Nat) (K : KF) (l : List (Nat × Operand)) (vs : outParam (List AV)) : Prop where
  eq : l.map (fun p => evalK globs n K p.2) = vs
instance (globs : List Nat) (n : Nat) (K : KF) : EvKp globs n K [] [] := ⟨rfl⟩
instance (globs : List Nat) (n : Nat) (K : KF) (i : Nat) (x : Operand) (l : List (Nat × Operand)) (v : AV) (vs : List AV) [h : EvK globs n K x v] [hs : EvKp globs n K l vs] : EvKp globs n K ((i, x) :: l) (v :: vs) := ⟨by simp [h.eq, hs.eq]⟩

class IntT (P : Program) (t : TypeId) (k : outParam IntKind) : Prop where
  eq : intA P t = some k
  und : (P.underlying t).isSome = true

section
variable {P : Program} {n : Nat} {ops : Array Oper} {ex : List Nat} {Q : KF → AHeap → Prop} {k : Nat} {os : List Oper} {K : KF} {h : AHeap} {d : Nat} {ty : TypeId} {pos : String} {after : Array Edge}

theorem KOps.done (hq : Q K h) : KOps P n ops ex Q k [] K h := ⟨K, rfl, hq⟩

theorem KOps.step {op : Op} {v : AV} {h' : AHeap} (hs : SemStep P (evalK h.globs n K) ⟨some d, op, ty, pos, after, none⟩ h v h') (hx : ex.contains k = true → WFH h → HExt h h') (hk : KOps P n ops ex Q (k + 1) os ((d, v) :: K) h') :
    KOps P n ops ex Q k (⟨some d, op, ty, pos, after, none⟩ :: os) K h := by
  refine ⟨v, h', ?_, hx, ?_⟩
  · rw [evalA_toFr]; exact hs
  · simp only [setF, toFr_set]; exact hk

theorem KOps.step0 {op : Op} {v : AV} {h' : AHeap} (hs : SemStep P (evalK h.globs n K) ⟨none, op, ty, pos, after, none⟩ h v h') (hx : ex.contains k = true → WFH h → HExt h h') (hk : KOps P n ops ex Q (k + 1) os K h') :
    KOps P n ops ex Q k (⟨none, op, ty, pos, after, none⟩ :: os) K h := by
  refine ⟨v, h', ?_, hx, ?_⟩
  · rw [evalA_toFr]; exact hs
  · simp only [setF]; exact hk

/-- A guarded operation: done, or left out. -/
theorem KOps.guard {dst : Option Tmp} {op : Op} {j dj : Nat} {oj : Oper} {want b : Bool} (ho : ops[j]? = some oj) (hd : oj.dst = some dj) [hv : EvK h.globs n K (.tmp dj) (.bool b)]
    (hyes : b = want → KOps P n ops ex Q k (⟨dst, op, ty, pos, after, none⟩ :: os) K h) (hno : b ≠ want → KOps P n ops ex Q (k + 1) os (match dst with | some d => (d, .tup []) :: K | none => K) h) :
    KOps P n ops ex Q k (⟨dst, op, ty, pos, after, some (j, want)⟩ :: os) K h := by
  refine ⟨some b, ?_, ?_, ?_⟩
  · have := hv.eq
    simp only [evalK] at this
    simp only [guardA, ho, Option.bind_some, hd, toFr_getD, this]
  · intro hb
    cases hb
    exact hyes rfl
  · intro hb
    have := hno (fun he => hb (by rw [he]))
    cases dst with
    | none => exact this
    | some d => simp only [setF, toFr_set]; exact this
theorem KOps.guardTup {dst : Option Tmp} {op : Op} {j dj : Nat} {oj : Oper} {want : Bool} {l : List AV} (ho : ops[j]? = some oj) (hd : oj.dst = some dj) [hv : EvK h.globs n K (.tmp dj) (.tup l)]
    (hno : KOps P n ops ex Q (k + 1) os (match dst with | some d => (d, .tup []) :: K | none => K) h) : KOps P n ops ex Q k (⟨dst, op, ty, pos, after, some (j, want)⟩ :: os) K h := by
  refine ⟨none, ?_, nofun, ?_⟩
  · have := hv.eq
    simp only [evalK] at this
    simp only [guardA, ho, Option.bind_some, hd, toFr_getD, this]
  · intro _
    cases dst with
    | none => exact hno
    | some d => simp only [setF, toFr_set]; exact hno

theorem KOps.pure {op : Op} {v : AV} (hc : clsOf op = .pure) (hv : apure P (evalK h.globs n K) op = some v) (hk : KOps P n ops ex Q (k + 1) os ((d, v) :: K) h) : KOps P n ops ex Q k (⟨some d, op, ty, pos, after, none⟩ :: os) K h := by
  refine KOps.step (v := v) (h' := h) ?_ (fun _ _ => HExt.refl h) hk
  unfold SemStep
  rw [hc]
  exact ⟨hv, rfl⟩
theorem KOps.read {op : Op} {v : AV} (hc : clsOf op = .read) (hv : areadR P h (evalK h.globs n K) op = some v) (hk : KOps P n ops ex Q (k + 1) os ((d, v) :: K) h) : KOps P n ops ex Q k (⟨some d, op, ty, pos, after, none⟩ :: os) K h := by
  refine KOps.step (v := v) (h' := h) ?_ (fun _ _ => HExt.refl h) hk
  unfold SemStep
  rw [hc]
  exact ⟨hv, rfl⟩

theorem KOps.move {x : Operand} {v : AV} [hx : EvK h.globs n K x v] (hk : KOps P n ops ex Q (k + 1) os ((d, v) :: K) h) : KOps P n ops ex Q k (⟨some d, .move x, ty, pos, after, none⟩ :: os) K h := KOps.pure rfl (congrArg some hx.eq) hk
theorem KOps.assign {x : Operand} {v : AV} [hx : EvK h.globs n K x v] (hk : KOps P n ops ex Q (k + 1) os ((d, v) :: K) h) : KOps P n ops ex Q k (⟨some d, .assign x, ty, pos, after, none⟩ :: os) K h := KOps.pure rfl (congrArg some hx.eq) hk
theorem KOps.pickT {c x y : Operand} {v : AV} [hc : EvK h.globs n K c (.bool true)] [hx : EvK h.globs n K x v] (hk : KOps P n ops ex Q (k + 1) os ((d, v) :: K) h) : KOps P n ops ex Q k (⟨some d, .pick c x y, ty, pos, after, none⟩ :: os) K h :=
  KOps.pure rfl (by simp only [apure, hc.eq, hx.eq, if_true]) hk
theorem KOps.pickF {c x y : Operand} {v : AV} [hc : EvK h.globs n K c (.bool false)] [hx : EvK h.globs n K y v] (hk : KOps P n ops ex Q (k + 1) os ((d, v) :: K) h) : KOps P n ops ex Q k (⟨some d, .pick c x y, ty, pos, after, none⟩ :: os) K h :=
  KOps.pure rfl (by simp only [apure, hc.eq, hx.eq, Bool.false_eq_true, if_false]) hk

theorem KOps.int {op : BinOp} {t t' : TypeId} {x y : Operand} {kd kd' : IntKind} {a b : Int} {v : AV} [hx : EvK h.globs n K x (.int kd a)] [hy : EvK h.globs n K y (.int kd' b)] (hs : op = .shl ∨ op = .shr ∨ kd = kd') (hv : aint op kd a b = some v)
    (hk : KOps P n ops ex Q (k + 1) os ((d, v) :: K) h) : KOps P n ops ex Q k (⟨some d, .binOp op t x y t', ty, pos, after, none⟩ :: os) K h :=
  KOps.pure rfl (by simp only [apure, hx.eq, hy.eq, abin]; rw [if_pos hs]; exact hv) hk

theorem wrap64 {a : Int} (h1 : -9223372036854775808 ≤ a) (h2 : a ≤ 9223372036854775807) : IntKind.i64.wrap a = a := by
  unfold IntKind.wrap
  simp only [IntKind.bits, IntKind.signed, Bool.true_and, ge_iff_le, decide_eq_true_eq]
  have e1 : (2 : Int) ^ 64 = 18446744073709551616 := by decide
  have e2 : (2 : Int) ^ (64 - 1) = 9223372036854775808 := by decide
  rw [e1, e2]
  split <;> omega

theorem KOps.add {t t' : TypeId} {x y : Operand} {a b : Int} [hx : EvK h.globs n K x (.int .i64 a)] [hy : EvK h.globs n K y (.int .i64 b)] (h1 : -9223372036854775808 ≤ a + b) (h2 : a + b ≤ 9223372036854775807)
    (hk : KOps P n ops ex Q (k + 1) os ((d, .int .i64 (a + b)) :: K) h) : KOps P n ops ex Q k (⟨some d, .binOp .add t x y t', ty, pos, after, none⟩ :: os) K h :=
  KOps.int (.inr (.inr rfl)) (by simp only [aint, wrap64 h1 h2]) hk
theorem KOps.sub {t t' : TypeId} {x y : Operand} {a b : Int} [hx : EvK h.globs n K x (.int .i64 a)] [hy : EvK h.globs n K y (.int .i64 b)] (h1 : -9223372036854775808 ≤ a - b) (h2 : a - b ≤ 9223372036854775807)
    (hk : KOps P n ops ex Q (k + 1) os ((d, .int .i64 (a - b)) :: K) h) : KOps P n ops ex Q k (⟨some d, .binOp .sub t x y t', ty, pos, after, none⟩ :: os) K h :=
  KOps.int (.inr (.inr rfl)) (by simp only [aint, wrap64 h1 h2]) hk
theorem KOps.mul {t t' : TypeId} {x y : Operand} {a b : Int} [hx : EvK h.globs n K x (.int .i64 a)] [hy : EvK h.globs n K y (.int .i64 b)] (h1 : -9223372036854775808 ≤ a * b) (h2 : a * b ≤ 9223372036854775807)
    (hk : KOps P n ops ex Q (k + 1) os ((d, .int .i64 (a * b)) :: K) h) : KOps P n ops ex Q k (⟨some d, .binOp .mul t x y t', ty, pos, after, none⟩ :: os) K h :=
  KOps.int (.inr (.inr rfl)) (by simp only [aint, wrap64 h1 h2]) hk
theorem KOps.lss {t t' : TypeId} {x y : Operand} {kd : IntKind} {a b : Int} [hx : EvK h.globs n K x (.int kd a)] [hy : EvK h.globs n K y (.int kd b)] (hk : KOps P n ops ex Q (k + 1) os ((d, .bool (decide (a < b))) :: K) h) : KOps P n ops ex Q k (⟨some d, .binOp .lss t x y t', ty, pos, after, none⟩ :: os) K h :=
  KOps.int (.inr (.inr rfl)) rfl hk
theorem KOps.leq {t t' : TypeId} {x y : Operand} {kd : IntKind} {a b : Int} [hx : EvK h.globs n K x (.int kd a)] [hy : EvK h.globs n K y (.int kd b)] (hk : KOps P n ops ex Q (k + 1) os ((d, .bool (decide (a ≤ b))) :: K) h) : KOps P n ops ex Q k (⟨some d, .binOp .leq t x y t', ty, pos, after, none⟩ :: os) K h :=
  KOps.int (.inr (.inr rfl)) rfl hk
theorem KOps.gtr {t t' : TypeId} {x y : Operand} {kd : IntKind} {a b : Int} [hx : EvK h.globs n K x (.int kd a)] [hy : EvK h.globs n K y (.int kd b)] (hk : KOps P n ops ex Q (k + 1) os ((d, .bool (decide (b < a))) :: K) h) : KOps P n ops ex Q k (⟨some d, .binOp .gtr t x y t', ty, pos, after, none⟩ :: os) K h :=
  KOps.int (.inr (.inr rfl)) rfl hk
theorem KOps.geq {t t' : TypeId} {x y : Operand} {kd : IntKind} {a b : Int} [hx : EvK h.globs n K x (.int kd a)] [hy : EvK h.globs n K y (.int kd b)] (hk : KOps P n ops ex Q (k + 1) os ((d, .bool (decide (b ≤ a))) :: K) h) : KOps P n ops ex Q k (⟨some d, .binOp .geq t x y t', ty, pos, after, none⟩ :: os) K h :=
  KOps.int (.inr (.inr rfl)) rfl hk
theorem KOps.eql {t t' : TypeId} {x y : Operand} {kd : IntKind} {a b : Int} [hx : EvK h.globs n K x (.int kd a)] [hy : EvK h.globs n K y (.int kd b)] (hk : KOps P n ops ex Q (k + 1) os ((d, .bool (decide (a = b))) :: K) h) : KOps P n ops ex Q k (⟨some d, .binOp .eql t x y t', ty, pos, after, none⟩ :: os) K h :=
  KOps.int (.inr (.inr rfl)) rfl hk
theorem KOps.neq {t t' : TypeId} {x y : Operand} {kd : IntKind} {a b : Int} [hx : EvK h.globs n K x (.int kd a)] [hy : EvK h.globs n K y (.int kd b)] (hk : KOps P n ops ex Q (k + 1) os ((d, .bool (!decide (a = b))) :: K) h) : KOps P n ops ex Q k (⟨some d, .binOp .neq t x y t', ty, pos, after, none⟩ :: os) K h :=
  KOps.int (.inr (.inr rfl)) rfl hk
theorem KOps.not {t : TypeId} {x : Operand} {b : Bool} [hx : EvK h.globs n K x (.bool b)] (hk : KOps P n ops ex Q (k + 1) os ((d, .bool (!b)) :: K) h) : KOps P n ops ex Q k (⟨some d, .unOp .not t x, ty, pos, after, none⟩ :: os) K h :=
  KOps.pure rfl (by simp only [apure, hx.eq, aun]) hk
theorem KOps.neg {t : TypeId} {x : Operand} {a : Int} [hx : EvK h.globs n K x (.int .i64 a)] (h1 : -9223372036854775808 ≤ -a) (h2 : -a ≤ 9223372036854775807) (hk : KOps P n ops ex Q (k + 1) os ((d, .int .i64 (-a)) :: K) h) : KOps P n ops ex Q k (⟨some d, .unOp .neg t x, ty, pos, after, none⟩ :: os) K h :=
  KOps.pure rfl (by simp only [apure, hx.eq, aun]; rw [wrap64 (by omega) (by omega), Int.zero_sub]) hk
theorem KOps.convert {src dst : TypeId} {x : Operand} {kd kd' : IntKind} {a : Int} [hx : EvK h.globs n K x (.int kd a)] [hs : IntT P src kd] [hd : IntT P dst kd'] (hk : KOps P n ops ex Q (k + 1) os ((d, .int kd' (kd'.wrap a)) :: K) h) :
    KOps P n ops ex Q k (⟨some d, .convert src dst x, ty, pos, after, none⟩ :: os) K h :=
  KOps.pure rfl (by simp only [apure, hx.eq, hs.und, hd.eq, if_true, Option.map_some]) hk
theorem KOps.max {x y : Operand} {tys : Array TypeId} {kd kd' : IntKind} {a b : Int} [hx : EvK h.globs n K x (.int kd a)] [hy : EvK h.globs n K y (.int kd' b)] (hk : KOps P n ops ex Q (k + 1) os ((d, .int kd (Max.max a b)) :: K) h) :
    KOps P n ops ex Q k (⟨some d, .call { callee := .builtin .max, args := #[x, y], argTypes := tys }, ty, pos, after, none⟩ :: os) K h :=
  KOps.pure rfl (by simp only [apure, hx.eq, hy.eq, amax2, if_true]; congr 2; omega) hk
theorem KOps.min {x y : Operand} {tys : Array TypeId} {kd kd' : IntKind} {a b : Int} [hx : EvK h.globs n K x (.int kd a)] [hy : EvK h.globs n K y (.int kd' b)] (hk : KOps P n ops ex Q (k + 1) os ((d, .int kd (Min.min a b)) :: K) h) :
    KOps P n ops ex Q k (⟨some d, .call { callee := .builtin .min, args := #[x, y], argTypes := tys }, ty, pos, after, none⟩ :: os) K h :=
  KOps.pure rfl (by simp only [apure, hx.eq, hy.eq, amax2, Bool.false_eq_true, if_false]; congr 2; omega) hk
theorem KOps.extract {x : Operand} {i : Nat} {l : List AV} {v : AV} [hx : EvK h.globs n K x (.tup l)] [hi : Nth l i v] (hk : KOps P n ops ex Q (k + 1) os ((d, v) :: K) h) : KOps P n ops ex Q k (⟨some d, .extract x i, ty, pos, after, none⟩ :: os) K h :=
  KOps.pure rfl (by simp only [apure, hx.eq, hi.eq]) hk
theorem KOps.makeFunc {f : FuncId} {l : List Operand} {vs : List AV} [hl : EvKs h.globs n K l vs] (hk : KOps P n ops ex Q (k + 1) os ((d, .fn f vs) :: K) h) : KOps P n ops ex Q k (⟨some d, .makeFunc (.func f) #[] (List.toArray l), ty, pos, after, none⟩ :: os) K h :=
  KOps.pure rfl (by simp [apure, hl.eq]) hk
theorem KOps.nilCheckF {x : Operand} {f : FuncId} {caps : List AV} [hx : EvK h.globs n K x (.fn f caps)] (hk : KOps P n ops ex Q (k + 1) os ((d, .fn f caps) :: K) h) : KOps P n ops ex Q k (⟨some d, .nilCheck x, ty, pos, after, none⟩ :: os) K h :=
  KOps.pure rfl (by simp only [apure, hx.eq]) hk
theorem KOps.nilCheckP {x : Operand} {p v : AV} {s j : Nat} [hx : EvK h.globs n K x p] (ha : AddrOf p v s j) (hk : KOps P n ops ex Q (k + 1) os ((d, p) :: K) h) : KOps P n ops ex Q k (⟨some d, .nilCheck x, ty, pos, after, none⟩ :: os) K h :=
  KOps.pure rfl (by obtain ⟨b, o, _, rfl⟩ := ha; simp only [apure, hx.eq]) hk

theorem KOps.len {x : Operand} {v : AV} {t e : TypeId} {s m : Nat} {xs zs : List AV} [hx : EvK h.globs n K x v] [ht : SlT P t e s zs] (hr : Rd h v s xs) (hm : xs.length = m * s) (hk : KOps P n ops ex Q (k + 1) os ((d, .int .i64 m) :: K) h) :
    KOps P n ops ex Q k (⟨some d, .call { callee := .builtin .len, args := #[x], argTypes := #[t] }, ty, pos, after, none⟩ :: os) K h :=
  KOps.pure rfl (by simp only [apure, hx.eq]; exact hr.len (e := e) (zs := zs) hm) hk
theorem KOps.indexAddr {x ix : Operand} {v : AV} {t e : TypeId} {s m : Nat} {xs zs : List AV} {kd : IntKind} {i : Int} [hx : EvK h.globs n K x v] [hi : EvK h.globs n K ix (.int kd i)] [ht : SlT P t e s zs] (hr : Rd h v s xs) (hm : xs.length = m * s) (h0 : 0 ≤ i) (hlt : i < m)
    (hk : ∀ p, AddrOf p v s (i.toNat * s) → KOps P n ops ex Q (k + 1) os ((d, p) :: K) h) : KOps P n ops ex Q k (⟨some d, .indexAddr t x ix, ty, pos, after, none⟩ :: os) K h := by
  obtain ⟨p, hp, ha⟩ := hr.index (P := P) (t := t) (e := e) (zs := zs) (k := kd) hm h0 hlt
  exact KOps.pure rfl (by simp only [apure, hx.eq, hi.eq]; exact hp) (hk p ha)
theorem KOps.load {x : Operand} {p v y : AV} {t : TypeId} {s j : Nat} {xs : List AV} [hx : EvK h.globs n K x p] [ht : ScT P t] (ha : AddrOf p v s j) (hr : Rd h v s xs) (hy : xs[j]? = some y) (hk : KOps P n ops ex Q (k + 1) os ((d, y) :: K) h) :
    KOps P n ops ex Q k (⟨some d, .load t x, ty, pos, after, none⟩ :: os) K h :=
  KOps.read rfl (by simp only [areadR, hx.eq]; exact hr.load ha hy) hk
theorem KOps.loadAgg {x : Operand} {p v : AV} {t : TypeId} {s j z : Nat} {xs : List AV} [hx : EvK h.globs n K x p] [ht : AgT P t z] (ha : AddrOf p v s j) (hr : Rd h v s xs) (hz : 0 < z) (hj : j + z ≤ xs.length) (hk : KOps P n ops ex Q (k + 1) os ((d, .agg ((xs.drop j).take z)) :: K) h) :
    KOps P n ops ex Q k (⟨some d, .load t x, ty, pos, after, none⟩ :: os) K h :=
  KOps.read rfl (by simp only [areadR, hx.eq]; exact hr.loadAgg ha hz hj) hk

theorem KOps.chain {op : Op} {v : AV} {h' : AHeap} {kill : Bool} (hc : clsOf op = .chain) (hv : achain P kill h (evalK h.globs n K) op = some (v, h')) (hx : ex.contains k = true → WFH h → HExt h h') (hk : KOps P n ops ex Q (k + 1) os ((d, v) :: K) h') :
    KOps P n ops ex Q k (⟨some d, op, ty, pos, after, none⟩ :: os) K h := by
  refine KOps.step (v := v) (h' := h') ?_ hx hk
  unfold SemStep
  rw [show clsOf (Oper.mk _ op ty pos after none).op = .chain from hc]
  exact achain_step hv
theorem KOps.chain0 {op : Op} {v : AV} {h' : AHeap} {kill : Bool} (hc : clsOf op = .chain) (hv : achain P kill h (evalK h.globs n K) op = some (v, h')) (hx : ex.contains k = true → WFH h → HExt h h') (hk : KOps P n ops ex Q (k + 1) os K h') :
    KOps P n ops ex Q k (⟨none, op, ty, pos, after, none⟩ :: os) K h := by
  refine KOps.step0 (v := v) (h' := h') ?_ hx hk
  unfold SemStep
  rw [show clsOf (Oper.mk _ op ty pos after none).op = .chain from hc]
  exact achain_step hv

theorem KOps.call {f : FuncId} {g : Operand} {caps : List AV} {l : List Operand} {vs : List AV} {tys : Array TypeId} {R : AV → AHeap → Prop} [hg : EvK h.globs n K g (.fn f caps)] [hl : EvKs h.globs n K l vs] (hx : ex.contains k = false)
    (hc : ACalls P f (vs ++ caps) h R) (hk : ∀ r h', R r h' → KOps P n ops ex Q (k + 1) os ((d, r) :: K) h') : KOps P n ops ex Q k (⟨some d, .call { callee := .value g, args := List.toArray l, argTypes := tys }, ty, pos, after, none⟩ :: os) K h := by
  obtain ⟨r, h', hev, hR⟩ := hc
  refine KOps.step (v := r) (h' := h') ?_ (fun hc => by rw [hx] at hc; cases hc) (hk r h' hR)
  refine Ev.step (g := g) (args := List.toArray l) (tys := tys) rfl hg.eq ?_
  rw [List.toList_toArray, hl.eq]
  exact hev
end

end Go.Am
