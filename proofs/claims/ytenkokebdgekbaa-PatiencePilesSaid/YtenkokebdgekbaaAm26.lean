/-
  The abstract machine: guards, conditions, rows of numbers.
  Conditions: none.
-/
import Derived.Test.YtenkokebdgekbaaAm25
namespace Go.Am

/-- The cells of a row of numbers. -/
abbrev ints (l : List Int) : List AV := l.map (AV.int .i64)
/-- A row of numbers that may be read. -/
abbrev Row (h : AHeap) (v : AV) (l : List Int) : Prop := Rd h v 1 (ints l)

theorem of_not_decide {p : Prop} [Decidable p] (h : (!decide p) = false) : p := by simpa using h
theorem not_of_not_decide {p : Prop} [Decidable p] (h : (!decide p) = true) : ¬ p := by simpa using h

theorem toFr_more {n : Nat} {K : KF} {d : Nat} {v : AV} (h : look K d = v) : toFr n ((d, v) :: K) = toFr n K := by
  simp only [toFr]
  congr 1
  funext t
  simp only [look]
  cases hb : Nat.beq d t with
  | false => rfl
  | true => have := Nat.eq_of_beq_eq_true hb; subst this; exact h.symm

section
variable {P : Program} {n : Nat} {ops : Array Oper} {ex : List Nat} {Q : KF → AHeap → Prop} {k : Nat} {os : List Oper} {K : KF} {h h0 : AHeap} {d : Nat} {ty : TypeId} {pos : String} {after : Array Edge} {objs : List Obj}

theorem KOps.more {v : AV} {d : Nat} (hl : look K d = v) (hk : KOps P n ops ex Q k os ((d, v) :: K) h) : KOps P n ops ex Q k os K h := by
  unfold KOps at hk ⊢
  rw [toFr_more hl] at hk
  exact hk

/-- What the frame shows when a guarded operation is left out. -/
abbrev skipK (dst : Option Tmp) (K : KF) : KF := match dst with | some d => (d, .tup []) :: K | none => K

theorem KOps.guardB {dst : Option Tmp} {op : Op} {j dj : Nat} {oj : Oper} {b : Bool} (ho : ops[j]? = some oj) (hd : oj.dst = some dj) [hv : EvK h.globs n K (.tmp dj) (.bool b)] [hl : Look K dj (.bool b)]
    (want : Bool) (nw : Bool) (hnw : nw = !want) (hyes : b = want → KOps P n ops ex Q k (⟨dst, op, ty, pos, after, none⟩ :: os) ((dj, .bool want) :: K) h) (hno : b = nw → KOps P n ops ex Q (k + 1) os (skipK dst ((dj, .bool nw) :: K)) h) :
    KOps P n ops ex Q k (⟨dst, op, ty, pos, after, some (j, want)⟩ :: os) K h := by
  subst hnw
  have hm : ∀ c, b = c → toFr n ((dj, .bool c) :: K) = toFr n K := fun c hc => toFr_more (by rw [hl.eq, hc])
  refine KOps.guard (b := b) ho hd ?_ ?_
  · intro hb
    exact KOps.more (by rw [hl.eq, hb]) (hyes hb)
  · intro hb
    have hb' : b = !want := by cases b <;> cases want <;> simp_all
    have := hno hb'
    unfold KOps at this ⊢
    cases dst with
    | none => simp only [skipK] at this; rw [hm _ hb'] at this; exact this
    | some d =>
      simp only [skipK] at this
      rw [← toFr_set, hm _ hb', toFr_set] at this
      exact this
theorem KOps.guardYes {dst : Option Tmp} {op : Op} {j dj : Nat} {oj : Oper} {want : Bool} (ho : ops[j]? = some oj) (hd : oj.dst = some dj) [hv : EvK h.globs n K (.tmp dj) (.bool want)]
    (hyes : KOps P n ops ex Q k (⟨dst, op, ty, pos, after, none⟩ :: os) K h) : KOps P n ops ex Q k (⟨dst, op, ty, pos, after, some (j, want)⟩ :: os) K h :=
  KOps.guard (b := want) ho hd (fun _ => hyes) (fun hb => absurd rfl hb)
theorem KOps.guardNo {dst : Option Tmp} {op : Op} {j dj : Nat} {oj : Oper} {b want : Bool} (ho : ops[j]? = some oj) (hd : oj.dst = some dj) [hv : EvK h.globs n K (.tmp dj) (.bool b)] (hb : b = !want)
    (hno : KOps P n ops ex Q (k + 1) os (skipK dst K) h) : KOps P n ops ex Q k (⟨dst, op, ty, pos, after, some (j, want)⟩ :: os) K h :=
  KOps.guard (b := b) ho hd (fun he => by rw [he] at hb; cases want <;> cases hb) (fun _ => by cases dst <;> exact hno)

theorem KOps.lenI {x : Operand} {v : AV} {t e : TypeId} {α : Type} {f : α → AV} {l : List α} {zs : List AV} [hx : EvK h.globs n K x v] [ht : SlT P t e 1 zs] (hr : Rd h v 1 (l.map f)) (hk : KOps P n ops ex Q (k + 1) os ((d, .int .i64 l.length) :: K) h) :
    KOps P n ops ex Q k (⟨some d, .call { callee := .builtin .len, args := #[x], argTypes := #[t] }, ty, pos, after, none⟩ :: os) K h :=
  KOps.len (e := e) (zs := zs) (m := l.length) hr (by simp) hk
theorem KOps.indexI {x ix : Operand} {v : AV} {t e : TypeId} {α : Type} {f : α → AV} {l : List α} {zs : List AV} {kd : IntKind} {i : Int} [hx : EvK h.globs n K x v] [hi : EvK h.globs n K ix (.int kd i)] [ht : SlT P t e 1 zs] (hr : Rd h v 1 (l.map f)) (h0 : 0 ≤ i) (hlt : i < l.length)
    (hk : ∀ p, AddrOf p v 1 i.toNat → KOps P n ops ex Q (k + 1) os ((d, p) :: K) h) : KOps P n ops ex Q k (⟨some d, .indexAddr t x ix, ty, pos, after, none⟩ :: os) K h :=
  KOps.indexAddr (e := e) (zs := zs) (m := l.length) hr (by simp) h0 hlt (fun p hp => hk p (by simpa using hp))
theorem KOps.loadI {x : Operand} {p v : AV} {t : TypeId} {j : Nat} {l : List Int} [hx : EvK h.globs n K x p] [ht : ScT P t] (ha : AddrOf p v 1 j) (hr : Rd h v 1 (ints l)) (hj : j < l.length) (hk : KOps P n ops ex Q (k + 1) os ((d, .int .i64 (l.getD j 0)) :: K) h) :
    KOps P n ops ex Q k (⟨some d, .load t x, ty, pos, after, none⟩ :: os) K h :=
  KOps.load ha hr (by simp [ints, List.getElem?_map, List.getElem?_eq_getElem hj, List.getD_eq_getElem?_getD]) hk
end

section
variable {P : Program} {n : Nat} {Q : Ex → KF → AHeap → Prop} {K : KF} {h : AHeap}
theorem KA.condT {x : Operand} {c d : Code} [hc : EvK h.globs n K x (.bool true)] (h1 : KA P n c Q K h) : KA P n (.cond x c d) Q K h := KA.cond hc.eq (fun _ => h1) nofun
theorem KA.condF {x : Operand} {c d : Code} [hc : EvK h.globs n K x (.bool false)] (h1 : KA P n d Q K h) : KA P n (.cond x c d) Q K h := KA.cond hc.eq nofun (fun _ => h1)
theorem KA.condB {x : Operand} {c d : Code} {t : Bool} [hc : EvK h.globs n K x (.bool t)] (h1 : t = true → KA P n c Q K h) (h2 : t = false → KA P n d Q K h) : KA P n (.cond x c d) Q K h := KA.cond hc.eq h1 h2
theorem KA.condD {x : Operand} {c d : Code} {p : Prop} [Decidable p] [hc : EvK h.globs n K x (.bool (decide p))] (h1 : p → KA P n c Q K h) (h2 : ¬ p → KA P n d Q K h) : KA P n (.cond x c d) Q K h :=
  KA.cond hc.eq (fun hp => h1 (of_decide_eq_true hp)) (fun hp => h2 (of_decide_eq_false hp))
theorem KA.condN {x : Operand} {c d : Code} {p : Prop} [Decidable p] [hc : EvK h.globs n K x (.bool (!decide p))] (h1 : ¬ p → KA P n c Q K h) (h2 : p → KA P n d Q K h) : KA P n (.cond x c d) Q K h :=
  KA.cond hc.eq (fun hp => h1 (by simpa using hp)) (fun hp => h2 (by simpa using hp))
/-- Only the slots ts are kept. -/
theorem KA.keep {c : Code} {K' : KF} (ts : List Nat) [hk : Keep ts K K'] (hw : KA P n c Q K' h) : KA P n c Q K h := KA.sub hk.sub hw
end

theorem Row.part {h : AHeap} {v r : AV} {l : List Int} {lo hi : Nat} (hv : Row h v l) (hp : PartOf r v 1 lo hi) (hlo : lo ≤ hi) : Row h r ((l.drop lo).take (hi - lo)) := by
  have h1 := Rd.part hv hp hlo
  have e : ((ints l).drop (lo * 1)).take ((hi - lo) * 1) = ints ((l.drop lo).take (hi - lo)) := by simp [ints, List.map_take, List.map_drop]
  rw [e] at h1
  exact h1
theorem Row.take {h : AHeap} {v r : AV} {l : List Int} {hi : Nat} (hv : Row h v l) (hp : PartOf r v 1 0 hi) : Row h r (l.take hi) := by simpa using Row.part hv hp (Nat.zero_le _)
theorem Row.ext {h0 h : AHeap} {v : AV} {l : List Int} (k : Keeps h0 h) (hv : Row h0 v l) : Row h v l := Rd.ext k hv

section
variable {P : Program} {n : Nat} {ops : Array Oper} {ex : List Nat} {Q : KF → AHeap → Prop} {k : Nat} {os : List Oper} {K : KF} {h : AHeap} {d : Nat} {ty : TypeId} {pos : String} {after : Array Edge}
theorem KOps.shr {t t' : TypeId} {x y : Operand} {kd kd' : IntKind} {a b : Int} [hx : EvK h.globs n K x (.int kd a)] [hy : EvK h.globs n K y (.int kd' b)] (h0 : 0 ≤ b) (hk : KOps P n ops ex Q (k + 1) os ((d, .int kd (a.fdiv (2 ^ Min.min b.toNat kd.bits))) :: K) h) : KOps P n ops ex Q k (⟨some d, .binOp .shr t x y t', ty, pos, after, none⟩ :: os) K h :=
  KOps.int (.inr (.inl rfl)) (by simp only [aint]; rw [if_pos h0]) hk
theorem KOps.shl {t t' : TypeId} {x y : Operand} {kd kd' : IntKind} {a b : Int} [hx : EvK h.globs n K x (.int kd a)] [hy : EvK h.globs n K y (.int kd' b)] (h0 : 0 ≤ b) (hk : KOps P n ops ex Q (k + 1) os ((d, .int kd (kd.wrap (a * 2 ^ Min.min b.toNat kd.bits))) :: K) h) : KOps P n ops ex Q k (⟨some d, .binOp .shl t x y t', ty, pos, after, none⟩ :: os) K h :=
  KOps.int (.inl rfl) (by simp only [aint]; rw [if_pos h0]) hk
theorem KOps.bits {op : BinOp} {t t' : TypeId} {x y : Operand} {kd : IntKind} {a b : Int} [hx : EvK h.globs n K x (.int kd a)] [hy : EvK h.globs n K y (.int kd b)] (ho : op = .and ∨ op = .or ∨ op = .xor ∨ op = .andNot) (hk : KOps P n ops ex Q (k + 1) os ((d, .int kd (Go.bits op kd a b)) :: K) h) : KOps P n ops ex Q k (⟨some d, .binOp op t x y t', ty, pos, after, none⟩ :: os) K h :=
  KOps.int (.inr (.inr rfl)) (by rcases ho with rfl | rfl | rfl | rfl <;> rfl) hk
end

/-- Results, found. -/
class ResL (n : Nat) (K : KF) (rs : List ResultVar) (vs : outParam (List AV)) : Prop where
  eq : resK n K rs = some vs
instance (n : Nat) (K : KF) : ResL n K [] [] := ⟨rfl⟩
instance (n : Nat) (K : KF) (t : Nat) (rs : List ResultVar) (v : AV) (vs : List AV) [hb : Eqb (Nat.ble n t) false] [hl : Look K t v] [hr : ResL n K rs vs] : ResL n K (.tmp t :: rs) (v :: vs) := ⟨by simp [resK, hb.eq, hl.eq, hr.eq]⟩
theorem fnQ.ret1 {n : Nat} {K : KF} {h : AHeap} {R : AV → AHeap → Prop} {rs : List ResultVar} {v : AV} [hr : ResL n K rs [v]] (hR : R v h) : fnQ n rs R .ret K h := fnQ.ret hr.eq hR
theorem fnQ.retN {n : Nat} {K : KF} {h : AHeap} {R : AV → AHeap → Prop} {rs : List ResultVar} {x y : AV} {l : List AV} [hr : ResL n K rs (x :: y :: l)] (hR : R (.tup (x :: y :: l)) h) : fnQ n rs R .ret K h := fnQ.ret hr.eq hR
theorem fnQ.ret0 {n : Nat} {K : KF} {h : AHeap} {R : AV → AHeap → Prop} (hR : R (.tup []) h) : fnQ n [] R .ret K h := fnQ.ret (l := []) rfl hR
theorem fnQ.norm0 {n : Nat} {K : KF} {h : AHeap} {R : AV → AHeap → Prop} (hR : R (.tup []) h) : fnQ n [] R .normal K h := fnQ.normal (l := []) rfl hR

theorem KA.fn {P : Program} {f : FuncId} {fn : Func} {c : Code} {args : List AV} {h : AHeap} {R : AV → AHeap → Prop} (n : Nat) (rs : List ResultVar) (hf : P.funcs[f]? = some fn) (hb : fn.body = some c) (hn : (fn.name == "runtime.NumGoroutine") = false)
    (h1 : fn.ntmps = n) (h2 : fn.results.toList = rs) (hle : args.length ≤ n) (hw : KA P n c (fnQ n rs R) (argK 0 args) h) : ACalls P f args h R := by
  subst h1 h2
  exact KA.calls hf hb hn hle hw

end Go.Am
