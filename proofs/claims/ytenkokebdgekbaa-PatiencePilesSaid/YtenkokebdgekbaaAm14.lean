/-
  The abstract machine: the check over a region's edges.
  Conditions: none.
-/
import Derived.Test.YtenkokebdgekbaaAm13
namespace Go.Am

/-- The places of a mask. -/
def inMask (m j : Nat) : Bool := m.testBit j

def edgeMask (acc : List Nat) : List Edge → Nat
  | [] => 0
  | e :: es => if Region.binds .any e then (1 <<< e.on) ||| acc.getD e.on 0 ||| edgeMask acc es else edgeMask acc es

/-- For each operation the mask of those that it must come behind. -/
def reachM : List Nat → List Oper → List Nat
  | acc, [] => acc
  | acc, o :: os => reachM (acc ++ [edgeMask acc o.after.toList]) os

theorem edgeMask_dep {ops : Array Oper} {acc : List Nat} {i : Nat} {o : Oper} (ho : ops[i]? = some o) (hacc : ∀ k j, inMask (acc.getD k 0) j = true → Dep ops k j) :
    ∀ (es : List Edge), (∀ e ∈ es, e ∈ o.after) → ∀ j, inMask (edgeMask acc es) j = true → Dep ops i j := by
  intro es
  induction es with
  | nil => intro _ j h; simp [edgeMask, inMask] at h
  | cons e es ih =>
    intro hmem j h
    unfold edgeMask at h
    split at h
    · rename_i hb
      have he : Dep ops i e.on := .edge i o e ho (hmem e (by simp)) hb
      simp only [inMask, Nat.testBit_or, Bool.or_eq_true] at h
      rcases h with (h | h) | h
      · rw [Nat.testBit_shiftLeft] at h
        have : j = e.on := by
          simp only [Bool.and_eq_true, decide_eq_true_eq] at h
          obtain ⟨h1, h2⟩ := h
          by_cases hj : j - e.on = 0
          · omega
          · obtain ⟨q, hq⟩ : ∃ q, j - e.on = q + 1 := ⟨j - e.on - 1, by omega⟩
            rw [hq, Nat.testBit_succ] at h2
            simp at h2
        subst this
        exact he
      · exact .trans _ _ _ he (hacc e.on j h)
      · exact ih (fun e' he' => hmem e' (by simp [he'])) j h
    · exact ih (fun e' he' => hmem e' (by simp [he'])) j h

theorem reachM_dep {ops : Array Oper} : ∀ (l : List Oper) (acc : List Nat), (∀ i, l[i]? = ops[acc.length + i]?) → (∀ k j, inMask (acc.getD k 0) j = true → Dep ops k j) → ∀ k j, inMask ((reachM acc l).getD k 0) j = true → Dep ops k j := by
  intro l
  induction l with
  | nil => intro acc _ h; exact h
  | cons o os ih =>
    intro acc hl h
    have ho : ops[acc.length]? = some o := by have := hl 0; simpa using this.symm
    refine ih (acc ++ [edgeMask acc o.after.toList]) ?_ ?_
    · intro i
      have := hl (i + 1)
      simp only [List.getElem?_cons_succ] at this
      rw [this, List.length_append, List.length_singleton]
      congr 1; omega
    · intro k j hkj
      rw [List.getD_eq_getElem?_getD, List.getElem?_append] at hkj
      split at hkj
      · rw [← List.getD_eq_getElem?_getD] at hkj; exact h k j hkj
      · by_cases hk : k = acc.length
        · subst hk
          simp at hkj
          exact edgeMask_dep ho h _ (by intro e he; simpa using he) j hkj
        · rw [List.getElem?_eq_none (by simp; omega)] at hkj
          simp [inMask] at hkj

def isChain (o : Oper) : Bool := clsOf o.op == .chain
def isRead (o : Oper) : Bool := clsOf o.op == .read
def isAllo (o : Oper) : Bool := clsOf o.op == .allo

def tmpsOf (o : Oper) : List Nat := o.op.operands.toList.filterMap fun | .tmp t => some t | _ => none

/-- One pair of operations. -/
def pairOk (ex : List Nat) (ri rj : Nat) (i j : Nat) (oi oj : Oper) : Bool :=
  (i == j || oi.dst.isNone || !(oi.dst == oj.dst)) &&
  (match oj.dst with
    | some t => !(tmpsOf oi).contains t || (decide (j < i) && inMask ri j) || (decide (i < j) && inMask rj i)
    | none => true) &&
  (!(isChain oi && isChain oj && decide (j < i)) || inMask ri j) &&
  (!(isChain oi && isRead oj) || ex.contains i || inMask ri j || inMask rj i) &&
  (!(isChain oi && isAllo oj && decide (j < i)) || ex.contains i || inMask ri j)

def oneOk (sz : Nat) (ri : Nat) (i : Nat) (o : Oper) : Bool :=
  o.after.toList.all (fun e => !Region.binds .any e || decide (e.on < i)) &&
  (match o.dst with | some d => decide (d < sz) | none => true) &&
  (match o.guard with | some (g, _) => inMask ri g | none => true)

def rgOk (sz : Nat) (l : List Oper) (ex : List Nat) : Bool :=
  let rl := reachM [] l
  l.zipIdx.all fun (o, i) => oneOk sz (rl.getD i 0) i o && l.zipIdx.all fun (o', j) => pairOk ex (rl.getD i 0) (rl.getD j 0) i j o o'

theorem rgOk_sound {sz : Nat} {ops : Array Oper} {l : List Oper} {ex : List Nat} (hl : ops.toList = l) (h : rgOk sz l ex = true) : RgOk sz ops ex := by
  subst hl
  have hdep : ∀ k j, inMask ((reachM [] ops.toList).getD k 0) j = true → Dep ops k j := reachM_dep ops.toList [] (by simp) (by intro k j h; simp [inMask] at h)
  unfold rgOk at h
  simp only [List.all_eq_true] at h
  have hmem : ∀ i o, ops[i]? = some o → (o, i) ∈ ops.toList.zipIdx := by
    intro i o ho
    rw [List.mem_zipIdx_iff_getElem?]
    simpa using ho
  have h1 : ∀ i o, ops[i]? = some o → oneOk sz ((reachM [] ops.toList).getD i 0) i o = true := fun i o ho => (Bool.and_eq_true _ _ ▸ h (o, i) (hmem i o ho)).1
  have h2 : ∀ i j oi oj, ops[i]? = some oi → ops[j]? = some oj → pairOk ex ((reachM [] ops.toList).getD i 0) ((reachM [] ops.toList).getD j 0) i j oi oj = true := by
    intro i j oi oj hi hj
    have := (Bool.and_eq_true _ _ ▸ h (oi, i) (hmem i oi hi)).2
    exact List.all_eq_true.1 this (oj, j) (hmem j oj hj)
  refine ⟨?_, ?_, ?_, ?_, ?_, ?_, ?_, ?_⟩
  · intro i o e ho he hb
    have := h1 i o ho
    simp only [oneOk, Bool.and_eq_true, List.all_eq_true] at this
    have := this.1.1 e (by simpa using he)
    simpa [hb] using this
  · intro i o d ho hd
    have := h1 i o ho
    simp only [oneOk, Bool.and_eq_true, hd] at this
    simpa using this.1.2
  · intro i j oi oj d hi hj hdi hdj
    have := h2 i j oi oj hi hj
    simp only [pairOk, Bool.and_eq_true, hdi, hdj] at this
    have := this.1.1.1.1
    simpa using this
  · intro i j oi oj t hi hj ht hdj
    have := h2 i j oi oj hi hj
    simp only [pairOk, Bool.and_eq_true, hdj] at this
    have := this.1.1.1.2
    have hin : (tmpsOf oi).contains t = true := by
      simp only [tmpsOf, List.contains_iff_mem, List.mem_filterMap]
      exact ⟨.tmp t, by simpa using ht, rfl⟩
    simp only [hin, Bool.not_true, Bool.false_or, Bool.or_eq_true, Bool.and_eq_true, decide_eq_true_eq] at this
    rcases this with ⟨a, b⟩ | ⟨a, b⟩
    · exact .inl ⟨a, hdep _ _ b⟩
    · exact .inr ⟨a, hdep _ _ b⟩
  · intro i o g want ho hg
    have := h1 i o ho
    simp only [oneOk, Bool.and_eq_true, hg] at this
    exact hdep _ _ this.2
  · intro i j oi oj hi hj hci hcj hlt
    have := h2 i j oi oj hi hj
    simp only [pairOk, Bool.and_eq_true] at this
    have := this.1.1.2
    simp only [isChain, hci, hcj, beq_self_eq_true, hlt, decide_true, Bool.and_self, Bool.not_true, Bool.false_or] at this
    exact hdep _ _ this
  · intro c r oc or hc hr hcc hrr
    have := h2 c r oc or hc hr
    simp only [pairOk, Bool.and_eq_true] at this
    have := this.1.2
    simp only [isChain, isRead, hcc, hrr, beq_self_eq_true, Bool.and_self, Bool.not_true, Bool.false_or, Bool.or_eq_true] at this
    rcases this with (a | a) | a
    · exact .inl a
    · exact .inr (.inl (hdep _ _ a))
    · exact .inr (.inr (hdep _ _ a))
  · intro c j oc oj hc hj hcc hjj hlt
    have := h2 c j oc oj hc hj
    simp only [pairOk, Bool.and_eq_true] at this
    have := this.2
    simp only [isChain, isAllo, hcc, hjj, beq_self_eq_true, hlt, decide_true, Bool.and_self, Bool.not_true, Bool.false_or, Bool.or_eq_true] at this
    rcases this with a | a
    · exact .inl a
    · exact .inr (hdep _ _ a)

end Go.Am
