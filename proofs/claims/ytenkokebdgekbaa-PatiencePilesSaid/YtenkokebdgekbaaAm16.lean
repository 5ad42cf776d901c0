/-
  The abstract machine, run fast: frames as trees, heaps newest block first; what it returns, the plain interpreter returns.
  Conditions: none.
-/
import Derived.Test.YtenkokebdgekbaaAm15
namespace Go.Am

/- Lists by their recursor: fewer steps for the kernel. -/
noncomputable def seqListR {α β : Type} (f : α → (α → β) → β) (l : List α) : (List α → β) → β :=
  List.rec (motive := fun _ => (List α → β) → β) (fun k => k []) (fun x _ ih k => f x fun x => ih fun xs => k (x :: xs)) l
theorem seqListR_eq {α β : Type} (f : α → (α → β) → β) (hf : ∀ x k, f x k = k x) : ∀ (l : List α) (k : List α → β), seqListR f l k = k l := by
  intro l
  induction l with
  | nil => intro k; rfl
  | cons x xs ih => intro k; show f x (fun x => seqListR f xs fun xs => k (x :: xs)) = _; rw [hf, ih]

/-- Trees of slots: the number's bits lead from the root. -/
inductive Tr where
  | lf
  | nd (v : AV) (l r : Tr)
  deriving Inhabited

/-- 0 is the root; 2k + 1: right, then k; 2k + 2: left, then k. -/
def pathF : Nat → Nat → List Bool
  | 0, _ => []
  | f + 1, n => match n with
    | 0 => []
    | m + 1 => if m % 2 = 0 then true :: pathF f (m / 2) else false :: pathF f (m / 2)
def path (n : Nat) : List Bool := pathF 12 n

noncomputable def Tr.get? (p : List Bool) : Tr → Option AV :=
  List.rec (motive := fun _ => Tr → Option AV) (fun t => Tr.casesOn (motive := fun _ => Option AV) t none (fun v _ _ => some v))
    (fun b _ ih t => Tr.casesOn (motive := fun _ => Option AV) t none (fun _ l r => Bool.rec (motive := fun _ => Option AV) (ih l) (ih r) b)) p
noncomputable def Tr.getV (p : List Bool) : Tr → AV :=
  List.rec (motive := fun _ => Tr → AV) (fun t => Tr.casesOn (motive := fun _ => AV) t .bot (fun v _ _ => v))
    (fun b _ ih t => Tr.casesOn (motive := fun _ => AV) t .bot (fun _ l r => Bool.rec (motive := fun _ => AV) (ih l) (ih r) b)) p
noncomputable def Tr.setK {β : Type} (v : AV) (p : List Bool) : Tr → (Tr → β) → β :=
  List.rec (motive := fun _ => Tr → (Tr → β) → β) (fun t k => Tr.casesOn (motive := fun _ => β) t (k .lf) (fun _ l r => k (.nd v l r)))
    (fun b _ ih t k => Tr.casesOn (motive := fun _ => β) t (k .lf) (fun u l r => Bool.rec (motive := fun _ => β) (ih l fun l => k (.nd u l r)) (ih r fun r => k (.nd u l r)) b)) p
def Tr.set (v : AV) : List Bool → Tr → Tr
  | [], .lf => .lf
  | [], .nd _ l r => .nd v l r
  | _ :: _, .lf => .lf
  | false :: p, .nd u l r => .nd u (Tr.set v p l) r
  | true :: p, .nd u l r => .nd u l (Tr.set v p r)

theorem Tr.setK_eq {β : Type} (v : AV) : ∀ (p : List Bool) (t : Tr) (k : Tr → β), Tr.setK v p t k = k (t.set v p)
  | [], .lf, k => rfl
  | [], .nd _ l r, k => rfl
  | b :: p, .lf, k => by cases b <;> rfl
  | false :: p, .nd u l r, k => by show Tr.setK v p l (fun l => k (.nd u l r)) = _; rw [Tr.setK_eq v p]; rfl
  | true :: p, .nd u l r, k => by show Tr.setK v p r (fun r => k (.nd u l r)) = _; rw [Tr.setK_eq v p]; rfl

theorem Tr.getV_eq : ∀ (p : List Bool) (t : Tr), t.getV p = (t.get? p).getD .bot
  | [], .lf => rfl
  | [], .nd _ l r => rfl
  | b :: p, .lf => rfl
  | false :: p, .nd u l r => Tr.getV_eq p l
  | true :: p, .nd u l r => Tr.getV_eq p r

theorem Tr.get_set (v : AV) : ∀ (p q : List Bool) (t : Tr), (t.set v p).get? q = if p = q ∧ (t.get? p).isSome then some v else t.get? q
  | [], [], .lf => rfl
  | [], [], .nd _ l r => by simp [Tr.set, Tr.get?]
  | [], b :: q, .lf => by simp [Tr.set]
  | [], b :: q, .nd _ l r => by simp [Tr.set]; rfl
  | b :: p, q, .lf => by
    have : Tr.lf.set v (b :: p) = .lf := by cases b <;> rfl
    rw [this]
    have h : Tr.lf.get? (b :: p) = none := rfl
    rw [h]; simp
  | false :: p, [], .nd u l r => by simp [Tr.set]; rfl
  | true :: p, [], .nd u l r => by simp [Tr.set]; rfl
  | false :: p, false :: q, .nd u l r => by
    show (l.set v p).get? q = _
    rw [Tr.get_set v p q l]
    have h1 : (Tr.nd u l r).get? (false :: p) = l.get? p := rfl
    have h2 : (Tr.nd u l r).get? (false :: q) = l.get? q := rfl
    rw [h1, h2]; simp
  | true :: p, true :: q, .nd u l r => by
    show (r.set v p).get? q = _
    rw [Tr.get_set v p q r]
    have h1 : (Tr.nd u l r).get? (true :: p) = r.get? p := rfl
    have h2 : (Tr.nd u l r).get? (true :: q) = r.get? q := rfl
    rw [h1, h2]; simp
  | false :: p, true :: q, .nd u l r => by
    have h1 : (Tr.set v (false :: p) (.nd u l r)).get? (true :: q) = r.get? q := rfl
    have h2 : (Tr.nd u l r).get? (true :: q) = r.get? q := rfl
    rw [h1, h2]; simp
  | true :: p, false :: q, .nd u l r => by
    have h1 : (Tr.set v (true :: p) (.nd u l r)).get? (false :: q) = l.get? q := rfl
    have h2 : (Tr.nd u l r).get? (false :: q) = l.get? q := rfl
    rw [h1, h2]; simp

theorem pathF_inj : ∀ (f n m : Nat), n < 2 ^ f → m < 2 ^ f → pathF f n = pathF f m → n = m := by
  intro f
  induction f with
  | zero => intro n m hn hm _; omega
  | succ f ih =>
    intro n m hn hm h
    have e : 2 ^ (f + 1) = 2 * 2 ^ f := by rw [Nat.pow_succ]; omega
    cases n with
    | zero =>
      cases m with
      | zero => rfl
      | succ m => simp only [pathF] at h; split at h <;> cases h
    | succ n =>
      cases m with
      | zero => simp only [pathF] at h; split at h <;> cases h
      | succ m =>
        simp only [pathF] at h
        split at h <;> split at h
        · have := ih (n / 2) (m / 2) (by omega) (by omega) (by simpa using h); omega
        · simp at h
        · simp at h
        · have := ih (n / 2) (m / 2) (by omega) (by omega) (by simpa using h); omega
theorem path_inj {n m : Nat} (hn : n < 4096) (hm : m < 4096) (h : path n = path m) : n = m := pathF_inj 12 n m hn hm h

/-- A tree for slots below n: what stands at a * k + b. -/
def Tr.blank (n : Nat) : Nat → Nat → Nat → Tr
  | 0, _, _ => .lf
  | f + 1, a, b => if b < n then .nd (.tup []) (Tr.blank n f (2 * a) (2 * a + b)) (Tr.blank n f (2 * a) (a + b)) else .lf

theorem Tr.blank_get (n : Nat) : ∀ (f a b m : Nat), 0 < a → m < 2 ^ f - 1 → (Tr.blank n f a b).get? (pathF f m) = if a * m + b < n then some (.tup []) else none := by
  intro f
  induction f with
  | zero => intro a b m _ hm; simp at hm
  | succ f ih =>
    intro a b m ha hm
    have e : 2 ^ (f + 1) = 2 * 2 ^ f := by rw [Nat.pow_succ]; omega
    unfold Tr.blank
    by_cases hb : b < n
    · rw [if_pos hb]
      cases m with
      | zero => simp [pathF, hb]; rfl
      | succ m =>
        simp only [pathF]
        split
        · rename_i h2
          show (Tr.blank n f (2 * a) (a + b)).get? (pathF f (m / 2)) = _
          rw [ih (2 * a) (a + b) (m / 2) (by omega) (by omega)]
          have : 2 * a * (m / 2) + (a + b) = a * (m + 1) + b := by
            have hm2 : m = 2 * (m / 2) := by omega
            generalize m / 2 = q at hm2
            subst hm2
            rw [Nat.mul_add, Nat.mul_one, Nat.mul_comm 2 a, Nat.mul_assoc]; omega
          rw [this]
        · rename_i h2
          show (Tr.blank n f (2 * a) (2 * a + b)).get? (pathF f (m / 2)) = _
          rw [ih (2 * a) (2 * a + b) (m / 2) (by omega) (by omega)]
          have : 2 * a * (m / 2) + (2 * a + b) = a * (m + 1) + b := by
            have hm2 : m = 2 * (m / 2) + 1 := by omega
            generalize m / 2 = q at hm2
            subst hm2
            have : a * (2 * q + 1 + 1) = 2 * a * q + 2 * a := by rw [Nat.mul_add, Nat.mul_add, Nat.mul_comm 2 a, Nat.mul_assoc]; omega
            omega
          rw [this]
    · rw [if_neg hb]
      have hno : ¬ a * m + b < n := by omega
      rw [if_neg hno]
      cases hp : pathF (f + 1) m <;> rfl

/-- The tree stands for the frame. -/
def Rep (t : Tr) (fr : List AV) : Prop := fr.length ≤ 2000 ∧ ∀ i, i < 4095 → t.get? (path i) = fr[i]?

theorem Rep.get {t : Tr} {fr : List AV} (r : Rep t fr) (i : Nat) (hi : i < 4095) : t.getV (path i) = fr.getD i .bot := by
  rw [Tr.getV_eq, r.2 i hi, List.getD_eq_getElem?_getD]

theorem Rep.set {t : Tr} {fr : List AV} (r : Rep t fr) (d : Nat) (hd : d < 4095) (v : AV) : Rep (t.set v (path d)) (fr.set d v) := by
  refine ⟨by simpa using r.1, ?_⟩
  intro i hi
  rw [Tr.get_set, List.getElem?_set, r.2 i hi, r.2 d hd]
  by_cases h : d = i
  · subst h
    simp only [true_and, if_true]
    by_cases hl : d < fr.length
    · simp [hl]
    · simp [hl]
  · have : path d ≠ path i := fun hp => h (path_inj (by omega) (by omega) hp)
    simp [this, h]

theorem Rep.blank (n : Nat) (hn : n ≤ 2000) : Rep (Tr.blank n 12 1 0) (List.replicate n (.tup [])) := by
  refine ⟨by simpa using hn, ?_⟩
  intro i hi
  show (Tr.blank n 12 1 0).get? (pathF 12 i) = _
  rw [Tr.blank_get n 12 1 0 i (by omega) (by omega), List.getElem?_replicate]
  simp

end Go.Am
