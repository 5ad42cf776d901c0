/-
  Layer 01: the theorem of Hoffman: there is a flow, or some rooms prove that there is none (plain).
  Conditions: none.
-/
import Derived.Test.YtildfacbjdhbnaaDoorPb
namespace Go.Am

def bi (b : Bool) : Int := if b then 1 else 0
/-- What comes into rooms, less what leaves them, over the first ways. -/
def crossTo (ws : List W) (n : List Int) (ρ : Int → Bool) : Nat → Int
  | 0 => 0
  | i + 1 => crossTo ws n ρ i + n.getD i 0 * (bi (ρ (ws.getD i default).t) - bi (ρ (ws.getD i default).f))
/-- A sum over some of the first rooms. -/
def sumR (ρ : Int → Bool) (F : Int → Int) : Nat → Int
  | 0 => 0
  | k + 1 => sumR ρ F k + if ρ k then F k else 0
theorem sumR_add (ρ : Int → Bool) (F G : Int → Int) : ∀ k, sumR ρ (fun x => F x + G x) k = sumR ρ F k + sumR ρ G k := by
  intro k
  induction k with
  | zero => rfl
  | succ k ih => simp only [sumR, ih]; split <;> omega
theorem sumR_mul (ρ : Int → Bool) (c : Int) (F : Int → Int) : ∀ k, sumR ρ (fun x => c * F x) k = c * sumR ρ F k := by
  intro k
  induction k with
  | zero => simp [sumR]
  | succ k ih => simp only [sumR, ih]; split <;> simp [Int.mul_add]
theorem sumR_dl (ρ : Int → Bool) {a : Int} (h0 : 0 ≤ a) : ∀ k : Nat, sumR ρ (fun x => dl a x) k = if a < k then bi (ρ a) else 0 := by
  intro k
  induction k with
  | zero => rw [if_neg (by omega)]; rfl
  | succ k ih =>
    rw [sumR, ih]
    by_cases h : a = k
    · subst h
      rw [if_neg (Int.lt_irrefl _), if_pos (show ((k : Nat) : Int) < ((k + 1 : Nat) : Int) by omega)]
      unfold dl bi
      simp
    · have e : dl a k = 0 := if_neg h
      rw [e, ite_self, Int.add_zero]
      by_cases h2 : a < k
      · rw [if_pos h2, if_pos (show a < ((k + 1 : Nat) : Int) by omega)]
      · rw [if_neg h2, if_neg (show ¬ a < ((k + 1 : Nat) : Int) by omega)]
theorem sumR_zero {ρ : Int → Bool} {F : Int → Int} (h : ∀ x, F x = 0) : ∀ k, sumR ρ F k = 0 := by
  intro k
  induction k with
  | zero => rfl
  | succ k ih => rw [sumR, ih, h, ite_self]; rfl
theorem sumR_kept {r : Nat} {ws : List W} (hr : InR r ws) (n : List Int) (ρ : Int → Bool) : ∀ k, k ≤ ws.length → sumR ρ (fun x => keptTo ws n x k) r = crossTo ws n ρ k := by
  intro k
  induction k with
  | zero =>
    intro _
    exact sumR_zero (fun x => rfl) r
  | succ k ih =>
    intro hk
    obtain ⟨h1, h2, h3, h4⟩ := hr k (by omega)
    have e : (fun x => keptTo ws n x (k + 1)) = fun x => keptTo ws n x k + n.getD k 0 * (dl (ws.getD k default).t x + -1 * dl (ws.getD k default).f x) := by
      funext x
      rw [keptTo]
      congr 2
      omega
    rw [e, sumR_add, ih (by omega), sumR_mul, sumR_add, sumR_mul, sumR_dl ρ h3, sumR_dl ρ h1, if_pos h4, if_pos h2, crossTo]
    congr 2
    omega
theorem crossTo_same {ws : List W} {n : List Int} {ρ : Int → Bool} (h : ∀ x, ρ x = true) : ∀ k, crossTo ws n ρ k = 0 := by
  intro k
  induction k with
  | zero => rfl
  | succ k ih => rw [crossTo, ih, h, h]; simp [bi]
theorem kept_out {r : Int} {ws : List W} (hr : InR r ws) (n : List Int) {x : Int} (hx : x < 0 ∨ r ≤ x) : ∀ k, k ≤ ws.length → keptTo ws n x k = 0 := by
  intro k
  induction k with
  | zero => intro _; rfl
  | succ k ih =>
    intro hk
    obtain ⟨h1, h2, h3, h4⟩ := hr k (by omega)
    rw [keptTo, ih (by omega), dl, dl, if_neg (by omega), if_neg (by omega)]
    simp

/-- Rooms as bits. -/
def inS (s : Nat) (x : Int) : Bool := s.testBit x.toNat
def lvs (w : W) (s : Nat) : Bool := inS s w.f && !inS s w.t
def ens (w : W) (s : Nat) : Bool := !inS s w.f && inS s w.t
def netTo (ws : List W) (s : Nat) : Nat → Int
  | 0 => 0
  | i + 1 => netTo ws s i + (if lvs (ws.getD i default) s then (ws.getD i default).l else 0) - if ens (ws.getD i default) s then (ws.getD i default).m else 0
def proofB (ws : List W) (s : Nat) : Bool := decide (0 < netTo ws s ws.length)
/-- No rooms prove the opposite. -/
def canB (r : Nat) (ws : List W) : Bool := (List.range (2 ^ r)).all fun s => !proofB ws s
theorem canB_iff {r : Nat} {ws : List W} : canB r ws = true ↔ ∀ s, s < 2 ^ r → proofB ws s = false := by
  unfold canB
  rw [List.all_eq_true]
  exact ⟨fun h s hs => by have := h s (List.mem_range.2 hs); simpa using this, fun h s hs => by rw [h s (List.mem_range.1 hs)]; rfl⟩

/-- Rooms that prove: no flow. -/
theorem net_cross {ws : List W} {n : List Int} (h : Within ws n) (s : Nat) : ∀ k, k ≤ ws.length → netTo ws s k ≤ -crossTo ws n (inS s) k := by
  intro k
  induction k with
  | zero => intro _; exact Int.le_refl _
  | succ k ih =>
    intro hk
    have h0 := ih (by omega)
    have h1 := h.lo k (by omega)
    have h2 := h.hi k (by omega)
    rw [netTo, crossTo]
    generalize ws.getD k default = w at *
    generalize n.getD k 0 = c at *
    unfold lvs ens bi
    cases inS s w.f <;> cases inS s w.t <;> simp <;> omega
theorem proof_none {r : Nat} {ws : List W} (hr : InR r ws) {s : Nat} (hp : proofB ws s = true) : ¬ ∃ n, Flow ws n := by
  rintro ⟨n, hf⟩
  have h1 := net_cross hf.toWithin s ws.length (Nat.le_refl _)
  have h2 := sumR_kept hr n (inS s) ws.length (Nat.le_refl _)
  rw [sumR_zero (fun x => hf.kp x)] at h2
  have h3 := of_decide_eq_true hp
  omega

/-- Bits out of a function. -/
def maskB (ρ : Int → Bool) : Nat → Nat
  | 0 => 0
  | k + 1 => maskB ρ k + if ρ k then 2 ^ k else 0
theorem maskB_lt (ρ : Int → Bool) : ∀ k, maskB ρ k < 2 ^ k := by
  intro k
  induction k with
  | zero => exact Nat.one_pos
  | succ k ih => rw [maskB, Nat.pow_succ]; split <;> omega
theorem maskB_bit (ρ : Int → Bool) : ∀ k i : Nat, (maskB ρ k).testBit i = (decide (i < k) && ρ i) := by
  intro k
  induction k with
  | zero => intro i; simp [maskB]
  | succ k ih =>
    intro i
    have hlt := maskB_lt ρ k
    rw [maskB]
    by_cases hρ : ρ k = true
    · rw [if_pos hρ, Nat.add_comm]
      by_cases hik : i = k
      · subst hik
        rw [Nat.testBit_two_pow_add_eq, Nat.testBit_lt_two_pow hlt]
        simp [hρ]
      · by_cases hlt2 : i < k
        · rw [Nat.testBit_two_pow_add_gt hlt2, ih]
          simp [hlt2, show i < k + 1 by omega]
        · have hb : 2 ^ k + maskB ρ k < 2 ^ i := by
            have h2 : 2 ^ (k + 1) ≤ 2 ^ i := Nat.pow_le_pow_right (by decide) (by omega)
            rw [Nat.pow_succ] at h2
            omega
          rw [Nat.testBit_lt_two_pow hb]
          simp [show ¬ i < k + 1 by omega]
    · have hρ : ρ k = false := by simpa using hρ
      rw [if_neg (by simp [hρ]), Nat.add_zero, ih]
      by_cases hik : i = k
      · subst hik; simp [hρ]
      · by_cases hlt2 : i < k
        · simp [hlt2, show i < k + 1 by omega]
        · simp [hlt2, show ¬ i < k + 1 by omega]
theorem inS_mask {ρ : Int → Bool} {r : Nat} {x : Int} (h0 : 0 ≤ x) (h1 : x < r) : inS (maskB ρ r) x = ρ x := by
  unfold inS
  rw [maskB_bit, decide_eq_true (by omega), Bool.true_and]
  congr 1
  omega
/-- Where no path leads on, and more comes in than goes out: the other rooms prove. -/
theorem cut_proof {r : Nat} {ws : List W} (hr : InR r ws) {n : List Int} (h : Within ws n) {ρ : Int → Bool} (hc : Closed ws n (fun _ => true) (fun x => ρ x = true)) (hpos : 0 < sumR ρ (fun x => kept ws n x) r) : proofB ws (maskB (fun x => !ρ x) r) = true := by
  have key : ∀ k, k ≤ ws.length → netTo ws (maskB (fun x => !ρ x) r) k = crossTo ws n ρ k := by
    intro k
    induction k with
    | zero => intro _; rfl
    | succ k ih =>
      intro hk
      obtain ⟨h1, h2, h3, h4⟩ := hr k (by omega)
      obtain ⟨c1, c2⟩ := hc k (by omega) rfl
      have hl := h.lo k (by omega)
      have hm := h.hi k (by omega)
      rw [netTo, crossTo, ih (by omega)]
      unfold lvs ens bi
      rw [inS_mask h1 h2, inS_mask h3 h4]
      cases hf : ρ (ws.getD k default).f <;> cases ht : ρ (ws.getD k default).t
      · simp
      · have : ¬ (ws.getD k default).l < n.getD k 0 := fun hlt => by have this : ρ (ws.getD k default).f = true := c2 ht hlt; rw [hf] at this; cases this
        simp only [Bool.not_false, Bool.not_true, Bool.and_true, Bool.and_false, if_true, Bool.false_eq_true, if_false]
        omega
      · have : ¬ n.getD k 0 < (ws.getD k default).m := fun hlt => by have this : ρ (ws.getD k default).t = true := c1 hf hlt; rw [ht] at this; cases this
        simp only [Bool.not_false, Bool.not_true, Bool.and_true, Bool.and_false, if_true, Bool.false_eq_true, if_false]
        omega
      · simp
  unfold proofB
  rw [key _ (Nat.le_refl _), ← sumR_kept hr n ρ _ (Nat.le_refl _)]
  exact decide_eq_true hpos

def devTo (ws : List W) (n : List Int) : Nat → Nat
  | 0 => 0
  | k + 1 => devTo ws n k + (kept ws n k).natAbs
theorem dev_push {ws : List W} {n n' : List Int} {u v : Int} (hk : ∀ x, kept ws n' x = kept ws n x + dl v x - dl u x) (hu : 0 < kept ws n u) (hv : kept ws n v < 0) (h0u : 0 ≤ u) (h0v : 0 ≤ v) : ∀ r : Nat, devTo ws n' r + ((if u < r then 1 else 0) + if v < r then 1 else 0) = devTo ws n r := by
  have hne : u ≠ v := by rintro rfl; omega
  intro r
  induction r with
  | zero => rw [if_neg (by omega), if_neg (by omega)]; rfl
  | succ r ih =>
    rw [devTo, devTo, hk]
    have cr : ((r + 1 : Nat) : Int) = (r : Int) + 1 := by omega
    rw [cr]
    by_cases h1 : u = r
    · have e1 : dl u r = 1 := if_pos h1
      have e2 : dl v r = 0 := if_neg (fun h => hne (h1.trans h.symm))
      have e3 : (if u < (r : Int) then 1 else 0 : Nat) = 0 := if_neg (by omega)
      have e4 : (if u < (r : Int) + 1 then 1 else 0 : Nat) = 1 := if_pos (by omega)
      have e5 : (if v < (r : Int) + 1 then 1 else 0 : Nat) = if v < (r : Int) then 1 else 0 := by
        by_cases h2 : v < (r : Int)
        · rw [if_pos h2, if_pos (by omega)]
        · rw [if_neg h2, if_neg (by omega)]
      rw [h1] at hu
      rw [e3] at ih
      rw [e1, e2, e4, e5]
      omega
    · by_cases h2 : v = r
      · have e1 : dl u r = 0 := if_neg h1
        have e2 : dl v r = 1 := if_pos h2
        have e3 : (if v < (r : Int) then 1 else 0 : Nat) = 0 := if_neg (by omega)
        have e4 : (if v < (r : Int) + 1 then 1 else 0 : Nat) = 1 := if_pos (by omega)
        have e5 : (if u < (r : Int) + 1 then 1 else 0 : Nat) = if u < (r : Int) then 1 else 0 := by
          by_cases h3 : u < (r : Int)
          · rw [if_pos h3, if_pos (by omega)]
          · rw [if_neg h3, if_neg (by omega)]
        rw [h2] at hv
        rw [e3] at ih
        rw [e1, e2, e4, e5]
        omega
      · have e1 : dl u r = 0 := if_neg h1
        have e2 : dl v r = 0 := if_neg h2
        have e5 : (if u < (r : Int) + 1 then 1 else 0 : Nat) = if u < (r : Int) then 1 else 0 := by
          by_cases h3 : u < (r : Int)
          · rw [if_pos h3, if_pos (by omega)]
          · rw [if_neg h3, if_neg (by omega)]
        have e6 : (if v < (r : Int) + 1 then 1 else 0 : Nat) = if v < (r : Int) then 1 else 0 := by
          by_cases h3 : v < (r : Int)
          · rw [if_pos h3, if_pos (by omega)]
          · rw [if_neg h3, if_neg (by omega)]
        rw [e1, e2, e5, e6]
        have e7 : kept ws n ↑r + 0 - 0 = kept ws n ↑r := by omega
        rw [e7]
        omega
theorem dev_zero {ws : List W} {n : List Int} : ∀ {r : Nat}, devTo ws n r = 0 → ∀ x : Nat, x < r → kept ws n x = 0 := by
  intro r
  induction r with
  | zero => intro _ x hx; omega
  | succ r ih =>
    intro h x hx
    rw [devTo] at h
    rcases Nat.lt_succ_iff_lt_or_eq.1 hx with h1 | rfl
    · exact ih (by omega) x h1
    · omega
theorem sumR_pos {ρ : Int → Bool} {F : Int → Int} {u : Nat} (hu : ρ u = true) (hF : 0 < F u) (h : ∀ x : Nat, ρ x = true → 0 ≤ F x) : ∀ r, u < r → 0 < sumR ρ F r := by
  have h0 : ∀ r, 0 ≤ sumR ρ F r := by
    intro r
    induction r with
    | zero => exact Int.le_refl _
    | succ r ih =>
      rw [sumR]
      split
      · rename_i hr; have := h r hr; omega
      · omega
  intro r
  induction r with
  | zero => intro hr; omega
  | succ r ih =>
    intro hr
    rw [sumR]
    rcases Nat.lt_succ_iff_lt_or_eq.1 hr with h1 | rfl
    · have := ih h1
      split
      · rename_i hr; have := h r hr; omega
      · omega
    · rw [if_pos hu]; have := h0 u; omega
theorem sumR_some {F : Int → Int} : ∀ {r : Nat}, sumR (fun _ => true) F r = 0 → (∃ x : Nat, x < r ∧ F x ≠ 0) → (∃ u : Nat, u < r ∧ 0 < F u) ∧ ∃ v : Nat, v < r ∧ F v < 0 := by
  intro r hs hx
  have hpos : (∀ u : Nat, u < r → F u ≤ 0) → (∃ x : Nat, x < r ∧ F x ≠ 0) → sumR (fun _ => true) F r < 0 := by
    clear hs hx
    induction r with
    | zero => rintro _ ⟨x, hx, _⟩; omega
    | succ r ih =>
      intro h ⟨x, hx, hne⟩
      have hr := h r (by omega)
      have hle : sumR (fun _ => true) F r ≤ 0 := by
        by_cases hex : ∃ y : Nat, y < r ∧ F y ≠ 0
        · exact Int.le_of_lt (ih (fun u hu => h u (by omega)) hex)
        · have : ∀ k, k ≤ r → sumR (fun _ => true) F k = 0 := by
            intro k
            induction k with
            | zero => intro _; rfl
            | succ k ih2 =>
              intro hk
              rw [sumR, ih2 (by omega), if_pos rfl]
              have : F k = 0 := Classical.byContradiction fun hne => hex ⟨k, by omega, hne⟩
              omega
          rw [this r (Nat.le_refl _)]; exact Int.le_refl _
      rw [sumR, if_pos rfl]
      rcases Nat.lt_succ_iff_lt_or_eq.1 hx with h1 | rfl
      · have := ih (fun u hu => h u (by omega)) ⟨x, h1, hne⟩
        omega
      · omega
  have hneg : (∀ u : Nat, u < r → 0 ≤ F u) → (∃ x : Nat, x < r ∧ F x ≠ 0) → 0 < sumR (fun _ => true) F r := by
    intro h ⟨x, hx, hne⟩
    have hnn : ∀ k, k ≤ r → 0 ≤ sumR (fun _ => true) F k := by
      intro k
      induction k with
      | zero => intro _; exact Int.le_refl _
      | succ k ih => intro hk; rw [sumR, if_pos rfl]; have := ih (by omega); have := h k (by omega); omega
    have : ∀ k, x < k → k ≤ r → 0 < sumR (fun _ => true) F k := by
      intro k
      induction k with
      | zero => intro h1; omega
      | succ k ih =>
        intro h1 hk
        rw [sumR, if_pos rfl]
        have h2 := h k (by omega)
        rcases Nat.lt_succ_iff_lt_or_eq.1 h1 with h3 | rfl
        · have := ih h3 (by omega); omega
        · have := hnn x (by omega); have := h x hx; omega
    exact this r hx (Nat.le_refl _)
  constructor
  · apply Classical.byContradiction
    intro hno
    have := hpos (fun u hu => by
      have : ¬ 0 < F u := fun hp => hno ⟨u, hu, hp⟩
      omega) hx
    omega
  · apply Classical.byContradiction
    intro hno
    have := hneg (fun u hu => by
      have : ¬ F u < 0 := fun hp => hno ⟨u, hu, hp⟩
      omega) hx
    omega
/-- The sum of what comes and goes is nothing. -/
theorem kept_sum {r : Nat} {ws : List W} (hr : InR r ws) (n : List Int) : sumR (fun _ => true) (fun x => kept ws n x) r = 0 := by
  rw [sumR_kept hr n _ _ (Nat.le_refl _), crossTo_same (fun _ => rfl)]
open Classical in
/-- A path, or a proof. -/
theorem path_or_proof {r : Nat} {ws : List W} (hr : InR r ws) {n : List Int} (h : Within ws n) (hne : devTo ws n r ≠ 0) :
    (∃ u v : Nat, u < r ∧ v < r ∧ 0 < kept ws n u ∧ kept ws n v < 0 ∧ ∃ vs E, Path ws n (fun _ => true) u vs v E) ∨ ∃ s, s < 2 ^ r ∧ proofB ws s = true := by
  have hex : ∃ x : Nat, x < r ∧ kept ws n x ≠ 0 := by
    apply Classical.byContradiction
    intro hno
    apply hne
    have : ∀ k, k ≤ r → devTo ws n k = 0 := by
      intro k
      induction k with
      | zero => intro _; rfl
      | succ k ih =>
        intro hk
        have h0 : kept ws n k = 0 := Classical.byContradiction fun hne => hno ⟨k, by omega, hne⟩
        rw [devTo, ih (by omega), h0]; rfl
    exact this r (Nat.le_refl _)
  obtain ⟨⟨u, hu, hpu⟩, _⟩ := sumR_some (kept_sum hr n) hex
  by_cases hp : ∃ v : Nat, v < r ∧ kept ws n v < 0 ∧ ∃ vs E, Path ws n (fun _ => true) u vs v E
  · obtain ⟨v, h1, h2, h3⟩ := hp
    exact .inl ⟨u, v, hu, h1, hpu, h2, h3⟩
  · right
    have hcl := path_or (ws := ws) (n := n) (A := fun _ => true) (u : Int)
    have e : (fun x : Int => (decide (∃ vs E, Path ws n (fun _ => true) u vs x E)) = true) = fun x => ∃ vs E, Path ws n (fun _ => true) u vs x E := by
      funext x
      exact decide_eq_true_eq
    refine ⟨_, maskB_lt _ r, cut_proof hr h (ρ := fun x => decide (∃ vs E, Path ws n (fun _ => true) u vs x E)) (by rw [e]; exact hcl) ?_⟩
    refine sumR_pos (u := u) (decide_eq_true ⟨_, _, .nil⟩) hpu ?_ r hu
    intro x hx
    have hx := of_decide_eq_true hx
    by_cases hxr : x < r
    · have : ¬ kept ws n x < 0 := fun hlt => hp ⟨x, hxr, hlt, hx⟩
      omega
    · have : kept ws n x = 0 := kept_out hr n (.inr (by omega)) _ (Nat.le_refl _)
      omega
/-- The theorem of Hoffman. -/
theorem flow_of_can {r : Nat} {ws : List W} (hr : InR r ws) (hc : canB r ws = true) : ∀ (d : Nat) (n : List Int), devTo ws n r = d → Within ws n → ∃ n', Flow ws n' := by
  intro d
  induction d using Nat.strongRecOn with
  | _ d ih =>
    intro n hd h
    by_cases h0 : d = 0
    · subst h0
      refine ⟨n, h, ?_⟩
      intro x
      by_cases hx : x < 0 ∨ (r : Int) ≤ x
      · exact kept_out hr n hx _ (Nat.le_refl _)
      · have := dev_zero hd x.toNat (by omega)
        rwa [show ((x.toNat : Nat) : Int) = x by omega] at this
    · rcases path_or_proof hr h (by omega) with ⟨u, v, hu, hv, hpu, hpv, vs, E, p⟩ | ⟨s, hs, hp⟩
      · have hdv := dev_push (n' := pushE E n) (fun x => p.kept h.len x) hpu hpv (by omega) (by omega) r
        rw [if_pos (by omega), if_pos (by omega)] at hdv
        exact ih (devTo ws (pushE E n) r) (by omega) _ rfl (p.within h)
      · rw [canB_iff.1 hc s hs] at hp; cases hp
theorem hoffman {r : Nat} {ws : List W} (hr : InR r ws) (hl : ∀ i, i < ws.length → (ws.getD i default).l ≤ (ws.getD i default).m) : canB r ws = true ↔ ∃ n, Flow ws n := by
  constructor
  · intro hc
    have hg : ∀ i, (ws.map (·.l)).getD i 0 = if i < ws.length then (ws.getD i default).l else 0 := by
      intro i
      rw [List.getD_eq_getElem?_getD, List.getElem?_map, List.getD_eq_getElem?_getD]
      by_cases hi : i < ws.length
      · rw [List.getElem?_eq_getElem hi, if_pos hi]; rfl
      · rw [List.getElem?_eq_none (by omega), if_neg hi]; rfl
    refine flow_of_can hr hc _ (ws.map (·.l)) rfl ⟨by simp, ?_, ?_⟩
    · intro i hi; rw [hg, if_pos hi]; exact Int.le_refl _
    · intro i hi; rw [hg, if_pos hi]; exact hl i hi
  · intro hf
    refine canB_iff.2 fun s _ => ?_
    cases hp : proofB ws s with
    | false => rfl
    | true => exact absurd hf (proof_none hr hp)
end Go.Am

namespace Go.Am

/-- Where no path leads on, no other flow has less on a way that leaves the rooms. -/
theorem cross_diff {ws : List W} {n n' : List Int} {A : Nat → Bool} {ρ : Int → Bool} {i : Nat} (h : Within ws n) (h' : Within ws n') (hc : Closed ws n A (fun x => ρ x = true)) (hA : A i = false) (hs : ∀ k, k < ws.length → A k = false → k ≠ i → n'.getD k 0 = n.getD k 0) :
    ∀ k, k ≤ ws.length → crossTo ws n ρ k + (if i < k then (n'.getD i 0 - n.getD i 0) * (bi (ρ (ws.getD i default).t) - bi (ρ (ws.getD i default).f)) else 0) ≤ crossTo ws n' ρ k := by
  intro k
  induction k with
  | zero => intro _; rw [if_neg (by omega)]; exact Int.le_refl _
  | succ k ih =>
    intro hk
    have h0 := ih (by omega)
    rw [crossTo, crossTo]
    by_cases hik : i = k
    · subst hik
      rw [if_neg (Nat.lt_irrefl _)] at h0
      rw [if_pos (Nat.lt_succ_self _), Int.sub_mul]
      omega
    · have h1 : n.getD k 0 * (bi (ρ (ws.getD k default).t) - bi (ρ (ws.getD k default).f)) ≤ n'.getD k 0 * (bi (ρ (ws.getD k default).t) - bi (ρ (ws.getD k default).f)) := by
        cases hAk : A k with
        | false => rw [hs k (by omega) hAk (fun h => hik h.symm)]; exact Int.le_refl _
        | true =>
          obtain ⟨c1, c2⟩ := hc k (by omega) hAk
          have l1 := h.lo k (by omega)
          have l2 := h.hi k (by omega)
          have l3 := h'.lo k (by omega)
          have l4 := h'.hi k (by omega)
          have c1 : ρ (ws.getD k default).f = true → n.getD k 0 < (ws.getD k default).m → ρ (ws.getD k default).t = true := c1
          have c2 : ρ (ws.getD k default).t = true → (ws.getD k default).l < n.getD k 0 → ρ (ws.getD k default).f = true := c2
          generalize ws.getD k default = w at *
          generalize n.getD k 0 = a at *
          generalize n'.getD k 0 = b at *
          cases hf : ρ w.f <;> cases ht : ρ w.t
          · simp [bi]
          · have : ¬ w.l < a := fun hlt => by have := c2 ht hlt; rw [hf] at this; cases this
            simp [bi]; omega
          · have : ¬ a < w.m := fun hlt => by have := c1 hf hlt; rw [ht] at this; cases this
            simp [bi]; omega
          · simp [bi]
      by_cases h2 : i < k
      · rw [if_pos h2] at h0; rw [if_pos (by omega)]; omega
      · rw [if_neg h2] at h0; rw [if_neg (by omega)]; omega
theorem cross_flow {r : Nat} {ws : List W} (hr : InR r ws) {n : List Int} (hf : Flow ws n) (ρ : Int → Bool) : crossTo ws n ρ ws.length = 0 := by
  rw [← sumR_kept hr n ρ _ (Nat.le_refl _)]
  exact sumR_zero (fun x => hf.kp x) r
theorem cut_least {r : Nat} {ws : List W} (hr : InR r ws) {n n' : List Int} {A : Nat → Bool} {ρ : Int → Bool} {i : Nat} (hf : Flow ws n) (hf' : Flow ws n') (hi : i < ws.length) (hc : Closed ws n A (fun x => ρ x = true)) (hA : A i = false) (hs : ∀ k, k < ws.length → A k = false → k ≠ i → n'.getD k 0 = n.getD k 0)
    (h1 : ρ (ws.getD i default).f = true) (h2 : ρ (ws.getD i default).t = false) : n.getD i 0 ≤ n'.getD i 0 := by
  have h := cross_diff hf.toWithin hf'.toWithin hc hA hs ws.length (Nat.le_refl _)
  rw [if_pos hi, cross_flow hr hf, cross_flow hr hf', h1, h2] at h
  simp only [bi, Bool.false_eq_true, if_true, if_false] at h
  omega
theorem cut_most {r : Nat} {ws : List W} (hr : InR r ws) {n n' : List Int} {A : Nat → Bool} {ρ : Int → Bool} {i : Nat} (hf : Flow ws n) (hf' : Flow ws n') (hi : i < ws.length) (hc : Closed ws n A (fun x => ρ x = true)) (hA : A i = false) (hs : ∀ k, k < ws.length → A k = false → k ≠ i → n'.getD k 0 = n.getD k 0)
    (h1 : ρ (ws.getD i default).t = true) (h2 : ρ (ws.getD i default).f = false) : n'.getD i 0 ≤ n.getD i 0 := by
  have h := cross_diff hf.toWithin hf'.toWithin hc hA hs ws.length (Nat.le_refl _)
  rw [if_pos hi, cross_flow hr hf, cross_flow hr hf', h1, h2] at h
  simp only [bi, Bool.false_eq_true, if_true, if_false] at h
  omega

/-- Books in which a way has just one number. -/
def withW (ws : List W) (i : Nat) (v : Int) : List W := ws.set i { (ws.getD i default) with l := v, m := v }
theorem withW_len (ws : List W) (i : Nat) (v : Int) : (withW ws i v).length = ws.length := by simp [withW]
theorem withW_get {ws : List W} {i : Nat} {v : Int} (hi : i < ws.length) (k : Nat) : (withW ws i v).getD k default = if k = i then { (ws.getD i default) with l := v, m := v } else ws.getD k default := by
  unfold withW
  rw [List.getD_eq_getElem?_getD, List.getElem?_set]
  by_cases h : i = k
  · subst h; rw [if_pos rfl, if_pos hi, if_pos rfl]; rfl
  · rw [if_neg h, if_neg (fun h2 => h h2.symm), List.getD_eq_getElem?_getD]
theorem withW_kept {ws : List W} {i : Nat} {v : Int} (hi : i < ws.length) (n : List Int) (x : Int) : ∀ k, keptTo (withW ws i v) n x k = keptTo ws n x k := by
  intro k
  induction k with
  | zero => rfl
  | succ k ih =>
    rw [keptTo, keptTo, ih, withW_get hi]
    by_cases h : k = i
    · subst h; rw [if_pos rfl]
    · rw [if_neg h]
theorem withW_inR {r : Int} {ws : List W} {i : Nat} {v : Int} (hi : i < ws.length) (hr : InR r ws) : InR r (withW ws i v) := by
  intro k hk
  rw [withW_len] at hk
  rw [withW_get hi]
  by_cases h : k = i
  · subst h; rw [if_pos rfl]; exact hr k hk
  · rw [if_neg h]; exact hr k hk
theorem flow_with {ws : List W} {i : Nat} {v : Int} (hi : i < ws.length) (h1 : (ws.getD i default).l ≤ v) (h2 : v ≤ (ws.getD i default).m) {n : List Int} : Flow (withW ws i v) n ↔ Flow ws n ∧ n.getD i 0 = v := by
  constructor
  · intro h
    have e : n.getD i 0 = v := by
      have l1 := h.lo i (by rw [withW_len]; exact hi)
      have l2 := h.hi i (by rw [withW_len]; exact hi)
      rw [withW_get hi, if_pos rfl] at l1 l2
      have l1 : v ≤ n.getD i 0 := l1
      have l2 : n.getD i 0 ≤ v := l2
      omega
    refine ⟨⟨⟨by rw [h.len, withW_len], ?_, ?_⟩, ?_⟩, e⟩
    · intro k hk
      have := h.lo k (by rw [withW_len]; exact hk)
      rw [withW_get hi] at this
      by_cases hki : k = i
      · subst hki; rw [e]; exact h1
      · rw [if_neg hki] at this; exact this
    · intro k hk
      have := h.hi k (by rw [withW_len]; exact hk)
      rw [withW_get hi] at this
      by_cases hki : k = i
      · subst hki; rw [e]; exact h2
      · rw [if_neg hki] at this; exact this
    · intro x
      have := h.kp x
      rw [kept, withW_len, withW_kept hi] at this
      exact this
  · rintro ⟨h, e⟩
    refine ⟨⟨by rw [h.len, withW_len], ?_, ?_⟩, ?_⟩
    · intro k hk
      rw [withW_len] at hk
      rw [withW_get hi]
      by_cases hki : k = i
      · subst hki; rw [if_pos rfl]; exact Int.le_of_eq e.symm
      · rw [if_neg hki]; exact h.lo k hk
    · intro k hk
      rw [withW_len] at hk
      rw [withW_get hi]
      by_cases hki : k = i
      · subst hki; rw [if_pos rfl]; exact Int.le_of_eq e
      · rw [if_neg hki]; exact h.hi k hk
    · intro x
      rw [kept, withW_len, withW_kept hi]
      exact h.kp x
/-- The least numbers. -/
def LM (ws : List W) : Prop := ∀ i, i < ws.length → (ws.getD i default).l ≤ (ws.getD i default).m
theorem withW_LM {ws : List W} {i : Nat} {v : Int} (hi : i < ws.length) (h : LM ws) : LM (withW ws i v) := by
  intro k hk
  rw [withW_len] at hk
  rw [withW_get hi]
  by_cases hki : k = i
  · subst hki; rw [if_pos rfl]; exact Int.le_refl _
  · rw [if_neg hki]; exact h k hk
theorem can_with {r : Nat} {ws : List W} {i : Nat} {v : Int} (hr : InR r ws) (hl : LM ws) (hi : i < ws.length) (h1 : (ws.getD i default).l ≤ v) (h2 : v ≤ (ws.getD i default).m) : canB r (withW ws i v) = true ↔ ∃ n, Flow ws n ∧ n.getD i 0 = v := by
  rw [hoffman (withW_inR hi hr) (withW_LM hi hl)]
  exact ⟨fun ⟨n, hn⟩ => ⟨n, (flow_with hi h1 h2).1 hn⟩, fun ⟨n, hn⟩ => ⟨n, (flow_with hi h1 h2).2 hn⟩⟩

/-- The first flow. -/
structure LexMin (ws : List W) (n : List Int) : Prop where
  fl : Flow ws n
  le : ∀ n', Flow ws n' → ∀ i, i < ws.length → (∀ k, k < i → n'.getD k 0 = n.getD k 0) → n.getD i 0 ≤ n'.getD i 0
theorem LexMin.uniq {ws : List W} {n n' : List Int} (h : LexMin ws n) (h' : LexMin ws n') : n = n' := by
  have hl : n.length = n'.length := by rw [h.fl.len, h'.fl.len]
  have key : ∀ i, i < ws.length → n.getD i 0 = n'.getD i 0 := by
    intro i
    induction i using Nat.strongRecOn with
    | _ i ih =>
      intro hi
      have h1 := h.le n' h'.fl i hi (fun k hk => (ih k hk (by omega)).symm)
      have h2 := h'.le n h.fl i hi (fun k hk => ih k hk (by omega))
      omega
  refine extJ hl ?_
  intro i
  by_cases hi : i < ws.length
  · exact key i hi
  · rw [List.getD_eq_getElem?_getD, List.getD_eq_getElem?_getD, List.getElem?_eq_none (by rw [h.fl.len]; omega), List.getElem?_eq_none (by rw [h'.fl.len]; omega)]
theorem exists_min {α : Type} {P : α → Prop} (f : α → Nat) (h : ∃ a, P a) : ∃ a, P a ∧ ∀ b, P b → f a ≤ f b := by
  obtain ⟨a, ha⟩ := h
  have : ∀ k a, P a → f a = k → ∃ a, P a ∧ ∀ b, P b → f a ≤ f b := by
    intro k
    induction k using Nat.strongRecOn with
    | _ k ih =>
      intro a ha hk
      by_cases hb : ∃ b, P b ∧ f b < f a
      · obtain ⟨b, hb, hlt⟩ := hb
        exact ih (f b) (by omega) b hb rfl
      · refine ⟨a, ha, fun b hb' => ?_⟩
        have : ¬ f b < f a := fun h => hb ⟨b, hb', h⟩
        omega
  exact this _ a ha rfl
/-- Least up to a way. -/
def MinTo (ws : List W) (n : List Int) (j : Nat) : Prop := Flow ws n ∧ ∀ n', Flow ws n' → ∀ i, i < j → (∀ k, k < i → n'.getD k 0 = n.getD k 0) → n.getD i 0 ≤ n'.getD i 0
theorem MinTo.step {ws : List W} {n m : List Int} {j : Nat} (h : MinTo ws n j) (hf : Flow ws m) (hs : ∀ k, k < j → m.getD k 0 = n.getD k 0) (hm : ∀ n', Flow ws n' → (∀ k, k < j → n'.getD k 0 = m.getD k 0) → m.getD j 0 ≤ n'.getD j 0) : MinTo ws m (j + 1) := by
  refine ⟨hf, ?_⟩
  intro n' hn' i hi hk
  rcases Nat.lt_succ_iff_lt_or_eq.1 hi with h1 | rfl
  · rw [hs i h1]
    exact h.2 n' hn' i h1 (fun k hk' => by rw [hk k hk', hs k (by omega)])
  · exact hm n' hn' hk
theorem lex_exists {ws : List W} (h : ∃ n, Flow ws n) : ∃ n, LexMin ws n := by
  have key : ∀ j, j ≤ ws.length → ∃ n, MinTo ws n j := by
    intro j
    induction j with
    | zero => intro _; obtain ⟨n, hn⟩ := h; exact ⟨n, hn, fun _ _ i hi => by omega⟩
    | succ j ih =>
      intro hj
      obtain ⟨n, hn⟩ := ih (by omega)
      obtain ⟨m, ⟨hm1, hm2⟩, hm3⟩ := exists_min (P := fun m => Flow ws m ∧ ∀ k, k < j → m.getD k 0 = n.getD k 0) (fun m => (m.getD j 0 - (ws.getD j default).l).toNat) ⟨n, hn.1, fun _ _ => rfl⟩
      refine ⟨m, hn.step hm1 hm2 ?_⟩
      intro n' hn' hk
      have h1 := hm3 n' ⟨hn', fun k hk' => by rw [hk k hk', hm2 k hk']⟩
      have h2 := hm1.lo j (by omega)
      have h3 := hn'.lo j (by omega)
      omega
  obtain ⟨n, hn⟩ := key _ (Nat.le_refl _)
  exact ⟨n, hn.1, hn.2⟩
/-- The ends of a span. -/
def IsLo (ws : List W) (i : Nat) (v : Int) : Prop := (∃ n, Flow ws n ∧ n.getD i 0 = v) ∧ ∀ n, Flow ws n → v ≤ n.getD i 0
def IsHi (ws : List W) (i : Nat) (v : Int) : Prop := (∃ n, Flow ws n ∧ n.getD i 0 = v) ∧ ∀ n, Flow ws n → n.getD i 0 ≤ v
theorem IsLo.uniq {ws : List W} {i : Nat} {v v' : Int} (h : IsLo ws i v) (h' : IsLo ws i v') : v = v' := by
  obtain ⟨⟨n, hn, rfl⟩, h2⟩ := h
  obtain ⟨⟨n', hn', rfl⟩, h2'⟩ := h'
  have := h2 n' hn'; have := h2' n hn; omega
theorem IsHi.uniq {ws : List W} {i : Nat} {v v' : Int} (h : IsHi ws i v) (h' : IsHi ws i v') : v = v' := by
  obtain ⟨⟨n, hn, rfl⟩, h2⟩ := h
  obtain ⟨⟨n', hn', rfl⟩, h2'⟩ := h'
  have := h2 n' hn'; have := h2' n hn; omega
end Go.Am

namespace Go.Am
theorem and64 : ∀ s : Nat, s < 64 → ∀ i : Nat, i < 6 → bits .and .i64 ((s : Int).fdiv (2 ^ Min.min (i : Int).toNat (IntKind.bits .i64))) 1 = if s.testBit i then 1 else 0 := by decide +kernel
theorem shl64 : ∀ i : Nat, i ≤ 6 → IntKind.wrap .i64 (1 * 2 ^ Min.min (i : Int).toNat (IntKind.bits .i64)) = ((2 ^ i : Nat) : Int) := by decide +kernel
theorem and_in {s : Nat} {x : Int} (hs : s < 64) (h0 : 0 ≤ x) (h1 : x < 6) : decide (bits .and .i64 ((s : Int).fdiv (2 ^ Min.min x.toNat (IntKind.bits .i64))) 1 = 1) = inS s x := by
  have := and64 s hs x.toNat (by omega)
  rw [show ((x.toNat : Nat) : Int).toNat = x.toNat by omega] at this
  rw [this]
  unfold inS
  cases s.testBit x.toNat <;> rfl
theorem BOk.inR {rm : Int} {ws : List W} (h : BOk rm ws) : InR rm ws := fun i hi => ⟨(h.way i hi).f0, (h.way i hi).f1, (h.way i hi).t0, (h.way i hi).t1⟩
theorem BOk.LM {rm : Int} {ws : List W} (h : BOk rm ws) : LM ws := fun i hi => (h.way i hi).lm
theorem BOk.withW {rm : Int} {ws : List W} (h : BOk rm ws) {i : Nat} {v : Int} (hi : i < ws.length) (h1 : (ws.getD i default).l ≤ v) (h2 : v ≤ (ws.getD i default).m) : BOk rm (withW ws i v) := by
  refine ⟨h.r2, h.r6, by rw [withW_len]; exact h.len, ?_⟩
  intro k hk
  rw [withW_len] at hk
  rw [withW_get hi]
  have hw := h.way k hk
  by_cases hki : k = i
  · subst hki; rw [if_pos rfl]
    have h3 := hw.l0; have h4 := hw.m1
    exact ⟨hw.f0, hw.f1, hw.t0, hw.t1, hw.ne, Int.le_trans h3 h1, Int.le_refl _, Int.le_trans h2 h4⟩
  · rw [if_neg hki]; exact hw
theorem net_bound {rm : Int} {ws : List W} (h : BOk rm ws) (s : Nat) : ∀ k, k ≤ ws.length → -(99 * (k : Int)) ≤ netTo ws s k ∧ netTo ws s k ≤ 99 * (k : Int) := by
  intro k
  induction k with
  | zero => intro _; simp [netTo]
  | succ k ih =>
    intro hk
    have h1 := ih (by omega)
    have hw := h.way k (by omega)
    have := hw.l0; have := hw.m1; have := hw.lm
    rw [netTo]
    unfold lvs ens
    cases inS s (ws.getD k default).f <;> cases inS s (ws.getD k default).t <;> simp only [Bool.not_false, Bool.not_true, Bool.and_true, Bool.and_false, if_true, Bool.false_eq_true, if_false] <;> omega
theorem net_succ (ws : List W) (s k : Nat) : netTo ws s (k + 1) = netTo ws s k + (if lvs (ws.getD k default) s then (ws.getD k default).l else 0) - if ens (ws.getD k default) s then (ws.getD k default).m else 0 := rfl

theorem has_c {h : AHeap} {s : Nat} {x : Int} (hs : s < 64) (h0 : 0 ≤ x) (h1 : x < 6) : ACalls Go.Proofs.Tryd.prog 98 [.int .i64 (s : Int), .int .i64 x] h (fun q h' => q = .bool (inS s x) ∧ h = h') := by
  refine KA.fn 10 [.tmp 4] Go.Proofs.Tryd.func98 rfl (by decide) rfl rfl (Nat.le_of_ble_eq_true rfl) ?_
  show KA _ 10 _ _ [(0, .int .i64 (s : Int)), (1, .int .i64 x)] _
  refine KA.seq ?_
  refine KA.region rfl ?_
  refine KOps.assign ?_
  refine KOps.done ?_
  refine sqQ.normal ?_
  refine KA.sub (Sub.cons (t := 0) Look.eq (Sub.cons (t := 1) Look.eq (Sub.nil _))) ?_
  refine KA.seq ?_
  refine KA.region rfl ?_
  refine KOps.move ?_
  refine KOps.move ?_
  refine KOps.shr (by first | omega | (simp; omega)) ?_
  refine KOps.bits (by simp) ?_
  refine KOps.eql ?_
  rw [and_in hs h0 h1]
  refine KOps.assign ?_
  refine KOps.done ?_
  refine sqQ.normal ?_
  refine KA.sub (Sub.cons (t := 4) Look.eq (Sub.nil _)) ?_
  refine KA.ret ?_
  refine fnQ.ret1 ?_
  exact ⟨rfl, rfl⟩

theorem leaves_c {h : AHeap} {s : Nat} {w : W} (hs : s < 64) (hf0 : 0 ≤ w.f) (hf1 : w.f < 6) (ht0 : 0 ≤ w.t) (ht1 : w.t < 6) : ACalls Go.Proofs.Tryd.prog 83 [.agg (wc w), .int .i64 (s : Int)] h (fun q h' => q = .bool (lvs w s) ∧ Keeps h h') := by
  refine KA.fn 16 [.tmp 4] Go.Proofs.Tryd.func83 rfl (by decide) rfl rfl (Nat.le_of_ble_eq_true rfl) ?_
  have hS := St.refl h
  show KA _ 16 _ _ [(0, .agg (wc w)), (1, .int .i64 (s : Int))] _
  refine KA.seq ?_
  refine KA.region rfl ?_
  refine KOps.boxAll hS (by first | rfl | (simp [AV.one]; done) | (simp [AV.one]; assumption) | (simp [AV.one, *]; done)) ?_
  intro p2 h' hp2 hS
  refine KOps.assign ?_
  refine KOps.done ?_
  refine sqQ.normal ?_
  refine KA.sub (Sub.cons (t := 1) Look.eq (Sub.cons (t := 2) Look.eq (Sub.nil _))) ?_
  refine KA.seq ?_
  refine KA.region rfl ?_
  refine KOps.move ?_
  refine KOps.fieldAddr hp2 ?_
  intro p6 hp6
  refine KOps.load hp6 (hS.rd 0 rfl) rfl ?_
  refine KOps.call rfl (has_c (by first | omega | (simp; omega)) (by first | omega | (simp; omega)) (by first | omega | (simp; omega))) ?_
  rintro _ _ ⟨rfl, rfl⟩
  refine KOps.move ?_
  refine KOps.guardB (dj := 9) rfl rfl true false rfl ?_ ?_
  · intro g9
    refine KOps.move ?_
    refine KOps.guardYes (dj := 9) rfl rfl ?_
    refine KOps.fieldAddr hp2 ?_
    intro p11 hp11
    refine KOps.guardYes (dj := 9) rfl rfl ?_
    refine KOps.load hp11 (hS.rd 0 rfl) rfl ?_
    refine KOps.guardYes (dj := 9) rfl rfl ?_
    refine KOps.call rfl (has_c (by first | omega | (simp; omega)) (by first | omega | (simp; omega)) (by first | omega | (simp; omega))) ?_
    rintro _ _ ⟨rfl, rfl⟩
    refine KOps.guardYes (dj := 9) rfl rfl ?_
    refine KOps.not ?_
    refine KOps.pickT ?_
    refine KOps.assign ?_
    refine KOps.done ?_
    refine sqQ.normal ?_
    refine KA.sub (Sub.cons (t := 4) Look.eq (Sub.nil _)) ?_
    refine KA.ret ?_
    refine fnQ.ret1 ?_
    refine ⟨congrArg AV.bool ?_, hS.keeps⟩
    unfold lvs
    simp_all
  · intro g9
    refine KOps.guardNo (dj := 9) rfl rfl rfl ?_
    refine KOps.guardNo (dj := 9) rfl rfl rfl ?_
    refine KOps.guardNo (dj := 9) rfl rfl rfl ?_
    refine KOps.guardNo (dj := 9) rfl rfl rfl ?_
    refine KOps.pickF ?_
    refine KOps.assign ?_
    refine KOps.done ?_
    refine sqQ.normal ?_
    refine KA.sub (Sub.cons (t := 4) Look.eq (Sub.nil _)) ?_
    refine KA.ret ?_
    refine fnQ.ret1 ?_
    refine ⟨congrArg AV.bool ?_, hS.keeps⟩
    unfold lvs
    simp_all

theorem enters_c {h : AHeap} {s : Nat} {w : W} (hs : s < 64) (hf0 : 0 ≤ w.f) (hf1 : w.f < 6) (ht0 : 0 ≤ w.t) (ht1 : w.t < 6) : ACalls Go.Proofs.Tryd.prog 84 [.agg (wc w), .int .i64 (s : Int)] h (fun q h' => q = .bool (ens w s) ∧ Keeps h h') := by
  refine KA.fn 16 [.tmp 4] Go.Proofs.Tryd.func84 rfl (by decide) rfl rfl (Nat.le_of_ble_eq_true rfl) ?_
  have hS := St.refl h
  show KA _ 16 _ _ [(0, .agg (wc w)), (1, .int .i64 (s : Int))] _
  refine KA.seq ?_
  refine KA.region rfl ?_
  refine KOps.boxAll hS (by first | rfl | (simp [AV.one]; done) | (simp [AV.one]; assumption) | (simp [AV.one, *]; done)) ?_
  intro p2 h' hp2 hS
  refine KOps.assign ?_
  refine KOps.done ?_
  refine sqQ.normal ?_
  refine KA.sub (Sub.cons (t := 1) Look.eq (Sub.cons (t := 2) Look.eq (Sub.nil _))) ?_
  refine KA.seq ?_
  refine KA.region rfl ?_
  refine KOps.move ?_
  refine KOps.fieldAddr hp2 ?_
  intro p6 hp6
  refine KOps.load hp6 (hS.rd 0 rfl) rfl ?_
  refine KOps.call rfl (has_c (by first | omega | (simp; omega)) (by first | omega | (simp; omega)) (by first | omega | (simp; omega))) ?_
  rintro _ _ ⟨rfl, rfl⟩
  refine KOps.not ?_
  refine KOps.move ?_
  refine KOps.guardB (dj := 10) rfl rfl true false rfl ?_ ?_
  · intro g10
    refine KOps.move ?_
    refine KOps.guardYes (dj := 10) rfl rfl ?_
    refine KOps.fieldAddr hp2 ?_
    intro p12 hp12
    refine KOps.guardYes (dj := 10) rfl rfl ?_
    refine KOps.load hp12 (hS.rd 0 rfl) rfl ?_
    refine KOps.guardYes (dj := 10) rfl rfl ?_
    refine KOps.call rfl (has_c (by first | omega | (simp; omega)) (by first | omega | (simp; omega)) (by first | omega | (simp; omega))) ?_
    rintro _ _ ⟨rfl, rfl⟩
    refine KOps.pickT ?_
    refine KOps.assign ?_
    refine KOps.done ?_
    refine sqQ.normal ?_
    refine KA.sub (Sub.cons (t := 4) Look.eq (Sub.nil _)) ?_
    refine KA.ret ?_
    refine fnQ.ret1 ?_
    refine ⟨congrArg AV.bool ?_, hS.keeps⟩
    unfold ens
    simp_all
  · intro g10
    refine KOps.guardNo (dj := 10) rfl rfl rfl ?_
    refine KOps.guardNo (dj := 10) rfl rfl rfl ?_
    refine KOps.guardNo (dj := 10) rfl rfl rfl ?_
    refine KOps.pickF ?_
    refine KOps.assign ?_
    refine KOps.done ?_
    refine sqQ.normal ?_
    refine KA.sub (Sub.cons (t := 4) Look.eq (Sub.nil _)) ?_
    refine KA.ret ?_
    refine fnQ.ret1 ?_
    refine ⟨congrArg AV.bool ?_, hS.keeps⟩
    unfold ens
    simp_all

theorem refProof_c {h : AHeap} {rm : Int} {vW : AV} {ws : List W} {s : Nat} (hv : Rd h vW 4 (flr wc ws)) (hB : BOk rm ws) (hs : s < 64) : ACalls Go.Proofs.Tryd.prog 74 [.agg [.int .i64 rm, vW], .int .i64 (s : Int)] h (fun q h' => q = .bool (proofB ws s) ∧ Keeps h h') := by
  refine KA.fn 46 [.tmp 4] Go.Proofs.Tryd.func74 rfl (by decide) rfl rfl (Nat.le_of_ble_eq_true rfl) ?_
  have hS := St.refl h
  have hvo : vW.one = true := hv.one
  show KA _ 46 _ _ [(0, .agg [.int .i64 rm, vW]), (1, .int .i64 (s : Int))] _
  refine KA.seq ?_
  refine KA.region rfl ?_
  refine KOps.boxAll hS (by first | rfl | (simp [AV.one]; done) | (simp [AV.one]; assumption) | (simp [AV.one, *]; done)) ?_
  intro p2 h' hp2 hS
  refine KOps.assign ?_
  refine KOps.done ?_
  refine sqQ.normal ?_
  refine KA.sub (Sub.cons (t := 1) Look.eq (Sub.cons (t := 2) Look.eq (Sub.nil _))) ?_
  refine KA.seq ?_
  refine KA.region rfl ?_
  refine KOps.assign ?_
  refine KOps.done ?_
  refine sqQ.normal ?_
  refine KA.seq ?_
  refine KA.seq ?_
  refine KA.region rfl ?_
  refine KOps.assign ?_
  refine KOps.done ?_
  refine sqQ.normal ?_
  refine KA.block ?_
  refine KA.loop (X := Nat) (fun i => [(1, .int .i64 (s : Int)), (2, p2), (5, .int .i64 (netTo ws s i)), (6, .int .i64 (i : Int))]) (fun i h' => i ≤ ws.length ∧ St h h' [⟨p2, 0, [.int .i64 rm, vW], true⟩]) (fun i => ws.length - i) 0 (by repeat (first | exact Sub.nil _ | refine Sub.cons Look.eq ?_ | refine Sub.cons (Eq.trans Look.eq (congrArg (AV.int _) (by first | omega | (dsimp only; omega)))) ?_)) ?_ ?_
  · exact ⟨Nat.zero_le _, hS⟩
  rintro i h2 ⟨hi, hS⟩
  have hnb := net_bound hB s i hi
  have hwl := hB.len
  have hr6 := hB.r6
  refine KA.seq ?_
  refine KA.seq ?_
  refine KA.region rfl ?_
  refine KOps.move ?_
  refine KOps.fieldAddr hp2 ?_
  intro p8 hp8
  refine KOps.load hp8 (hS.rd 0 rfl) rfl ?_
  refine KOps.lenF wc_len (Rd.ext hS.keeps hv) ?_
  refine KOps.lss ?_
  refine KOps.done ?_
  refine sqQ.normal ?_
  refine KA.sub (Sub.cons (t := 1) Look.eq (Sub.cons (t := 2) Look.eq (Sub.cons (t := 5) Look.eq (Sub.cons (t := 6) Look.eq (Sub.cons (t := 11) Look.eq (Sub.nil _)))))) ?_
  refine KA.condD ?_ ?_
  · intro c11
    have hw := hB.way i (by omega)
    have hwf0 := hw.f0
    have hwf1 := hw.f1
    have hwt0 := hw.t0
    have hwt1 := hw.t1
    have hwl0 := hw.l0
    have hwlm := hw.lm
    have hwm1 := hw.m1
    refine KA.skip ?_
    refine sqQ.normal ?_
    refine KA.sub (Sub.cons (t := 1) Look.eq (Sub.cons (t := 2) Look.eq (Sub.cons (t := 5) Look.eq (Sub.cons (t := 6) Look.eq (Sub.nil _))))) ?_
    refine KA.seq ?_
    refine KA.block ?_
    refine KA.meet (X := Unit) (fun _ => [(1, .int .i64 (s : Int)), (2, p2), (5, .int .i64 (netTo ws s i + (if lvs (ws.getD i default) s then (ws.getD i default).l else 0))), (6, .int .i64 (i : Int))]) (fun _ h' => St h h' [⟨p2, 0, [.int .i64 rm, vW], true⟩]) ?_ ?_
    ·
      refine KA.seq ?_
      refine KA.region rfl ?_
      refine KOps.fieldAddr hp2 ?_
      intro p14 hp14
      refine KOps.load hp14 (hS.rd 0 rfl) rfl ?_
      refine KOps.move ?_
      refine KOps.indexF wc_len (Rd.ext hS.keeps hv) (j := i) rfl (by first | omega | (simp; omega)) ?_
      intro p17 hp17
      refine KOps.loadFl wc_len (by decide) hp17 (Rd.ext hS.keeps hv) (by first | omega | (simp; omega)) ?_
      refine KOps.move ?_
      refine KOps.call rfl (leaves_c (by first | omega | (simp; omega)) (by first | omega | (simp; omega)) (by first | omega | (simp; omega)) (by first | omega | (simp; omega)) (by first | omega | (simp; omega))) ?_
      rintro _ h5 ⟨rfl, hK⟩
      have hS0 : St _ _ (_ :: _) := St.trans hS (St.ofK hK)
      clear hS
      have hS := hS0
      clear hS0
      refine KOps.done ?_
      refine sqQ.normal ?_
      refine KA.sub (Sub.cons (t := 1) Look.eq (Sub.cons (t := 2) Look.eq (Sub.cons (t := 5) Look.eq (Sub.cons (t := 6) Look.eq (Sub.cons (t := 20) Look.eq (Sub.nil _)))))) ?_
      refine KA.condB ?_ ?_
      · intro c20
        refine KA.region rfl ?_
        refine KOps.move ?_
        refine KOps.fieldAddr hp2 ?_
        intro p22 hp22
        refine KOps.load hp22 (hS.rd 0 rfl) rfl ?_
        refine KOps.move ?_
        refine KOps.indexF wc_len (Rd.ext hS.keeps hv) (j := i) rfl (by first | omega | (simp; omega)) ?_
        intro p25 hp25
        refine KOps.fieldAddr hp25 ?_
        intro p26 hp26
        refine KOps.loadFc wc_len (by decide) hp26 (Rd.ext hS.keeps hv) (by first | omega | (simp; omega)) rfl ?_
        refine KOps.add (by first | omega | (simp; omega)) (by first | omega | (simp; omega)) ?_
        refine KOps.assign ?_
        refine KOps.done ?_
        exact mtQ.normal () (by repeat (first | exact Sub.nil _ | refine Sub.cons Look.eq ?_ | refine Sub.cons (Eq.trans Look.eq (congrArg (AV.int _) (by first | omega | (dsimp only; omega)))) ?_ | refine Sub.cons (Eq.trans Look.eq (congrArg (AV.int _) (by rw [if_pos c20]))) ?_)) hS
      · intro c20
        refine KA.skip ?_
        exact mtQ.normal () (by repeat (first | exact Sub.nil _ | refine Sub.cons Look.eq ?_ | refine Sub.cons (Eq.trans Look.eq (congrArg (AV.int _) (by first | omega | (dsimp only; omega)))) ?_ | refine Sub.cons (Eq.trans Look.eq (congrArg (AV.int _) (by rw [if_neg (show ¬ lvs (ws.getD i default) s = true by rw [c20]; exact Bool.false_ne_true)]; omega))) ?_)) hS
    ·
      rintro _ h7 hS
      have hmb : 0 ≤ (if lvs (ws.getD i default) s then (ws.getD i default).l else 0) ∧ (if lvs (ws.getD i default) s then (ws.getD i default).l else 0) ≤ 99 := by split <;> omega
      refine KA.seq ?_
      refine KA.region rfl ?_
      refine KOps.fieldAddr hp2 ?_
      intro p29 hp29
      refine KOps.load hp29 (hS.rd 0 rfl) rfl ?_
      refine KOps.move ?_
      refine KOps.indexF wc_len (Rd.ext hS.keeps hv) (j := i) rfl (by first | omega | (simp; omega)) ?_
      intro p32 hp32
      refine KOps.loadFl wc_len (by decide) hp32 (Rd.ext hS.keeps hv) (by first | omega | (simp; omega)) ?_
      refine KOps.move ?_
      refine KOps.call rfl (enters_c (by first | omega | (simp; omega)) (by first | omega | (simp; omega)) (by first | omega | (simp; omega)) (by first | omega | (simp; omega)) (by first | omega | (simp; omega))) ?_
      rintro _ h6 ⟨rfl, hK2⟩
      have hS0 : St _ _ (_ :: _) := St.trans hS (St.ofK hK2)
      clear hS
      have hS := hS0
      clear hS0
      refine KOps.done ?_
      refine sqQ.normal ?_
      refine KA.sub (Sub.cons (t := 1) Look.eq (Sub.cons (t := 2) Look.eq (Sub.cons (t := 5) Look.eq (Sub.cons (t := 6) Look.eq (Sub.cons (t := 35) Look.eq (Sub.nil _)))))) ?_
      refine KA.condB ?_ ?_
      · intro c35
        refine KA.region rfl ?_
        refine KOps.move ?_
        refine KOps.fieldAddr hp2 ?_
        intro p37 hp37
        refine KOps.load hp37 (hS.rd 0 rfl) rfl ?_
        refine KOps.move ?_
        refine KOps.indexF wc_len (Rd.ext hS.keeps hv) (j := i) rfl (by first | omega | (simp; omega)) ?_
        intro p40 hp40
        refine KOps.fieldAddr hp40 ?_
        intro p41 hp41
        refine KOps.loadFc wc_len (by decide) hp41 (Rd.ext hS.keeps hv) (by first | omega | (simp; omega)) rfl ?_
        refine KOps.sub (by first | omega | (simp; omega)) (by first | omega | (simp; omega)) ?_
        refine KOps.assign ?_
        refine KOps.done ?_
        refine blQ.normal ?_
        refine sqQ.normal ?_
        refine KA.sub (Sub.cons (t := 1) Look.eq (Sub.cons (t := 2) Look.eq (Sub.cons (t := 5) Look.eq (Sub.cons (t := 6) Look.eq (Sub.nil _))))) ?_
        refine KA.region rfl ?_
        refine KOps.move ?_
        refine KOps.add (by first | omega | (simp; omega)) (by first | omega | (simp; omega)) ?_
        refine KOps.assign ?_
        refine KOps.done ?_
        exact lpQ.normal (i + 1) (by repeat (first | exact Sub.nil _ | refine Sub.cons Look.eq ?_ | refine Sub.cons (Eq.trans Look.eq (congrArg (AV.int _) (by first | omega | (dsimp only; omega)))) ?_ | refine Sub.cons (Eq.trans Look.eq (congrArg (AV.int _) (by rw [net_succ, if_pos c35]))) ?_)) ⟨by omega, hS⟩ (by omega)
      · intro c35
        refine KA.skip ?_
        refine blQ.normal ?_
        refine sqQ.normal ?_
        refine KA.sub (Sub.cons (t := 1) Look.eq (Sub.cons (t := 2) Look.eq (Sub.cons (t := 5) Look.eq (Sub.cons (t := 6) Look.eq (Sub.nil _))))) ?_
        refine KA.region rfl ?_
        refine KOps.move ?_
        refine KOps.add (by first | omega | (simp; omega)) (by first | omega | (simp; omega)) ?_
        refine KOps.assign ?_
        refine KOps.done ?_
        exact lpQ.normal (i + 1) (by repeat (first | exact Sub.nil _ | refine Sub.cons Look.eq ?_ | refine Sub.cons (Eq.trans Look.eq (congrArg (AV.int _) (by first | omega | (dsimp only; omega)))) ?_ | refine Sub.cons (Eq.trans Look.eq (congrArg (AV.int _) (by rw [net_succ, if_neg (show ¬ ens (ws.getD i default) s = true by rw [c35]; exact Bool.false_ne_true)]; omega))) ?_)) ⟨by omega, hS⟩ (by omega)
  · intro c11
    refine KA.exit ?_
    refine sqQ.exit ?_
    refine lpQ.exit ?_
    refine blQ.here ?_
    refine sqQ.normal ?_
    refine KA.sub (Sub.cons (t := 5) Look.eq (Sub.nil _)) ?_
    refine KA.seq ?_
    refine KA.region rfl ?_
    refine KOps.move ?_
    refine KOps.gtr ?_
    refine KOps.assign ?_
    refine KOps.done ?_
    refine sqQ.normal ?_
    refine KA.sub (Sub.cons (t := 4) Look.eq (Sub.nil _)) ?_
    refine KA.ret ?_
    refine fnQ.ret1 ?_
    refine ⟨congrArg AV.bool ?_, hS.keeps⟩
    unfold proofB
    rw [show ws.length = i by omega]

end Go.Am

namespace Go.Am
theorem wc_all (ws : List W) : (flr wc ws).all AV.one = true := by
  induction ws with
  | nil => rfl
  | cons w ws ih => simp only [flr, List.flatMap_cons, List.all_append] at *; rw [ih]; rfl
theorem build_two {P : Program} {t : TypeId} {z0 z1 x y : AV} (hz : zeroA P t = some (.agg [z0, z1])) (hz1 : [z0, z1].all AV.one = true) (hok : abuildOk P t = true) (hp0 : aplaces P t 0 = some (0, 1)) (hp1 : aplaces P t 1 = some (1, 1)) (hx : x.one = true) (hy : y.one = true) : abuild P t [(0, x), (1, y)] = some (.agg [x, y]) := by
  have h0 : (AV.agg [z0, z1]).cells? = some [z0, z1] := by simp only [AV.cells?]; rw [if_pos hz1]
  simp only [abuild, hz, h0, hok, if_true, Option.bind_eq_bind, Option.bind_some, afill, hp0, hp1, AV.cells_one hx, AV.cells_one hy]
  simp [putL, afill]
theorem set_l {ws : List W} {i : Nat} {v : Int} (hi : i < ws.length) : (flr wc ws).set (i * 4 + 2) (.int .i64 v) = flr wc (ws.set i { (ws.getD i default) with l := v }) := flr_set wc_len (by decide) ws i hi rfl
theorem set_m {ws : List W} {i : Nat} {v : Int} (hi : i < ws.length) : (flr wc ws).set (i * 4 + 3) (.int .i64 v) = flr wc (ws.set i { (ws.getD i default) with m := v }) := flr_set wc_len (by decide) ws i hi rfl
theorem set_lm {ws : List W} {i : Nat} {v : Int} (hi : i < ws.length) : (ws.set i { (ws.getD i default) with l := v }).set i { ((ws.set i { (ws.getD i default) with l := v }).getD i default) with m := v } = withW ws i v := by
  rw [List.set_set, List.getD_eq_getElem?_getD, List.getElem?_set_self hi]
  rfl

theorem can_c {h : AHeap} {r : Nat} {vW : AV} {ws : List W} (hv : Rd h vW 4 (flr wc ws)) (hB : BOk (r : Int) ws) : ACalls Go.Proofs.Tryd.prog 55 [.agg [.int .i64 (r : Int), vW]] h (fun q h' => q = .bool (canB r ws) ∧ Keeps h h') := by
  refine KA.fn 14 [.tmp 2] Go.Proofs.Tryd.func55 rfl (by decide) rfl rfl (Nat.le_of_ble_eq_true rfl) ?_
  have hS := St.refl h
  have hvo : vW.one = true := hv.one
  have hr6 := hB.r6
  have hpw : 2 ^ r ≤ 2 ^ 6 := Nat.pow_le_pow_right (by decide) (by omega)
  have hsh := shl64 r (by omega)
  show KA _ 14 _ _ [(0, .agg [.int .i64 (r : Int), vW])] _
  refine KA.seq ?_
  refine KA.region rfl ?_
  refine KOps.boxAll hS (by first | rfl | (simp [AV.one]; done) | (simp [AV.one]; assumption) | (simp [AV.one, *]; done)) ?_
  intro p1 h' hp1 hS
  refine KOps.assign ?_
  refine KOps.done ?_
  refine sqQ.normal ?_
  refine KA.sub (Sub.cons (t := 1) Look.eq (Sub.nil _)) ?_
  refine KA.seq ?_
  refine KA.seq ?_
  refine KA.region rfl ?_
  refine KOps.assign ?_
  refine KOps.done ?_
  refine sqQ.normal ?_
  refine KA.block ?_
  refine KA.loop (X := Nat) (fun s => [(1, p1), (3, .int .i64 (s : Int))]) (fun s h' => s ≤ 2 ^ r ∧ (∀ t, t < s → proofB ws t = false) ∧ St h h' [⟨p1, 0, [.int .i64 (r : Int), vW], true⟩]) (fun s => 2 ^ r - s) 0 (by repeat (first | exact Sub.nil _ | refine Sub.cons Look.eq ?_ | refine Sub.cons (Eq.trans Look.eq (congrArg (AV.int _) (by first | omega | (dsimp only; omega)))) ?_)) ?_ ?_
  · exact ⟨Nat.zero_le _, fun t ht => by omega, hS⟩
  rintro s h2 ⟨hs, hpr, hS⟩
  refine KA.seq ?_
  refine KA.seq ?_
  refine KA.region rfl ?_
  refine KOps.move ?_
  refine KOps.fieldAddr hp1 ?_
  intro p5 hp5
  refine KOps.load hp5 (hS.rd 0 rfl) rfl ?_
  refine KOps.shl (by omega) ?_
  rw [hsh]
  refine KOps.lss ?_
  refine KOps.done ?_
  refine sqQ.normal ?_
  refine KA.sub (Sub.cons (t := 1) Look.eq (Sub.cons (t := 3) Look.eq (Sub.cons (t := 8) Look.eq (Sub.nil _)))) ?_
  refine KA.condD ?_ ?_
  · intro c8
    refine KA.skip ?_
    refine sqQ.normal ?_
    refine KA.sub (Sub.cons (t := 1) Look.eq (Sub.cons (t := 3) Look.eq (Sub.nil _))) ?_
    refine KA.seq ?_
    refine KA.block ?_
    refine KA.seq ?_
    refine KA.region rfl ?_
    refine KOps.loadAll hS (i := 0) rfl hp1 (by rfl) (by decide) ?_
    refine KOps.move ?_
    refine KOps.call rfl (refProof_c (Rd.ext hS.keeps hv) hB (by first | omega | (simp; omega))) ?_
    rintro _ h9 ⟨rfl, hK⟩
    have hS0 : St _ _ (_ :: _) := St.trans hS (St.ofK hK)
    clear hS
    have hS := hS0
    clear hS0
    refine KOps.done ?_
    refine sqQ.normal ?_
    refine KA.sub (Sub.cons (t := 1) Look.eq (Sub.cons (t := 3) Look.eq (Sub.cons (t := 13) Look.eq (Sub.nil _)))) ?_
    refine KA.condB ?_ ?_
    · intro c13
      refine KA.seq ?_
      refine KA.region rfl ?_
      refine KOps.assign ?_
      refine KOps.done ?_
      refine sqQ.normal ?_
      refine KA.sub (Sub.cons (t := 2) Look.eq (Sub.nil _)) ?_
      refine KA.ret ?_
      refine blQ.ret ?_
      refine sqQ.ret ?_
      refine lpQ.ret ?_
      refine blQ.ret ?_
      refine sqQ.ret ?_
      refine fnQ.ret1 ?_
      refine ⟨congrArg AV.bool ?_, hS.keeps⟩
      cases hc : canB r ws with
      | false => rfl
      | true => rw [canB_iff.1 hc s (by omega)] at c13; cases c13
    · intro c13
      refine KA.skip ?_
      refine blQ.normal ?_
      refine sqQ.normal ?_
      refine KA.sub (Sub.cons (t := 1) Look.eq (Sub.cons (t := 3) Look.eq (Sub.nil _))) ?_
      refine KA.region rfl ?_
      refine KOps.move ?_
      refine KOps.add (by first | omega | (simp; omega)) (by first | omega | (simp; omega)) ?_
      refine KOps.assign ?_
      refine KOps.done ?_
      refine lpQ.normal (s + 1) (by repeat (first | exact Sub.nil _ | refine Sub.cons Look.eq ?_ | refine Sub.cons (Eq.trans Look.eq (congrArg (AV.int _) (by first | omega | (dsimp only; omega)))) ?_)) ⟨by omega, ?_, hS⟩ (by omega)
      intro t ht
      rcases Nat.lt_succ_iff_lt_or_eq.1 ht with h3 | rfl
      · exact hpr t h3
      · exact c13
  · intro c8
    refine KA.exit ?_
    refine sqQ.exit ?_
    refine lpQ.exit ?_
    refine blQ.here ?_
    refine sqQ.normal ?_
    refine KA.sub (Sub.nil _) ?_
    refine KA.seq ?_
    refine KA.region rfl ?_
    refine KOps.assign ?_
    refine KOps.done ?_
    refine sqQ.normal ?_
    refine KA.ret ?_
    refine fnQ.ret1 ?_
    refine ⟨congrArg AV.bool ?_, hS.keeps⟩
    exact (canB_iff.2 fun t ht => hpr t (by omega)).symm

/-- Do books agree? -/
def canP (rm : Int) (ws : List W) : Bool := decide (chkB rm ws = 0) && canB rm.toNat ws
/-- The error of books, or that they do not agree. -/
def agreeE (rm : Int) (ws : List W) : Int := if chkB rm ws = 0 then (if canP rm ws then 0 else 12) else chkB rm ws
theorem can_c' {h : AHeap} {rm : Int} {vW : AV} {ws : List W} (hv : Rd h vW 4 (flr wc ws)) (hB : BOk rm ws) : ACalls Go.Proofs.Tryd.prog 55 [.agg [.int .i64 rm, vW]] h (fun q h' => q = .bool (canB rm.toNat ws) ∧ Keeps h h') := by
  have h2 := hB.r2
  have e : rm = ((rm.toNat : Nat) : Int) := by omega
  rw [e] at hB
  have := can_c hv hB
  rwa [← e] at this

theorem refCan_c {h : AHeap} {rm : Int} {vW : AV} {ws : List W} (hv : Rd h vW 4 (flr wc ws)) : ACalls Go.Proofs.Tryd.prog 19 [.agg [.int .i64 rm, vW]] h (fun q h' => q = .tup [.bool (canP rm ws), .int .i64 (chkB rm ws)] ∧ Keeps h h') := by
  refine KA.fn 12 [.tmp 2, .tmp 3] Go.Proofs.Tryd.func19 rfl (by decide) rfl rfl (Nat.le_of_ble_eq_true rfl) ?_
  have hS := St.refl h
  have hvo : vW.one = true := hv.one
  show KA _ 12 _ _ [(0, .agg [.int .i64 rm, vW])] _
  refine KA.seq ?_
  refine KA.region rfl ?_
  refine KOps.boxAll hS (by first | rfl | (simp [AV.one]; done) | (simp [AV.one]; assumption) | (simp [AV.one, *]; done)) ?_
  intro p1 h' hp1 hS
  refine KOps.assign ?_
  refine KOps.assign ?_
  refine KOps.done ?_
  refine sqQ.normal ?_
  refine KA.sub (Sub.cons (t := 1) Look.eq (Sub.nil _)) ?_
  refine KA.seq ?_
  refine KA.region rfl ?_
  refine KOps.loadAll hS (i := 0) rfl hp1 (by rfl) (by decide) ?_
  refine KOps.call rfl (refCheck_c (Rd.ext hS.keeps hv)) ?_
  rintro _ h3 ⟨rfl, hK⟩
  have hS0 : St _ _ (_ :: _) := St.trans hS (St.ofK hK)
  clear hS
  have hS := hS0
  clear hS0
  refine KOps.assign ?_
  refine KOps.done ?_
  refine sqQ.normal ?_
  refine KA.sub (Sub.cons (t := 1) Look.eq (Sub.cons (t := 4) Look.eq (Sub.nil _))) ?_
  refine KA.seq ?_
  refine KA.seq ?_
  refine KA.region rfl ?_
  refine KOps.move ?_
  refine KOps.neq ?_
  refine KOps.done ?_
  refine sqQ.normal ?_
  refine KA.sub (Sub.cons (t := 1) Look.eq (Sub.cons (t := 4) Look.eq (Sub.cons (t := 8) Look.eq (Sub.nil _)))) ?_
  refine KA.condN ?_ ?_
  · intro c8
    refine KA.seq ?_
    refine KA.region rfl ?_
    refine KOps.move ?_
    refine KOps.assign ?_
    refine KOps.assign ?_
    refine KOps.done ?_
    refine sqQ.normal ?_
    refine KA.sub (Sub.cons (t := 2) Look.eq (Sub.cons (t := 3) Look.eq (Sub.nil _))) ?_
    refine KA.ret ?_
    refine sqQ.ret ?_
    refine fnQ.retN ?_
    exact ⟨by rw [canP, decide_eq_false c8]; rfl, hS.keeps⟩
  · intro c8
    refine KA.skip ?_
    refine sqQ.normal ?_
    refine KA.sub (Sub.cons (t := 1) Look.eq (Sub.nil _)) ?_
    refine KA.seq ?_
    refine KA.region rfl ?_
    refine KOps.loadAll hS (i := 0) rfl hp1 (by rfl) (by decide) ?_
    refine KOps.call rfl (can_c' (Rd.ext hS.keeps hv) (BOk.of (by omega))) ?_
    rintro _ h4 ⟨rfl, hK⟩
    have hS0 : St _ _ (_ :: _) := St.trans hS (St.ofK hK)
    clear hS
    have hS := hS0
    clear hS0
    refine KOps.assign ?_
    refine KOps.assign ?_
    refine KOps.done ?_
    refine sqQ.normal ?_
    refine KA.sub (Sub.cons (t := 2) Look.eq (Sub.cons (t := 3) Look.eq (Sub.nil _))) ?_
    refine KA.ret ?_
    refine fnQ.retN ?_
    have h0 : chkB rm ws = 0 := by omega
    exact ⟨by rw [canP, decide_eq_true h0, Bool.true_and, h0], hS.keeps⟩

theorem agree_c {h : AHeap} {rm : Int} {vW : AV} {ws : List W} (hv : Rd h vW 4 (flr wc ws)) : ACalls Go.Proofs.Tryd.prog 57 [.agg [.int .i64 rm, vW]] h (fun q h' => q = .int .i64 (agreeE rm ws) ∧ Keeps h h') := by
  refine KA.fn 17 [.tmp 2] Go.Proofs.Tryd.func57 rfl (by decide) rfl rfl (Nat.le_of_ble_eq_true rfl) ?_
  have hS := St.refl h
  have hvo : vW.one = true := hv.one
  show KA _ 17 _ _ [(0, .agg [.int .i64 rm, vW])] _
  refine KA.seq ?_
  refine KA.region rfl ?_
  refine KOps.boxAll hS (by first | rfl | (simp [AV.one]; done) | (simp [AV.one]; assumption) | (simp [AV.one, *]; done)) ?_
  intro p1 h' hp1 hS
  refine KOps.assign ?_
  refine KOps.done ?_
  refine sqQ.normal ?_
  refine KA.sub (Sub.cons (t := 1) Look.eq (Sub.nil _)) ?_
  refine KA.seq ?_
  refine KA.region rfl ?_
  refine KOps.loadAll hS (i := 0) rfl hp1 (by rfl) (by decide) ?_
  refine KOps.call rfl (refCan_c (Rd.ext hS.keeps hv)) ?_
  rintro _ h5 ⟨rfl, hK⟩
  have hS0 : St _ _ (_ :: _) := St.trans hS (St.ofK hK)
  clear hS
  have hS := hS0
  clear hS0
  refine KOps.move ?_
  refine KOps.extract ?_
  refine KOps.extract ?_
  refine KOps.assign ?_
  refine KOps.assign ?_
  refine KOps.done ?_
  refine sqQ.normal ?_
  refine KA.sub (Sub.cons (t := 3) Look.eq (Sub.cons (t := 4) Look.eq (Sub.nil _))) ?_
  refine KA.meet (X := Unit) (fun _ => [(4, .int .i64 (agreeE rm ws))]) (fun _ h' => St h h' [⟨p1, 0, [.int .i64 rm, vW], true⟩]) ?_ ?_
  ·
    refine KA.seq ?_
    refine KA.region rfl ?_
    refine KOps.move ?_
    refine KOps.eql ?_
    refine KOps.move ?_
    refine KOps.guardB (dj := 12) rfl rfl true false rfl ?_ ?_
    · intro g12
      have g12 := of_decide_eq_true g12
      refine KOps.move ?_
      refine KOps.guardYes (dj := 12) rfl rfl ?_
      refine KOps.not ?_
      refine KOps.pickT ?_
      refine KOps.done ?_
      refine sqQ.normal ?_
      refine KA.sub (Sub.cons (t := 4) Look.eq (Sub.cons (t := 15) Look.eq (Sub.nil _))) ?_
      refine KA.condB ?_ ?_
      · intro c15
        refine KA.region rfl ?_
        refine KOps.assign ?_
        refine KOps.done ?_
        have hcp : canP rm ws = false := by simpa using c15
        exact mtQ.normal () (by repeat (first | exact Sub.nil _ | refine Sub.cons Look.eq ?_ | refine Sub.cons (Eq.trans Look.eq (congrArg (AV.int _) (by first | omega | (dsimp only; omega)))) ?_ | refine Sub.cons (Eq.trans Look.eq (congrArg (AV.int _) (by rw [agreeE, if_pos g12, hcp]; rfl))) ?_)) hS
      · intro c15
        refine KA.skip ?_
        have hcp : canP rm ws = true := by simpa using c15
        exact mtQ.normal () (by repeat (first | exact Sub.nil _ | refine Sub.cons Look.eq ?_ | refine Sub.cons (Eq.trans Look.eq (congrArg (AV.int _) (by first | omega | (dsimp only; omega)))) ?_ | refine Sub.cons (Eq.trans Look.eq (congrArg (AV.int _) (by rw [agreeE, if_pos g12, hcp, if_pos rfl]; exact g12))) ?_)) hS
    · intro g12
      have g12 := of_decide_eq_false g12
      refine KOps.guardNo (dj := 12) rfl rfl rfl ?_
      refine KOps.pickF ?_
      refine KOps.done ?_
      refine sqQ.normal ?_
      refine KA.sub (Sub.cons (t := 4) Look.eq (Sub.cons (t := 15) Look.eq (Sub.nil _))) ?_
      refine KA.condF ?_
      refine KA.skip ?_
      exact mtQ.normal () (by repeat (first | exact Sub.nil _ | refine Sub.cons Look.eq ?_ | refine Sub.cons (Eq.trans Look.eq (congrArg (AV.int _) (by first | omega | (dsimp only; omega)))) ?_ | refine Sub.cons (Eq.trans Look.eq (congrArg (AV.int _) (by rw [agreeE, if_neg g12]))) ?_)) hS
  ·
    rintro _ h7 hS
    refine KA.seq ?_
    refine KA.region rfl ?_
    refine KOps.move ?_
    refine KOps.assign ?_
    refine KOps.done ?_
    refine sqQ.normal ?_
    refine KA.sub (Sub.cons (t := 2) Look.eq (Sub.nil _)) ?_
    refine KA.ret ?_
    refine fnQ.ret1 ?_
    exact ⟨rfl, hS.keeps⟩

end Go.Am

namespace Go.Am

theorem with_c {h : AHeap} {rm v : Int} {vW : AV} {ws : List W} {i : Nat} (hv : Rd h vW 4 (flr wc ws)) (hi : i < ws.length) (hl : ws.length ≤ 1000000) : ACalls Go.Proofs.Tryd.prog 70 [.agg [.int .i64 rm, vW], .int .i64 (i : Int), .int .i64 v] h (fun r h' => ∃ vW', r = .agg [.int .i64 rm, vW'] ∧ St h h' [⟨vW', 4, flr wc (withW ws i v), true⟩]) := by
  refine KA.fnH 28 [.cell 6 30] Go.Proofs.Tryd.func70 rfl (by decide) rfl rfl (Nat.le_of_ble_eq_true rfl) ?_
  have hS := St.refl h
  have hvo : vW.one = true := hv.one
  show KA _ 28 _ _ [(0, .agg [.int .i64 rm, vW]), (1, .int .i64 (i : Int)), (2, .int .i64 v)] _
  refine KA.seq ?_
  refine KA.region rfl ?_
  refine KOps.boxAll hS (by first | rfl | (simp [AV.one]; done) | (simp [AV.one]; assumption) | (simp [AV.one, *]; done)) ?_
  intro p3 h' hp3 hS
  refine KOps.alloc hS ?_
  intro p6 h' hp6 hS
  refine KOps.done ?_
  refine sqQ.normal ?_
  refine KA.sub (Sub.cons (t := 1) Look.eq (Sub.cons (t := 2) Look.eq (Sub.cons (t := 3) Look.eq (Sub.cons (t := 6) Look.eq (Sub.nil _))))) ?_
  refine KA.seq ?_
  refine KA.draw [5] mixed rfl (by kernel_rfl) ?_
  refine KOps.fieldAddr hp3 ?_
  intro p8 hp8
  refine KOps.load hp8 (hS.rd 1 rfl) rfl ?_
  refine KOps.buildSliceS (cs := []) hS rfl rfl rfl (by decide) ?_
  intro v10 h3 hS
  refine KOps.fieldAddr hp3 ?_
  intro p11 hp11
  refine KOps.load hp11 (hS.rd 2 rfl) rfl ?_
  refine KOps.append hS (fun _ => rfl) (i := 0) rfl (a := 0) rfl (Rd.ext hS.keeps hv) (b := ws.length) (flr_len wc_len ws) (wc_all ws) (by omega) ?_
  intro v13 h4 hS
  simp only [List.set_cons_zero, List.nil_append] at hS
  have hv13 : v13.one = true := St.one hS (k := 0) rfl
  refine KOps.build (v := .agg [.int .i64 rm, v13]) ?_ ?_
  · exact build_two (z0 := .int .i64 0) (z1 := .nils) (by kernel_rfl) (by rfl) (by kernel_rfl) (by kernel_rfl) (by kernel_rfl) (by rfl) hv13
  refine KOps.alloc hS ?_
  intro p7 h' hp7 hS
  refine KOps.storeAll hS rfl (i := 0) rfl hp7 (by first | rfl | (simp [AV.one]; done) | (simp [AV.one]; assumption) | (simp [AV.one, *]; done)) (by rfl) (by rfl) (by decide) ?_
  intro h' hS
  simp only [List.set_cons_zero, List.set_cons_succ, Nat.zero_add] at hS
  refine KOps.done ?_
  refine sqQ.normal ?_
  refine KA.sub (Sub.cons (t := 1) Look.eq (Sub.cons (t := 2) Look.eq (Sub.cons (t := 6) Look.eq (Sub.cons (t := 7) Look.eq (Sub.nil _))))) ?_
  refine KA.seq ?_
  refine KA.drawS (c := 10) (r := 4) (t := 28) (a := 18) (d := 19) [] mixed rfl rfl rfl (by kernel_rfl) rfl rfl rfl (by decide) (by decide) (by kernel_rfl) ?_
  refine KOps.fieldAddr hp7 ?_
  intro p15 hp15
  refine KOps.load hp15 (hS.rd 0 rfl) rfl ?_
  refine KOps.move ?_
  refine KOps.fieldAddr hp7 ?_
  intro p18 hp18
  refine KOps.load hp18 (hS.rd 0 rfl) rfl ?_
  refine KOps.move ?_
  refine KOps.move ?_
  refine KOps.move ?_
  refine KOps.indexF wc_len (hS.rd 1 rfl) (j := i) rfl hi ?_
  intro p23 hp23
  refine KOps.fieldAddr hp23 ?_
  intro p24 hp24
  refine KOps.store hS rfl (i := 1) rfl hp24 rfl (by dsimp only; rw [flr_len wc_len]; omega) ?_
  intro h6 hS
  simp only [List.set_cons_zero, List.set_cons_succ] at hS
  rw [set_l hi] at hS
  refine KOps.doneS rfl rfl hp18 (hS.rd 0 rfl) rfl ?_
  refine KOps.indexF wc_len (hS.rd 1 rfl) (j := i) rfl (by rw [List.length_set]; exact hi) ?_
  intro p25 hp25
  refine KOps.fieldAddr hp25 ?_
  intro p26 hp26
  refine KOps.store hS rfl (i := 1) rfl hp26 rfl (by dsimp only; rw [flr_len wc_len, List.length_set]; omega) ?_
  intro h7 hS
  simp only [List.set_cons_zero, List.set_cons_succ] at hS
  rw [set_m (by rw [List.length_set]; exact hi), set_lm hi] at hS
  refine KOps.done ?_
  refine sqQ.normal ?_
  refine KA.sub (Sub.cons (t := 6) Look.eq (Sub.cons (t := 7) Look.eq (Sub.nil _))) ?_
  refine KA.seq ?_
  refine KA.region rfl ?_
  refine KOps.loadAll hS (i := 0) rfl hp7 (by rfl) (by decide) ?_
  refine KOps.storeAll hS rfl (i := 2) rfl hp6 (by first | rfl | (simp [AV.one]; done) | (simp [AV.one]; assumption) | (simp [AV.one, *]; done)) (by rfl) (by rfl) (by decide) ?_
  intro h' hS
  simp only [List.set_cons_zero, List.set_cons_succ, Nat.zero_add] at hS
  refine KOps.done ?_
  refine sqQ.normal ?_
  refine KA.sub (Sub.cons (t := 6) Look.eq (Sub.nil _)) ?_
  refine KA.ret ?_
  refine fnC.retC hS (i := 2) rfl hp6 (by rfl) (by simp) ?_
  exact ⟨_, rfl, St.pick [1] (by decide) rfl hS⟩

end Go.Am

namespace Go.Am

/-- Books in which the first ways have just the numbers of x. -/
def fixTo (ws : List W) (x : List Int) : Nat → List W
  | 0 => ws
  | i + 1 => withW (fixTo ws x i) i (x.getD i 0)
theorem fixTo_len (ws : List W) (x : List Int) : ∀ i, (fixTo ws x i).length = ws.length := by
  intro i
  induction i with
  | zero => rfl
  | succ i ih => rw [fixTo, withW_len, ih]
theorem fixTo_get {ws : List W} {x : List Int} : ∀ {i : Nat}, i ≤ ws.length → ∀ k, i ≤ k → (fixTo ws x i).getD k default = ws.getD k default := by
  intro i
  induction i with
  | zero => intro _ k _; rfl
  | succ i ih =>
    intro hi k hk
    rw [fixTo, withW_get (by rw [fixTo_len]; omega), if_neg (by omega)]
    exact ih (by omega) k (by omega)
theorem fixTo_ok {rm : Int} {ws : List W} {x : List Int} (hB : BOk rm ws) (hx : Within ws x) : ∀ {i : Nat}, i ≤ ws.length → BOk rm (fixTo ws x i) := by
  intro i
  induction i with
  | zero => intro _; exact hB
  | succ i ih =>
    intro hi
    have hg := fixTo_get (ws := ws) (x := x) (i := i) (by omega) i (Nat.le_refl _)
    refine (ih (by omega)).withW (by rw [fixTo_len]; omega) ?_ ?_
    · rw [hg]; exact hx.lo i (by omega)
    · rw [hg]; exact hx.hi i (by omega)
theorem fixTo_flow {ws : List W} {x n : List Int} (hx : Within ws x) : ∀ {i : Nat}, i ≤ ws.length → (Flow (fixTo ws x i) n ↔ Flow ws n ∧ ∀ k, k < i → n.getD k 0 = x.getD k 0) := by
  intro i
  induction i with
  | zero => intro _; exact ⟨fun h => ⟨h, fun k hk => by omega⟩, fun h => h.1⟩
  | succ i ih =>
    intro hi
    have hg := fixTo_get (ws := ws) (x := x) (i := i) (by omega) i (Nat.le_refl _)
    rw [fixTo, flow_with (by rw [fixTo_len]; omega) (by rw [hg]; exact hx.lo i (by omega)) (by rw [hg]; exact hx.hi i (by omega)), ih (by omega)]
    constructor
    · rintro ⟨⟨h1, h2⟩, h3⟩
      refine ⟨h1, fun k hk => ?_⟩
      rcases Nat.lt_succ_iff_lt_or_eq.1 hk with h4 | rfl
      · exact h2 k h4
      · exact h3
    · rintro ⟨h1, h2⟩
      exact ⟨⟨h1, fun k hk => h2 k (by omega)⟩, h2 i (by omega)⟩
/-- The smallest number with which they still agree. -/
theorem fix_can {r : Nat} {ws : List W} {x : List Int} (hB : BOk (r : Int) ws) (hx : LexMin ws x) {i : Nat} (hi : i < ws.length) {v : Int} (h1 : (ws.getD i default).l ≤ v) (h2 : v ≤ x.getD i 0) : canB r (withW (fixTo ws x i) i v) = decide (v = x.getD i 0) := by
  have hw := hx.fl.toWithin
  have hF := fixTo_ok hB hw (i := i) (by omega)
  have hg := fixTo_get (ws := ws) (x := x) (i := i) (by omega) i (Nat.le_refl _)
  have hm := hw.hi i hi
  have key := can_with hF.inR hF.LM (i := i) (v := v) (by rw [fixTo_len]; exact hi) (by rw [hg]; exact h1) (by rw [hg]; omega)
  by_cases he : v = x.getD i 0
  · rw [decide_eq_true he]
    exact key.2 ⟨x, (fixTo_flow hw (by omega)).2 ⟨hx.fl, fun _ _ => rfl⟩, he.symm⟩
  · rw [decide_eq_false he]
    cases hc : canB r (withW (fixTo ws x i) i v) with
    | false => rfl
    | true =>
      obtain ⟨n, hn, hv⟩ := key.1 hc
      obtain ⟨hn1, hn2⟩ := (fixTo_flow hw (by omega)).1 hn
      have := hx.le n hn1 i hi hn2
      omega
/-- The end of a span, from below and from above. -/
theorem lo_can {r : Nat} {ws : List W} (hB : BOk (r : Int) ws) {i : Nat} (hi : i < ws.length) {a v : Int} (ha : IsLo ws i a) (h1 : (ws.getD i default).l ≤ v) (h2 : v ≤ a) : canB r (withW ws i v) = decide (v = a) := by
  obtain ⟨⟨n, hn, hna⟩, hle⟩ := ha
  have hm := hn.hi i hi
  have key := can_with hB.inR hB.LM (i := i) (v := v) hi h1 (by omega)
  by_cases he : v = a
  · rw [decide_eq_true he]; exact key.2 ⟨n, hn, by omega⟩
  · rw [decide_eq_false he]
    cases hc : canB r (withW ws i v) with
    | false => rfl
    | true =>
      obtain ⟨n', hn', hv⟩ := key.1 hc
      have := hle n' hn'
      omega
theorem hi_can {r : Nat} {ws : List W} (hB : BOk (r : Int) ws) {i : Nat} (hi : i < ws.length) {a v : Int} (ha : IsHi ws i a) (h1 : v ≤ (ws.getD i default).m) (h2 : a ≤ v) : canB r (withW ws i v) = decide (v = a) := by
  obtain ⟨⟨n, hn, hna⟩, hle⟩ := ha
  have hm := hn.lo i hi
  have key := can_with hB.inR hB.LM (i := i) (v := v) hi (by omega) h1
  by_cases he : v = a
  · rw [decide_eq_true he]; exact key.2 ⟨n, hn, by omega⟩
  · rw [decide_eq_false he]
    cases hc : canB r (withW ws i v) with
    | false => rfl
    | true =>
      obtain ⟨n', hn', hv⟩ := key.1 hc
      have := hle n' hn'
      omega
end Go.Am

namespace Go.Am
theorem take_next {l : List Int} {i : Nat} (h : i < l.length) : l.take (i + 1) = l.take i ++ [l.getD i 0] := by
  rw [List.take_add_one, List.getD_eq_getElem?_getD, List.getElem?_eq_getElem h]; rfl
/-- Cells that are there from of old, or owned. -/
theorem Rd.ofG {h h' : AHeap} {vb : AV} {cs : List AV} {A G : List Obj} (hG : (Rd h vb 4 cs ∧ G = []) ∨ G = [⟨vb, 4, cs, true⟩]) (hS : St h h' (A ++ G)) : Rd h' vb 4 cs := by
  rcases hG with ⟨h1, rfl⟩ | rfl
  · exact Rd.ext hS.keeps h1
  · exact hS.rd A.length (o := ⟨vb, 4, cs, true⟩) (by simp)

theorem refFirst_c {h : AHeap} {r : Nat} {vW : AV} {ws : List W} {y : List Int} (hv : Rd h vW 4 (flr wc ws)) (hB : BOk (r : Int) ws) (hx : LexMin ws y) : ACalls Go.Proofs.Tryd.prog 58 [.agg [.int .i64 (r : Int), vW]] h (fun q h' => St h h' [⟨q, 1, ints y, true⟩]) := by
  refine KA.fn 36 [.tmp 2] Go.Proofs.Tryd.func58 rfl (by decide) rfl rfl (Nat.le_of_ble_eq_true rfl) ?_
  have hS := St.refl h
  have hvo : vW.one = true := hv.one
  have hw := hx.fl.toWithin
  have hyl := hw.len
  have hwl := hB.len
  show KA _ 36 _ _ [(0, .agg [.int .i64 (r : Int), vW])] _
  refine KA.seq ?_
  refine KA.region rfl ?_
  refine KOps.boxAll hS (by first | rfl | (simp [AV.one]; done) | (simp [AV.one]; assumption) | (simp [AV.one, *]; done)) ?_
  intro p1 h' hp1 hS
  refine KOps.assign ?_
  refine KOps.done ?_
  refine sqQ.normal ?_
  refine KA.sub (Sub.cons (t := 1) Look.eq (Sub.nil _)) ?_
  refine KA.seq ?_
  refine KA.region rfl ?_
  refine KOps.assign ?_
  refine KOps.done ?_
  refine sqQ.normal ?_
  refine KA.seq ?_
  refine KA.seq ?_
  refine KA.region rfl ?_
  refine KOps.assign ?_
  refine KOps.done ?_
  refine sqQ.normal ?_
  refine KA.block ?_
  refine KA.loop (X := Nat × AV × AV × List Obj) (fun x => [(1, p1), (3, x.2.2.1), (4, .int .i64 (x.1 : Int))]) (fun x h' => x.1 ≤ ws.length ∧ ((Rd h x.2.1 4 (flr wc (fixTo ws y x.1)) ∧ x.2.2.2 = []) ∨ x.2.2.2 = [⟨x.2.1, 4, flr wc (fixTo ws y x.1), true⟩]) ∧ St h h' (⟨p1, 0, [.int .i64 (r : Int), x.2.1], true⟩ :: ⟨x.2.2.1, 1, ints (y.take x.1), true⟩ :: x.2.2.2)) (fun x => ws.length - x.1) (0, vW, .nils, []) (by repeat (first | exact Sub.nil _ | refine Sub.cons Look.eq ?_ | refine Sub.cons (Eq.trans Look.eq (congrArg (AV.int _) (by first | omega | (dsimp only; omega)))) ?_)) ?_ ?_
  · exact ⟨Nat.zero_le _, .inl ⟨hv, rfl⟩, St.addNil 1 true hS⟩
  rintro ⟨i, vb, vo, G⟩ h2 ⟨hi, hG, hS⟩
  dsimp only at hi hG hS ⊢
  have hfl := fixTo_len ws y i
  have hvb1 := (Rd.ofG (A := [_, _]) hG hS).one
  refine KA.seq ?_
  refine KA.seq ?_
  refine KA.region rfl ?_
  refine KOps.move ?_
  refine KOps.fieldAddr hp1 ?_
  intro p7 hp7
  refine KOps.load hp7 (hS.rd 0 rfl) rfl ?_
  refine KOps.lenF wc_len (Rd.ofG (A := [_, _]) hG hS) ?_
  refine KOps.lss ?_
  refine KOps.done ?_
  refine sqQ.normal ?_
  refine KA.sub (Sub.cons (t := 1) Look.eq (Sub.cons (t := 3) Look.eq (Sub.cons (t := 4) Look.eq (Sub.cons (t := 10) Look.eq (Sub.nil _))))) ?_
  refine KA.condD ?_ ?_
  · intro c10
    refine KA.skip ?_
    refine sqQ.normal ?_
    refine KA.sub (Sub.cons (t := 1) Look.eq (Sub.cons (t := 3) Look.eq (Sub.cons (t := 4) Look.eq (Sub.nil _)))) ?_
    refine KA.seq ?_
    refine KA.block ?_
    refine KA.seq ?_
    refine KA.region rfl ?_
    have hgi := fixTo_get (ws := ws) (x := y) (i := i) (by omega) i (Nat.le_refl _)
    have hlo := hw.lo i (by omega)
    have hhi := hw.hi i (by omega)
    have hwi := hB.way i (by omega)
    have hwi0 := hwi.l0
    have hwi1 := hwi.m1
    refine KOps.fieldAddr hp1 ?_
    intro p13 hp13
    refine KOps.load hp13 (hS.rd 0 rfl) rfl ?_
    refine KOps.move ?_
    refine KOps.indexF wc_len (Rd.ofG (A := [_, _]) hG hS) (j := i) rfl (by first | omega | (simp; omega)) ?_
    intro p16 hp16
    refine KOps.fieldAddr hp16 ?_
    intro p17 hp17
    refine KOps.loadFc wc_len (by decide) hp17 (Rd.ofG (A := [_, _]) hG hS) (by first | omega | (simp; omega)) rfl ?_
    refine KOps.assign ?_
    refine KOps.done ?_
    refine sqQ.normal ?_
    refine KA.sub (Sub.cons (t := 1) Look.eq (Sub.cons (t := 3) Look.eq (Sub.cons (t := 4) Look.eq (Sub.cons (t := 5) Look.eq (Sub.nil _))))) ?_
    refine KA.seq ?_
    refine KA.block ?_
    refine KA.loop (X := Int) (fun n => [(1, p1), (3, vo), (4, .int .i64 (i : Int)), (5, .int .i64 n)]) (fun n h' => (ws.getD i default).l ≤ n ∧ n ≤ y.getD i 0 ∧ St h h' (⟨p1, 0, [.int .i64 (r : Int), vb], true⟩ :: ⟨vo, 1, ints (y.take i), true⟩ :: G)) (fun n => (y.getD i 0 - n).toNat) ((fixTo ws y i).getD i default).l (by repeat (first | exact Sub.nil _ | refine Sub.cons Look.eq ?_ | refine Sub.cons (Eq.trans Look.eq (congrArg (AV.int _) (by first | omega | (dsimp only; omega)))) ?_)) ?_ ?_
    · exact ⟨by rw [hgi]; exact Int.le_refl _, by rw [hgi]; exact hlo, hS⟩
    rintro n h3 ⟨hn1, hn2, hS⟩
    refine KA.seq ?_
    refine KA.seq ?_
    refine KA.region rfl ?_
    refine KOps.loadAll hS (i := 0) rfl hp1 (by rfl) (by decide) ?_
    refine KOps.move ?_
    refine KOps.move ?_
    refine KOps.call rfl (with_c (rm := (r : Int)) (i := i) (vW := vb) (Rd.ofG (A := [_, _]) hG hS) (by omega) (by omega)) ?_
    rintro _ h5 ⟨vN, rfl, hSN⟩
    have hS0 : St _ _ (_ :: _) := St.trans hS hSN
    clear hS
    have hS := hS0
    clear hS0
    refine KOps.call rfl (can_c (hS.rd 0 rfl) ((fixTo_ok hB hw (by omega)).withW (by omega) (by rw [hgi]; exact hn1) (by rw [hgi]; omega))) ?_
    rintro _ h6 ⟨rfl, hK⟩
    have hS0 := St.tail (St.trans hS (St.ofK hK))
    clear hS
    have hS := hS0
    clear hS0
    rw [fix_can hB hx (by omega) hn1 hn2]
    refine KOps.not ?_
    refine KOps.done ?_
    refine sqQ.normal ?_
    refine KA.sub (Sub.cons (t := 1) Look.eq (Sub.cons (t := 3) Look.eq (Sub.cons (t := 4) Look.eq (Sub.cons (t := 5) Look.eq (Sub.cons (t := 24) Look.eq (Sub.nil _)))))) ?_
    refine KA.condN ?_ ?_
    · intro c24
      refine KA.skip ?_
      refine sqQ.normal ?_
      refine KA.sub (Sub.cons (t := 1) Look.eq (Sub.cons (t := 3) Look.eq (Sub.cons (t := 4) Look.eq (Sub.cons (t := 5) Look.eq (Sub.nil _))))) ?_
      refine KA.block ?_
      refine KA.region rfl ?_
      refine KOps.move ?_
      refine KOps.add (by first | omega | (simp; omega)) (by first | omega | (simp; omega)) ?_
      refine KOps.assign ?_
      refine KOps.done ?_
      refine blQ.normal ?_
      exact lpQ.normal (n + 1) (by repeat (first | exact Sub.nil _ | refine Sub.cons Look.eq ?_ | refine Sub.cons (Eq.trans Look.eq (congrArg (AV.int _) (by first | omega | (dsimp only; omega)))) ?_)) ⟨by omega, by omega, hS⟩ (by omega)
    · intro c24
      refine KA.exit ?_
      refine sqQ.exit ?_
      refine lpQ.exit ?_
      refine blQ.here ?_
      refine sqQ.normal ?_
      refine KA.sub (Sub.cons (t := 1) Look.eq (Sub.cons (t := 3) Look.eq (Sub.cons (t := 4) Look.eq (Sub.cons (t := 5) Look.eq (Sub.nil _))))) ?_
      refine KA.seq ?_
      refine KA.region rfl ?_
      refine KOps.loadAll hS (i := 0) rfl hp1 (by rfl) (by decide) ?_
      refine KOps.move ?_
      refine KOps.move ?_
      refine KOps.call rfl (with_c (rm := (r : Int)) (i := i) (vW := vb) (Rd.ofG (A := [_, _]) hG hS) (by omega) (by omega)) ?_
      rintro _ h7 ⟨vN, rfl, hSN⟩
      have hS0 : St _ _ (_ :: _) := St.trans hS hSN
      clear hS
      have hvN1 : vN.one = true := St.one hS0 (k := 0) rfl
      have hS : St h h7 [⟨p1, 0, [.int .i64 (r : Int), vb], true⟩, ⟨vo, 1, ints (y.take i), true⟩, ⟨vN, 4, flr wc (withW (fixTo ws y i) i n), true⟩] := St.pick [1, 2, 0] (by decide) rfl hS0
      clear hS0
      refine KOps.storeAll hS rfl (i := 0) rfl hp1 (by first | rfl | (simp [AV.one]; done) | (simp [AV.one]; assumption) | (simp [AV.one, *]; done)) (by rfl) (by rfl) (by decide) ?_
      intro h' hS
      simp only [List.set_cons_zero, List.set_cons_succ, Nat.zero_add] at hS
      refine KOps.done ?_
      refine sqQ.normal ?_
      refine KA.sub (Sub.cons (t := 1) Look.eq (Sub.cons (t := 3) Look.eq (Sub.cons (t := 4) Look.eq (Sub.cons (t := 5) Look.eq (Sub.nil _))))) ?_
      refine KA.region rfl ?_
      refine KOps.move ?_
      refine KOps.move ?_
      refine KOps.buildSlice hS rfl (by decide) rfl ?_
      intro v33 h' hS
      refine KOps.appendI hS (fun _ => rfl) (i := 1) rfl (by first | omega | (simp; omega)) ?_
      intro r34 h' hr34 hS
      refine KOps.assign ?_
      refine KOps.done ?_
      refine blQ.normal ?_
      refine sqQ.normal ?_
      refine KA.sub (Sub.cons (t := 1) Look.eq (Sub.cons (t := 3) Look.eq (Sub.cons (t := 4) Look.eq (Sub.nil _)))) ?_
      refine KA.region rfl ?_
      refine KOps.move ?_
      refine KOps.add (by first | omega | (simp; omega)) (by first | omega | (simp; omega)) ?_
      refine KOps.assign ?_
      refine KOps.done ?_
      have hny : n = y.getD i 0 := by omega
      have hS : St h h' [⟨p1, 0, [.int .i64 (r : Int), vN], true⟩, ⟨r34, 1, ints (y.take (i + 1)), true⟩, ⟨vN, 4, flr wc (fixTo ws y (i + 1)), true⟩] := by
        rw [take_next (by omega), fixTo, ← hny]
        exact hS
      exact lpQ.normal (i + 1, vN, r34, [⟨vN, 4, flr wc (fixTo ws y (i + 1)), true⟩]) (by repeat (first | exact Sub.nil _ | refine Sub.cons Look.eq ?_ | refine Sub.cons (Eq.trans Look.eq (congrArg (AV.int _) (by first | omega | (dsimp only; omega)))) ?_)) ⟨by dsimp only; omega, .inr rfl, hS⟩ (by dsimp only; omega)
  · intro c10
    refine KA.exit ?_
    refine sqQ.exit ?_
    refine lpQ.exit ?_
    refine blQ.here ?_
    refine sqQ.normal ?_
    refine KA.sub (Sub.cons (t := 3) Look.eq (Sub.nil _)) ?_
    refine KA.seq ?_
    refine KA.region rfl ?_
    refine KOps.move ?_
    refine KOps.assign ?_
    refine KOps.done ?_
    refine sqQ.normal ?_
    refine KA.sub (Sub.cons (t := 2) Look.eq (Sub.nil _)) ?_
    refine KA.ret ?_
    refine fnQ.ret1 ?_
    have hie : i = y.length := by omega
    subst hie
    rw [List.take_length] at hS
    exact St.pick [1] (by decide) rfl hS

end Go.Am

namespace Go.Am
open Classical in
noncomputable def firstOf (ws : List W) : List Int := if h : ∃ n, LexMin ws n then Classical.choose h else []
theorem firstOf_is {ws : List W} (h : ∃ n, Flow ws n) : LexMin ws (firstOf ws) := by
  have h2 := lex_exists h
  unfold firstOf
  rw [dif_pos h2]
  exact Classical.choose_spec h2
theorem agree_ok {rm : Int} {ws : List W} (h : agreeE rm ws = 0) : BOk rm ws ∧ ∃ n, Flow ws n := by
  unfold agreeE at h
  by_cases hc : chkB rm ws = 0
  · rw [if_pos hc] at h
    have hB := BOk.of hc
    refine ⟨hB, ?_⟩
    cases hp : canP rm ws with
    | false => rw [hp] at h; cases h
    | true =>
      unfold canP at hp
      rw [decide_eq_true hc, Bool.true_and] at hp
      have hr : InR ((rm.toNat : Nat) : Int) ws := by
        have := hB.r2
        rw [show ((rm.toNat : Nat) : Int) = rm by omega]
        exact hB.inR
      exact (hoffman hr hB.LM).1 hp
  · rw [if_neg hc] at h; exact absurd h hc
theorem refFirst_c' {h : AHeap} {rm : Int} {vW : AV} {ws : List W} {y : List Int} (hv : Rd h vW 4 (flr wc ws)) (hB : BOk rm ws) (hx : LexMin ws y) : ACalls Go.Proofs.Tryd.prog 58 [.agg [.int .i64 rm, vW]] h (fun q h' => St h h' [⟨q, 1, ints y, true⟩]) := by
  have h2 := hB.r2
  have e : rm = ((rm.toNat : Nat) : Int) := by omega
  rw [e] at hB
  have := refFirst_c hv hB hx
  rwa [← e] at this

theorem refFirstE_c {h : AHeap} {rm : Int} {vW : AV} {ws : List W} (hv : Rd h vW 4 (flr wc ws)) : ACalls Go.Proofs.Tryd.prog 21 [.agg [.int .i64 rm, vW]] h (fun q h' => ∃ vo, q = .tup [vo, .int .i64 (agreeE rm ws)] ∧ St h h' [⟨vo, 1, ints (if agreeE rm ws = 0 then firstOf ws else []), true⟩]) := by
  refine KA.fn 12 [.tmp 2, .tmp 3] Go.Proofs.Tryd.func21 rfl (by decide) rfl rfl (Nat.le_of_ble_eq_true rfl) ?_
  have hS := St.refl h
  have hvo : vW.one = true := hv.one
  show KA _ 12 _ _ [(0, .agg [.int .i64 rm, vW])] _
  refine KA.seq ?_
  refine KA.region rfl ?_
  refine KOps.boxAll hS (by first | rfl | (simp [AV.one]; done) | (simp [AV.one]; assumption) | (simp [AV.one, *]; done)) ?_
  intro p1 h' hp1 hS
  refine KOps.assign ?_
  refine KOps.assign ?_
  refine KOps.done ?_
  refine sqQ.normal ?_
  refine KA.sub (Sub.cons (t := 1) Look.eq (Sub.nil _)) ?_
  refine KA.seq ?_
  refine KA.region rfl ?_
  refine KOps.loadAll hS (i := 0) rfl hp1 (by rfl) (by decide) ?_
  refine KOps.call rfl (agree_c (Rd.ext hS.keeps hv)) ?_
  rintro _ h3 ⟨rfl, hK⟩
  have hS0 : St _ _ (_ :: _) := St.trans hS (St.ofK hK)
  clear hS
  have hS := hS0
  clear hS0
  refine KOps.assign ?_
  refine KOps.done ?_
  refine sqQ.normal ?_
  refine KA.sub (Sub.cons (t := 1) Look.eq (Sub.cons (t := 4) Look.eq (Sub.nil _))) ?_
  refine KA.seq ?_
  refine KA.seq ?_
  refine KA.region rfl ?_
  refine KOps.move ?_
  refine KOps.neq ?_
  refine KOps.done ?_
  refine sqQ.normal ?_
  refine KA.sub (Sub.cons (t := 1) Look.eq (Sub.cons (t := 4) Look.eq (Sub.cons (t := 8) Look.eq (Sub.nil _)))) ?_
  refine KA.condN ?_ ?_
  · intro c8
    refine KA.seq ?_
    refine KA.region rfl ?_
    refine KOps.move ?_
    refine KOps.assign ?_
    refine KOps.assign ?_
    refine KOps.done ?_
    refine sqQ.normal ?_
    refine KA.sub (Sub.cons (t := 2) Look.eq (Sub.cons (t := 3) Look.eq (Sub.nil _))) ?_
    refine KA.ret ?_
    refine sqQ.ret ?_
    refine fnQ.retN ?_
    rw [if_neg (show ¬ agreeE rm ws = 0 by omega)]
    exact ⟨_, rfl, St.pick [1] (by decide) rfl (St.addNil 1 true hS)⟩
  · intro c8
    refine KA.skip ?_
    refine sqQ.normal ?_
    refine KA.sub (Sub.cons (t := 1) Look.eq (Sub.nil _)) ?_
    refine KA.seq ?_
    refine KA.region rfl ?_
    refine KOps.loadAll hS (i := 0) rfl hp1 (by rfl) (by decide) ?_
    refine KOps.call rfl (refFirst_c' (Rd.ext hS.keeps hv) (agree_ok (by omega)).1 (firstOf_is (agree_ok (rm := rm) (by omega)).2)) ?_
    rintro vo h4 hSN
    have hS0 : St _ _ (_ :: _) := St.trans hS hSN
    clear hS
    have hS := hS0
    clear hS0
    refine KOps.assign ?_
    refine KOps.assign ?_
    refine KOps.done ?_
    refine sqQ.normal ?_
    refine KA.sub (Sub.cons (t := 2) Look.eq (Sub.cons (t := 3) Look.eq (Sub.nil _))) ?_
    refine KA.ret ?_
    refine fnQ.retN ?_
    have h0 : agreeE rm ws = 0 := by omega
    rw [if_pos h0, h0]
    exact ⟨_, rfl, St.pick [0] (by decide) rfl hS⟩

theorem refSpan_c {h : AHeap} {r i : Nat} {vW : AV} {ws : List W} {a b : Int} (hv : Rd h vW 4 (flr wc ws)) (hB : BOk (r : Int) ws) (hi : i < ws.length) (ha : IsLo ws i a) (hb : IsHi ws i b) : ACalls Go.Proofs.Tryd.prog 81 [.agg [.int .i64 (r : Int), vW], .int .i64 (i : Int)] h (fun q h' => q = .tup [.int .i64 a, .int .i64 b] ∧ Keeps h h') := by
  refine KA.fn 38 [.tmp 4, .tmp 5] Go.Proofs.Tryd.func81 rfl (by decide) rfl rfl (Nat.le_of_ble_eq_true rfl) ?_
  have hS := St.refl h
  have hvo : vW.one = true := hv.one
  have hwl := hB.len
  have hwi := hB.way i hi
  have hw0 := hwi.l0
  have hw1 := hwi.m1
  have hw2 := hwi.lm
  obtain ⟨n1, hn1, hna⟩ := ha.1
  obtain ⟨n2, hn2, hnb⟩ := hb.1
  have hla := hn1.lo i hi
  have hma := hn1.hi i hi
  have hlb := hn2.lo i hi
  have hmb := hn2.hi i hi
  show KA _ 38 _ _ [(0, .agg [.int .i64 (r : Int), vW]), (1, .int .i64 (i : Int))] _
  refine KA.seq ?_
  refine KA.region rfl ?_
  refine KOps.boxAll hS (by first | rfl | (simp [AV.one]; done) | (simp [AV.one]; assumption) | (simp [AV.one, *]; done)) ?_
  intro p2 h' hp2 hS
  refine KOps.assign ?_
  refine KOps.assign ?_
  refine KOps.done ?_
  refine sqQ.normal ?_
  refine KA.sub (Sub.cons (t := 1) Look.eq (Sub.cons (t := 2) Look.eq (Sub.nil _))) ?_
  refine KA.seq ?_
  refine KA.draw [] mixed rfl (by kernel_rfl) ?_
  refine KOps.fieldAddr hp2 ?_
  intro p8 hp8
  refine KOps.load hp8 (hS.rd 0 rfl) rfl ?_
  refine KOps.move ?_
  refine KOps.indexF wc_len (Rd.ext hS.keeps hv) (j := i) (by first | omega | (simp; omega)) (by first | omega | (simp; omega)) ?_
  intro p11 hp11
  refine KOps.fieldAddr hp11 ?_
  intro p12 hp12
  refine KOps.loadFc wc_len (by decide) hp12 (Rd.ext hS.keeps hv) (by first | omega | (simp; omega)) rfl ?_
  refine KOps.fieldAddr hp2 ?_
  intro p14 hp14
  refine KOps.load hp14 (hS.rd 0 rfl) rfl ?_
  refine KOps.move ?_
  refine KOps.indexF wc_len (Rd.ext hS.keeps hv) (j := i) (by first | omega | (simp; omega)) (by first | omega | (simp; omega)) ?_
  intro p17 hp17
  refine KOps.fieldAddr hp17 ?_
  intro p18 hp18
  refine KOps.loadFc wc_len (by decide) hp18 (Rd.ext hS.keeps hv) (by first | omega | (simp; omega)) rfl ?_
  refine KOps.assign ?_
  refine KOps.assign ?_
  refine KOps.done ?_
  refine sqQ.normal ?_
  refine KA.sub (Sub.cons (t := 1) Look.eq (Sub.cons (t := 2) Look.eq (Sub.cons (t := 6) Look.eq (Sub.cons (t := 7) Look.eq (Sub.nil _))))) ?_
  refine KA.seq ?_
  refine KA.block ?_
  refine KA.loop (X := Int) (fun n => [(1, .int .i64 (i : Int)), (2, p2), (6, .int .i64 n), (7, .int .i64 (ws.getD i default).m)]) (fun n h' => (ws.getD i default).l ≤ n ∧ n ≤ a ∧ St h h' [⟨p2, 0, [.int .i64 (r : Int), vW], true⟩]) (fun n => (a - n).toNat) (ws.getD i default).l (by repeat (first | exact Sub.nil _ | refine Sub.cons Look.eq ?_ | refine Sub.cons (Eq.trans Look.eq (congrArg (AV.int _) (by first | omega | (dsimp only; omega)))) ?_)) ?_ ?_
  · exact ⟨Int.le_refl _, by omega, hS⟩
  rintro n h3 ⟨hn3, hn4, hS⟩
  refine KA.seq ?_
  refine KA.seq ?_
  refine KA.region rfl ?_
  refine KOps.loadAll hS (i := 0) rfl hp2 (by rfl) (by decide) ?_
  refine KOps.move ?_
  refine KOps.move ?_
  refine KOps.call rfl (with_c (rm := (r : Int)) (i := i) (vW := vW) (Rd.ext hS.keeps hv) hi (by omega)) ?_
  rintro _ h5 ⟨vN, rfl, hSN⟩
  have hS0 : St _ _ (_ :: _) := St.trans hS hSN
  clear hS
  have hS := hS0
  clear hS0
  refine KOps.call rfl (can_c (hS.rd 0 rfl) (hB.withW hi (by omega) (by omega))) ?_
  rintro _ h6 ⟨rfl, hK⟩
  have hS0 := St.tail (St.trans hS (St.ofK hK))
  clear hS
  have hS := hS0
  clear hS0
  rw [lo_can hB hi ha (by omega) (by omega)]
  refine KOps.not ?_
  refine KOps.done ?_
  refine sqQ.normal ?_
  refine KA.sub (Sub.cons (t := 1) Look.eq (Sub.cons (t := 2) Look.eq (Sub.cons (t := 6) Look.eq (Sub.cons (t := 7) Look.eq (Sub.cons (t := 25) Look.eq (Sub.nil _)))))) ?_
  refine KA.condN ?_ ?_
  · intro c25
    refine KA.skip ?_
    refine sqQ.normal ?_
    refine KA.sub (Sub.cons (t := 1) Look.eq (Sub.cons (t := 2) Look.eq (Sub.cons (t := 6) Look.eq (Sub.cons (t := 7) Look.eq (Sub.nil _))))) ?_
    refine KA.block ?_
    refine KA.region rfl ?_
    refine KOps.move ?_
    refine KOps.add (by first | omega | (simp; omega)) (by first | omega | (simp; omega)) ?_
    refine KOps.assign ?_
    refine KOps.done ?_
    refine blQ.normal ?_
    exact lpQ.normal (n + 1) (by repeat (first | exact Sub.nil _ | refine Sub.cons Look.eq ?_ | refine Sub.cons (Eq.trans Look.eq (congrArg (AV.int _) (by first | omega | (dsimp only; omega)))) ?_)) ⟨by omega, by omega, hS⟩ (by omega)
  · intro c25
    refine KA.exit ?_
    refine sqQ.exit ?_
    refine lpQ.exit ?_
    refine blQ.here ?_
    refine sqQ.normal ?_
    refine KA.sub (Sub.cons (t := 1) Look.eq (Sub.cons (t := 2) Look.eq (Sub.cons (t := 6) Look.eq (Sub.cons (t := 7) Look.eq (Sub.nil _))))) ?_
    refine KA.seq ?_
    refine KA.block ?_
    refine KA.loop (X := Int) (fun n => [(1, .int .i64 (i : Int)), (2, p2), (6, .int .i64 a), (7, .int .i64 n)]) (fun n h' => b ≤ n ∧ n ≤ (ws.getD i default).m ∧ St h h' [⟨p2, 0, [.int .i64 (r : Int), vW], true⟩]) (fun n => (n - b).toNat) (ws.getD i default).m (by repeat (first | exact Sub.nil _ | refine Sub.cons Look.eq ?_ | refine Sub.cons (Eq.trans Look.eq (congrArg (AV.int _) (by first | omega | (dsimp only; omega)))) ?_)) ?_ ?_
    · exact ⟨by omega, Int.le_refl _, hS⟩
    rintro n h3 ⟨hn3, hn4, hS⟩
    refine KA.seq ?_
    refine KA.seq ?_
    refine KA.region rfl ?_
    refine KOps.loadAll hS (i := 0) rfl hp2 (by rfl) (by decide) ?_
    refine KOps.move ?_
    refine KOps.move ?_
    refine KOps.call rfl (with_c (rm := (r : Int)) (i := i) (vW := vW) (Rd.ext hS.keeps hv) hi (by omega)) ?_
    rintro _ h5 ⟨vN, rfl, hSN⟩
    have hS0 : St _ _ (_ :: _) := St.trans hS hSN
    clear hS
    have hS := hS0
    clear hS0
    refine KOps.call rfl (can_c (hS.rd 0 rfl) (hB.withW hi (by omega) (by omega))) ?_
    rintro _ h6 ⟨rfl, hK⟩
    have hS0 := St.tail (St.trans hS (St.ofK hK))
    clear hS
    have hS := hS0
    clear hS0
    rw [hi_can hB hi hb (by omega) (by omega)]
    refine KOps.not ?_
    refine KOps.done ?_
    refine sqQ.normal ?_
    refine KA.sub (Sub.cons (t := 1) Look.eq (Sub.cons (t := 2) Look.eq (Sub.cons (t := 6) Look.eq (Sub.cons (t := 7) Look.eq (Sub.cons (t := 33) Look.eq (Sub.nil _)))))) ?_
    refine KA.condN ?_ ?_
    · intro c33
      refine KA.skip ?_
      refine sqQ.normal ?_
      refine KA.sub (Sub.cons (t := 1) Look.eq (Sub.cons (t := 2) Look.eq (Sub.cons (t := 6) Look.eq (Sub.cons (t := 7) Look.eq (Sub.nil _))))) ?_
      refine KA.block ?_
      refine KA.region rfl ?_
      refine KOps.move ?_
      refine KOps.sub (by first | omega | (simp; omega)) (by first | omega | (simp; omega)) ?_
      refine KOps.assign ?_
      refine KOps.done ?_
      refine blQ.normal ?_
      exact lpQ.normal (n - 1) (by repeat (first | exact Sub.nil _ | refine Sub.cons Look.eq ?_ | refine Sub.cons (Eq.trans Look.eq (congrArg (AV.int _) (by first | omega | (dsimp only; omega)))) ?_)) ⟨by omega, by omega, hS⟩ (by omega)
    · intro c33
      refine KA.exit ?_
      refine sqQ.exit ?_
      refine lpQ.exit ?_
      refine blQ.here ?_
      refine sqQ.normal ?_
      refine KA.sub (Sub.cons (t := 6) Look.eq (Sub.cons (t := 7) Look.eq (Sub.nil _))) ?_
      refine KA.seq ?_
      refine KA.region rfl ?_
      refine KOps.move ?_
      refine KOps.move ?_
      refine KOps.assign ?_
      refine KOps.assign ?_
      refine KOps.done ?_
      refine sqQ.normal ?_
      refine KA.sub (Sub.cons (t := 4) Look.eq (Sub.cons (t := 5) Look.eq (Sub.nil _))) ?_
      refine KA.ret ?_
      refine fnQ.retN ?_
      exact ⟨by rw [show n = b by omega], hS.keeps⟩

end Go.Am

namespace Go.Am
/-- The rooms of a set. -/
def roomsTo (s k : Nat) : List Int := ((List.range k).filter fun j => s.testBit j).map fun j : Nat => (j : Int)
theorem roomsTo_succ (s k : Nat) : roomsTo s (k + 1) = if s.testBit k then roomsTo s k ++ [(k : Int)] else roomsTo s k := by
  unfold roomsTo
  rw [List.range_succ, List.filter_append, List.map_append]
  cases h : s.testBit k <;> simp [h]
theorem roomsTo_len (s k : Nat) : (roomsTo s k).length ≤ k := by
  unfold roomsTo
  rw [List.length_map]
  exact Nat.le_trans (List.length_filter_le _ _) (by simp)

theorem listed_c {h : AHeap} {s : Nat} (hs : s < 64) : ACalls Go.Proofs.Tryd.prog 73 [.int .i64 (s : Int)] h (fun q h' => St h h' [⟨q, 1, ints (roomsTo s 6), true⟩]) := by
  refine KA.fn 17 [.tmp 2] Go.Proofs.Tryd.func73 rfl (by decide) rfl rfl (Nat.le_of_ble_eq_true rfl) ?_
  have hS := St.refl h
  show KA _ 17 _ _ [(0, .int .i64 (s : Int))] _
  refine KA.seq ?_
  refine KA.region rfl ?_
  refine KOps.assign ?_
  refine KOps.done ?_
  refine sqQ.normal ?_
  refine KA.sub (Sub.cons (t := 0) Look.eq (Sub.nil _)) ?_
  refine KA.seq ?_
  refine KA.region rfl ?_
  refine KOps.assign ?_
  refine KOps.done ?_
  refine sqQ.normal ?_
  refine KA.seq ?_
  refine KA.seq ?_
  refine KA.region rfl ?_
  refine KOps.assign ?_
  refine KOps.done ?_
  refine sqQ.normal ?_
  refine KA.block ?_
  refine KA.loop (X := Nat × AV) (fun x => [(0, .int .i64 (s : Int)), (3, x.2), (4, .int .i64 (x.1 : Int))]) (fun x h' => x.1 ≤ 6 ∧ St h h' [⟨x.2, 1, ints (roomsTo s x.1), true⟩]) (fun x => 6 - x.1) (0, .nils) (by repeat (first | exact Sub.nil _ | refine Sub.cons Look.eq ?_ | refine Sub.cons (Eq.trans Look.eq (congrArg (AV.int _) (by first | omega | (dsimp only; omega)))) ?_)) ?_ ?_
  · exact ⟨Nat.zero_le _, St.addNil 1 true hS⟩
  rintro ⟨i, vo⟩ h2 ⟨hi, hS⟩
  dsimp only at hi hS ⊢
  have hrl := roomsTo_len s i
  refine KA.seq ?_
  refine KA.seq ?_
  refine KA.region rfl ?_
  refine KOps.move ?_
  refine KOps.lss ?_
  refine KOps.done ?_
  refine sqQ.normal ?_
  refine KA.sub (Sub.cons (t := 0) Look.eq (Sub.cons (t := 3) Look.eq (Sub.cons (t := 4) Look.eq (Sub.cons (t := 6) Look.eq (Sub.nil _))))) ?_
  refine KA.condD ?_ ?_
  · intro c6
    refine KA.skip ?_
    refine sqQ.normal ?_
    refine KA.sub (Sub.cons (t := 0) Look.eq (Sub.cons (t := 3) Look.eq (Sub.cons (t := 4) Look.eq (Sub.nil _)))) ?_
    refine KA.seq ?_
    refine KA.block ?_
    refine KA.seq ?_
    refine KA.region rfl ?_
    refine KOps.move ?_
    refine KOps.move ?_
    refine KOps.call rfl (has_c (by first | omega | (simp; omega)) (by first | omega | (simp; omega)) (by first | omega | (simp; omega))) ?_
    rintro _ _ ⟨rfl, rfl⟩
    refine KOps.done ?_
    refine sqQ.normal ?_
    refine KA.sub (Sub.cons (t := 0) Look.eq (Sub.cons (t := 3) Look.eq (Sub.cons (t := 4) Look.eq (Sub.cons (t := 11) Look.eq (Sub.nil _))))) ?_
    refine KA.condB ?_ ?_
    · intro c11
      refine KA.region rfl ?_
      refine KOps.move ?_
      refine KOps.move ?_
      refine KOps.buildSlice hS rfl (by decide) rfl ?_
      intro v14 h' hS
      refine KOps.appendI hS (fun _ => rfl) (i := 0) rfl (by first | omega | (simp; omega)) ?_
      intro r15 h' hr15 hS
      refine KOps.assign ?_
      refine KOps.done ?_
      refine blQ.normal ?_
      refine sqQ.normal ?_
      refine KA.sub (Sub.cons (t := 0) Look.eq (Sub.cons (t := 3) Look.eq (Sub.cons (t := 4) Look.eq (Sub.nil _)))) ?_
      refine KA.region rfl ?_
      refine KOps.move ?_
      refine KOps.add (by first | omega | (simp; omega)) (by first | omega | (simp; omega)) ?_
      refine KOps.assign ?_
      refine KOps.done ?_
      have hb : s.testBit i = true := by simpa [inS] using c11
      have hrs := roomsTo_succ s i
      rw [if_pos hb] at hrs
      simp only [List.set_cons_zero] at hS
      rw [← hrs] at hS
      exact lpQ.normal (i + 1, r15) (by repeat (first | exact Sub.nil _ | refine Sub.cons Look.eq ?_ | refine Sub.cons (Eq.trans Look.eq (congrArg (AV.int _) (by first | omega | (dsimp only; omega)))) ?_)) ⟨by dsimp only; omega, hS⟩ (by dsimp only; omega)
    · intro c11
      refine KA.skip ?_
      refine blQ.normal ?_
      refine sqQ.normal ?_
      refine KA.sub (Sub.cons (t := 0) Look.eq (Sub.cons (t := 3) Look.eq (Sub.cons (t := 4) Look.eq (Sub.nil _)))) ?_
      refine KA.region rfl ?_
      refine KOps.move ?_
      refine KOps.add (by first | omega | (simp; omega)) (by first | omega | (simp; omega)) ?_
      refine KOps.assign ?_
      refine KOps.done ?_
      have hb : s.testBit i = false := by simpa [inS] using c11
      have hrs := roomsTo_succ s i
      rw [if_neg (by simp [hb])] at hrs
      rw [← hrs] at hS
      exact lpQ.normal (i + 1, vo) (by repeat (first | exact Sub.nil _ | refine Sub.cons Look.eq ?_ | refine Sub.cons (Eq.trans Look.eq (congrArg (AV.int _) (by first | omega | (dsimp only; omega)))) ?_)) ⟨by dsimp only; omega, hS⟩ (by dsimp only; omega)
  · intro c6
    refine KA.exit ?_
    refine sqQ.exit ?_
    refine lpQ.exit ?_
    refine blQ.here ?_
    refine sqQ.normal ?_
    refine KA.sub (Sub.cons (t := 3) Look.eq (Sub.nil _)) ?_
    refine KA.seq ?_
    refine KA.region rfl ?_
    refine KOps.move ?_
    refine KOps.assign ?_
    refine KOps.done ?_
    refine sqQ.normal ?_
    refine KA.sub (Sub.cons (t := 2) Look.eq (Sub.nil _)) ?_
    refine KA.ret ?_
    refine fnQ.ret1 ?_
    have hie : i = 6 := by omega
    subst hie
    exact hS

end Go.Am

namespace Go.Am
def keptL (r : Nat) (ws : List W) (n : List Int) (k : Nat) : List Int := (List.range r).map fun x : Nat => keptTo ws n (x : Int) k
theorem keptL_len (r : Nat) (ws : List W) (n : List Int) (k : Nat) : (keptL r ws n k).length = r := by simp [keptL]
theorem keptL_get {r : Nat} {ws : List W} {n : List Int} {k x : Nat} (hx : x < r) : (keptL r ws n k).getD x 0 = keptTo ws n (x : Int) k := by
  unfold keptL
  rw [List.getD_eq_getElem?_getD, List.getElem?_map, List.getElem?_range hx]
  rfl
theorem keptL_zero (r : Nat) (ws : List W) (n : List Int) : keptL r ws n 0 = List.replicate r 0 := by
  unfold keptL
  apply List.ext_getElem
  · simp
  · intro i h1 h2
    simp [keptTo]
theorem keptL_succ {r : Nat} {ws : List W} {n : List Int} {k f t : Nat} (hf : f < r) (ht : t < r) (hne : f ≠ t) (ef : (ws.getD k default).f = (f : Int)) (et : (ws.getD k default).t = (t : Int)) :
    ((keptL r ws n k).set t ((keptL r ws n k).getD t 0 + n.getD k 0)).set f (((keptL r ws n k).set t ((keptL r ws n k).getD t 0 + n.getD k 0)).getD f 0 - n.getD k 0) = keptL r ws n (k + 1) := by
  refine extJ (by simp only [List.length_set, keptL_len]) ?_
  intro x
  by_cases hx : x < r
  · have hl := keptL_len r ws n k
    rw [getD_setJ, getD_setJ, getD_setJ, keptL_get hx, keptL_get hx, List.length_set, hl, keptTo, ef, et, keptL_get ht, keptL_get hf]
    unfold dl
    by_cases h1 : x = f
    · subst h1
      rw [if_pos ⟨rfl, hf⟩, if_neg (fun h => hne h.1), if_neg (by omega), if_pos rfl]; omega
    · rw [if_neg (fun h => h1 h.1)]
      by_cases h2 : x = t
      · subst h2
        rw [if_pos ⟨rfl, ht⟩, if_pos rfl, if_neg (by omega)]; omega
      · rw [if_neg (fun h => h2 h.1), if_neg (by omega), if_neg (by omega)]; omega
  · have e1 : (keptL r ws n (k + 1))[x]? = none := List.getElem?_eq_none (by rw [keptL_len]; omega)
    rw [List.getD_eq_getElem?_getD, List.getElem?_eq_none (by simp only [List.length_set, keptL_len]; omega)]
    rw [List.getD_eq_getElem?_getD, e1]
theorem kept_bound {ws : List W} {n : List Int} (hn : ∀ i, i < ws.length → 0 ≤ n.getD i 0 ∧ n.getD i 0 ≤ 99) (x : Int) : ∀ k, k ≤ ws.length → -(99 * (k : Int)) ≤ keptTo ws n x k ∧ keptTo ws n x k ≤ 99 * (k : Int) := by
  intro k
  induction k with
  | zero => intro _; simp [keptTo]
  | succ k ih =>
    intro hk
    have h1 := ih (by omega)
    have h2 := hn k (by omega)
    rw [keptTo]
    generalize n.getD k 0 = c at *
    unfold dl
    split <;> split <;> simp <;> omega

theorem kept_c {h : AHeap} {r : Nat} {pf vW vn : AV} {ws : List W} {n : List Int} (hpf : AddrOf pf pf 0 0) (hf : Rd h pf 0 [.int .i64 (r : Int), vW, vn]) (hv : Rd h vW 4 (flr wc ws)) (hn : Row h vn n) (hB : BOk (r : Int) ws) (hl : n.length = ws.length) (hb : ∀ i, i < ws.length → 0 ≤ n.getD i 0 ∧ n.getD i 0 ≤ 99) : ACalls Go.Proofs.Tryd.prog 62 [pf] h (fun q h' => St h h' [⟨q, 1, ints (keptL r ws n ws.length), true⟩]) := by
  refine KA.fn 53 [.tmp 2] Go.Proofs.Tryd.func62 rfl (by decide) rfl rfl (Nat.le_of_ble_eq_true rfl) ?_
  have hS := St.refl h
  have hr6 := hB.r6
  have hwl := hB.len
  show KA _ 53 _ _ [(0, pf)] _
  refine KA.seq ?_
  refine KA.region rfl ?_
  refine KOps.assign ?_
  refine KOps.done ?_
  refine sqQ.normal ?_
  refine KA.sub (Sub.cons (t := 0) Look.eq (Sub.nil _)) ?_
  refine KA.seq ?_
  refine KA.region rfl ?_
  refine KOps.move ?_
  refine KOps.nilP hpf ?_
  refine KOps.fieldAddr hpf ?_
  intro p8 hp8
  refine KOps.fieldAddr hp8 ?_
  intro p9 hp9
  refine KOps.load hp9 (Rd.ext hS.keeps hf) rfl ?_
  refine KOps.makeI hS (by first | omega | (simp; omega)) (by first | omega | (simp; omega)) (by first | omega | (simp; omega)) ?_
  intro v11 h' hS
  refine KOps.assign ?_
  refine KOps.done ?_
  refine sqQ.normal ?_
  refine KA.sub (Sub.cons (t := 0) Look.eq (Sub.cons (t := 3) Look.eq (Sub.nil _))) ?_
  refine KA.seq ?_
  refine KA.seq ?_
  refine KA.region rfl ?_
  refine KOps.move ?_
  refine KOps.nilP hpf ?_
  refine KOps.fieldAddr hpf ?_
  intro p14 hp14
  refine KOps.fieldAddr hp14 ?_
  intro p15 hp15
  refine KOps.load hp15 (Rd.ext hS.keeps hf) rfl ?_
  refine KOps.lenF wc_len (Rd.ext hS.keeps hv) ?_
  refine KOps.move ?_
  refine KOps.done ?_
  refine sqQ.normal ?_
  refine KA.sub (Sub.cons (t := 0) Look.eq (Sub.cons (t := 3) Look.eq (Sub.cons (t := 16) Look.eq (Sub.cons (t := 17) Look.eq (Sub.cons (t := 18) Look.eq (Sub.nil _)))))) ?_
  refine KA.block ?_
  refine KA.loop (X := Nat) (fun i => [(0, pf), (3, v11), (16, vW), (17, .int .i64 (ws.length : Int)), (18, .int .i64 (i : Int))]) (fun i h' => i ≤ ws.length ∧ St h h' [⟨v11, 1, ints (keptL r ws n i), true⟩]) (fun i => ws.length - i) 0 (by repeat (first | exact Sub.nil _ | refine Sub.cons Look.eq ?_ | refine Sub.cons (Eq.trans Look.eq (congrArg (AV.int _) (by first | omega | (dsimp only; omega)))) ?_)) ?_ ?_
  · refine ⟨Nat.zero_le _, ?_⟩
    rw [keptL_zero]
    exact hS
  rintro i h2 ⟨hi, hS⟩
  refine KA.seq ?_
  refine KA.region rfl ?_
  refine KOps.lss ?_
  refine KOps.done ?_
  refine sqQ.normal ?_
  refine KA.seq ?_
  refine KA.condD ?_ ?_
  · intro c19
    refine KA.skip ?_
    refine sqQ.normal ?_
    refine KA.sub (Sub.cons (t := 0) Look.eq (Sub.cons (t := 3) Look.eq (Sub.cons (t := 16) Look.eq (Sub.cons (t := 17) Look.eq (Sub.cons (t := 18) Look.eq (Sub.nil _)))))) ?_
    refine KA.seq ?_
    refine KA.block ?_
    refine KA.seq ?_
    refine KA.region rfl ?_
    refine KOps.move ?_
    refine KOps.indexF wc_len (Rd.ext hS.keeps hv) (j := i) rfl (by first | omega | (simp; omega)) ?_
    intro p21 hp21
    refine KOps.loadFl wc_len (by decide) hp21 (Rd.ext hS.keeps hv) (by first | omega | (simp; omega)) ?_
    refine KOps.alloc hS ?_
    intro p5 h' hp5 hS
    refine KOps.assign ?_
    refine KOps.storeAll hS rfl (i := 0) rfl hp5 (by first | rfl | (simp [AV.one]; done) | (simp [AV.one]; assumption) | (simp [AV.one, *]; done)) (by rfl) (by rfl) (by decide) ?_
    intro h' hS
    simp only [List.set_cons_zero, List.set_cons_succ, Nat.zero_add] at hS
    refine KOps.done ?_
    refine sqQ.normal ?_
    refine KA.sub (Sub.cons (t := 0) Look.eq (Sub.cons (t := 3) Look.eq (Sub.cons (t := 4) Look.eq (Sub.cons (t := 5) Look.eq (Sub.cons (t := 16) Look.eq (Sub.cons (t := 17) Look.eq (Sub.cons (t := 18) Look.eq (Sub.nil _)))))))) ?_
    refine KA.seq ?_
    refine KA.draw [] mixed rfl (by kernel_rfl) ?_
    have hwi := hB.way i (by omega)
    have hwf0 := hwi.f0
    have hwf1 := hwi.f1
    have hwt0 := hwi.t0
    have hwt1 := hwi.t1
    have hne := hwi.ne
    have hbi := hb i (by omega)
    have hkl := keptL_len r ws n i
    have hkt := kept_bound hb (ws.getD i default).t i (by omega)
    have hkf := kept_bound hb (ws.getD i default).f i (by omega)
    have hgt := keptL_get (ws := ws) (n := n) (k := i) (show (ws.getD i default).t.toNat < r by omega)
    have hgf := keptL_get (ws := ws) (n := n) (k := i) (show (ws.getD i default).f.toNat < r by omega)
    rw [show (((ws.getD i default).t.toNat : Nat) : Int) = (ws.getD i default).t by omega] at hgt
    rw [show (((ws.getD i default).f.toNat : Nat) : Int) = (ws.getD i default).f by omega] at hgf
    refine KOps.move ?_
    refine KOps.fieldAddr hp5 ?_
    intro p24 hp24
    refine KOps.load hp24 (hS.rd 0 rfl) rfl ?_
    refine KOps.indexIJ (hS.rd 1 rfl) (j := (ws.getD i default).t.toNat) (by first | omega | (simp; omega)) (by first | omega | (simp; omega)) ?_
    intro p26 hp26
    refine KOps.loadI hp26 (hS.rd 1 rfl) (by first | omega | (simp; omega)) ?_
    refine KOps.move ?_
    refine KOps.nilP hpf ?_
    refine KOps.fieldAddr hpf ?_
    intro p30 hp30
    refine KOps.load hp30 (Rd.ext hS.keeps hf) rfl ?_
    refine KOps.move ?_
    refine KOps.indexIJ (Row.ext hS.keeps hn) (j := i) rfl (by first | omega | (simp; omega)) ?_
    intro p33 hp33
    refine KOps.loadI hp33 (Row.ext hS.keeps hn) (by first | omega | (simp; omega)) ?_
    refine KOps.add (by first | omega | (simp; omega)) (by first | omega | (simp; omega)) ?_
    refine KOps.indexIJ (hS.rd 1 rfl) (j := (ws.getD i default).t.toNat) (by first | omega | (simp; omega)) (by first | omega | (simp; omega)) ?_
    intro p36 hp36
    refine KOps.storeI hS rfl (i := 1) rfl hp36 (by first | omega | (simp; omega)) ?_
    intro h' hS
    refine KOps.done ?_
    refine sqQ.normal ?_
    refine KA.sub (Sub.cons (t := 0) Look.eq (Sub.cons (t := 3) Look.eq (Sub.cons (t := 4) Look.eq (Sub.cons (t := 5) Look.eq (Sub.cons (t := 16) Look.eq (Sub.cons (t := 17) Look.eq (Sub.cons (t := 18) Look.eq (Sub.nil _)))))))) ?_
    refine KA.draw [] mixed rfl (by kernel_rfl) ?_
    have hgf2 : ((keptL r ws n i).set (ws.getD i default).t.toNat ((keptL r ws n i).getD (ws.getD i default).t.toNat 0 + n.getD i 0)).getD (ws.getD i default).f.toNat 0 = (keptL r ws n i).getD (ws.getD i default).f.toNat 0 := by
      rw [getD_setJ, if_neg (by omega)]
    simp only [List.set_cons_zero, List.set_cons_succ] at hS
    refine KOps.move ?_
    refine KOps.fieldAddr hp5 ?_
    intro p38 hp38
    refine KOps.load hp38 (hS.rd 0 rfl) rfl ?_
    refine KOps.indexIJ (hS.rd 1 rfl) (j := (ws.getD i default).f.toNat) (by omega) (by rw [List.length_set]; omega) ?_
    intro p40 hp40
    refine KOps.loadI hp40 (hS.rd 1 rfl) (by rw [List.length_set]; omega) ?_
    refine KOps.move ?_
    refine KOps.nilP hpf ?_
    refine KOps.fieldAddr hpf ?_
    intro p44 hp44
    refine KOps.load hp44 (Rd.ext hS.keeps hf) rfl ?_
    refine KOps.move ?_
    refine KOps.indexIJ (Row.ext hS.keeps hn) (j := i) rfl (by first | omega | (simp; omega)) ?_
    intro p47 hp47
    refine KOps.loadI hp47 (Row.ext hS.keeps hn) (by first | omega | (simp; omega)) ?_
    refine KOps.sub (by first | omega | (simp; omega)) (by first | omega | (simp; omega)) ?_
    refine KOps.indexIJ (hS.rd 1 rfl) (j := (ws.getD i default).f.toNat) (by omega) (by rw [List.length_set]; omega) ?_
    intro p50 hp50
    refine KOps.storeI hS rfl (i := 1) rfl hp50 (by rw [List.length_set]; omega) ?_
    intro h9 hS
    refine KOps.done ?_
    refine blQ.normal ?_
    refine sqQ.normal ?_
    refine KA.sub (Sub.cons (t := 0) Look.eq (Sub.cons (t := 3) Look.eq (Sub.cons (t := 16) Look.eq (Sub.cons (t := 17) Look.eq (Sub.cons (t := 18) Look.eq (Sub.nil _)))))) ?_
    refine KA.region rfl ?_
    refine KOps.add (by first | omega | (simp; omega)) (by first | omega | (simp; omega)) ?_
    refine KOps.move ?_
    refine KOps.done ?_
    simp only [List.set_cons_zero, List.set_cons_succ] at hS
    rw [keptL_succ (f := (ws.getD i default).f.toNat) (t := (ws.getD i default).t.toNat) (by omega) (by omega) (by omega) (by omega) (by omega)] at hS
    exact lpQ.normal (i + 1) (by repeat (first | exact Sub.nil _ | refine Sub.cons Look.eq ?_ | refine Sub.cons (Eq.trans Look.eq (congrArg (AV.int _) (by first | omega | (dsimp only; omega)))) ?_)) ⟨by omega, St.tail hS⟩ (by omega)
  · intro c19
    refine KA.exit ?_
    refine sqQ.exit ?_
    refine lpQ.exit ?_
    refine blQ.here ?_
    refine sqQ.normal ?_
    refine KA.sub (Sub.cons (t := 3) Look.eq (Sub.nil _)) ?_
    refine KA.seq ?_
    refine KA.region rfl ?_
    refine KOps.move ?_
    refine KOps.assign ?_
    refine KOps.done ?_
    refine sqQ.normal ?_
    refine KA.sub (Sub.cons (t := 2) Look.eq (Sub.nil _)) ?_
    refine KA.ret ?_
    refine fnQ.ret1 ?_
    have hie : i = ws.length := by omega
    subst hie
    exact hS

end Go.Am

namespace Go.Am
theorem same_no {a b : List Int} {i : Nat} (hi : i < a.length) (h : ¬ a.getD i 0 = b.getD i 0) : decide (a = b) = false := decide_eq_false fun e => h (by rw [e])
theorem same_yes {a b : List Int} (hl : a.length = b.length) (h : ∀ j, j < a.length → a.getD j 0 = b.getD j 0) : decide (a = b) = true := decide_eq_true (extJ hl fun i => by
  by_cases hi : i < a.length
  · exact h i hi
  · rw [List.getD_eq_getElem?_getD, List.getD_eq_getElem?_getD, List.getElem?_eq_none (by omega), List.getElem?_eq_none (by omega)])

theorem same_c {h : AHeap} {v u : AV} {a b : List Int} (hv : Row h v a) (hu : Row h u b) (hla : a.length ≤ 1000000) : ACalls Go.Proofs.Tryd.prog 22 [v, u] h (fun q h' => q = .bool (decide (a = b)) ∧ h = h') := by
  refine KA.fn 26 [.tmp 4] Go.Proofs.Tryd.func22 rfl (by decide) rfl rfl (Nat.le_of_ble_eq_true rfl) ?_
  show KA _ 26 _ _ [(0, v), (1, u)] _
  refine KA.seq ?_
  refine KA.region rfl ?_
  refine KOps.assign ?_
  refine KOps.done ?_
  refine sqQ.normal ?_
  refine KA.sub (Sub.cons (t := 0) Look.eq (Sub.cons (t := 1) Look.eq (Sub.nil _))) ?_
  refine KA.seq ?_
  refine KA.seq ?_
  refine KA.region rfl ?_
  refine KOps.move ?_
  refine KOps.lenI hv ?_
  refine KOps.move ?_
  refine KOps.lenI hu ?_
  refine KOps.neq ?_
  refine KOps.done ?_
  refine sqQ.normal ?_
  refine KA.sub (Sub.cons (t := 0) Look.eq (Sub.cons (t := 1) Look.eq (Sub.cons (t := 10) Look.eq (Sub.nil _)))) ?_
  refine KA.condN ?_ ?_
  · intro c10
    refine KA.seq ?_
    refine KA.region rfl ?_
    refine KOps.assign ?_
    refine KOps.done ?_
    refine sqQ.normal ?_
    refine KA.sub (Sub.cons (t := 4) Look.eq (Sub.nil _)) ?_
    refine KA.ret ?_
    refine sqQ.ret ?_
    refine fnQ.ret1 ?_
    refine ⟨congrArg AV.bool (decide_eq_false fun e => ?_).symm, rfl⟩
    subst e
    omega
  · intro c10
    have hlab : a.length = b.length := by omega
    refine KA.skip ?_
    refine sqQ.normal ?_
    refine KA.sub (Sub.cons (t := 0) Look.eq (Sub.cons (t := 1) Look.eq (Sub.nil _))) ?_
    refine KA.seq ?_
    refine KA.seq ?_
    refine KA.region rfl ?_
    refine KOps.assign ?_
    refine KOps.done ?_
    refine sqQ.normal ?_
    refine KA.block ?_
    refine KA.loop (X := Nat) (fun i => [(0, v), (1, u), (5, .int .i64 (i : Int))]) (fun i h' => h = h' ∧ i ≤ a.length ∧ ∀ j, j < i → a.getD j 0 = b.getD j 0) (fun i => a.length - i) 0 (by repeat (first | exact Sub.nil _ | refine Sub.cons Look.eq ?_ | refine Sub.cons (Eq.trans Look.eq (congrArg (AV.int _) (by first | omega | (dsimp only; omega)))) ?_)) ?_ ?_
    · exact ⟨rfl, Nat.zero_le _, fun j hj => by omega⟩
    rintro i _ ⟨rfl, hi, hj⟩
    refine KA.seq ?_
    refine KA.seq ?_
    refine KA.region rfl ?_
    refine KOps.move ?_
    refine KOps.move ?_
    refine KOps.lenI hv ?_
    refine KOps.lss ?_
    refine KOps.done ?_
    refine sqQ.normal ?_
    refine KA.sub (Sub.cons (t := 0) Look.eq (Sub.cons (t := 1) Look.eq (Sub.cons (t := 5) Look.eq (Sub.cons (t := 14) Look.eq (Sub.nil _))))) ?_
    refine KA.condD ?_ ?_
    · intro c14
      refine KA.skip ?_
      refine sqQ.normal ?_
      refine KA.sub (Sub.cons (t := 0) Look.eq (Sub.cons (t := 1) Look.eq (Sub.cons (t := 5) Look.eq (Sub.nil _)))) ?_
      refine KA.seq ?_
      refine KA.block ?_
      refine KA.seq ?_
      refine KA.draw [] mixed rfl (by kernel_rfl) ?_
      refine KOps.move ?_
      refine KOps.move ?_
      refine KOps.indexIJ hv (j := i) rfl (by first | omega | (simp; omega)) ?_
      intro p19 hp19
      refine KOps.loadI hp19 hv (by first | omega | (simp; omega)) ?_
      refine KOps.move ?_
      refine KOps.move ?_
      refine KOps.indexIJ hu (j := i) rfl (by first | omega | (simp; omega)) ?_
      intro p23 hp23
      refine KOps.loadI hp23 hu (by first | omega | (simp; omega)) ?_
      refine KOps.neq ?_
      refine KOps.done ?_
      refine sqQ.normal ?_
      refine KA.sub (Sub.cons (t := 0) Look.eq (Sub.cons (t := 1) Look.eq (Sub.cons (t := 5) Look.eq (Sub.cons (t := 25) Look.eq (Sub.nil _))))) ?_
      refine KA.condN ?_ ?_
      · intro c25
        refine KA.seq ?_
        refine KA.region rfl ?_
        refine KOps.assign ?_
        refine KOps.done ?_
        refine sqQ.normal ?_
        refine KA.sub (Sub.cons (t := 4) Look.eq (Sub.nil _)) ?_
        refine KA.ret ?_
        refine blQ.ret ?_
        refine sqQ.ret ?_
        refine lpQ.ret ?_
        refine blQ.ret ?_
        refine sqQ.ret ?_
        refine fnQ.ret1 ?_
        exact ⟨congrArg AV.bool (same_no (i := i) (by omega) (by omega)).symm, rfl⟩
      · intro c25
        refine KA.skip ?_
        refine blQ.normal ?_
        refine sqQ.normal ?_
        refine KA.sub (Sub.cons (t := 0) Look.eq (Sub.cons (t := 1) Look.eq (Sub.cons (t := 5) Look.eq (Sub.nil _)))) ?_
        refine KA.region rfl ?_
        refine KOps.move ?_
        refine KOps.add (by first | omega | (simp; omega)) (by first | omega | (simp; omega)) ?_
        refine KOps.assign ?_
        refine KOps.done ?_
        refine lpQ.normal (i + 1) (by repeat (first | exact Sub.nil _ | refine Sub.cons Look.eq ?_ | refine Sub.cons (Eq.trans Look.eq (congrArg (AV.int _) (by first | omega | (dsimp only; omega)))) ?_)) ⟨rfl, by omega, ?_⟩ (by omega)
        intro j hj2
        rcases Nat.lt_succ_iff_lt_or_eq.1 hj2 with h3 | rfl
        · exact hj j h3
        · omega
    · intro c14
      refine KA.exit ?_
      refine sqQ.exit ?_
      refine lpQ.exit ?_
      refine blQ.here ?_
      refine sqQ.normal ?_
      refine KA.sub (Sub.nil _) ?_
      refine KA.seq ?_
      refine KA.region rfl ?_
      refine KOps.assign ?_
      refine KOps.done ?_
      refine sqQ.normal ?_
      refine KA.ret ?_
      refine fnQ.ret1 ?_
      exact ⟨congrArg AV.bool (same_yes (by omega) (fun j h3 => hj j (by omega))).symm, rfl⟩

end Go.Am

namespace Go.Am

def withinB (ws : List W) (n : List Int) : Bool := (List.range ws.length).all fun i => decide ((ws.getD i default).l ≤ n.getD i 0 ∧ n.getD i 0 ≤ (ws.getD i default).m)
def zeroB (r : Nat) (ws : List W) (n : List Int) : Bool := (List.range r).all fun x : Nat => decide (kept ws n (x : Int) = 0)
/-- The error of a flow, or 0. -/
def verE (rm : Int) (ws : List W) (n : List Int) : Int :=
  if chkB rm ws ≠ 0 then chkB rm ws else if n.length ≠ ws.length then 5 else if withinB ws n = false then 1 else if zeroB rm.toNat ws n = false then 17 else 0
theorem withinB_iff {ws : List W} {n : List Int} : withinB ws n = true ↔ ∀ i, i < ws.length → (ws.getD i default).l ≤ n.getD i 0 ∧ n.getD i 0 ≤ (ws.getD i default).m := by
  unfold withinB
  rw [List.all_eq_true]
  exact ⟨fun h i hi => of_decide_eq_true (h i (List.mem_range.2 hi)), fun h i hi => decide_eq_true (h i (List.mem_range.1 hi))⟩
theorem withinB_no {ws : List W} {n : List Int} {i : Nat} (hi : i < ws.length) (h : ¬ ((ws.getD i default).l ≤ n.getD i 0 ∧ n.getD i 0 ≤ (ws.getD i default).m)) : withinB ws n = false := by
  cases hb : withinB ws n with
  | false => rfl
  | true => exact absurd (withinB_iff.1 hb i hi) h
theorem zeroB_iff {r : Nat} {ws : List W} {n : List Int} : zeroB r ws n = true ↔ ∀ x : Nat, x < r → kept ws n (x : Int) = 0 := by
  unfold zeroB
  rw [List.all_eq_true]
  exact ⟨fun h i hi => of_decide_eq_true (h i (List.mem_range.2 hi)), fun h i hi => decide_eq_true (h i (List.mem_range.1 hi))⟩
theorem zeroB_no {r : Nat} {ws : List W} {n : List Int} {x : Nat} (hx : x < r) (h : kept ws n (x : Int) ≠ 0) : zeroB r ws n = false := by
  cases hb : zeroB r ws n with
  | false => rfl
  | true => exact absurd (zeroB_iff.1 hb x hx) h
theorem verE_flow {rm : Int} {ws : List W} {n : List Int} (h : verE rm ws n = 0) : BOk rm ws ∧ Flow ws n := by
  unfold verE at h
  by_cases h1 : chkB rm ws = 0
  · have hB := BOk.of h1
    have h2 := hB.r2
    rw [if_neg (fun h2 => h2 h1)] at h
    by_cases h3 : n.length = ws.length
    · rw [if_neg (fun h2 => h2 h3)] at h
      cases h4 : withinB ws n with
      | false => rw [h4, if_pos rfl] at h; cases h
      | true =>
        rw [h4, if_neg (by decide)] at h
        cases h5 : zeroB rm.toNat ws n with
        | false => rw [h5, if_pos rfl] at h; cases h
        | true =>
          have hw := withinB_iff.1 h4
          refine ⟨hB, ⟨h3, fun i hi => (hw i hi).1, fun i hi => (hw i hi).2⟩, ?_⟩
          intro x
          by_cases hx : x < 0 ∨ rm ≤ x
          · exact kept_out hB.inR n hx _ (Nat.le_refl _)
          · have := zeroB_iff.1 h5 x.toNat (by omega)
            rwa [show ((x.toNat : Nat) : Int) = x by omega] at this
    · rw [if_pos h3] at h; cases h
  · rw [if_pos h1] at h; exact absurd h h1
end Go.Am
