/-
  The abstract machine: operations that look at no memory do as the model does.
  Conditions: none.
-/
import Derived.Test.YtenkokebdgekbaaAm2
namespace Go.Am

theorem szA_run {P : Program} {t : TypeId} {s : Nat} (h : szA P t = some s) (w : World) : (sizeOf t).run P w = .ok s w := by
  unfold szA at h
  cases hi : P.info? t with
  | none => rw [hi] at h; cases h
  | some i => rw [hi] at h; simp only [Option.map_some, Option.some.injEq] at h; simp [sizeOf, typeInfo, hi, h]

theorem elemA_und {P : Program} {t e : TypeId} (h : elemA P t = some e) : P.underlying t = some (.slice e) := by
  unfold elemA at h; split at h <;> simp_all
theorem arrA_und {P : Program} {t : TypeId} {p : Nat × TypeId} (h : arrA P t = some p) : P.underlying t = some (.array p.1 p.2) := by
  unfold arrA at h
  split at h
  · rename_i hu; cases h; exact hu
  · cases h
theorem intA_und {P : Program} {t : TypeId} {k : IntKind} (h : intA P t = some k) : P.underlying t = some (.int k) := by
  unfold intA at h; split at h <;> simp_all
theorem isBoolA_und {P : Program} {t : TypeId} (h : isBoolA P t = true) : P.underlying t = some .bool := by
  unfold isBoolA at h; split at h <;> simp_all
theorem isSliceA_und {P : Program} {t : TypeId} (h : isSliceA P t = true) : ∃ e, P.underlying t = some (.slice e) := by
  unfold isSliceA at h
  split at h
  · rename_i e hu; exact ⟨e, hu⟩
  · cases h
theorem isPtrA_und {P : Program} {t : TypeId} (h : isPtrA P t = true) : ∃ e, P.underlying t = some (.pointer e) := by
  unfold isPtrA at h
  split at h
  · rename_i e hu; exact ⟨e, hu⟩
  · cases h
theorem fieldsA_und {P : Program} {t : TypeId} {fs : Array Field} (h : fieldsA P t = some fs) : P.underlying t = some (.struct fs) := by
  unfold fieldsA at h; split at h <;> simp_all

theorem aint_run {P : Program} {op : BinOp} {k k' : IntKind} {t : TypeId} {a b : Int} {v : AV} (hk : op = .shl ∨ op = .shr ∨ k = k') (h : aint op k a b = some v) (w : World) (φ : Emb) :
    ∃ c, (binOp op t (.int k a) (.int k' b)).run P w = .ok c w ∧ VRel φ v c := by
  cases op <;> simp only [aint, Option.some.injEq] at h
  case shl =>
    split at h
    · rename_i hb; simp only [Option.some.injEq] at h; subst h
      exact ⟨_, by simp [binOp, Op.shift, show ¬ b < 0 by omega], .int _ _⟩
    · cases h
  case shr =>
    split at h
    · rename_i hb; simp only [Option.some.injEq] at h; subst h
      exact ⟨_, by simp [binOp, Op.shift, show ¬ b < 0 by omega], .int _ _⟩
    · cases h
  all_goals
    have hk' : k = k' := by simpa using hk
    subst hk'
  case quo =>
    split at h
    · cases h
    · simp only [Option.some.injEq] at h; subst h; exact ⟨_, by simp [binOp, Op.intDiv, *], .int _ _⟩
  case rem =>
    split at h
    · cases h
    · simp only [Option.some.injEq] at h; subst h; exact ⟨_, by simp [binOp, Op.intDiv, *], .int _ _⟩
  all_goals subst h
  case add => exact ⟨_, by simp [binOp, Op.intArith], .int _ _⟩
  case sub => exact ⟨_, by simp [binOp, Op.intArith], .int _ _⟩
  case mul => exact ⟨_, by simp [binOp, Op.intArith], .int _ _⟩
  case and => exact ⟨_, by rw [binOp_and, intBits_and]; rfl, .int _ _⟩
  case or => exact ⟨_, by rw [binOp_or, intBits_or]; rfl, .int _ _⟩
  case xor => exact ⟨_, by rw [binOp_xor, intBits_xor]; rfl, .int _ _⟩
  case andNot => exact ⟨_, by rw [binOp_andNot, intBits_andNot]; rfl, .int _ _⟩
  case eql => exact ⟨_, by rw [binOp_eql]; rfl, .bool _⟩
  case neq => exact ⟨_, by rw [binOp_neq]; rfl, .bool _⟩
  case lss => exact ⟨_, by rw [binOp_lss]; rfl, .bool _⟩
  case leq => exact ⟨_, by rw [binOp_leq]; rfl, .bool _⟩
  case gtr => exact ⟨_, by rw [binOp_gtr]; rfl, .bool _⟩
  case geq => exact ⟨_, by rw [binOp_geq]; rfl, .bool _⟩

theorem eqIn_nils {P : Program} {t e : TypeId} (d : Nat) (h : P.underlying t = some (.slice e)) (b : Option Addr) (n c : Nat) (w : World) : (Op.equalIn (d + 1) t (.slice b n c) (.slice none 0 0)).run P w = .ok b.isNone w := by
  cases b <;> simp [Op.equalIn, run_underlying h]
theorem eqIn_nilp {P : Program} {t e : TypeId} (d : Nat) (h : P.underlying t = some (.pointer e)) (b : Option Addr) (w : World) : (Op.equalIn (d + 1) t (.pointer b) (.pointer none)).run P w = .ok b.isNone w := by
  cases b <;> simp [Op.equalIn, run_underlying h]
theorem eq_nils {P : Program} {t e : TypeId} (h : P.underlying t = some (.slice e)) (b : Option Addr) (n c : Nat) (w : World) : (Op.equal t (.slice b n c) (.slice none 0 0)).run P w = .ok b.isNone w := eqIn_nils 9999 h b n c w
theorem eq_nilp {P : Program} {t e : TypeId} (h : P.underlying t = some (.pointer e)) (b : Option Addr) (w : World) : (Op.equal t (.pointer b) (.pointer none)).run P w = .ok b.isNone w := eqIn_nilp 9999 h b w
theorem bin_nils_eql {P : Program} {t e : TypeId} (h : P.underlying t = some (.slice e)) (b : Option Addr) (n c : Nat) (w : World) : (binOp .eql t (.slice b n c) (.slice none 0 0)).run P w = .ok (.bool b.isNone) w := by
  show (do pure (Value.bool (← Op.equal t (.slice b n c) (.slice none 0 0))) : Sem Value).run P w = _
  simp [eq_nils h]
theorem bin_nils_neq {P : Program} {t e : TypeId} (h : P.underlying t = some (.slice e)) (b : Option Addr) (n c : Nat) (w : World) : (binOp .neq t (.slice b n c) (.slice none 0 0)).run P w = .ok (.bool !b.isNone) w := by
  show (do pure (Value.bool (!(← Op.equal t (.slice b n c) (.slice none 0 0)))) : Sem Value).run P w = _
  simp [eq_nils h]
theorem bin_nilp_eql {P : Program} {t e : TypeId} (h : P.underlying t = some (.pointer e)) (b : Option Addr) (w : World) : (binOp .eql t (.pointer b) (.pointer none)).run P w = .ok (.bool b.isNone) w := by
  have : binOp .eql t (.pointer b) (.pointer none) = (do pure (Value.bool (← Op.equal t (.pointer b) (.pointer none))) : Sem Value) := by cases b <;> rfl
  rw [this]; simp [eq_nilp h]
theorem bin_nilp_neq {P : Program} {t e : TypeId} (h : P.underlying t = some (.pointer e)) (b : Option Addr) (w : World) : (binOp .neq t (.pointer b) (.pointer none)).run P w = .ok (.bool !b.isNone) w := by
  have : binOp .neq t (.pointer b) (.pointer none) = (do pure (Value.bool (!(← Op.equal t (.pointer b) (.pointer none)))) : Sem Value) := by cases b <;> rfl
  rw [this]; simp [eq_nilp h]

theorem abin_run {P : Program} {op : BinOp} {t : TypeId} {x y v : AV} {cx cy : Value} (φ : Emb) (hx : VRel φ x cx) (hy : VRel φ y cy) (h : abin P op t x y = some v) (ox oy : Operand) (w : World) :
    ∃ c, (do eqGuard op t ox oy cx cy; binOp op t cx cy : Sem Value).run P w = .ok c w ∧ VRel φ v c := by
  have hg : eqGuard op t ox oy cx cy = pure () := by
    cases hx <;> first
      | (simp only [eqGuard_at_bool, eqGuard_at_int, eqGuard_at_string, eqGuard_at_pointer, eqGuard_at_slice, eqGuard_at_map, eqGuard_at_func, eqGuard_at_nilFunc, eqGuard_at_tuple]; done)
      | (simp [abin] at h)
  rw [hg]
  show ∃ c, (binOp op t cx cy).run P w = .ok c w ∧ VRel φ v c
  unfold abin at h
  split at h
  · cases hx; cases hy
    split at h
    · rename_i hk; exact aint_run hk h w φ
    · cases h
  · cases hx; cases hy
    split at h
    · rename_i hb
      have hu := isBoolA_und hb
      cases op <;> simp only [Option.some.injEq, reduceCtorEq] at h
      · subst h; exact ⟨_, run_eql_bool w t _ _ hu, .bool _⟩
      · subst h; exact ⟨_, run_neq_bool w t _ _ hu, .bool _⟩
    · cases h
  · cases hx; cases hy
    cases op <;> simp only [Option.some.injEq, reduceCtorEq] at h
    · subst h; exact ⟨_, by simp [binOp, Op.stringOp], .bool _⟩
    · subst h; exact ⟨_, by simp [binOp, Op.stringOp], .bool _⟩
  · cases hx; cases hy
    split at h
    · rename_i hb
      obtain ⟨e, hu⟩ := isSliceA_und hb
      cases op <;> simp only [Option.some.injEq, reduceCtorEq] at h
      · subst h; exact ⟨_, bin_nils_eql hu _ _ _ w, .bool _⟩
      · subst h; exact ⟨_, bin_nils_neq hu _ _ _ w, .bool _⟩
    · cases h
  · cases hx; cases hy
    split at h
    · rename_i hb
      obtain ⟨e, hu⟩ := isSliceA_und hb
      cases op <;> simp only [Option.some.injEq, reduceCtorEq] at h
      · subst h; exact ⟨_, bin_nils_eql hu _ _ _ w, .bool _⟩
      · subst h; exact ⟨_, bin_nils_neq hu _ _ _ w, .bool _⟩
    · cases h
  · cases hx; cases hy
    split at h
    · rename_i hb
      obtain ⟨e, hu⟩ := isPtrA_und hb
      cases op <;> simp only [Option.some.injEq, reduceCtorEq] at h
      · subst h; exact ⟨_, bin_nilp_eql hu _ w, .bool _⟩
      · subst h; exact ⟨_, bin_nilp_neq hu _ w, .bool _⟩
    · cases h
  · cases hx; cases hy
    split at h
    · rename_i hb
      obtain ⟨e, hu⟩ := isPtrA_und hb
      cases op <;> simp only [Option.some.injEq, reduceCtorEq] at h
      · subst h; exact ⟨_, bin_nilp_eql hu _ w, .bool _⟩
      · subst h; exact ⟨_, bin_nilp_neq hu _ w, .bool _⟩
    · cases h
  · cases h

theorem aun_run {P : Program} {op : UnOp} {x v : AV} {cx : Value} (φ : Emb) (hx : VRel φ x cx) (h : aun op x = some v) (w : World) : ∃ c, (Op.unary op cx).run P w = .ok c w ∧ VRel φ v c := by
  unfold aun at h
  split at h
  · cases hx
    cases op <;> simp only [Option.some.injEq, reduceCtorEq] at h
    subst h; exact ⟨_, rfl, .bool _⟩
  · cases hx
    cases op <;> simp only [Option.some.injEq, reduceCtorEq] at h
    · subst h; exact ⟨_, rfl, .int _ _⟩
    · subst h; exact ⟨_, rfl, .int _ _⟩
  · cases h

theorem abounds_rel {φ : Emb} {v : AV} {c : Value} {i : Int} (hv : VRel φ v c) (h : aboundsI v = some i) : ∃ k, c = .int k i := by
  unfold aboundsI at h
  split at h
  · cases hv; cases h; exact ⟨_, rfl⟩
  · cases h

theorem sliceBound_run {P : Program} {φ : Emb} {v : AV} {c : Value} {i : Int} {y : Nat} {code : BoundsCode} (hv : VRel φ v c) (h : aboundsI v = some i) (h0 : 0 ≤ i) (hy : i ≤ y) (w : World) :
    (Instr.sliceBound c y code).run P w = .ok i.toNat w := by
  obtain ⟨k, rfl⟩ := abounds_rel hv h
  simp [Instr.sliceBound, asIntOf, h0, hy]

theorem sliceBounds_run {P : Program} {φ : Emb} {lo hi mx : Option Operand} {ρ : Operand → AV} {ev : Operand → Value} {n c : Nat} {l h : Nat} {m : Option Nat} (isS : Bool)
    (hr : ∀ x, lo = some x ∨ hi = some x ∨ mx = some x → VRel φ (ρ x) (ev x)) (hn : n ≤ c) (hb : aslice3 n (lo.map ρ) (hi.map ρ) (mx.map ρ) = some (l, h, m)) (w : World) :
    (Instr.sliceBounds isS n c (lo.map ev) (hi.map ev) (mx.map ev)).run P w = .ok (l, h, m.getD c) w ∧ l ≤ h ∧ h ≤ n ∧ h ≤ m.getD c ∧ m.getD c ≤ c := by
  unfold aslice3 at hb
  cases mx with
  | none =>
    simp only [Option.map_none, Option.bind_eq_bind, Option.bind_some, Option.getD_none, Option.isSome_none, Bool.false_eq_true, if_false] at hb
    cases hi with
    | none =>
      cases lo with
      | none =>
        simp only [Option.map_none, Option.bind_some, Option.some.injEq, Prod.mk.injEq] at hb
        obtain ⟨rfl, rfl, rfl⟩ := hb
        simp [Instr.sliceBounds, hn]
      | some x =>
        simp only [Option.map_none, Option.map_some, Option.bind_some] at hb
        cases hi : aboundsI (ρ x) with
        | none => rw [hi] at hb; simp at hb
        | some i =>
          rw [hi] at hb
          simp only [Option.bind_some] at hb
          split at hb
          · rename_i hc
            simp only [Option.bind_some, Option.some.injEq, Prod.mk.injEq] at hb
            obtain ⟨rfl, rfl, rfl⟩ := hb
            have := sliceBound_run (P := P) (code := .sliceB) (hr x (.inl rfl)) hi hc.1 hc.2 w
            simp [Instr.sliceBounds, this]
            omega
          · simp at hb
    | some y =>
      simp only [Option.map_some, Option.bind_some] at hb
      cases hi : aboundsI (ρ y) with
      | none => rw [hi] at hb; simp at hb
      | some j =>
        rw [hi] at hb
        simp only [Option.bind_some] at hb
        split at hb
        · rename_i hc
          have hS := fun code => sliceBound_run (P := P) (code := code) (y := c) (hr y (.inr (.inl rfl))) hi hc.1 (by omega) w
          cases lo with
          | none =>
            simp only [Option.map_none, Option.bind_some, Option.some.injEq, Prod.mk.injEq] at hb
            obtain ⟨rfl, rfl, rfl⟩ := hb
            simp [Instr.sliceBounds, hS]
            omega
          | some x =>
            simp only [Option.map_some, Option.bind_some] at hb
            cases hi2 : aboundsI (ρ x) with
            | none => rw [hi2] at hb; simp at hb
            | some i =>
              rw [hi2] at hb
              simp only [Option.bind_some] at hb
              split at hb
              · rename_i hc2
                simp only [Option.bind_some, Option.some.injEq, Prod.mk.injEq] at hb
                obtain ⟨rfl, rfl, rfl⟩ := hb
                have := sliceBound_run (P := P) (code := .sliceB) (hr x (.inl rfl)) hi2 hc2.1 hc2.2 w
                simp [Instr.sliceBounds, hS, this]
                omega
              · simp at hb
        · simp at hb
  | some z =>
    simp only [Option.map_some, Option.bind_eq_bind] at hb
    cases hm : aboundsI (ρ z) with
    | none => rw [hm] at hb; simp at hb
    | some q =>
      rw [hm] at hb
      simp only [Option.bind_some] at hb
      split at hb
      · rename_i hcm
        have hM := fun code => sliceBound_run (P := P) (code := code) (y := c) (hr z (.inr (.inr rfl))) hm hcm.1 (by omega) w
        simp only [Option.bind_some, Option.getD_some, Option.isSome_some, if_true] at hb
        cases hi with
        | none => simp at hb
        | some y =>
          simp only [Option.map_some] at hb
          cases hi : aboundsI (ρ y) with
          | none => rw [hi] at hb; simp at hb
          | some j =>
            rw [hi] at hb
            simp only [Option.bind_some] at hb
            split at hb
            · rename_i hc
              have hS := fun code => sliceBound_run (P := P) (code := code) (y := q.toNat) (hr y (.inr (.inl rfl))) hi hc.1 (by omega) w
              cases lo with
              | none =>
                simp only [Option.map_none, Option.bind_some, Option.some.injEq, Prod.mk.injEq] at hb
                obtain ⟨rfl, rfl, rfl⟩ := hb
                simp [Instr.sliceBounds, hS, hM]
                omega
              | some x =>
                simp only [Option.map_some, Option.bind_some] at hb
                cases hi2 : aboundsI (ρ x) with
                | none => rw [hi2] at hb; simp at hb
                | some i =>
                  rw [hi2] at hb
                  simp only [Option.bind_some] at hb
                  split at hb
                  · rename_i hc2
                    simp only [Option.bind_some, Option.some.injEq, Prod.mk.injEq] at hb
                    obtain ⟨rfl, rfl, rfl⟩ := hb
                    have := sliceBound_run (P := P) (code := .slice3C) (hr x (.inl rfl)) hi2 hc2.1 hc2.2 w
                    simp [Instr.sliceBounds, hS, hM, this]
                    omega
                  · simp at hb
            · simp at hb
      · simp at hb

end Go.Am
