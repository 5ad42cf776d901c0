/-
  The abstract machine: steps by class; regions in the order of the text; code.
  Conditions: none.
-/
import Derived.Test.YtenkokebdgekbaaAm8
namespace Go.Am

theorem acopy_step {P : Program} {ρ : Operand → AV} {o : Oper} {h h' : AHeap} {v : AV} {t : TypeId} {x y : Operand} (ho : o.op = .call { callee := .builtin .copy, args := #[x, y], argTypes := #[t, t] })
    (hs : acopy P h t (ρ x) (ρ y) = some (v, h')) : StepS P ρ o h v h' := by
  simp only [acopy, Option.bind_eq_bind, Option.bind_eq_some_iff] at hs
  obtain ⟨e, he, s, hsz, ⟨n, olds⟩, hxo, ⟨m, news⟩, hyo, hs⟩ := hs
  have hu := elemA_und he
  have hexec : ∀ (a : Act) (w : World), (execOp a.eval o).run P w = ((Builtin.copy_ #[t, t] o.type #[a.eval x, a.eval y]).run P w).andThen fun c w' => .ok (.value c) w' := by
    intro a w
    simp [execOp, ho, resolve, invoke, builtin]
  have hopx : x ∈ o.op.operands := by simp [ho, Op.operands, Call.operands]
  have hopy : y ∈ o.op.operands := by simp [ho, Op.operands, Call.operands]
  split at hs
  · rename_i hm
    dsimp only at hm
    cases hs
    refine ⟨HGrow.refl h, ?_⟩
    intro φ a w K Q _ r hops hk
    obtain ⟨cs1, hr1, hl1, hd1⟩ := acells_rel r (hops x hopx) hxo
    obtain ⟨cs2, hr2, hl2, hd2⟩ := acells_rel r (hops y hopy) hyo
    refine wp_of_run (c := .int .i64 0) (w' := w) ?_ (hk φ _ _ (Trans.refl φ h w) r (.int _ _))
    rw [hexec]
    have hm' : m.min n = 0 := hm
    rcases hd1 with ⟨hx, hn⟩ | ⟨a1, c1, hx, hn, _⟩ <;> rcases hd2 with ⟨hy, hn2⟩ | ⟨a2, c2, hy, _⟩
    · simp [hx, hy, Builtin.copy_, run_underlying hu, szA_run hsz, Builtin.lenOf, Builtin.firstCells, goInt]
    · simp [hx, hy, Builtin.copy_, run_underlying hu, szA_run hsz, Builtin.lenOf, Builtin.firstCells, goInt, loadCells, loadCellsFrom]
    · simp [hx, hy, Builtin.copy_, run_underlying hu, szA_run hsz, Builtin.lenOf, Builtin.firstCells, goInt, storeCells]
    · simp [hx, hy, Builtin.copy_, run_underlying hu, szA_run hsz, Builtin.lenOf, Builtin.firstCells, goInt, loadCells, loadCellsFrom, storeCells, hm']
  · rename_i hm
    dsimp only at hm
    split at hs
    · rename_i hone
      split at hs
      · rename_i b o' n' s' full hρx
        have hns : n' = n ∧ s' = s ∧ (n ≠ 0 → h.valid b = true) := by rw [hρx] at hxo; have := acells_slc hxo; exact ⟨this.1.symm, this.2.1, fun h0 => this.2.2.2 (by rw [← this.1]; exact h0)⟩
        obtain ⟨rfl, rfl, hval⟩ := hns
        split at hs
        · rename_i F p cs hg
          simp only [Option.bind_eq_some_iff] at hs
          obtain ⟨f, hf, hs⟩ := hs
          split at hs
          · rename_i hfit
            cases hs
            have hmn : min m n' ≠ 0 := hm
            have hnl : news.length = m * s' := by
              cases hyo' : ρ y with
              | slc b2 o2 n2 s2 f2 => rw [hyo'] at hyo; have := acells_slc hyo; rw [this.2.2.1, this.1]
              | nils => rw [hyo'] at hyo; simp [acells] at hyo; obtain ⟨rfl, rfl⟩ := hyo; simp
              | _ => rw [hyo'] at hyo; simp [acells] at hyo
            have htl : (news.take (min m n' * s')).length = min m n' * s' := by
              rw [List.length_take, hnl]
              exact Nat.min_eq_left (Nat.mul_le_mul_right _ (Nat.min_le_left _ _))
            refine ⟨HGrow.store hg (by rw [htl]; exact hfit), ?_⟩
            intro φ a w K Q hfr r hops hk
            obtain ⟨cs2, hr2, hl2, hd2⟩ := acells_rel r (hops y hopy) hyo
            have hvx := hops x hopx
            rw [hρx] at hvx
            obtain ⟨a1, c1, hx, hn, hadr⟩ : ∃ a1 c1, a.eval x = .slice (some a1) n' c1 ∧ n' ≤ c1 ∧ (c1 = 0 ∨ ∃ k i z, φ b = some (k, i, z) ∧ a1 = ⟨k, i + o', none⟩ ∧ i + o' + c1 * s' ≤ z) := by
              generalize a.eval x = cx at hvx
              cases hvx with | slc _ _ _ _ _ a c hn hc hf hadr => exact ⟨a, c, rfl, hn, hadr⟩
            rcases hadr with hadr | ⟨k, i, z, hb, ha1, hfz⟩
            · omega
            rcases hd2 with ⟨_, h0⟩ | ⟨a2, c2, hy, _, _, hcell⟩
            · omega
            have hrt : VRels φ (news.take (min m n' * s')) (cs2.take (min m n' * s')) := by
              refine ⟨by rw [List.length_take, List.length_take, hr2.1], ?_⟩
              intro j q u hq hu'
              rw [List.getElem?_take] at hq hu'
              split at hq
              · rename_i hj; rw [if_pos hj] at hu'; exact hr2.2 j q u hq hu'
              · cases hq
            have hct : (cs2.take (min m n' * s')).length = min m n' * s' := by rw [← hrt.1, htl]
            obtain ⟨c, e', h1, hfit', r', tr⟩ := r.store hb hg (hval (by omega)) hf (o := o') (by rw [htl]; exact hfit) hrt
            refine wp_of_run (c := .int .i64 (min m n' : Nat)) ?_ (hk φ _ _ tr r' (.int _ _))
            rw [hexec, hx, hy]
            have hload := run_firstCells_some (P := P) w s' (min m n') a2 m c2 (cs2.take (min m n' * s')) hct (by
              intro j u hu'
              rw [List.getElem?_take] at hu'
              split at hu'
              · exact hcell j u hu'
              · cases hu')
            have hst := run_storeCells_at P k (i + o') e' (cs2.take (min m n' * s')) 0 c w h1 (by simpa using hfit') (hrt.all_one (by
              rw [List.all_eq_true] at hone ⊢
              intro q hq
              exact hone q (List.mem_of_mem_take hq)))
            simp only [Nat.add_zero] at hst
            have hmin : m.min n' = min m n' := rfl
            simp only [Builtin.copy_, List.getElem?_toArray, List.getElem?_cons_zero, List.getElem?_cons_succ, Sem.run_bind, run_underlying hu, Result.andThen_ok, Builtin.lenOf, Sem.run_pure, szA_run hsz, hmin, hload, ha1, hst, goInt, putL]
          · cases hs
        · cases hs
      · cases hs
    · cases hs

theorem achain_step {P : Program} {kill : Bool} {ρ : Operand → AV} {o : Oper} {h h' : AHeap} {v : AV} (hs : achain P kill h ρ o.op = some (v, h')) : StepS P ρ o h v h' := by
  unfold achain at hs
  split at hs
  · rename_i t x y ho
    exact astore_step ho hs
  · rename_i args tys ho
    split at hs
    · rename_i x y t t' hx ht
      split at hs
      · rename_i htt
        subst htt
        have hax : args = #[x, y] := by apply Array.ext'; simpa using hx
        have hat : tys = #[t, t] := by apply Array.ext'; simpa using ht
        subst hax hat
        exact aappend_step ho hs
      · have hax : args = #[x, y] := by apply Array.ext'; simpa using hx
        have hat : tys = #[t, t'] := by apply Array.ext'; simpa using ht
        subst hax hat
        exact aappendZ_step ho hs
    · cases hs
  · rename_i args tys ho
    split at hs
    · rename_i x y t t' hx ht
      split at hs
      · rename_i htt
        subst htt
        have hax : args = #[x, y] := by apply Array.ext'; simpa using hx
        have hat : tys = #[t, t] := by apply Array.ext'; simpa using ht
        subst hax hat
        exact acopy_step ho hs
      · cases hs
    · cases hs
  · cases hs

/-- How an operation touches memory. -/
inductive Cls where
  | pure | read | allo | chain
  deriving DecidableEq

def clsOf : Op → Cls
  | .load _ _ | .slice _ _ _ _ _ => .read
  | .box _ _ | .alloc _ | .buildSlice _ _ _ | .makeSlice _ _ _ => .allo
  | .store _ _ _ => .chain
  | .call { callee := .builtin .len, .. } | .call { callee := .builtin .cap, .. } | .call { callee := .builtin .max, .. } | .call { callee := .builtin .min, .. } => .pure
  | .call _ => .chain
  | .move _ | .assign _ | .pick _ _ _ | .nilCheck _ | .binOp _ _ _ _ _ | .unOp _ _ _ | .convert _ _ _ | .makeFunc _ _ _ | .fieldAddr _ _ _ | .field _ _ _ | .indexAddr _ _ _ | .index _ _ _ | .extract _ _ => .pure
  | _ => .chain

/-- What a reading operation gives. -/
def areadR (P : Program) (h : AHeap) (ρ : Operand → AV) (op : Op) : Option AV :=
  match op with
  | .load t x => aload P h t (ρ x)
  | .slice t x lo hi mx => match ρ x with
    | .ptr b o => asliceP P h t (.ptr b o) (lo.map ρ) (hi.map ρ) (mx.map ρ)
    | x' => aslice P t x' (lo.map ρ) (hi.map ρ) (mx.map ρ)
  | _ => none

theorem areadR_sound {P : Program} {φ : Emb} {h : AHeap} {w : World} {ρ : Operand → AV} {ev : Operand → Value} {o : Oper} {v : AV} (r : HRel φ h w) (hr : ∀ x ∈ o.op.operands, VRel φ (ρ x) (ev x)) (hl : areadR P h ρ o.op = some v) :
    ∃ c, (execOp ev o).run P w = .ok (.value c) w ∧ VRel φ v c := by
  unfold areadR at hl
  split at hl
  · rename_i t x ho
    exact aread_sound (h := h) r hr (by rw [ho]; exact hl)
  · rename_i t x lo hi mx ho
    split at hl
    · rename_i b off hρ
      exact aread_sound (h := h) r hr (by rw [ho]; simp only [aread, hρ]; exact hl)
    · exact apure_sound (w := w) hr (by rw [ho]; exact hl)
  · cases hl

/-- One step of the abstract machine. -/
def SemStep (P : Program) (ρ : Operand → AV) (o : Oper) (h : AHeap) (v : AV) (h' : AHeap) : Prop :=
  match clsOf o.op with
  | .pure => apure P ρ o.op = some v ∧ h' = h
  | .read => areadR P h ρ o.op = some v ∧ h' = h
  | .allo => ∃ mk cs, aallo P ρ o.op = some (mk, cs) ∧ v = mk.val h.next ∧ h' = h.alloc cs
  | .chain => StepS P ρ o h v h'

theorem SemStep.stepS {P : Program} {ρ : Operand → AV} {o : Oper} {h h' : AHeap} {v : AV} (hs : SemStep P ρ o h v h') : StepS P ρ o h v h' := by
  unfold SemStep at hs
  split at hs
  · obtain ⟨hs, rfl⟩ := hs
    refine ⟨HGrow.refl _, ?_⟩
    intro φ a w K Q _ r hops hk
    obtain ⟨c, hc, hv⟩ := apure_sound (ev := a.eval) hops hs w
    exact wp_of_run hc (hk φ c w (Trans.refl _ _ _) r hv)
  · obtain ⟨hs, rfl⟩ := hs
    refine ⟨HGrow.refl _, ?_⟩
    intro φ a w K Q _ r hops hk
    obtain ⟨c, hc, hv⟩ := areadR_sound (ev := a.eval) r hops hs
    exact wp_of_run hc (hk φ c w (Trans.refl _ _ _) r hv)
  · obtain ⟨mk, cs, hs, rfl, rfl⟩ := hs
    refine ⟨HGrow.alloc _ _, ?_⟩
    intro φ a w K Q hfr r hops hk
    obtain ⟨c, e, v, hrun, hlen, hcells, hval⟩ := aallo_sound (ev := a.eval) (w := w) hops hs
    have hφ : φ h.next = none := hfr h.next (Nat.le_refl _) (by rw [AHeap.next_alloc]; omega)
    obtain ⟨r', tr⟩ := r.alloc hφ cs c e hlen hcells
    exact wp_of_run hrun (hk _ _ _ tr r' (hval _ _ (Emb.upd_same _ _ _)))
  · exact hs

/-- Frames. -/
def setF (fr : List AV) (dst : Option Tmp) (v : AV) : List AV := match dst with | some d => fr.set d v | none => fr

def FRel (φ : Emb) (fr : List AV) (a : Act) : Prop := a.defers = [] ∧ fr.length = a.tmps.size ∧ ∀ (t : Nat) (x : AV) (v : Value), fr[t]? = some x → a.tmps[t]? = some v → VRel φ x v

theorem FRel.mono {φ φ' : Emb} (hle : φ.le φ') {fr : List AV} {a : Act} (h : FRel φ fr a) : FRel φ' fr a := ⟨h.1, h.2.1, fun t x v hx hv => (h.2.2 t x v hx hv).mono hle⟩

theorem FRel.get {φ : Emb} {fr : List AV} {a : Act} (h : FRel φ fr a) (t : Nat) : VRel φ (fr.getD t .bot) (a.tmps.getD t undef) := by
  by_cases ht : t < fr.length
  · have ht' : t < a.tmps.size := by rw [← h.2.1]; exact ht
    have := h.2.2 t fr[t] a.tmps[t] (List.getElem?_eq_getElem ht) (Array.getElem?_eq_getElem ht')
    rw [List.getD_eq_getElem?_getD, List.getElem?_eq_getElem ht, Array.getD_eq_getD_getElem?, Array.getElem?_eq_getElem ht']
    exact this
  · rw [List.getD_eq_getElem?_getD, List.getElem?_eq_none (by omega)]
    exact .bot _

theorem evalA_rel {φ : Emb} {h : AHeap} {w : World} {fr : List AV} {a : Act} (r : HRel φ h w) (hf : FRel φ fr a) (x : Operand) : VRel φ (evalA h.globs fr x) (a.eval x) := by
  cases x with
  | tmp t => exact hf.get t
  | const v => exact AV.of_rel φ 4 v
  | global g =>
    simp only [evalA, Act.eval]
    split
    · rename_i hg
      obtain ⟨z, hz⟩ := r.glob g (by simpa using hg)
      exact .ptr g 0 g 0 z hz
    · exact .bot _
  | func f => exact .fn f [] [] rfl (by simp)

theorem FRel.put {φ : Emb} {fr : List AV} {a : Act} (h : FRel φ fr a) (dst : Option Tmp) {x : AV} {v : Value} (hv : VRel φ x v) : FRel φ (setF fr dst x) (a.put dst v) := by
  cases dst with
  | none => exact h
  | some d =>
    refine ⟨h.1, by simp [setF, Act.put, h.2.1], ?_⟩
    intro t y u hy hu
    simp only [setF, Act.put] at hy hu
    rw [List.getElem?_set] at hy
    rw [Array.getElem?_setIfInBounds] at hu
    by_cases htd : d = t
    · subst htd
      simp only [if_true] at hy hu
      split at hy
      · rename_i hl
        rw [if_pos (by rw [← h.2.1]; exact hl)] at hu
        cases hy; cases hu; exact hv
      · cases hy
    · rw [if_neg htd] at hy hu
      exact h.2.2 t y u hy hu

/-- What an operation under a guard looks at. -/
def guardA (ops : Array Oper) (fr : List AV) (j : Nat) : Option (Option Bool) :=
  match (ops[j]?).bind (·.dst) with
  | some d => match fr.getD d .bot with | .bool b => some (some b) | .tup _ => some none | _ => none
  | none => none

theorem yielded_of {φ : Emb} {ops : Array Oper} {tmps : Array Value} {j d : Nat} {x : AV} (hd : (ops[j]?).bind (·.dst) = some d) (hx : VRel φ x (tmps.getD d undef)) :
    (∀ b, x = .bool b → d < tmps.size → yielded ops tmps j = some b) ∧ (∀ l, x = .tup l → yielded ops tmps j = none) := by
  refine ⟨?_, ?_⟩
  · rintro b rfl hlt
    rw [Array.getD_eq_getD_getElem?, Array.getElem?_eq_getElem hlt] at hx
    simp only [Option.getD_some] at hx
    unfold yielded
    rw [hd]
    simp only [Option.bind_some, Array.getElem?_eq_getElem hlt]
    generalize tmps[d] = u at hx
    cases hx
    rfl
  · rintro l rfl
    unfold yielded
    rw [hd]
    simp only [Option.bind_some]
    by_cases hlt : d < tmps.size
    · rw [Array.getD_eq_getD_getElem?, Array.getElem?_eq_getElem hlt] at hx
      simp only [Option.getD_some] at hx
      rw [Array.getElem?_eq_getElem hlt]
      generalize tmps[d] = u at hx
      cases hx
      rfl
    · rw [Array.getElem?_eq_none (by omega)]

theorem guardA_rel {φ : Emb} {ops : Array Oper} {fr : List AV} {a : Act} (hf : FRel φ fr a) {j : Nat} {y : Option Bool} (h : guardA ops fr j = some y) : yielded ops a.tmps j = y := by
  unfold guardA at h
  split at h
  · rename_i d hd
    have hg := hf.get d
    split at h
    · rename_i b' hb
      cases h
      refine (yielded_of hd hg).1 _ hb ?_
      rw [← hf.2.1]
      apply Nat.lt_of_not_le
      intro hle
      rw [List.getD_eq_getElem?_getD, List.getElem?_eq_none hle] at hb
      cases hb
    · rename_i l hb
      cases h
      exact (yielded_of hd hg).2 _ hb
    · cases h
  · cases h

end Go.Am
