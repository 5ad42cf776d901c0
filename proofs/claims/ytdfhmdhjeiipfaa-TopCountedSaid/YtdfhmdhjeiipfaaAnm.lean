/-
  The abstract machine: an interpreter of more: maps, walks along strings, scopes, results in cells, and calls beside loads.
  Conditions: none.
-/
import Derived.Test.YtdfhmdhjeiipfaaAmW
import Derived.Defers
import Derived.Lib.SliceRun
import Derived.Lib.ConvBytes
import Derived.Laws.BytesString
namespace Go.Am

/-- Values, compared. -/
def AV.eqF : Nat → AV → AV → Bool
  | _, .bot, .bot => true
  | _, .bool a, .bool b => a == b
  | _, .int k a, .int k' b => decide (k = k') && decide (a = b)
  | _, .str a, .str b => decide (a = b)
  | _, .ptr b o, .ptr b' o' => decide (b = b') && decide (o = o')
  | _, .nilp, .nilp => true
  | _, .slc b o n s f, .slc b' o' n' s' f' => decide (b = b') && (decide (o = o') && (decide (n = n') && (decide (s = s') && f == f')))
  | _, .nils, .nils => true
  | _, .mp b, .mp b' => decide (b = b')
  | _, .it b, .it b' => decide (b = b')
  | _, .nilm, .nilm => true
  | _, .nilf, .nilf => true
  | n + 1, .fn f l, .fn f' l' => decide (f = f') && (decide (l.length = l'.length) && (l.zip l').all fun p => AV.eqF n p.1 p.2)
  | n + 1, .agg l, .agg l' => decide (l.length = l'.length) && (l.zip l').all fun p => AV.eqF n p.1 p.2
  | n + 1, .tup l, .tup l' => decide (l.length = l'.length) && (l.zip l').all fun p => AV.eqF n p.1 p.2
  | _, _, _ => false
theorem AV.eqF_eq : ∀ (n : Nat) (x y : AV), AV.eqF n x y = true → x = y := by
  intro n
  induction n with
  | zero =>
    intro x y h
    cases x <;> cases y <;> simp only [AV.eqF, Bool.false_eq_true, Bool.and_eq_true, decide_eq_true_eq, beq_iff_eq] at h <;> simp_all
  | succ n ih =>
    intro x y h
    cases x <;> cases y <;> simp only [AV.eqF, Bool.false_eq_true, Bool.and_eq_true, decide_eq_true_eq, beq_iff_eq] at h <;> first
      | rfl
      | (rw [h]; done)
      | (rw [h.1, h.2]; done)
      | (rw [h.1, h.2.1, h.2.2.1, h.2.2.2.1, h.2.2.2.2]; done)
      | (rw [h.1, isPs_eq ih _ _ h.2.1 h.2.2]; done)
      | (rw [isPs_eq ih _ _ h.1 h.2]; done)
def Thing.eqF : Thing → Thing → Bool
  | .map es, .map es' => decide (es.length = es'.length) && (es.zip es').all fun p => AV.eqF 4 p.1.1 p.2.1 && AV.eqF 4 p.1.2 p.2.2
  | .walk s p, .walk s' p' => decide (s = s') && decide (p = p')
  | .gone, .gone => true
  | _, _ => false
theorem Thing.eqF_eq {x y : Thing} (h : Thing.eqF x y = true) : x = y := by
  cases x <;> cases y <;> simp only [Thing.eqF, Bool.false_eq_true, Bool.and_eq_true, decide_eq_true_eq] at h
  · rename_i es es'
    congr 1
    revert es'
    induction es with
    | nil => intro es' h; cases es' with
      | nil => rfl
      | cons _ _ => cases h.1
    | cons a es ih => intro es' h; cases es' with
      | nil => cases h.1
      | cons b es' =>
        obtain ⟨h1, h2⟩ := h
        rw [List.zip_cons_cons, List.all_cons, Bool.and_eq_true, Bool.and_eq_true] at h2
        have e1 : a.1 = b.1 := AV.eqF_eq 4 _ _ h2.1.1
        have e2 : a.2 = b.2 := AV.eqF_eq 4 _ _ h2.1.2
        rw [show a = b from Prod.ext e1 e2, ih es' ⟨Nat.succ.inj h1, h2.2⟩]
  · rw [h.1, h.2]
  · rfl
def Blk.eqF : Blk → Blk → Bool
  | .cells F p cs, .cells F' p' cs' => decide (F = F') && (decide (p = p') && (decide (cs.length = cs'.length) && (cs.zip cs').all fun q => AV.eqF 4 q.1 q.2))
  | .obj F x, .obj F' x' => decide (F = F') && Thing.eqF x x'
  | _, _ => false
theorem Blk.eqF_eq {x y : Blk} (h : Blk.eqF x y = true) : x = y := by
  cases x <;> cases y <;> simp only [Blk.eqF, Bool.false_eq_true, Bool.and_eq_true, decide_eq_true_eq] at h
  · rw [h.1, h.2.1, isPs_eq (AV.eqF_eq 4) _ _ h.2.2.1 h.2.2.2]
  · rw [h.1, Thing.eqF_eq h.2]
/-- Does a heap hold all of another? -/
noncomputable def heapExt (h h' : AHeap) : Bool := (List.range h.next).all fun b => (match getR h b, getR h' b with | some x, some y => Blk.eqF x y | _, _ => false) && validR h b == validR h' b
theorem heapExt_sound {h h' : AHeap} (hx : heapExt h h' = true) : HExt h h' := by
  have key : ∀ b, b < h.next → h'.get b = h.get b ∧ h'.valid b = h.valid b := by
    intro b hb
    have := List.all_eq_true.1 hx b (List.mem_range.2 hb)
    rw [Bool.and_eq_true, beq_iff_eq, validR_eq, validR_eq, getR_eq, getR_eq] at this
    obtain ⟨h1, h2⟩ := this
    split at h1
    · rename_i x y e1 e2
      rw [e1, e2, Blk.eqF_eq h1]
      exact ⟨rfl, h2.symm⟩
    · cases h1
  refine ⟨?_, fun b hb => (key b hb).1, fun b hb => (key b hb).2⟩
  cases hn : h.next with
  | zero => exact Nat.zero_le _
  | succ n =>
    have hlt : n < h.blks.length := by have : h.next = h.blks.length := rfl; omega
    have h1 := (key n (by omega)).1
    have h2 : h.get n = some h.blks[n] := List.getElem?_eq_getElem hlt
    rw [h2] at h1
    exact AHeap.get_lt h1
/-- What an interface holds, as a type that is none. -/
def atype (P : Program) (t : TypeId) (x : AV) : Option AV := if concA P t = true then (match x with
  | .ifc d y => if d = t then some (.tup [y, .bool true]) else (zeroA P t).map fun z => .tup [z, .bool false]
  | .nili => (zeroA P t).map fun z => .tup [z, .bool false]
  | _ => none) else none
theorem typeAssert_step {P : Program} {ρ : Operand → AV} {o : Oper} {h : AHeap} {v : AV} {x : Operand} {xt t : TypeId} (ho : o.op = .typeAssert x xt t true) (hs : atype P t (ρ x) = some v) : StepS P ρ o h v h := by
  refine ⟨HGrow.refl h, ?_⟩
  intro φ a w K Q _ r hops hk
  have hx := hops x (by simp [ho, Op.operands])
  have hz : ∀ z, zeroA P t = some z → ∃ c, (zeroValue t).run P w = .ok c w ∧ VRel φ z c := by
    intro z hz
    obtain ⟨i, zv, hzi, hzv, hzr⟩ := zeroA_info hz
    exact ⟨zv, by simp [zeroValue, typeInfo, hzi, hzv], hzr φ⟩
  have hfin : ∀ c, (Instr.typeAssert (a.eval x) xt t true).run P w = .ok c w → VRel φ v c → o.wp P a w K Q := fun c hc hv =>
    wp_of_run (c := c) (w' := w) (by simp [execOp, ho, hc]) (hk φ _ _ (Trans.refl φ h w) r hv)
  unfold atype at hs
  split at hs
  · rename_i hcc
    unfold concA at hcc
    split at hcc
    · cases hcc
    · rename_i d hne hd
      split at hs
      · rename_i e y hρ
        rw [hρ] at hx
        generalize hex : a.eval x = cx at hx hfin
        cases hx with | ifc _ _ c hy =>
        split at hs
        · rename_i het
          cases hs
          subst het
          refine hfin _ ?_ (vrel_pair hy true)
          simp only [Instr.typeAssert, Sem.run_bind, run_underlying hd, Result.andThen_ok]
          cases d <;> first | (simp; done) | exact absurd rfl (hne _)
        · rename_i het
          obtain ⟨z, hz1, rfl⟩ := Option.map_eq_some_iff.1 hs
          obtain ⟨c0, hc0, hv0⟩ := hz z hz1
          refine hfin _ ?_ (vrel_pair hv0 false)
          simp only [Instr.typeAssert, Sem.run_bind, run_underlying hd, Result.andThen_ok]
          cases d <;> first | (simp [het, hc0]; done) | exact absurd rfl (hne _)
      · rename_i hρ
        rw [hρ] at hx
        generalize hex : a.eval x = cx at hx hfin
        cases hx
        obtain ⟨z, hz1, rfl⟩ := Option.map_eq_some_iff.1 hs
        obtain ⟨c0, hc0, hv0⟩ := hz z hz1
        refine hfin _ ?_ (vrel_pair hv0 false)
        simp only [Instr.typeAssert, Sem.run_bind, run_underlying hd, Result.andThen_ok]
        cases d <;> first | (simp [hc0]; done) | exact absurd rfl (hne _)
      · cases hs
    · cases hcc
  · cases hs
/-- A step that reads or changes memory. -/
noncomputable def axchain (P : Program) (kill : Bool) (h : AHeap) (ρ : Operand → AV) (op : Op) : Option (AV × AHeap) :=
  match op with
  | .makeMap _ none => some (.mp h.next, h.allocT (.map []))
  | .lookup t x ix ok => match alook P h t (ρ x) (ρ ix) ok with | some v => some (v, h) | none => none
  | .mapUpdate t x ix y => match aput P h t (ρ x) (ρ ix) (ρ y) with | some h' => some (.tup [], h') | none => none
  | .insert t x ix y => match aput P h t (ρ x) (ρ ix) (ρ y) with | some h' => some (.tup [], h') | none => none
  | .range t x => match ρ x with | .str s => if isStrA P t = true then some (.it h.next, h.allocT (.walk s 0)) else none | _ => none
  | .next x true => match ρ x with
    | .it b => match getR h b with
      | some (.obj F (.walk s pos)) => if pos < s.size then some (.tup [.bool true, .int .i64 pos, .int .i32 (Utf8.decode s pos).1], h.set b (.obj F (.walk s (pos + (Utf8.decode s pos).2)))) else some (.tup [.bool false], h)
      | _ => none
    | _ => none
  | .typeAssert x _ t true => match atype P t (ρ x) with | some v => some (v, h) | none => none
  | op => achainR P kill h ρ op
theorem axchain_step {P : Program} {kill : Bool} {ρ : Operand → AV} {o : Oper} {h h' : AHeap} {v : AV} (hs : axchain P kill h ρ o.op = some (v, h')) : StepS P ρ o h v h' := by
  unfold axchain at hs
  split at hs
  · rename_i ho; cases hs; exact makeMap_step ho
  · rename_i ho
    split at hs
    · rename_i hl; cases hs; exact lookup_step ho hl
    · cases hs
  · rename_i ho
    split at hs
    · rename_i hl; cases hs; exact mapUpdate_step ho hl
    · cases hs
  · rename_i ho
    split at hs
    · rename_i hl; cases hs; exact insert_step ho hl
    · cases hs
  · rename_i ho
    split at hs
    · rename_i hx
      split at hs
      · rename_i ht; cases hs; exact range_step ho ht hx
      · cases hs
    · cases hs
  · rename_i ho
    split at hs
    · rename_i hx
      split at hs
      · rename_i hg
        rw [getR_eq] at hg
        split at hs
        · rename_i hlt; cases hs; exact next_step ho hx hg hlt
        · rename_i hlt; cases hs; exact next_over ho hx hg (by omega)
      · cases hs
    · cases hs
  · rename_i ho
    split at hs
    · rename_i hl; cases hs; exact typeAssert_step ho hl
    · cases hs
  · rw [achainR_eq] at hs; exact achain_step hs
def touchedX (h : AHeap) (ρ : Operand → AV) (op : Op) : Nat := match op with
  | .mapUpdate _ x _ _ => match ρ x with | .mp b => b | _ => 0
  | .insert _ x _ _ => match ρ x with | .mp b => b | _ => 0
  | .next x _ => match ρ x with | .it b => b | _ => 0
  | op => touched h ρ op
/-- One operation. -/
noncomputable def astepX (P : Program) (kill tx : Bool) (call : FuncId → List AV → AHeap → Option (AV × AHeap)) (h : AHeap) (ρ : Operand → AV) (o : Oper) : Option (AV × AHeap) :=
  match clsOf o.op with
  | .pure => match apure P ρ o.op with
    | some v => some (v, h)
    | none => if tx = true then (match o.op with
      | .makeFunc (.func f) first cap => some (.fnm f (first.toList.map ρ) (cap.toList.map ρ), h)
      | .call { callee := .builtin .len, args, argTypes } => match args.toList, argTypes.toList with
        | [x], [t] => match mapA P t, ents h (ρ x) with | some _, some es => some (.int .i64 es.length, h) | _, _ => none
        | _, _ => none
      | _ => none) else none
  | .read => match areadB P h ρ o.op with
    | some v => some (v, h)
    | none => match o.op with
      | .lookup t x ix ok => match alook P h t (ρ x) (ρ ix) ok with | some v => some (v, h) | none => none
      | _ => none
  | .allo => match aallo P ρ o.op with | some (mk, cs) => seqHeapR (h.alloc cs) h.next fun h' => some (mk.val h.next, h') | none => none
  | .chain => match o.op with
    | .call { callee := .value g, args, .. } => match ρ g with
      | .fn f caps => call f (args.toList.map ρ ++ caps) h
      | .fnm f first caps => call f (first ++ args.toList.map ρ ++ caps) h
      | _ => none
    | op => match axchain P kill h ρ op with
      | some (v, h') => seqHeapR h' (touchedX h ρ op) fun h' => some (v, h')
      | none => none
theorem astepX_step {P : Program} {kill tx : Bool} {call : FuncId → List AV → AHeap → Option (AV × AHeap)} (hc : ∀ f args h r h', call f args h = some (r, h') → Ev P f args h r h') {h h' : AHeap} {ρ : Operand → AV} {o : Oper} {v : AV}
    (hs : astepX P kill tx call h ρ o = some (v, h')) : SemStep P ρ o h v h' ∨ (tx = true ∧ StepS P ρ o h v h') := by
  unfold astepX at hs
  split at hs
  · rename_i hcl
    split at hs
    · rename_i hp; cases hs; left; unfold SemStep; rw [hcl]; exact ⟨hp, rfl⟩
    · split at hs
      · rename_i htx
        right
        refine ⟨htx, ?_⟩
        split at hs
        · rename_i ho; cases hs; exact makeMeth_step ho
        · rename_i args tys ho
          split at hs
          · rename_i x t hx ht
            split at hs
            · rename_i p es hm he
              cases hs
              have hax : args = #[x] := by apply Array.ext'; simpa using hx
              have hat : tys = #[t] := by apply Array.ext'; simpa using ht
              subst hax hat
              exact mapLen_step ho hm he
            · cases hs
          · cases hs
        · cases hs
      · cases hs
  · rename_i hcl
    split at hs
    · rename_i hp; cases hs; left; rw [areadB_eq] at hp; unfold SemStep; rw [hcl]; exact ⟨ReadS.of hp, rfl⟩
    · split at hs
      · rename_i ho
        split at hs
        · rename_i hl; cases hs; left; unfold SemStep; rw [hcl]; exact ⟨lookup_read ho hl, rfl⟩
        · cases hs
      · cases hs
  · rename_i hcl
    split at hs
    · rename_i hp; rw [seqHeapR_eq] at hs; cases hs; left; unfold SemStep; rw [hcl]; exact ⟨_, _, hp, rfl, rfl⟩
    · cases hs
  · rename_i hcl
    left
    split at hs
    · rename_i g args tys ho
      split at hs
      · rename_i f caps hg
        exact Ev.step ho hg (hc _ _ _ _ _ hs)
      · rename_i f first caps hg
        exact Ev.stepM ho hg (hc _ _ _ _ _ hs)
      · cases hs
    · split at hs
      · rename_i hp
        rw [seqHeapR_eq] at hs; cases hs
        unfold SemStep; rw [hcl]
        exact axchain_step hp
      · cases hs
theorem astepX_call {P : Program} {kill tx : Bool} {c1 c2 : FuncId → List AV → AHeap → Option (AV × AHeap)} (hc : ∀ f args h r h', c1 f args h = some (r, h') → c2 f args h = some (r, h')) {h h' : AHeap} {ρ : Operand → AV} {o : Oper} {v : AV}
    (hs : astepX P kill tx c1 h ρ o = some (v, h')) : astepX P kill tx c2 h ρ o = some (v, h') := by
  unfold astepX at hs ⊢
  split at hs
  · exact hs
  · exact hs
  · exact hs
  · split at hs
    · split at hs
      · exact hc _ _ _ _ _ hs
      · exact hc _ _ _ _ _ hs
      · cases hs
    · exact hs
/-- Calls of a region. -/
def isVCall (o : Oper) : Bool := match o.op with | .call { callee := .value _, .. } => true | _ => false
def callsOf (l : List Oper) : List Nat := (l.zipIdx.filter fun p => isVCall p.1).map (·.2)
def exTest (exs : List Nat) (kill : Bool) (k : Nat) (o : Oper) : Bool := exs.contains k && !(isApp o && !kill)
def isTx (exs : List Nat) : Bool := match exs with | [x] => Nat.beq x 1000000 | _ => false
theorem isTx_eq {exs : List Nat} (h : isTx exs = true) : exs = TXT := by
  unfold isTx at h
  split at h
  · rw [Nat.eq_of_beq_eq_true h]
  · cases h

noncomputable def aopsX (P : Program) (kill : Bool) (call : FuncId → List AV → AHeap → Option (AV × AHeap)) (ops : Array Oper) (exs : List Nat) : Nat → List Oper → List AV → AHeap → Option (List AV × AHeap)
  | _, [], fr, h => some (fr, h)
  | k, o :: os, fr, h =>
    match (match o.guard with | none => some true | some (j, want) => (guardA ops fr j).map (· == some want)) with
    | some true => match astepX P kill (isTx exs) call h (evalA h.globs fr) o with
      | some (v, h') => if (!exTest exs kill k o || heapExt h h') = true then putS fr o.dst v fun fr' => aopsX P kill call ops exs (k + 1) os fr' h' else none
      | none => none
    | some false => putS fr o.dst (.tup []) fun fr' => aopsX P kill call ops exs (k + 1) os fr' h
    | none => none

theorem aopsX_sound {P : Program} {kill : Bool} {call : FuncId → List AV → AHeap → Option (AV × AHeap)} (hc : ∀ f args h r h', call f args h = some (r, h') → Ev P f args h r h') {ops : Array Oper} {exs : List Nat} {fr' : List AV} {h' : AHeap} :
    ∀ (l : List Oper) (k : Nat) (fr : List AV) (h : AHeap), aopsX P kill call ops exs k l fr h = some (fr', h') → AOps P ops exs (fun f1 h1 => f1 = fr' ∧ h1 = h') k l fr h := by
  intro l
  induction l with
  | nil => intro k fr h hs; cases hs; exact ⟨rfl, rfl⟩
  | cons o os ih =>
    intro k fr h hs
    have hgo : ∀ v h1, astepX P kill (isTx exs) call h (evalA h.globs fr) o = some (v, h1) → (!exTest exs kill k o || heapExt h h1) = true → aopsX P kill call ops exs (k + 1) os (setF fr o.dst v) h1 = some (fr', h') →
        ∃ v h1, (SemStep P (evalA h.globs fr) o h v h1 ∨ (exs = TXT ∧ StepS P (evalA h.globs fr) o h v h1)) ∧ (exs.contains k = true → WFH h → HExt h h1) ∧ AOps P ops exs (fun f1 h1 => f1 = fr' ∧ h1 = h') (k + 1) os (setF fr o.dst v) h1 := by
      intro v h1 hst htest hrest
      refine ⟨v, h1, (astepX_step hc hst).imp id (fun q => ⟨isTx_eq q.1, q.2⟩), ?_, ih (k + 1) _ h1 hrest⟩
      intro hk wf
      rw [Bool.or_eq_true] at htest
      rcases htest with ht | ht
      · simp only [exTest, hk, Bool.true_and, Bool.not_not, Bool.and_eq_true, Bool.not_eq_true'] at ht
        obtain ⟨happ, hkill⟩ := ht
        subst hkill
        unfold isApp at happ
        split at happ
        · rename_i args tys hop
          simp only [astepX, hop, clsOf, axchain, achainR_eq, achain] at hst
          split at hst
          · rename_i hp
            split at hp
            · split at hp
              · rw [seqHeapR_eq] at hst; cases hst
                exact aappend_ext wf hp
              · rw [seqHeapR_eq] at hst; cases hst
                exact aappendZ_ext wf hp
            · cases hp
          · cases hst
        · cases happ
      · exact heapExt_sound ht
    unfold aopsX at hs
    unfold AOps
    have hgo2 : (match astepX P kill (isTx exs) call h (evalA h.globs fr) o with
        | some (v, h') => if (!exTest exs kill k o || heapExt h h') = true then putS fr o.dst v fun fr' => aopsX P kill call ops exs (k + 1) os fr' h' else none
        | none => none) = some (fr', h') → ∃ v h1, (SemStep P (evalA h.globs fr) o h v h1 ∨ (exs = TXT ∧ StepS P (evalA h.globs fr) o h v h1)) ∧ (exs.contains k = true → WFH h → HExt h h1) ∧ AOps P ops exs (fun f1 h1 => f1 = fr' ∧ h1 = h') (k + 1) os (setF fr o.dst v) h1 := by
      intro hs
      split at hs
      · rename_i v h1 hst
        split at hs
        · rename_i ht
          rw [putS_eq] at hs
          exact hgo v h1 hst ht hs
        · cases hs
      · cases hs
    cases hg : o.guard with
    | none =>
      simp only [hg] at hs ⊢
      exact hgo2 hs
    | some jw =>
      obtain ⟨j, want⟩ := jw
      simp only [hg] at hs ⊢
      cases hga : guardA ops fr j with
      | none => rw [hga] at hs; simp at hs
      | some b =>
        rw [hga] at hs
        simp only [Option.map_some] at hs
        refine ⟨b, rfl, ?_, ?_⟩
        · intro hbw
          have : (b == some want) = true := by simp [hbw]
          rw [this] at hs
          exact hgo2 hs
        · intro hbw
          have : (b == some want) = false := by simp [hbw]
          rw [this] at hs
          simp only at hs
          rw [putS_eq] at hs
          exact ih (k + 1) _ h hs
theorem aopsX_length {P : Program} {kill : Bool} {call : FuncId → List AV → AHeap → Option (AV × AHeap)} {ops : Array Oper} {exs : List Nat} {fr' : List AV} {h' : AHeap} : ∀ (l : List Oper) (k : Nat) (fr : List AV) (h : AHeap), aopsX P kill call ops exs k l fr h = some (fr', h') → fr'.length = fr.length := by
  have hset : ∀ (fr : List AV) (d : Option Tmp) (v : AV), (setF fr d v).length = fr.length := by intro fr d v; cases d <;> simp [setF]
  intro l
  induction l with
  | nil => intro k fr h hs; cases hs; rfl
  | cons o os ih =>
    intro k fr h hs
    unfold aopsX at hs
    split at hs
    · split at hs
      · split at hs
        · rw [putS_eq] at hs; rw [ih _ _ _ hs, hset]
        · cases hs
      · cases hs
    · rw [putS_eq] at hs; rw [ih _ _ _ hs, hset]
    · cases hs

/-- A load that may come behind a store: the places are other ones (to be seen in the run). -/
def pairOkX (sz : Nat) (l : List Oper) (exs : List Nat) (c r : Nat) : Bool := Nat.blt r c && (Nat.ble (c + 1) l.length && (rgOk sz l exs [(c, r)] && (match l[r]? with
  | some o => (match o.op, o.dst with
    | .load _ (.tmp a), some d => Nat.blt d sz && ((List.range' r (c + 1 - r)).all fun j => match l[j]? with | some oj => oj.dst != some a && (j == r || oj.dst != some d) | none => true)
    | _, _ => false)
  | none => false)))
def candB (l : List Oper) (p : Nat × Nat) : Bool := (match l[p.1]? with | some o => isChain o | none => false) && (match l[p.2]? with | some o => (match o.op with | .load _ _ => true | _ => false) | none => false)
def pairOf (sz : Nat) (l : List Oper) (exs : List Nat) : Option (Nat × Nat) := ((List.range l.length).flatMap fun c => (List.range c).map fun r => (c, r)).find? fun p => candB l p && pairOkX sz l exs p.1 p.2
/-- How a region whose order is open is run: what is tested, and which load is read again behind which operation. -/
def planOf (sz : Nat) (l : List Oper) : List Nat × Option (Nat × Nat) :=
  if rgOk sz l (appsOf l) = true then (appsOf l, none) else match pairOf sz l (appsOf l) with
    | some p => (appsOf l, some p)
    | none => match pairOf sz l [] with
      | some p => ([], some p)
      | none => if rgOk sz l (appsOf l ++ callsOf l) = true then (appsOf l ++ callsOf l, none) else (appsOf l, none)
def planOk (sz : Nat) (l : List Oper) : Bool := match planOf sz l with | (exs, none) => rgOk sz l exs | (exs, some p) => pairOkX sz l exs p.1 p.2
noncomputable def reload (P : Program) (l : List Oper) (r : Nat) (ρ : Nat → AV) (h : AHeap) : Bool := match l[r]? with
  | some o => (match o.op, o.dst with
    | .load t (.tmp a), some d => (match aload P h t (ρ a) with | some v => AV.eqF 4 v (ρ d) | none => false)
    | _, _ => false)
  | none => false
noncomputable def regX (P : Program) (call : FuncId → List AV → AHeap → Option (AV × AHeap)) (ops : Array Oper) (sz : Nat) (draw : Bool) (fr : List AV) (h : AHeap) : Option (List AV × AHeap) :=
  if draw = true then (match planOf sz ops.toList with
    | (exs, none) => aopsX P false call ops exs 0 ops.toList fr h
    | (exs, some p) => match aopsX P (exs.isEmpty) call ops exs 0 (ops.toList.take (p.1 + 1)) fr h with
      | some (fr1, h1) => if reload P ops.toList p.2 (fun t => fr1.getD t .bot) h1 = true then aopsX P (exs.isEmpty) call ops exs (p.1 + 1) (ops.toList.drop (p.1 + 1)) fr1 h1 else none
      | none => none)
  else aopsX P true call ops TXT 0 ops.toList fr h
theorem regX_sound {P : Program} (hm : P.follows .mixedOrders = true) {call : FuncId → List AV → AHeap → Option (AV × AHeap)} (hc : ∀ f args h r h', call f args h = some (r, h') → Ev P f args h r h') {id sz : Nat} {ops : Array Oper} {draw : Bool} {fr fr' : List AV} {h h' : AHeap}
    (hok : draw = true → planOk sz ops.toList = true) (hsz : fr.length = sz) (hr : regX P call ops sz draw fr h = some (fr', h')) : fr'.length = sz ∧ AW P (.region id ops draw) (fun e1 f1 h1 => e1 = .normal ∧ f1 = fr' ∧ h1 = h') fr h := by
  unfold regX at hr
  cases draw with
  | false =>
    rw [if_neg (by decide)] at hr
    refine ⟨(aopsX_length _ _ _ _ hr).trans hsz, ?_⟩
    have := aopsX_sound hc (exs := TXT) ops.toList 0 fr h hr
    refine AW.region (ex := TXT) rfl ?_
    refine aops_mono ?_ _ _ _ _ this
    rintro f2 h2 ⟨rfl, rfl⟩
    exact ⟨rfl, rfl, rfl⟩
  | true =>
    have hok := hok rfl
    rw [if_pos rfl] at hr
    unfold planOk at hok
    split at hr
    · rename_i exs hp
      rw [hp] at hok
      refine ⟨(aopsX_length _ _ _ _ hr).trans hsz, ?_⟩
      have := aopsX_sound hc ops.toList 0 fr h hr
      refine AW.region_draw hm rfl (rgOk_sound rfl hok) hsz ?_
      refine aops_mono ?_ _ _ _ _ this
      rintro f2 h2 ⟨rfl, rfl⟩
      exact ⟨rfl, rfl, rfl⟩
    · rename_i exs p hp
      rw [hp] at hok
      simp only at hok
      split at hr
      · rename_i fr1 h1 ha
        split at hr
        · rename_i hre
          have l1 := aopsX_length _ _ _ _ ha
          have l2 := aopsX_length _ _ _ _ hr
          refine ⟨by omega, ?_⟩
          obtain ⟨c, r⟩ := p
          simp only at ha hr hre hok
          unfold pairOkX at hok
          simp only [Bool.and_eq_true] at hok
          obtain ⟨hrc, hlen, hrg, hm2⟩ := hok
          have hrc : r < c := by simpa using hrc
          have hlen : c + 1 ≤ ops.toList.length := by simpa using hlen
          split at hm2
          · rename_i o hro
            split at hm2
            · rename_i t a d hop hod
              simp only [Bool.and_eq_true] at hm2
              obtain ⟨hdz, hno⟩ := hm2
              have hdz : d < sz := by simpa using hdz
              have hrl : aload P h1 t (fr1.getD a .bot) = some (fr1.getD d .bot) := by
                unfold reload at hre
                simp only [hro, hop, hod] at hre
                split at hre
                · rename_i v hv
                  rw [hv, AV.eqF_eq 4 _ _ hre]
                · cases hre
              have hs1 := aopsX_sound hc (ops := ops) (ops.toList.take (c + 1)) 0 fr h ha
              have hs2 := aopsX_sound hc (ops := ops) (ops.toList.drop (c + 1)) (c + 1) fr1 h1 hr
              refine AW.region_drawS (c := c) (r := r) (t := t) (a := a) (d := d) hm (List.take_append_drop (c + 1) ops.toList).symm (by rw [List.length_take]; omega) (rgOk_sound rfl hrg) hsz hrc (o := o) (by rw [← Array.getElem?_toList]; exact hro) hop hod hdz ?_ ?_
              · intro j oj h1 h2 hj
                have := List.all_eq_true.1 hno j (List.mem_range'_1.2 ⟨h1, by omega⟩)
                rw [← Array.getElem?_toList] at hj
                simp only [hj, Bool.and_eq_true, bne_iff_ne, Bool.or_eq_true, beq_iff_eq] at this
                exact ⟨this.1, fun h3 => this.2.resolve_left (by omega)⟩
              · refine aops_mono ?_ _ _ _ _ hs1
                rintro f2 h2 ⟨rfl, rfl⟩
                refine ⟨hrl, aops_mono ?_ _ _ _ _ hs2⟩
                rintro f3 h3 ⟨rfl, rfl⟩
                exact ⟨rfl, rfl, rfl⟩
            · cases hm2
          · cases hm2
        · cases hr
      · cases hr

def codeOkX (sz : Nat) : Code → Bool
  | .seq a b => codeOkX sz a && codeOkX sz b
  | .cond _ a b => codeOkX sz a && codeOkX sz b
  | .block _ b => codeOkX sz b
  | .loop b => codeOkX sz b
  | .scope b => codeOkX sz b
  | .region _ ops true => planOk sz ops.toList
  | _ => true
def resultX (P : Program) (h : AHeap) (fr : List AV) (rs : List ResultVar) : Option AV := (resAH P h fr rs).map resV

noncomputable def acallX (P : Program) (ok : FuncId → Bool) (run : Nat → Code → List AV → AHeap → Option (Ex × List AV × AHeap)) (f : FuncId) (args : List AV) (h : AHeap) : Option (AV × AHeap) :=
  if ok f then
    match P.funcs[f]? with
    | some fn => match fn.body with
      | some c => if args.length ≤ fn.ntmps then
          match run fn.ntmps c (mkFr args fn.ntmps) h with
          | some (.normal, fr, h') => (resultX P h' fr fn.results.toList).map fun x => (x, h')
          | some (.ret, fr, h') => (resultX P h' fr fn.results.toList).map fun x => (x, h')
          | _ => none
        else none
      | none => none
    | none => none
  else none

/-- Calls whose outcome is known from elsewhere come first. -/
abbrev Orc := FuncId → List AV → AHeap → Option (AV × AHeap)
def noOrc : Orc := fun _ _ _ => none
def orE (orc : Orc) (call : FuncId → List AV → AHeap → Option (AV × AHeap)) (f : FuncId) (args : List AV) (h : AHeap) : Option (AV × AHeap) := match orc f args h with
  | some r => some r
  | none => call f args h
def OrcOk (P : Program) (orc : Orc) : Prop := ∀ f args h r h', orc f args h = some (r, h') → Ev P f args h r h'
theorem noOrc_ok {P : Program} : OrcOk P noOrc := fun _ _ _ _ _ h => by cases h
theorem orE_ev {P : Program} {orc : Orc} {call : FuncId → List AV → AHeap → Option (AV × AHeap)} (ho : OrcOk P orc) (hc : ∀ f args h r h', call f args h = some (r, h') → Ev P f args h r h') : ∀ f args h r h', orE orc call f args h = some (r, h') → Ev P f args h r h' := by
  intro f args h r h' he
  unfold orE at he
  split at he
  · rename_i q hq
    cases he
    exact ho _ _ _ _ _ hq
  · exact hc _ _ _ _ _ he
theorem orE_mono {orc : Orc} {c1 c2 : FuncId → List AV → AHeap → Option (AV × AHeap)} (hc : ∀ f args h r h', c1 f args h = some (r, h') → c2 f args h = some (r, h')) : ∀ f args h r h', orE orc c1 f args h = some (r, h') → orE orc c2 f args h = some (r, h') := by
  intro f args h r h' he
  unfold orE at he ⊢
  split at he
  · exact he
  · exact hc _ _ _ _ _ he
noncomputable def arunX (P : Program) (orc : Orc) (ok : FuncId → Bool) : Nat → Nat → Code → List AV → AHeap → Option (Ex × List AV × AHeap)
  | 0, _, _, _, _ => none
  | n + 1, sz, c, fr, h => match c with
    | .skip => some (.normal, fr, h)
    | .label _ => some (.normal, fr, h)
    | .ret => some (.ret, fr, h)
    | .exit id => some (.exit id, fr, h)
    | .seq a b => match arunX P orc ok n sz a fr h with
      | some (.normal, fr', h') => arunX P orc ok n sz b fr' h'
      | r => r
    | .cond c a b => match evalA h.globs fr c with
      | .bool true => arunX P orc ok n sz a fr h
      | .bool false => arunX P orc ok n sz b fr h
      | _ => none
    | .block id b => match arunX P orc ok n sz b fr h with
      | some (.exit id', fr', h') => if id' = id then some (.normal, fr', h') else some (.exit id', fr', h')
      | r => r
    | .loop b => match arunX P orc ok n sz b fr h with
      | some (.normal, fr', h') => arunX P orc ok n sz (.loop b) fr' h'
      | r => r
    | .scope b => arunX P orc ok n sz b fr h
    | .region _ ops draw => match regX P (orE orc (acallX P ok (arunX P orc ok n))) ops sz draw fr h with
      | some (fr', h') => some (.normal, fr', h')
      | none => none
    | _ => none

def okFnX (P : Program) (f : FuncId) : Bool := match P.funcs[f]? with
  | some fn => !(fn.name == "runtime.NumGoroutine") && (match fn.body with | some c => codeOkX fn.ntmps c | none => false)
  | none => false

theorem arunX_sound {P : Program} {orc : Orc} {ok : FuncId → Bool} (horc : OrcOk P orc) (hm : P.follows .mixedOrders = true) (hok : ∀ f, ok f = true → okFnX P f = true) :
    ∀ (n : Nat) (c : Code) (fr : List AV) (h : AHeap) (e : Ex) (fr' : List AV) (h' : AHeap) (sz : Nat), codeOkX sz c = true → fr.length = sz → arunX P orc ok n sz c fr h = some (e, fr', h') →
      fr'.length = sz ∧ AW P c (fun e1 f1 h1 => e1 = e ∧ f1 = fr' ∧ h1 = h') fr h := by
  intro n
  induction n using Nat.strongRecOn with
  | _ n ih =>
    intro c fr h e fr' h' sz hco hsz hr
    cases n with
    | zero => cases hr
    | succ n =>
      have ihn := ih n (by omega)
      unfold arunX at hr
      cases c with
      | skip => cases hr; exact ⟨hsz, AW.skip ⟨rfl, rfl, rfl⟩⟩
      | label l => cases hr; exact ⟨hsz, AW.label ⟨rfl, rfl, rfl⟩⟩
      | ret => cases hr; exact ⟨hsz, AW.ret ⟨rfl, rfl, rfl⟩⟩
      | exit id => cases hr; exact ⟨hsz, AW.exit ⟨rfl, rfl, rfl⟩⟩
      | goto l => cases hr
      | scope b =>
        simp only [codeOkX] at hco
        obtain ⟨l1, w1⟩ := ihn b fr h e fr' h' sz hco hsz hr
        exact ⟨l1, AW.scope w1⟩
      | refuse w => cases hr
      | rangeFunc f p a b => cases hr
      | seq a b =>
        simp only [codeOkX, Bool.and_eq_true] at hco
        simp only at hr
        cases ha : arunX P orc ok n sz a fr h with
        | none => rw [ha] at hr; cases hr
        | some r =>
          obtain ⟨e1, f1, h1⟩ := r
          obtain ⟨l1, w1⟩ := ihn a fr h e1 f1 h1 sz hco.1 hsz ha
          rw [ha] at hr
          cases e1 with
          | normal =>
            obtain ⟨l2, w2⟩ := ihn b f1 h1 e fr' h' sz hco.2 l1 hr
            refine ⟨l2, AW.seq (w1.mono ?_)⟩
            rintro e2 f2 h2 ⟨rfl, rfl, rfl⟩
            exact w2
          | ret =>
            cases hr
            refine ⟨l1, AW.seq (w1.mono ?_)⟩
            rintro e2 f2 h2 ⟨rfl, rfl, rfl⟩
            exact ⟨rfl, rfl, rfl⟩
          | exit id =>
            cases hr
            refine ⟨l1, AW.seq (w1.mono ?_)⟩
            rintro e2 f2 h2 ⟨rfl, rfl, rfl⟩
            exact ⟨rfl, rfl, rfl⟩
      | cond x a b =>
        simp only [codeOkX, Bool.and_eq_true] at hco
        simp only at hr
        cases hx : evalA h.globs fr x with
        | bool t =>
          rw [hx] at hr
          cases t with
          | true =>
            obtain ⟨l1, w1⟩ := ihn a fr h e fr' h' sz hco.1 hsz hr
            exact ⟨l1, AW.cond hx (by simpa using w1)⟩
          | false =>
            obtain ⟨l1, w1⟩ := ihn b fr h e fr' h' sz hco.2 hsz hr
            exact ⟨l1, AW.cond hx (by simpa using w1)⟩
        | _ => rw [hx] at hr; cases hr
      | block id b =>
        simp only [codeOkX] at hco
        simp only at hr
        cases hb : arunX P orc ok n sz b fr h with
        | none => rw [hb] at hr; cases hr
        | some r =>
          obtain ⟨e1, f1, h1⟩ := r
          obtain ⟨l1, w1⟩ := ihn b fr h e1 f1 h1 sz hco hsz hb
          rw [hb] at hr
          cases e1 with
          | normal =>
            cases hr
            refine ⟨l1, AW.block (w1.mono ?_)⟩
            rintro e2 f2 h2 ⟨rfl, rfl, rfl⟩
            simp
          | ret =>
            cases hr
            refine ⟨l1, AW.block (w1.mono ?_)⟩
            rintro e2 f2 h2 ⟨rfl, rfl, rfl⟩
            simp
          | exit id' =>
            simp only at hr
            split at hr
            · rename_i hid
              cases hr
              refine ⟨l1, AW.block (w1.mono ?_)⟩
              rintro e2 f2 h2 ⟨rfl, rfl, rfl⟩
              simp [hid]
            · rename_i hid
              cases hr
              refine ⟨l1, AW.block (w1.mono ?_)⟩
              rintro e2 f2 h2 ⟨rfl, rfl, rfl⟩
              simp [hid]
      | loop b =>
        have hcb : codeOkX sz b = true := hco
        -- how long the frame stays
        have hlen : ∀ m, m ≤ n → ∀ f1 h1, f1.length = sz → arunX P orc ok (m + 1) sz (.loop b) f1 h1 = some (e, fr', h') → fr'.length = sz := by
          intro m hm f1 h1 hf1 hr1
          exact (ih (m + 1 - 1) (by omega) b f1 h1 e fr' h' sz hcb hf1 |> fun _ => by
            by_cases hmn : m + 1 < n + 1
            · exact (ih (m + 1) hmn (.loop b) f1 h1 e fr' h' sz hco hf1 hr1).1
            · have : m = n := by omega
              subst this
              unfold arunX at hr1
              simp only at hr1
              cases hb : arunX P orc ok m sz b f1 h1 with
              | none => rw [hb] at hr1; cases hr1
              | some r =>
                obtain ⟨e1, f2, h2⟩ := r
                have l1 := (ihn b f1 h1 e1 f2 h2 sz hcb hf1 hb).1
                rw [hb] at hr1
                cases e1 with
                | normal => exact (ihn (.loop b) f2 h2 e fr' h' sz hco l1 hr1).1
                | ret => cases hr1; exact l1
                | exit id => cases hr1; exact l1)
        have hr' : arunX P orc ok (n + 1) sz (.loop b) fr h = some (e, fr', h') := by unfold arunX; exact hr
        refine ⟨hlen n (Nat.le_refl _) fr h hsz hr', ?_⟩
        refine AW.loop (fun m f1 h1 => m ≤ n + 1 ∧ f1.length = sz ∧ arunX P orc ok m sz (.loop b) f1 h1 = some (e, fr', h')) ?_ (n + 1) fr h ⟨Nat.le_refl _, hsz, hr'⟩
        rintro m f1 h1 ⟨hmn, hf1, hr1⟩
        cases m with
        | zero => cases hr1
        | succ m =>
          unfold arunX at hr1
          simp only at hr1
          cases hb : arunX P orc ok m sz b f1 h1 with
          | none => rw [hb] at hr1; cases hr1
          | some r =>
            obtain ⟨e1, f2, h2⟩ := r
            obtain ⟨l1, w1⟩ := ih m (by omega) b f1 h1 e1 f2 h2 sz hcb hf1 hb
            rw [hb] at hr1
            refine w1.mono ?_
            rintro e2 f3 h3 ⟨rfl, rfl, rfl⟩
            cases e2 with
            | normal => exact ⟨m, by omega, by omega, l1, hr1⟩
            | ret => cases hr1; exact ⟨rfl, rfl, rfl⟩
            | exit id => cases hr1; exact ⟨rfl, rfl, rfl⟩
      | region id ops draw =>
        simp only at hr
        have hcall : ∀ f args h r h', acallX P ok (arunX P orc ok n) f args h = some (r, h') → Ev P f args h r h' := by
          intro f args h r h' hc
          unfold acallX at hc
          split at hc
          · rename_i hokf
            have hfn := hok f hokf
            unfold okFnX at hfn
            split at hc
            · rename_i fn hf
              rw [hf] at hfn
              simp only [Bool.and_eq_true, Bool.not_eq_true'] at hfn
              split at hc
              · rename_i body hb
                rw [hb] at hfn
                split at hc
                · rename_i hargs
                  have key : ∀ e fr h', arunX P orc ok n fn.ntmps body (mkFr args fn.ntmps) h = some (e, fr, h') → (e = .normal ∨ e = .ret) → ∀ x, resultX P h' fr fn.results.toList = some x → Ev P f args h x h' := by
                    intro e fr h' hrun he x hx
                    obtain ⟨_, w⟩ := ihn body _ h e fr h' fn.ntmps hfn.2 (mkFr_length hargs) hrun
                    simp only [resultX, Option.map_eq_some_iff] at hx
                    obtain ⟨l, hl, rfl⟩ := hx
                    have := ACalls.of_bodyH (args := args) (h := h) (R := fun r h1 => r = resV l ∧ h1 = h') hf hb hfn.1 (w.mono (by
                      rintro e1 f1 h1 ⟨rfl, rfl, rfl⟩
                      exact ⟨he, l, hl, rfl, rfl⟩))
                    obtain ⟨r, h1, hev, rfl, rfl⟩ := this
                    exact hev
                  split at hc
                  · rename_i fr1 h1 hrun
                    simp only [Option.map_eq_some_iff, Prod.mk.injEq] at hc
                    obtain ⟨x, hx, rfl, rfl⟩ := hc
                    exact key _ _ _ hrun (.inl rfl) x hx
                  · rename_i fr1 h1 hrun
                    simp only [Option.map_eq_some_iff, Prod.mk.injEq] at hc
                    obtain ⟨x, hx, rfl, rfl⟩ := hc
                    exact key _ _ _ hrun (.inr rfl) x hx
                  · cases hc
                · cases hc
              · cases hc
            · cases hc
          · cases hc
        cases ho : regX P (orE orc (acallX P ok (arunX P orc ok n))) ops sz draw fr h with
        | none => rw [ho] at hr; cases hr
        | some r =>
          obtain ⟨f1, h1⟩ := r
          rw [ho] at hr
          cases hr
          exact regX_sound hm (orE_ev horc hcall) (fun q => by subst q; exact hco) hsz ho
end Go.Am

namespace Go.Am

noncomputable def aopsY (P : Program) (kill : Bool) (call : FuncId → List AV → AHeap → Option (AV × AHeap)) (ops : Array Oper) (exs : List Nat) : Nat → List Oper → Tr → AHeap → Option (Tr × AHeap)
  | _, [], tr, h => some (tr, h)
  | k, o :: os, tr, h =>
    match (match o.guard with | none => some true | some (j, want) => (guardT ops tr j).map (· == some want)) with
    | some true => match astepX P kill (isTx exs) call h (evalT h.globs tr) o with
      | some (v, h') => if (!exTest exs kill k o || heapExt h h') = true then putT tr o.dst v fun tr' => aopsY P kill call ops exs (k + 1) os tr' h' else none
      | none => none
    | some false => putT tr o.dst (.tup []) fun tr' => aopsY P kill call ops exs (k + 1) os tr' h
    | none => none

theorem aopsY_sound {P : Program} {kill : Bool} {c1 c2 : FuncId → List AV → AHeap → Option (AV × AHeap)} (hc : ∀ f args h r h', c1 f args h = some (r, h') → c2 f args h = some (r, h')) {ops : Array Oper} {exs : List Nat} {tr' : Tr} {h' : AHeap} :
    ∀ (l : List Oper) (k : Nat) (tr : Tr) (fr : List AV) (h : AHeap), l.all dstSmall = true → Rep tr fr → aopsY P kill c1 ops exs k l tr h = some (tr', h') → ∃ fr', Rep tr' fr' ∧ aopsX P kill c2 ops exs k l fr h = some (fr', h') := by
  intro l
  induction l with
  | nil => intro k tr fr h _ r hs; cases hs; exact ⟨fr, r, rfl⟩
  | cons o os ih =>
    intro k tr fr h hsm r hs
    simp only [List.all_cons, Bool.and_eq_true] at hsm
    have hput : ∀ (v : AV) (h1 : AHeap), putT tr o.dst v (fun tr' => aopsY P kill c1 ops exs (k + 1) os tr' h1) = some (tr', h') → ∃ fr', Rep tr' fr' ∧ aopsX P kill c2 ops exs (k + 1) os (setF fr o.dst v) h1 = some (fr', h') := by
      intro v h1 hp
      unfold putT at hp
      split at hp
      · rename_i d hd
        rw [seqAV_eq, Tr.setK_eq] at hp
        have hdl : d < 4095 := by
          have := hsm.1
          simp only [dstSmall, hd] at this
          exact of_blt this
        simp only [setF, hd]
        exact ih _ _ _ h1 hsm.2 (r.set d hdl v) hp
      · rename_i hd
        simp only [setF, hd]
        exact ih _ _ _ h1 hsm.2 r hp
    unfold aopsY at hs
    unfold aopsX
    have hgo : (match astepX P kill (isTx exs) c1 h (evalT h.globs tr) o with
        | some (v, h') => if (!exTest exs kill k o || heapExt h h') = true then putT tr o.dst v fun tr' => aopsY P kill c1 ops exs (k + 1) os tr' h' else none
        | none => none) = some (tr', h') →
        ∃ fr', Rep tr' fr' ∧ (match astepX P kill (isTx exs) c2 h (evalA h.globs fr) o with
          | some (v, h') => if (!exTest exs kill k o || heapExt h h') = true then putS fr o.dst v fun fr' => aopsX P kill c2 ops exs (k + 1) os fr' h' else none
          | none => none) = some (fr', h') := by
      intro hs
      rw [evalT_eq r] at hs
      split at hs
      · rename_i v h1 hst
        split at hs
        · rename_i ht
          simp only [astepX_call hc hst, putS_eq, ht, if_true]
          exact hput v h1 hs
        · cases hs
      · cases hs
    cases hgd : o.guard with
    | none =>
      simp only [hgd] at hs ⊢
      exact hgo hs
    | some jw =>
      obtain ⟨j, want⟩ := jw
      simp only [hgd, guardT_eq r] at hs ⊢
      cases hga : (guardA ops fr j).map (· == some want) with
      | none => rw [hga] at hs; cases hs
      | some b =>
        rw [hga] at hs
        cases b with
        | true => exact hgo hs
        | false =>
          simp only [putS_eq]
          exact hput _ h hs

noncomputable def reloadY (P : Program) (l : List Oper) (r : Nat) (tr : Tr) (h : AHeap) : Bool := match l[r]? with
  | some o => (match o.op, o.dst with
    | .load t (.tmp a), some d => (match aloadR P h t (evalT [] tr (.tmp a)) with | some v => AV.eqF 4 v (evalT [] tr (.tmp d)) | none => false)
    | _, _ => false)
  | none => false
theorem reloadY_eq {P : Program} {l : List Oper} {r : Nat} {tr : Tr} {fr : List AV} {h : AHeap} (rp : Rep tr fr) : reloadY P l r tr h = reload P l r (fun t => fr.getD t .bot) h := by
  unfold reloadY reload
  simp only [evalT_eq rp, aloadR_eq]
  rfl
noncomputable def regY (P : Program) (call : FuncId → List AV → AHeap → Option (AV × AHeap)) (ops : Array Oper) (sz : Nat) (draw : Bool) (tr : Tr) (h : AHeap) : Option (Tr × AHeap) :=
  if draw = true then (match planOf sz ops.toList with
    | (exs, none) => aopsY P false call ops exs 0 ops.toList tr h
    | (exs, some p) => match aopsY P (exs.isEmpty) call ops exs 0 (ops.toList.take (p.1 + 1)) tr h with
      | some (tr1, h1) => if reloadY P ops.toList p.2 tr1 h1 = true then aopsY P (exs.isEmpty) call ops exs (p.1 + 1) (ops.toList.drop (p.1 + 1)) tr1 h1 else none
      | none => none)
  else aopsY P true call ops TXT 0 ops.toList tr h
theorem all_take {α : Type} {p : α → Bool} {l : List α} (h : l.all p = true) (n : Nat) : (l.take n).all p = true := List.all_eq_true.2 fun x hx => List.all_eq_true.1 h x (List.mem_of_mem_take hx)
theorem all_drop {α : Type} {p : α → Bool} {l : List α} (h : l.all p = true) (n : Nat) : (l.drop n).all p = true := List.all_eq_true.2 fun x hx => List.all_eq_true.1 h x (List.mem_of_mem_drop hx)
theorem regY_sound {P : Program} {c1 c2 : FuncId → List AV → AHeap → Option (AV × AHeap)} (hc : ∀ f args h r h', c1 f args h = some (r, h') → c2 f args h = some (r, h')) {ops : Array Oper} {sz : Nat} {draw : Bool} {tr tr' : Tr} {fr : List AV} {h h' : AHeap}
    (hsm : ops.toList.all dstSmall = true) (rp : Rep tr fr) (hs : regY P c1 ops sz draw tr h = some (tr', h')) : ∃ fr', Rep tr' fr' ∧ regX P c2 ops sz draw fr h = some (fr', h') := by
  unfold regY at hs
  unfold regX
  split at hs
  · rename_i hd
    rw [if_pos hd]
    split at hs
    · rename_i exs hp
      first | simp only [hp] | skip
      exact aopsY_sound hc _ _ _ _ _ hsm rp hs
    · rename_i exs p hp
      first | simp only [hp] | skip
      split at hs
      · rename_i tr1 h1 ha
        split at hs
        · rename_i hre
          obtain ⟨f1, r1, e1⟩ := aopsY_sound hc _ _ _ _ _ (all_take hsm _) rp ha
          obtain ⟨f2, r2, e2⟩ := aopsY_sound hc _ _ _ _ _ (all_drop hsm _) r1 hs
          rw [reloadY_eq r1] at hre
          simp only [e1, hre, if_true, e2]
          exact ⟨f2, r2, rfl⟩
        · cases hs
      · cases hs
  · rename_i hd
    rw [if_neg hd]
    exact aopsY_sound hc _ _ _ _ _ hsm rp hs

noncomputable def resY (P : Program) (h : AHeap) (tr : Tr) : List ResultVar → Option (List AV)
  | [] => some []
  | .tmp t :: rs => match resY P h tr rs with | some l => some (evalT [] tr (.tmp t) :: l) | none => none
  | .cell a t :: rs => match aloadR P h t (evalT [] tr (.tmp a)), resY P h tr rs with | some v, some l => some (v :: l) | _, _ => none
theorem resY_eq {P : Program} {h : AHeap} {tr : Tr} {fr : List AV} (r : Rep tr fr) : ∀ rs, resY P h tr rs = resAH P h fr rs
  | [] => rfl
  | .tmp t :: rs => by
    simp only [resY, resAH, resY_eq r rs, evalT_eq r]
    cases resAH P h fr rs <;> rfl
  | .cell a t :: rs => by
    simp only [resY, resAH, resY_eq r rs, evalT_eq r, aloadR_eq]
    show _ = (aload P h t (evalA [] fr (.tmp a))).bind _
    cases aload P h t (evalA [] fr (.tmp a)) with
    | none => rfl
    | some v => cases resAH P h fr rs <;> rfl

noncomputable def bcallY (P : Program) (ok : FuncId → Bool) (run : Nat → Code → Tr → AHeap → Option (Ex × Tr × AHeap)) (f : FuncId) (args : List AV) (h : AHeap) : Option (AV × AHeap) :=
  if ok f then
    match P.funcs[f]? with
    | some fn => match fn.body with
      | some c => if args.length ≤ fn.ntmps ∧ fn.ntmps ≤ 2000 then
          argsK args 0 (Tr.blank fn.ntmps 12 1 0) fun tr => match run fn.ntmps c tr h with
          | some (.normal, tr, h') => match resY P h' tr fn.results.toList with | some l => some (resV l, h') | none => none
          | some (.ret, tr, h') => match resY P h' tr fn.results.toList with | some l => some (resV l, h') | none => none
          | _ => none
        else none
      | none => none
    | none => none
  else none

noncomputable def brunY (P : Program) (orc : Orc) (ok : FuncId → Bool) : Nat → Nat → Code → Tr → AHeap → Option (Ex × Tr × AHeap)
  | 0, _, _, _, _ => none
  | n + 1, sz, c, tr, h => match c with
    | .skip => some (.normal, tr, h)
    | .label _ => some (.normal, tr, h)
    | .ret => some (.ret, tr, h)
    | .exit id => some (.exit id, tr, h)
    | .seq a b => match brunY P orc ok n sz a tr h with
      | some (.normal, tr', h') => brunY P orc ok n sz b tr' h'
      | r => r
    | .cond c a b => match evalT h.globs tr c with
      | .bool true => brunY P orc ok n sz a tr h
      | .bool false => brunY P orc ok n sz b tr h
      | _ => none
    | .block id b => match brunY P orc ok n sz b tr h with
      | some (.exit id', tr', h') => if id' = id then some (.normal, tr', h') else some (.exit id', tr', h')
      | r => r
    | .loop b => match brunY P orc ok n sz b tr h with
      | some (.normal, tr', h') => brunY P orc ok n sz (.loop b) tr' h'
      | r => r
    | .scope b => brunY P orc ok n sz b tr h
    | .region _ ops draw => match regY P (orE orc (bcallY P ok (brunY P orc ok n))) ops sz draw tr h with
      | some (tr', h') => some (.normal, tr', h')
      | none => none
    | _ => none

def codeSmallX : Code → Bool
  | .seq a b => codeSmallX a && codeSmallX b
  | .cond _ a b => codeSmallX a && codeSmallX b
  | .block _ b => codeSmallX b
  | .loop b => codeSmallX b
  | .scope b => codeSmallX b
  | .region _ ops _ => ops.toList.all dstSmall
  | _ => true
def smallFnX (P : Program) (f : FuncId) : Bool := match P.funcs[f]? with
  | some fn => match fn.body with | some c => codeSmallX c | none => true
  | none => true

theorem bcallY_of {P : Program} {ok : FuncId → Bool} (hsm : ∀ f, ok f = true → smallFnX P f = true) {run : Nat → Code → Tr → AHeap → Option (Ex × Tr × AHeap)} {runA : Nat → Code → List AV → AHeap → Option (Ex × List AV × AHeap)}
    (hrun : ∀ sz c tr fr h e tr' h', codeSmallX c = true → Rep tr fr → run sz c tr h = some (e, tr', h') → ∃ fr', Rep tr' fr' ∧ runA sz c fr h = some (e, fr', h')) {f : FuncId} {args : List AV} {h h' : AHeap} {r : AV}
    (hc : bcallY P ok run f args h = some (r, h')) : acallX P ok runA f args h = some (r, h') := by
  unfold bcallY at hc
  unfold acallX
  split at hc
  · rename_i hokf
    have hs := hsm f hokf
    unfold smallFnX at hs
    rw [if_pos hokf]
    split at hc
    · rename_i fn hf
      rw [hf] at hs
      simp only at hs
      first | simp only [hf] | skip
      split at hc
      · rename_i c hb
        rw [hb] at hs
        first | simp only [hb] | skip
        split at hc
        · rename_i hargs
          rw [argsK_eq] at hc
          rw [if_pos hargs.1]
          have rep : Rep (setArgs (Tr.blank fn.ntmps 12 1 0) args 0) (mkFr args fn.ntmps) := by
            have := setArgs_rep args 0 _ [] _ (by simpa using Rep.blank fn.ntmps hargs.2) rfl (by simpa using hargs.1) (by omega)
            simpa [mkFr] using this
          have hfin : ∀ tr fr (q : AHeap), Rep tr fr → (match resY P q tr fn.results.toList with | some l => some (resV l, q) | none => none) = some (r, h') → (resultX P q fr fn.results.toList).map (fun x => (x, q)) = some (r, h') := by
            intro tr fr q rp hh
            rw [resY_eq rp] at hh
            unfold resultX
            cases hr : resAH P q fr fn.results.toList with
            | none => rw [hr] at hh; cases hh
            | some l => rw [hr] at hh; exact hh
          split at hc
          · rename_i tr1 h1 hr1
            obtain ⟨fr', rp, ha⟩ := hrun _ _ _ _ _ _ _ _ hs rep hr1
            simp only [ha]
            exact hfin _ _ _ rp hc
          · rename_i tr1 h1 hr1
            obtain ⟨fr', rp, ha⟩ := hrun _ _ _ _ _ _ _ _ hs rep hr1
            simp only [ha]
            exact hfin _ _ _ rp hc
          · cases hc
        · cases hc
      · cases hc
    · cases hc
  · cases hc

theorem brunY_sound {P : Program} {orc : Orc} {ok : FuncId → Bool} (hsm : ∀ f, ok f = true → smallFnX P f = true) :
    ∀ (n sz : Nat) (c : Code) (tr : Tr) (fr : List AV) (h : AHeap) (e : Ex) (tr' : Tr) (h' : AHeap), codeSmallX c = true → Rep tr fr → brunY P orc ok n sz c tr h = some (e, tr', h') → ∃ fr', Rep tr' fr' ∧ arunX P orc ok n sz c fr h = some (e, fr', h') := by
  intro n
  induction n with
  | zero => intro sz c tr fr h e tr' h' _ _ hr; cases hr
  | succ n ih =>
    intro sz c tr fr h e tr' h' hco r hr
    unfold brunY at hr
    unfold arunX
    cases c with
    | skip => cases hr; exact ⟨fr, r, rfl⟩
    | label l => cases hr; exact ⟨fr, r, rfl⟩
    | ret => cases hr; exact ⟨fr, r, rfl⟩
    | exit id => cases hr; exact ⟨fr, r, rfl⟩
    | goto l => cases hr
    | scope b => exact ih sz b tr fr h e tr' h' hco r hr
    | refuse w => cases hr
    | rangeFunc f p a b => cases hr
    | seq a b =>
      simp only [codeSmallX, Bool.and_eq_true] at hco
      simp only at hr ⊢
      cases ha : brunY P orc ok n sz a tr h with
      | none => rw [ha] at hr; cases hr
      | some q =>
        obtain ⟨e1, t1, h1⟩ := q
        obtain ⟨f1, r1, a1⟩ := ih sz a tr fr h e1 t1 h1 hco.1 r ha
        rw [ha] at hr
        rw [a1]
        cases e1 with
        | normal => exact ih sz b t1 f1 h1 e tr' h' hco.2 r1 hr
        | ret => cases hr; exact ⟨f1, r1, rfl⟩
        | exit id => cases hr; exact ⟨f1, r1, rfl⟩
    | cond x a b =>
      simp only [codeSmallX, Bool.and_eq_true] at hco
      simp only [evalT_eq r] at hr ⊢
      cases hx : evalA h.globs fr x with
      | bool t =>
        rw [hx] at hr
        cases t with
        | true => exact ih sz a tr fr h e tr' h' hco.1 r hr
        | false => exact ih sz b tr fr h e tr' h' hco.2 r hr
      | _ => rw [hx] at hr; cases hr
    | block id b =>
      simp only [codeSmallX] at hco
      simp only at hr ⊢
      cases hb : brunY P orc ok n sz b tr h with
      | none => rw [hb] at hr; cases hr
      | some q =>
        obtain ⟨e1, t1, h1⟩ := q
        obtain ⟨f1, r1, a1⟩ := ih sz b tr fr h e1 t1 h1 hco r hb
        rw [hb] at hr
        rw [a1]
        cases e1 with
        | normal => cases hr; exact ⟨f1, r1, rfl⟩
        | ret => cases hr; exact ⟨f1, r1, rfl⟩
        | exit id' =>
          simp only at hr ⊢
          split at hr
          · rename_i hid; cases hr; rw [if_pos hid]; exact ⟨f1, r1, rfl⟩
          · rename_i hid; cases hr; rw [if_neg hid]; exact ⟨f1, r1, rfl⟩
    | loop b =>
      have hcb : codeSmallX b = true := hco
      simp only at hr ⊢
      cases hb : brunY P orc ok n sz b tr h with
      | none => rw [hb] at hr; cases hr
      | some q =>
        obtain ⟨e1, t1, h1⟩ := q
        obtain ⟨f1, r1, a1⟩ := ih sz b tr fr h e1 t1 h1 hcb r hb
        rw [hb] at hr
        rw [a1]
        cases e1 with
        | normal => exact ih sz (.loop b) t1 f1 h1 e tr' h' hco r1 hr
        | ret => cases hr; exact ⟨f1, r1, rfl⟩
        | exit id => cases hr; exact ⟨f1, r1, rfl⟩
    | region id ops draw =>
      simp only at hr ⊢
      cases ho : regY P (orE orc (bcallY P ok (brunY P orc ok n))) ops sz draw tr h with
      | none => rw [ho] at hr; cases hr
      | some q =>
        obtain ⟨t1, h1⟩ := q
        rw [ho] at hr
        cases hr
        obtain ⟨f1, r1, a1⟩ := regY_sound (c2 := orE orc (acallX P ok (arunX P orc ok n))) (orE_mono fun f args h r h' hc => bcallY_of hsm ih hc) hco r ho
        rw [a1]
        exact ⟨f1, r1, rfl⟩

/-- A call, run fast. -/
theorem bcallY_run {P : Program} {orc : Orc} {ok : FuncId → Bool} (horc : OrcOk P orc) (hm : P.follows .mixedOrders = true) (hok : ∀ f, ok f = true → okFnX P f = true) (hsm : ∀ f, ok f = true → smallFnX P f = true) (n : Nat) {f : FuncId} {args : List AV} {h h' : AHeap} {r : AV}
    (hc : bcallY P ok (brunY P orc ok n) f args h = some (r, h')) : Ev P f args h r h' := by
  have hc := bcallY_of hsm (brunY_sound hsm n) hc
  unfold acallX at hc
  split at hc
  · rename_i hokf
    have hfn := hok f hokf
    unfold okFnX at hfn
    split at hc
    · rename_i fn hf
      rw [hf] at hfn
      simp only [Bool.and_eq_true, Bool.not_eq_true'] at hfn
      split at hc
      · rename_i body hb
        rw [hb] at hfn
        split at hc
        · rename_i hargs
          have key : ∀ e fr h', arunX P orc ok n fn.ntmps body (mkFr args fn.ntmps) h = some (e, fr, h') → (e = .normal ∨ e = .ret) → ∀ x, resultX P h' fr fn.results.toList = some x → Ev P f args h x h' := by
            intro e fr h' hrun he x hx
            obtain ⟨_, w⟩ := arunX_sound horc hm hok n body _ h e fr h' fn.ntmps hfn.2 (mkFr_length hargs) hrun
            simp only [resultX, Option.map_eq_some_iff] at hx
            obtain ⟨l, hl, rfl⟩ := hx
            have := ACalls.of_bodyH (args := args) (h := h) (R := fun r h1 => r = resV l ∧ h1 = h') hf hb hfn.1 (w.mono (by
              rintro e1 f1 h1 ⟨rfl, rfl, rfl⟩
              exact ⟨he, l, hl, rfl, rfl⟩))
            obtain ⟨r, h1, hev, rfl, rfl⟩ := this
            exact hev
          split at hc
          · rename_i fr1 h1 hrun
            simp only [Option.map_eq_some_iff, Prod.mk.injEq] at hc
            obtain ⟨x, hx, rfl, rfl⟩ := hc
            exact key _ _ _ hrun (.inl rfl) x hx
          · rename_i fr1 h1 hrun
            simp only [Option.map_eq_some_iff, Prod.mk.injEq] at hc
            obtain ⟨x, hx, rfl, rfl⟩ := hc
            exact key _ _ _ hrun (.inr rfl) x hx
          · cases hc
        · cases hc
      · cases hc
    · cases hc
  · cases hc
noncomputable def okY (P : Program) (f : FuncId) : Bool := okFnX P f && smallFnX P f
end Go.Am

namespace Go.Am
/-- What stands for a value in the kernel's run. -/
inductive ImG (bs : List ArgB) : AV → AV → Prop where
  | plain (x : AV) (h : x.plain = true) : ImG bs x x
  | slc (b n : Nat) (p : ArgB) (hb : bs[b]? = some p) (hs : 0 < p.s) (hn : p.xs.length = n * p.s) : ImG bs p.v (.slc b 0 n p.s false)
  | agg (l l' : List AV) (hl : l.length = l'.length) (h : ∀ (j : Nat) (x y : AV), l[j]? = some x → l'[j]? = some y → ImG bs x y) : ImG bs (.agg l) (.agg l')
structure OkG (h : AHeap) (bs : List ArgB) (p : ArgB) : Prop where
  rd : Rd h p.v p.s p.xs
  pos : (0 < p.s ∧ p.xs ≠ []) ∨ (p.s = 0 ∧ ∃ b0, p.v = .ptr b0 0)
  len : p.xs.length = p.ys.length
  im : ∀ (j : Nat) (x y : AV), p.xs[j]? = some x → p.ys[j]? = some y → ImG bs x y
theorem imG_nil {bs : List ArgB} : ∀ (j : Nat) (x y : AV), ([] : List AV)[j]? = some x → ([] : List AV)[j]? = some y → ImG bs x y := by intro j x y h; cases h
theorem imG_cons {bs : List ArgB} {x y : AV} {l l' : List AV} (h : ImG bs x y) (hl : ∀ (j : Nat) (x y : AV), l[j]? = some x → l'[j]? = some y → ImG bs x y) : ∀ (j : Nat) (u v : AV), (x :: l)[j]? = some u → (y :: l')[j]? = some v → ImG bs u v := by
  intro j u v hu hv
  cases j with
  | zero => simp at hu hv; subst hu hv; exact h
  | succ j => exact hl j u v (by simpa using hu) (by simpa using hv)
theorem imG_slc {bs : List ArgB} {b n s : Nat} {v : AV} {xs ys : List AV} (hb : bs[b]? = some ⟨v, s, xs, ys⟩) (hs : 0 < s) (hn : xs.length = n * s) : ImG bs v (.slc b 0 n s false) := .slc b n ⟨v, s, xs, ys⟩ hb hs hn
theorem imG_plain {bs : List ArgB} {l : List AV} (h : l.all AV.plain = true) : ∀ (j : Nat) (x y : AV), l[j]? = some x → l[j]? = some y → ImG bs x y := by
  intro j x y hx hy
  rw [hx] at hy; cases hy
  exact .plain x (List.all_eq_true.1 h x (List.mem_of_getElem? hx))
theorem okG_plain {h : AHeap} {bs : List ArgB} {v : AV} {s : Nat} {xs : List AV} (hr : Rd h v s xs) (hs : 0 < s) (hne : xs ≠ []) (hp : xs.all AV.plain = true) : OkG h bs ⟨v, s, xs, xs⟩ := ⟨hr, .inl ⟨hs, hne⟩, rfl, imG_plain hp⟩

def hArgG (bs : List ArgB) (gs : List Nat) : AHeap := ⟨bs.map fun p => .cells none 0 p.ys, [], gs⟩
theorem hArgG_next (bs : List ArgB) (gs : List Nat) : (hArgG bs gs).next = bs.length := by simp [hArgG, AHeap.next]
theorem hArgG_get {bs : List ArgB} {gs : List Nat} {b : Nat} {B : Blk} (h : (hArgG bs gs).get b = some B) : ∃ p, bs[b]? = some p ∧ B = .cells none 0 p.ys := by
  simp only [hArgG, AHeap.get, List.getElem?_map, Option.map_eq_some_iff] at h
  obtain ⟨p, h1, h2⟩ := h
  exact ⟨p, h1, h2.symm⟩
def embG (φ : Emb) (bs : List ArgB) : Emb := fun b => match bs[b]? with
  | some p => match p.v with
    | .slc b0 o _ _ _ => (φ b0).map fun q => (q.1, q.2.1 + o, q.2.2)
    | .ptr b0 _ => φ b0
    | _ => none
  | none => none
theorem OkG.view {h : AHeap} {bs : List ArgB} {p : ArgB} (ok : OkG h bs p) : ∃ b0 o F q cs, ((∃ n full, p.v = .slc b0 o n p.s full ∧ p.xs.length = n * p.s ∧ 0 < p.s) ∨ (p.v = .ptr b0 0 ∧ o = 0 ∧ p.s = 0)) ∧ h.get b0 = some (.cells F q cs) ∧ h.valid b0 = true ∧ (cs.drop o).take p.xs.length = p.xs := by
  rcases ok.rd with ⟨h1, h2⟩ | ⟨b, o, F, q, cs, hv, h1, h2, h3⟩ | ⟨_, _, x, h1, h2, _⟩
  · rcases ok.pos with ⟨_, h3⟩ | ⟨_, b0, h3⟩
    · exact absurd h2 h3
    · rw [h3] at h1; cases h1
  · rcases hv with ⟨n, full, e1, e2, e3⟩ | ⟨e, e2⟩
    · exact ⟨b, o, F, q, cs, .inl ⟨n, full, e1, e2, e3⟩, h1, h2, h3⟩
    · rcases ok.pos with ⟨h4, _⟩ | ⟨_, b0, h4⟩
      · omega
      · rw [h4] at e2; cases e2
        exact ⟨_, 0, F, q, cs, .inr ⟨h4, rfl, e⟩, h1, h2, h3⟩
  · rcases ok.pos with ⟨h4, _⟩ | ⟨_, b0, h4⟩
    · omega
    · rw [h4] at h1; exact (Thing.at_ptr h1.symm).elim
theorem ImG.rel {h : AHeap} {φ : Emb} {bs : List ArgB} (hok : ∀ p ∈ bs, OkG h bs p) {x y : AV} (hi : ImG bs x y) : ∀ {u : Value}, VRel φ x u → VRel (embG φ bs) y u := by
  induction hi with
  | plain x h => intro u hv; cases hv <;> simp only [AV.plain, Bool.false_eq_true] at h <;> first | exact .bool _ | exact .int _ _ | exact .str _ | exact .nilp | exact .nils | exact .nilm | exact .nilf
  | slc b n p hb hs hn =>
    intro u hv
    have ok := hok p (List.mem_of_getElem? hb)
    obtain ⟨b0, o, F, q, cs, ⟨n', full, e1, e2, _⟩ | ⟨_, _, e3⟩, _, _, _⟩ := ok.view
    · have hnn : n' = n := Nat.eq_of_mul_eq_mul_right hs (by rw [← e2, hn])
      subst hnn
      have he : embG φ bs b = (φ b0).map fun q => (q.1, q.2.1 + o, q.2.2) := by simp only [embG, hb, e1]
      rw [e1] at hv
      cases hv with
      | slc _ _ _ _ _ a c h1 h2 h3 h4 =>
        refine .slc _ _ _ _ _ _ _ h1 h2 (fun h => by cases h) ?_
        rcases h4 with h4 | ⟨k, i, z, h4, h5, h6⟩
        · exact .inl h4
        · exact .inr ⟨k, i + o, z, by rw [he, h4]; rfl, by rw [h5]; rfl, by omega⟩
    · omega
  | agg l l' hl h ih =>
    intro u hv
    cases hv with
    | agg _ cs h1 h2 =>
      refine .agg _ _ (by omega) ?_
      intro j y c hy hc
      have hj : j < l.length := by have := (List.getElem?_eq_some_iff.1 hy).1; omega
      exact ih j _ y (List.getElem?_eq_getElem hj) hy (h2 j _ c (List.getElem?_eq_getElem hj) hc)
theorem hArgG_rel {h : AHeap} {bs : List ArgB} {gs : List Nat} (hok : ∀ p ∈ bs, OkG h bs p) (hg : ∀ g ∈ gs, g ∈ h.globs ∧ ∃ p, bs[g]? = some p ∧ p.v = .ptr g 0) {φ : Emb} {w : World} (rr : HRel φ h w) : HRel (embG φ bs) (hArgG bs gs) w := by
  have key : ∀ b k i z, embG φ bs b = some (k, i, z) → ∃ p b0 o i0 F q cs, bs[b]? = some p ∧ φ b0 = some (k, i0, z) ∧ i = i0 + o ∧ h.get b0 = some (.cells F q cs) ∧ h.valid b0 = true ∧ (cs.drop o).take p.xs.length = p.xs := by
    intro b k i z hb
    unfold embG at hb
    split at hb
    · rename_i p hp
      obtain ⟨b0, o, F, q, cs, ⟨n', full, e1, e2, _⟩ | ⟨e1, e2, _⟩, h1, h2, h3⟩ := (hok p (List.mem_of_getElem? hp)).view
      · rw [e1] at hb
        simp only [Option.map_eq_some_iff] at hb
        obtain ⟨⟨k', i', z'⟩, h4, h5⟩ := hb
        cases h5
        exact ⟨p, b0, o, i', F, q, cs, hp, h4, rfl, h1, h2, h3⟩
      · rw [e1] at hb
        subst e2
        exact ⟨p, b0, 0, i, F, q, cs, hp, hb, rfl, h1, h2, h3⟩
    · cases hb
  refine ⟨?_, ?_, ?_, ?_, ?_, ?_, ?_, ?_⟩
  · intro g hgm
    obtain ⟨h1, p, h2, h3⟩ := hg g hgm
    obtain ⟨z, hz⟩ := rr.glob g h1
    exact ⟨z, by simp only [embG, h2, h3]; exact hz⟩
  · intro b k i z hb
    obtain ⟨p, b0, o, i0, F, q, cs, _, h3, _⟩ := key b k i z hb
    exact rr.lt _ _ _ _ h3
  · intro b k i z B hb hB _
    obtain ⟨p, b0, o, i0, F, q, cs, h1, h3, rfl, e3, e4, e5⟩ := key b k i z hb
    obtain ⟨p', h4, rfl⟩ := hArgG_get hB
    rw [h1] at h4; cases h4
    have ok := hok p (List.mem_of_getElem? h1)
    refine ⟨?_, fun h0 => absurd h0 (by decide)⟩
    intro j y hy
    have hj : j < p.xs.length := by have := (List.getElem?_eq_some_iff.1 hy).1; rw [ok.len]; exact this
    have hx := List.getElem?_eq_getElem hj
    have hcs : cs[o + j]? = some p.xs[j] := by
      rw [← hx, ← e5, List.getElem?_take_of_lt hj, List.getElem?_drop]
    obtain ⟨u, hu, hru⟩ := (rr.blk b0 k i0 z _ h3 e3 e4).cell hcs
    exact ⟨u, by rw [← hu, Nat.add_assoc], ImG.rel hok (ok.im j _ y hx hy) hru⟩
  · intro b k i z F p cs _ hB
    obtain ⟨_, _, h⟩ := hArgG_get hB; cases h
  · intro b b' k i i' z z' F F' p p' cs cs' _ _ hB
    obtain ⟨_, _, h⟩ := hArgG_get hB; cases h
  · intro b b' k i i' z z' F p p' cs cs' _ _ hB
    obtain ⟨_, _, h⟩ := hArgG_get hB; cases h
  · intro b b' k i i' z z' F0 x0 B _ _ hB
    obtain ⟨_, _, h⟩ := hArgG_get hB; cases h
  · intro b F p cs hB
    obtain ⟨_, _, h⟩ := hArgG_get hB; cases h
noncomputable def runsQ (P : Program) (orc : Orc) (n : Nat) (f : FuncId) (args : List AV) (ys : List (List AV)) (gs : List Nat) (test : AV → AHeap → Bool) : Bool := match bcallY P (okY P) (brunY P orc (okY P) n) f args ⟨ys.map fun y => .cells none 0 y, [], gs⟩ with | some (r, h) => test r h | none => false
noncomputable def runsG (P : Program) (n : Nat) (f : FuncId) (args : List AV) (ys : List (List AV)) (gs : List Nat) (test : AV → AHeap → Bool) : Bool := runsQ P noOrc n f args ys gs test
theorem over_evQ {P : Program} {orc : Orc} (ho : OrcOk P orc) (hm : P.follows .mixedOrders = true) {n : Nat} {f : FuncId} {args args' : List AV} {h : AHeap} (bs : List ArgB) (gs : List Nat) {test : AV → AHeap → Bool} (hok : ∀ p ∈ bs, OkG h bs p) (hg : ∀ g ∈ gs, g ∈ h.globs ∧ ∃ p, bs[g]? = some p ∧ p.v = .ptr g 0) (hl : args.length = args'.length) (hi : ∀ (j : Nat) (x y : AV), args[j]? = some x → args'[j]? = some y → ImG bs x y)
    (hr : runsQ P orc n f args' (bs.map ArgB.ys) gs test = true) : ∃ r h1, test r h1 = true ∧ Ev P f args h (AV.shm bs.length h.next 4 r) (h.frozm bs.length h1) := by
  unfold runsQ at hr
  split at hr
  · rename_i r h1 hc
    rw [List.map_map] at hc
    have hev : Ev P f args' (hArgG bs gs) r h1 := bcallY_run (ok := okY P) ho hm (by intro f hf; simp only [okY, Bool.and_eq_true] at hf; exact hf.1) (by intro f hf; simp only [okY, Bool.and_eq_true] at hf; exact hf.2) n hc
    refine ⟨r, h1, hr, ?_⟩
    have := hev.over (args := args) (fun b B hB => by obtain ⟨p, _, h2⟩ := hArgG_get hB; exact ⟨0, _, h2⟩) h (fun φ w cs rr ha => ⟨embG φ bs, ?_, hArgG_rel hok hg rr, by have := ha.1; omega, ?_⟩)
    · rwa [hArgG_next] at this
    · intro b hb
      rw [hArgG_next] at hb
      simp only [embG, List.getElem?_eq_none hb]
    · intro j y c hy hc'
      have hj : j < args.length := by have := (List.getElem?_eq_some_iff.1 hy).1; omega
      exact ImG.rel hok (hi j _ y (List.getElem?_eq_getElem hj) hy) (ha.2 j _ c (List.getElem?_eq_getElem hj) hc')
  · cases hr
theorem over_evG {P : Program} (hm : P.follows .mixedOrders = true) {n : Nat} {f : FuncId} {args args' : List AV} {h : AHeap} (bs : List ArgB) (gs : List Nat) {test : AV → AHeap → Bool} (hok : ∀ p ∈ bs, OkG h bs p) (hg : ∀ g ∈ gs, g ∈ h.globs ∧ ∃ p, bs[g]? = some p ∧ p.v = .ptr g 0) (hl : args.length = args'.length) (hi : ∀ (j : Nat) (x y : AV), args[j]? = some x → args'[j]? = some y → ImG bs x y)
    (hr : runsG P n f args' (bs.map ArgB.ys) gs test = true) : ∃ r h1, test r h1 = true ∧ Ev P f args h (AV.shm bs.length h.next 4 r) (h.frozm bs.length h1) := over_evQ noOrc_ok hm bs gs hok hg hl hi hr
/-- What is returned has no addresses. -/
theorem over_plainG {P : Program} (hm : P.follows .mixedOrders = true) (n : Nat) {f : FuncId} {args : List AV} (args' : List AV) {h : AHeap} (bs : List ArgB) (gs : List Nat) {R : AV} (hok : ∀ p ∈ bs, OkG h bs p) (hg : ∀ g ∈ gs, g ∈ h.globs ∧ ∃ p, bs[g]? = some p ∧ p.v = .ptr g 0) (hl : args.length = args'.length) (hi : ∀ (j : Nat) (x y : AV), args[j]? = some x → args'[j]? = some y → ImG bs x y)
    (hr : runsG P n f args' (bs.map ArgB.ys) gs (fun r _ => AV.isP 3 r R) = true) (hR : ∀ m d, AV.shm m d 4 R = R) : ACalls P f args h (fun q h' => q = R ∧ Keeps h h') := by
  obtain ⟨r, h1, ht, he⟩ := over_evG hm bs gs hok hg hl hi hr
  refine ⟨_, _, he, ?_, frozm_keeps _ _ _⟩
  rw [AV.isP_eq 3 _ _ ht, hR]
theorem okGs_nil {h : AHeap} {bs : List ArgB} : ∀ p ∈ ([] : List ArgB), OkG h bs p := fun p hp => by cases hp
theorem okGs_cons {h : AHeap} {bs l : List ArgB} {p : ArgB} (h1 : OkG h bs p) (h2 : ∀ q ∈ l, OkG h bs q) : ∀ q ∈ p :: l, OkG h bs q := fun q hq => by
  rcases List.mem_cons.1 hq with rfl | hq
  · exact h1
  · exact h2 q hq
theorem hgs_nil {h : AHeap} {bs : List ArgB} : ∀ g ∈ ([] : List Nat), g ∈ h.globs ∧ ∃ p, bs[g]? = some p ∧ p.v = .ptr g 0 := fun g hg => by cases hg
end Go.Am

namespace Go.Am
theorem shm_plain {m d n : Nat} {x : AV} (h : x.plain = true) : AV.shm m d n x = x := by
  cases x <;> simp only [AV.plain, Bool.false_eq_true] at h <;> cases n <;> rfl
end Go.Am

namespace Go.Am
def Fam.shf (m d : Nat) (f : Fam) : Fam := ⟨f.ext, f.live.map fun l => (l.filter fun b => decide (m ≤ b)).map fun b => d + (b - m)⟩
theorem Fam.shf_sees {m d q : Nat} (f : Fam) : (f.shf m d).sees (d + q) = f.sees (m + q) := by
  unfold Fam.sees Fam.shf
  cases f.live with
  | none => rfl
  | some l =>
    simp only [Option.map_some]
    rw [Bool.eq_iff_iff, List.contains_iff_mem, List.contains_iff_mem, List.mem_map]
    constructor
    · rintro ⟨b, hb, e⟩
      rw [List.mem_filter, decide_eq_true_iff] at hb
      rw [show m + q = b by omega]; exact hb.1
    · intro h
      exact ⟨m + q, List.mem_filter.2 ⟨h, decide_eq_true (by omega)⟩, by omega⟩
/-- A block, owned. -/
def frozBo (h1 : AHeap) (m d e : Nat) : Blk → Blk
  | .cells none _ cs => .cells none 0 (cs.map (AV.shm m d 4))
  | .cells (some F) p cs => .cells (some (e + F)) p (cs.map (AV.shm m d 4))
  | .obj _ _ => .cells none 0 []
def AHeap.frozo (h : AHeap) (m : Nat) (h1 : AHeap) : AHeap := ⟨h.blks ++ (h1.blks.map (frozBo h1 m h.next h.nfam)).drop m, h.fams ++ h1.fams.map (Fam.shf m h.next), h.globs⟩
theorem frozo_next (h : AHeap) (m : Nat) (h1 : AHeap) : (h.frozo m h1).next = h.next + (h1.next - m) := by simp [AHeap.frozo, AHeap.next]
theorem frozo_old (h : AHeap) (m : Nat) (h1 : AHeap) {b : Nat} (hb : b < h.next) : (h.frozo m h1).get b = h.get b := List.getElem?_append_left hb
theorem frozo_new (h : AHeap) (m : Nat) (h1 : AHeap) (b : Nat) : (h.frozo m h1).get (h.next + b) = (h1.get (m + b)).map (frozBo h1 m h.next h.nfam) := by
  simp only [AHeap.frozo, AHeap.get, AHeap.next]
  rw [List.getElem?_append_right (by omega), Nat.add_sub_cancel_left, List.getElem?_drop, List.getElem?_map]
theorem frozo_famOld (h : AHeap) (m : Nat) (h1 : AHeap) {F : Nat} (hF : F < h.nfam) : (h.frozo m h1).fam F = h.fam F := List.getElem?_append_left hF
theorem frozo_famNew (h : AHeap) (m : Nat) (h1 : AHeap) (F : Nat) : (h.frozo m h1).fam (h.nfam + F) = (h1.fam F).map (Fam.shf m h.next) := by
  simp only [AHeap.frozo, AHeap.fam, AHeap.nfam]
  rw [List.getElem?_append_right (by omega), Nat.add_sub_cancel_left, List.getElem?_map]
theorem frozo_keeps (h : AHeap) (m : Nat) (h1 : AHeap) : Keeps h (h.frozo m h1) := ⟨by rw [frozo_next]; omega, by simp [AHeap.frozo, AHeap.nfam], rfl, fun b hb => frozo_old h m h1 hb, fun F hF => frozo_famOld h m h1 hF⟩
theorem frozo_valid {h : AHeap} {m : Nat} {h1 : AHeap} {q F p : Nat} {cs : List AV} (hC : h1.get (m + q) = some (.cells (some F) p cs)) : (h.frozo m h1).valid (h.next + q) = h1.valid (m + q) := by
  simp only [AHeap.valid, frozo_new, hC, Option.map_some, frozBo, frozo_famNew]
  cases h1.fam F with
  | none => rfl
  | some f => simp only [Option.map_some]; exact f.shf_sees
theorem Ev.overO {P : Program} {f : FuncId} {args args' : List AV} {r : AV} {hA h1 : AHeap} (he : Ev P f args' hA r h1) (hro : ∀ b B, hA.get b = some B → ∃ p cs, B = .cells none p cs) (h : AHeap)
    (hrel : ∀ φ w cs, HRel φ h w → VRels φ args cs → ∃ φA, (∀ b, hA.next ≤ b → φA b = none) ∧ HRel φA hA w ∧ VRels φA args' cs) : Ev P f args h (AV.shm hA.next h.next 4 r) (h.frozo hA.next h1) := by
  obtain ⟨hrun, hgrow, hev⟩ := he
  have hm : hA.next ≤ h1.next := hgrow.next
  generalize hmm : hA.next = m at *
  refine ⟨hrun, ⟨(frozo_keeps h m h1).next, (frozo_keeps h m h1).nfam, rfl, fun b hb => by rw [frozo_old h m h1 hb]⟩, ?_⟩
  intro φ w cs hfr rr ha
  obtain ⟨φA, hfA, hrA, hvA⟩ := hrel φ w cs rr ha
  refine (hev φA w cs (fun b h1 _ => hfA b (by omega)) hrA hvA).mono ?_
  rintro e w' ⟨v, φ', rfl, t, r', hv⟩
  have hk : ∀ k, k < w.heap.size → w'.heap[k]? = w.heap[k]? := fun k hk => t.frame k hk (by
    rintro ⟨b, i, z, hb, ⟨F, p, cs, hm⟩ | ⟨F, x, hm⟩⟩
    · obtain ⟨_, _, h2⟩ := hro _ _ hm; cases h2
    · obtain ⟨_, _, h2⟩ := hro _ _ hm; cases h2)
  have himg : ∀ b k i z, m ≤ b → φ' b = some (k, i, z) → w.heap.size ≤ k := by
    intro b k i z hmb hb
    rcases t.img b k i z (hfA b hmb) hb with h2 | ⟨_, _, _, _, _, _, h2, h3⟩
    · exact h2
    · obtain ⟨_, _, h4⟩ := hro _ _ h3; cases h4
  have hdom : ∀ b p, m ≤ b → φ' b = some p → b < h1.next := fun b p hmb hb => (t.new b p (hfA b hmb) hb).2
  let ψ : Emb := fun b => if h.next ≤ b ∧ b < h.next + (h1.next - m) then φ' (m + (b - h.next)) else φ b
  have hψ : ∀ b p, ψ b = some p → (h.next ≤ b ∧ φ' (m + (b - h.next)) = some p) ∨ (¬ (h.next ≤ b ∧ b < h.next + (h1.next - m)) ∧ φ b = some p) := by
    intro b p hb
    by_cases hc : h.next ≤ b ∧ b < h.next + (h1.next - m)
    · simp only [ψ, if_pos hc] at hb; exact .inl ⟨hc.1, hb⟩
    · simp only [ψ, if_neg hc] at hb; exact .inr ⟨hc, hb⟩
  have hnew : ∀ b p, m ≤ b → φ' b = some p → ψ (h.next + (b - m)) = some p := by
    intro b p hmb hb
    have := hdom b p hmb hb
    simp only [ψ]
    rw [if_pos ⟨by omega, by omega⟩, Nat.add_sub_cancel_left, show m + (b - m) = b by omega]; exact hb
  have hle : φ.le ψ := by
    intro b p hb
    have : ¬ (h.next ≤ b ∧ b < h.next + (h1.next - m)) := by
      rintro ⟨c1, c2⟩
      have := hfr b c1 (by rw [frozo_next]; exact c2)
      rw [hb] at this; cases this
    simp only [ψ, if_neg this]; exact hb
  have hold : ∀ b B, ¬ (h.next ≤ b ∧ b < h.next + (h1.next - m)) → (h.frozo m h1).get b = some B → b < h.next ∧ h.get b = some B := by
    intro b B hc hB
    have h2 := AHeap.get_lt hB
    rw [frozo_next] at h2
    have h3 : b < h.next := by omega
    rw [frozo_old h m h1 h3] at hB
    exact ⟨h3, hB⟩
  have hfm : ∀ b F p cs', (h.frozo m h1).get b = some (.cells (some F) p cs') → (b < h.next ∧ h.get b = some (.cells (some F) p cs')) ∨ ∃ q F1 c1, b = h.next + q ∧ h1.get (m + q) = some (.cells (some F1) p c1) ∧ F = h.nfam + F1 ∧ cs' = c1.map (AV.shm m h.next 4) := by
    intro b F p cs' hB
    by_cases hb : b < h.next
    · rw [frozo_old h m h1 hb] at hB; exact .inl ⟨hb, hB⟩
    · obtain ⟨q, rfl⟩ : ∃ q, b = h.next + q := ⟨b - h.next, by omega⟩
      rw [frozo_new, Option.map_eq_some_iff] at hB
      obtain ⟨C, hC, hB⟩ := hB
      cases C with
      | obj _ _ => cases hB
      | cells F2 p2 c2 =>
        cases F2 with
        | none => cases hB
        | some F2 => cases hB; exact .inr ⟨q, F2, c2, rfl, hC, rfl, rfl⟩
  have hψq : ∀ q p, h1.get (m + q) ≠ none → ψ (h.next + q) = some p → φ' (m + q) = some p := by
    intro q p hC hb
    rcases hψ _ _ hb with ⟨_, h5⟩ | ⟨h4, _⟩
    · rwa [Nat.add_sub_cancel_left] at h5
    · refine absurd ⟨by omega, ?_⟩ h4
      cases hg : h1.get (m + q) with
      | none => exact absurd hg hC
      | some B => have := AHeap.get_lt hg; omega
  have hom : ∀ b F x, (h.frozo m h1).get b = some (.obj F x) → b < h.next ∧ h.get b = some (.obj F x) := by
    intro b F x hB
    by_cases hb : b < h.next
    · rw [frozo_old h m h1 hb] at hB; exact ⟨hb, hB⟩
    · obtain ⟨q, rfl⟩ : ∃ q, b = h.next + q := ⟨b - h.next, by omega⟩
      rw [frozo_new, Option.map_eq_some_iff] at hB
      obtain ⟨C, _, hB⟩ := hB
      cases C with
      | obj _ _ => cases hB
      | cells F2 p2 c2 => cases F2 <;> cases hB
  have hψold : ∀ b p, b < h.next → ψ b = some p → φ b = some p := by
    intro b p hb h2
    rcases hψ b p h2 with ⟨h3, _⟩ | ⟨_, h3⟩
    · omega
    · exact h3
  refine ⟨v, ψ, rfl, ⟨hle, ?_, ?_, ?_, fun k hk' _ => hk k hk', t.os, t.tape, t.output, t.size⟩, ?_, AV.shm_rel hnew 4 r v hv⟩
  · intro b h2 h3
    rw [frozo_next] at h3
    obtain ⟨p, hp⟩ := t.dom (m + (b - h.next)) (by omega) (by omega)
    refine ⟨p, ?_⟩
    have := hnew _ _ (by omega) hp
    rwa [show h.next + (m + (b - h.next) - m) = b by omega] at this
  · intro b p h2 h3
    rw [frozo_next]
    rcases hψ b p h3 with ⟨h4, h5⟩ | ⟨_, h4⟩
    · have := hdom _ _ (by omega) h5; omega
    · rw [h2] at h4; cases h4
  · intro b k i z h2 h3
    rcases hψ b _ h3 with ⟨h4, h5⟩ | ⟨_, h4⟩
    · exact .inl (himg _ _ _ _ (by omega) h5)
    · rw [h2] at h4; cases h4
  refine ⟨?_, ?_, ?_, ?_, ?_, ?_, ?_, ?_⟩
  · intro g hg
    obtain ⟨z, hz⟩ := rr.glob g hg
    exact ⟨z, hle _ _ hz⟩
  · intro b k i z hb
    rcases hψ b _ hb with ⟨_, h5⟩ | ⟨_, h4⟩
    · exact r'.lt _ _ _ _ h5
    · exact Nat.lt_of_lt_of_le (rr.lt b k i z h4) t.size
  · intro b k i z B hb hB hvd
    by_cases hlt : b < h.next
    · have hb' := hψold b _ hlt hb
      rw [frozo_old h m h1 hlt] at hB
      refine ((rr.blk b k i z B hb' hB ?_).world (hk k (rr.lt b k i z hb'))).mono hle
      unfold AHeap.valid at hvd ⊢
      rw [frozo_old h m h1 hlt, hB] at hvd
      rw [hB]
      cases B with
      | obj _ _ => rfl
      | cells F p cs' =>
        cases F with
        | none => rfl
        | some F =>
          simp only at hvd ⊢
          obtain ⟨f, hf, _⟩ := rr.ext b F p cs' hB
          rw [frozo_famOld h m h1 (AHeap.fam_lt hf)] at hvd
          exact hvd
    · obtain ⟨q, rfl⟩ : ∃ q, b = h.next + q := ⟨b - h.next, by omega⟩
      have hB0 := hB
      rw [frozo_new, Option.map_eq_some_iff] at hB
      obtain ⟨C, hC, rfl⟩ := hB
      have hbq := hψq q _ (by rw [hC]; simp) hb
      cases C with
      | obj F x => exact ⟨by intro j x hx; simp at hx, fun h0 => absurd h0 (by decide)⟩
      | cells F p cs' =>
        have hval : h1.valid (m + q) = true := by
          cases F with
          | none => simp only [AHeap.valid, hC]
          | some F => rw [← frozo_valid (h := h) hC]; exact hvd
        have hBR := r'.blk (m + q) k i z _ hbq hC hval
        have key : ∀ (j : Nat) (x : AV), (cs'.map (AV.shm m h.next 4))[j]? = some x → ∃ u, w'.cell? ⟨k, i + j, none⟩ = some u ∧ VRel ψ x u := by
          intro j x hx
          rw [List.getElem?_map, Option.map_eq_some_iff] at hx
          obtain ⟨y, hy, rfl⟩ := hx
          obtain ⟨u, hu, hru⟩ := hBR.cell hy
          exact ⟨u, hu, AV.shm_rel hnew 4 y u hru⟩
        cases F with
        | none => exact ⟨key, fun h0 => absurd h0 (by decide)⟩
        | some F =>
          obtain ⟨c, e, h2, h3, h4⟩ := hBR
          refine ⟨c, e, h2, h3, fun j x hx => ?_⟩
          rw [List.getElem?_map, Option.map_eq_some_iff] at hx
          obtain ⟨y, hy, rfl⟩ := hx
          obtain ⟨u, hu, hru⟩ := h4 j y hy
          exact ⟨u, hu, AV.shm_rel hnew 4 y u hru⟩
  · intro b k i z F p cs' hb hB
    rcases hfm b F p cs' hB with ⟨hlt, hB'⟩ | ⟨q, F1, c1, rfl, hC, rfl, rfl⟩
    · have hb' := hψold b _ hlt hb
      obtain ⟨c, e, h2, h3⟩ := rr.arr b k i z F p cs' hb' hB'
      exact ⟨c, e, h2.old (hk k (rr.lt b k i z hb')), h3⟩
    · obtain ⟨c, e, h2, h3, h4⟩ := r'.arr _ k i z F1 p c1 (hψq q _ (by rw [hC]; simp) hb) hC
      exact ⟨c, e, h2, h3, by rw [List.length_map]; exact h4⟩
  · intro b b' k i i' z z' F F' p p' c1 c2 hb hb' hB hB'
    rcases hfm b F p c1 hB with ⟨hlt, hB1⟩ | ⟨q, F1, d1, rfl, hC, rfl, rfl⟩
    · have hb1 := hψold b _ hlt hb
      have hk1 := rr.lt b k i z hb1
      rcases hfm b' F' p' c2 hB' with ⟨hlt', hB2⟩ | ⟨q', F2, d2, rfl, hC', rfl, rfl⟩
      · exact rr.one b b' k i i' z z' F F' p p' c1 c2 hb1 (hψold b' _ hlt' hb') hB1 hB2
      · have := himg _ _ _ _ (by omega) (hψq q' _ (by rw [hC']; simp) hb'); omega
    · have hq := hψq q _ (by rw [hC]; simp) hb
      have hk1 := himg _ _ _ _ (by omega) hq
      rcases hfm b' F' p' c2 hB' with ⟨hlt', hB2⟩ | ⟨q', F2, d2, rfl, hC', rfl, rfl⟩
      · have := rr.lt b' k i' z' (hψold b' _ hlt' hb'); omega
      · obtain ⟨e1, e2⟩ := r'.one _ _ k i i' z z' F1 F2 p p' d1 d2 hq (hψq q' _ (by rw [hC']; simp) hb') hC hC'
        exact ⟨by rw [e1], e2⟩
  · intro b b' k i i' z z' F p p' c1 c2 hb hb' hB hB'
    rcases hfm b F p c1 hB with ⟨hlt, hB1⟩ | ⟨q, F1, d1, rfl, hC, rfl, rfl⟩
    · have hb1 := hψold b _ hlt hb
      have hk1 := rr.lt b k i z hb1
      rcases hψ b' _ hb' with ⟨_, h5⟩ | ⟨h4, h5⟩
      · have := himg _ _ _ _ (by omega) h5; omega
      · obtain ⟨_, hB2⟩ := hold b' _ h4 hB'
        exact rr.sep b b' k i i' z z' F p p' c1 c2 hb1 h5 hB1 hB2
    · have hq := hψq q _ (by rw [hC]; simp) hb
      have hk1 := himg _ _ _ _ (by omega) hq
      by_cases hlt' : b' < h.next
      · have := rr.lt b' k i' z' (hψold b' _ hlt' hb'); omega
      · obtain ⟨q', rfl⟩ : ∃ q', b' = h.next + q' := ⟨b' - h.next, by omega⟩
        rw [frozo_new, Option.map_eq_some_iff] at hB'
        obtain ⟨C, hC', hB'⟩ := hB'
        have hq' := hψq q' _ (by rw [hC']; simp) hb'
        cases C with
        | obj F2 x =>
          have e := r'.map _ _ k i' i z' z F2 x _ hq' hq hC' hC
          rw [e, hC] at hC'; cases hC'
        | cells F2 p2 d2 =>
          cases F2 with
          | none => exact r'.sep _ _ k i i' z z' F1 p p2 d1 d2 hq hq' hC hC'
          | some F2 => cases hB'
  · intro b b' k i i' z z' F x B hb hb' hB hB'
    obtain ⟨hlt, hB⟩ := hom b F x hB
    have hb1 := hψold b _ hlt hb
    have hk1 := rr.lt b k i z hb1
    rcases hψ b' _ hb' with ⟨_, h5⟩ | ⟨h4, h5⟩
    · have := himg _ _ _ _ (by omega) h5; omega
    · obtain ⟨_, hB2⟩ := hold b' _ h4 hB'
      exact rr.map b b' k i i' z z' F x B hb1 h5 hB hB2
  · intro b F p cs' hB
    rcases hfm b F p cs' hB with ⟨hlt, hB1⟩ | ⟨q, F1, c1, rfl, hC, rfl, rfl⟩
    · obtain ⟨f, hf, he⟩ := rr.ext b F p cs' hB1
      exact ⟨f, by rw [frozo_famOld h m h1 (AHeap.fam_lt hf)]; exact hf, he⟩
    · obtain ⟨f, hf, he⟩ := r'.ext _ F1 p c1 hC
      exact ⟨f.shf m h.next, by rw [frozo_famNew, hf]; rfl, by rw [List.length_map]; exact he⟩
end Go.Am

namespace Go.Am
def chkO (m : Nat) (h1 : AHeap) (s : Nat) (xs : List AV) : AV → Bool
  | .slc b o n s' full => decide (m ≤ b) && (decide (s' = s) && (decide (0 < s) && (decide (xs.length = n * s) && (h1.valid b && (xs.all AV.plain && match h1.get b with
    | some (.cells (some F) p cs) => AV.isP 3 (.agg ((cs.drop o).take xs.length)) (.agg xs) && (full || match h1.fam F with | some f => decide (p + o + xs.length = f.ext) | none => false)
    | _ => false)))))
  | .nils => xs.isEmpty
  | _ => false
theorem chkO_mu {h h1 : AHeap} {m n s : Nat} {xs : List AV} {r : AV} (hc : chkO m h1 s xs r = true) : ∃ F : Option Nat, Mu h.next (h.frozo m h1) F ⟨AV.shm m h.next n r, s, xs, true⟩ ∧ ∀ G, F = some G → h.nfam ≤ G := by
  cases r with
  | slc b o k s' full =>
    have hc : (decide (m ≤ b) && (decide (s' = s) && (decide (0 < s) && (decide (xs.length = k * s) && (h1.valid b && (xs.all AV.plain && match h1.get b with
      | some (.cells (some F) p cs) => AV.isP 3 (.agg ((cs.drop o).take xs.length)) (.agg xs) && (full || match h1.fam F with | some f => decide (p + o + xs.length = f.ext) | none => false)
      | _ => false)))))) = true := hc
    simp only [Bool.and_eq_true, decide_eq_true_eq] at hc
    obtain ⟨hb, rfl, hs, hl, hv, hp, hg⟩ := hc
    split at hg
    · rename_i F p cs he
      rw [Bool.and_eq_true] at hg
      obtain ⟨hg, ht⟩ := hg
      have e := AV.isP_eq 3 _ _ hg
      injection e with e
      have hsh : AV.shm m h.next n (.slc b o k s' full) = .slc (h.next + (b - m)) o k s' full := by
        cases n <;> simp only [AV.shm] <;> rw [if_neg (by omega)]
      have hbm : m + (b - m) = b := by omega
      have hget : (h.frozo m h1).get (h.next + (b - m)) = some (.cells (some (h.nfam + F)) p (cs.map (AV.shm m h.next 4))) := by
        rw [frozo_new, hbm, he]; rfl
      have hvf := hv
      simp only [AHeap.valid, he] at hvf
      cases hf : h1.fam F with
      | none => rw [hf] at hvf; cases hvf
      | some f =>
        rw [hf] at hvf ht
        refine ⟨some (h.nfam + F), .inl ⟨h.next + (b - m), o, p, _, f.shf m h.next, Nat.le_add_right _ _, ?_, hget, ?_, ?_, ?_, fun _ => ?_⟩, fun G hG => by cases hG; exact Nat.le_add_right _ _⟩
        · rw [hsh]; exact .inl ⟨k, full, rfl, hl, hs⟩
        · rw [frozo_famNew, hf]; rfl
        · rw [Fam.shf_sees, hbm]; exact hvf
        · show ((cs.map (AV.shm m h.next 4)).drop o).take xs.length = xs
          rw [← List.map_drop, ← List.map_take, e]
          exact (List.map_congr_left fun x hx => shm_plain (List.all_eq_true.1 hp x hx)).trans (List.map_id' xs)
        · rw [Bool.or_eq_true] at ht
          rcases ht with rfl | ht
          · exact .inl ⟨k, hsh⟩
          · exact .inr (of_decide_eq_true ht)
    · cases hg
  | nils =>
    have hc : xs.isEmpty = true := hc
    have e : AV.shm m h.next n .nils = .nils := by cases n <;> rfl
    rw [e]
    exact ⟨none, ⟨rfl, List.isEmpty_iff.1 hc⟩, fun G hG => by cases hG⟩
  | _ => cases hc
theorem chkO_st {h h1 : AHeap} {m n s : Nat} {xs : List AV} {r : AV} (hc : chkO m h1 s xs r = true) : St h (h.frozo m h1) [⟨AV.shm m h.next n r, s, xs, true⟩] := by
  obtain ⟨F, hm, hF⟩ := chkO_mu (h := h) (n := n) hc
  refine ⟨frozo_keeps h m h1, [F], rfl, ?_, ?_, ?_⟩
  · intro i o G ho hG
    cases i with
    | zero => cases ho; cases hG; exact hm
    | succ i => cases ho
  · intro i j G hi hj
    cases i with
    | zero =>
      cases j with
      | zero => rfl
      | succ j => cases hj
    | succ i => cases hi
  · intro i G hG
    cases i with
    | zero =>
      have hG : F = some G := Option.some.inj hG
      exact hF G hG
    | succ i => cases hG
theorem over_evP {P : Program} {orc : Orc} (ho : OrcOk P orc) (hm : P.follows .mixedOrders = true) {n : Nat} {f : FuncId} {args args' : List AV} {h : AHeap} (bs : List ArgB) (gs : List Nat) {test : AV → AHeap → Bool} (hok : ∀ p ∈ bs, OkG h bs p) (hg : ∀ g ∈ gs, g ∈ h.globs ∧ ∃ p, bs[g]? = some p ∧ p.v = .ptr g 0) (hl : args.length = args'.length) (hi : ∀ (j : Nat) (x y : AV), args[j]? = some x → args'[j]? = some y → ImG bs x y)
    (hr : runsQ P orc n f args' (bs.map ArgB.ys) gs test = true) : ∃ r h1, test r h1 = true ∧ Ev P f args h (AV.shm bs.length h.next 4 r) (h.frozo bs.length h1) := by
  unfold runsQ at hr
  split at hr
  · rename_i r h1 hc
    rw [List.map_map] at hc
    have hev : Ev P f args' (hArgG bs gs) r h1 := bcallY_run (ok := okY P) ho hm (by intro f hf; simp only [okY, Bool.and_eq_true] at hf; exact hf.1) (by intro f hf; simp only [okY, Bool.and_eq_true] at hf; exact hf.2) n hc
    refine ⟨r, h1, hr, ?_⟩
    have := hev.overO (args := args) (fun b B hB => by obtain ⟨p, _, h2⟩ := hArgG_get hB; exact ⟨0, _, h2⟩) h (fun φ w cs rr ha => ⟨embG φ bs, ?_, hArgG_rel hok hg rr, by have := ha.1; omega, ?_⟩)
    · rwa [hArgG_next] at this
    · intro b hb
      rw [hArgG_next] at hb
      simp only [embG, List.getElem?_eq_none hb]
    · intro j y c hy hc'
      have hj : j < args.length := by have := (List.getElem?_eq_some_iff.1 hy).1; omega
      exact ImG.rel hok (hi j _ y (List.getElem?_eq_getElem hj) hy) (ha.2 j _ c (List.getElem?_eq_getElem hj) hc')
  · cases hr
theorem over_evO {P : Program} (hm : P.follows .mixedOrders = true) {n : Nat} {f : FuncId} {args args' : List AV} {h : AHeap} (bs : List ArgB) (gs : List Nat) {test : AV → AHeap → Bool} (hok : ∀ p ∈ bs, OkG h bs p) (hg : ∀ g ∈ gs, g ∈ h.globs ∧ ∃ p, bs[g]? = some p ∧ p.v = .ptr g 0) (hl : args.length = args'.length) (hi : ∀ (j : Nat) (x y : AV), args[j]? = some x → args'[j]? = some y → ImG bs x y)
    (hr : runsG P n f args' (bs.map ArgB.ys) gs test = true) : ∃ r h1, test r h1 = true ∧ Ev P f args h (AV.shm bs.length h.next 4 r) (h.frozo bs.length h1) := over_evP noOrc_ok hm bs gs hok hg hl hi hr
/-- A row. -/
theorem over_rowO {P : Program} (hm : P.follows .mixedOrders = true) {n m s : Nat} {f : FuncId} {args args' : List AV} {ys : List (List AV)} {gs : List Nat} {xs : List AV} (hr : runsG P n f args' ys gs (fun r h1 => chkO m h1 s xs r) = true) {h : AHeap} (bs : List ArgB) (hys : bs.map ArgB.ys = ys) (hmb : bs.length = m) (hok : ∀ p ∈ bs, OkG h bs p) (hg : ∀ g ∈ gs, g ∈ h.globs ∧ ∃ p, bs[g]? = some p ∧ p.v = .ptr g 0) (hl : args.length = args'.length) (hi : ∀ (j : Nat) (x y : AV), args[j]? = some x → args'[j]? = some y → ImG bs x y) :
    ACalls P f args h (fun r h' => St h h' [⟨r, s, xs, true⟩]) := by
  subst hys hmb
  obtain ⟨r, h1, ht, he⟩ := over_evO hm bs gs hok hg hl hi hr
  exact ⟨_, _, he, chkO_st ht⟩
end Go.Am

namespace Go.Am

/-! Owned. -/
/-- A map from which entries may be deleted, owned. -/
abbrev dmapO (v : AV) (es : List (AV × AV)) : Obj := ⟨v, 0, Thing.enc (.dmap es), false⟩
theorem enc_dmap_inj {es es' : List (AV × AV)} (h : Thing.enc (.dmap es) = Thing.enc (.dmap es')) : es = es' := by
  simp only [Thing.enc, List.cons.injEq, true_and] at h
  exact enc_map_inj h
theorem Mu.dmap {lo : Nat} {h : AHeap} {F : Option Nat} {v : AV} {es : List (AV × AV)} (hv : IsMp v) (hm : Mu lo h F (dmapO v es)) : ∃ b G f, F = some G ∧ lo ≤ b ∧ v = .mp b ∧ h.get b = some (.obj G (.dmap es)) ∧ h.fam G = some f := by
  obtain ⟨b0, rfl⟩ := hv
  cases F with
  | none => cases hm.1
  | some G =>
    rcases hm with ⟨b, off, p, cs, f, _, hw, _⟩ | ⟨b, x, f, h1, h2, h3, h4, h5, h6⟩
    · rcases hw with ⟨_, _, hw, _⟩ | ⟨_, hw⟩ <;> cases hw
    · cases x with
      | walk s pos => cases h2
      | mwalk _ _ _ => cases h2
      | gone => cases h2
      | map es' => cases es' <;> simp [Thing.enc] at h6
      | dmap es' =>
        simp only [Thing.at, AV.mp.injEq] at h2
        subst h2
        have := enc_dmap_inj h6
        subst this
        exact ⟨b0, G, f, rfl, h1, rfl, h4, h5⟩
end Go.Am

namespace Go.Am
theorem chain_fam {lo F b N : Nat} {h : AHeap} {xs : List AV} {tip : Bool} {cs : List AV} {p : Nat} (hg : h.get b = some (.cells (some F) p cs)) : ∀ F', Mu lo h F' ⟨.slc b 0 N 1 false, 1, xs, tip⟩ → F' = some F := by
  intro F' hmu'
  cases F' with
  | none => cases hmu'.1
  | some G =>
    rcases hmu' with ⟨b', off', q', cs', f', _, hv', hg', _⟩ | ⟨_, _, _, _, _, h0, _⟩
    rotate_left
    · simp only at h0; omega
    rcases hv' with ⟨_, _, hv', _⟩ | ⟨h0, _⟩
    · cases hv'
      rw [hg] at hg'
      cases hg'; rfl
    · cases h0
/-- Blocks of one family, none of them old, and no others may be looked at. -/
def SeenX (lo : Nat) (h : AHeap) (F : Nat) (L : List (Nat × List AV)) : Prop := ∃ x, h.fam F = some ⟨x, some (L.map (·.1))⟩ ∧ ∀ e ∈ L, lo ≤ e.1 ∧ h.get e.1 = some (.cells (some F) 0 e.2)
theorem sees_ids {x : Nat} {L : List (Nat × List AV)} {b : Nat} : Fam.sees ⟨x, some (L.map (·.1))⟩ b = true ↔ ∃ e ∈ L, e.1 = b := by
  unfold Fam.sees
  simp only [List.contains_iff_mem, List.mem_map]
theorem shrink_get {h : AHeap} {F : Nat} {f : Fam} (b : Nat) : (h.setFam F f).get b = h.get b := rfl
theorem shrink_fam {h : AHeap} {F : Nat} {f : Fam} (hF : F < h.nfam) : (h.setFam F f).fam F = some f := by
  simp only [AHeap.setFam, AHeap.fam]
  exact List.getElem?_set_self hF
theorem shrink_other {h : AHeap} {F G : Nat} {f : Fam} (hF : F ≠ G) : (h.setFam F f).fam G = h.fam G := by
  simp only [AHeap.setFam, AHeap.fam]
  exact List.getElem?_set_ne hF
/-- Fewer blocks may be looked at. -/
theorem HRel.shrink {φ : Emb} {h : AHeap} {w : World} (r : HRel φ h w) {F : Nat} {f : Fam} (hf : h.fam F = some f) {l : List Nat} (hl : ∀ b ∈ l, f.sees b = true) : HRel φ (h.setFam F ⟨f.ext, some l⟩) w := by
  have hF := AHeap.fam_lt hf
  refine ⟨r.glob, r.lt, ?_, r.arr, r.one, r.sep, r.map, ?_⟩
  · intro b k i z B hb hg hv
    refine r.blk b k i z B hb hg ?_
    unfold AHeap.valid at hv ⊢
    have hg2 : h.get b = some B := hg
    rw [shrink_get, hg2] at hv
    rw [hg2]
    cases B with
    | obj _ _ => rfl
    | cells G p cs =>
      cases G with
      | none => rfl
      | some G =>
        simp only at hv ⊢
        by_cases hFG : F = G
        · subst hFG
          rw [shrink_fam hF] at hv
          rw [hf]
          simp only at hv ⊢
          refine hl b ?_
          simpa [Fam.sees] using hv
        · rw [shrink_other hFG] at hv
          exact hv
  · intro b G p cs hg
    obtain ⟨g, h1, h2⟩ := r.ext b G p cs hg
    by_cases hFG : F = G
    · subst hFG
      rw [hf] at h1
      cases h1
      exact ⟨_, shrink_fam hF, h2⟩
    · exact ⟨g, by rw [shrink_other hFG]; exact h1, h2⟩
theorem HGrow.shrink {h h' : AHeap} (g : HGrow h h') {F : Nat} {f : Fam} : HGrow h (h'.setFam F f) := ⟨g.next, by have := g.nfam; simpa [AHeap.setFam, AHeap.nfam] using this, g.globs, g.shape⟩
theorem Trans.shrink {φ φ' : Emb} {h h' : AHeap} {w w' : World} (t : Trans φ h w φ' h' w') {F : Nat} {f : Fam} : Trans φ h w φ' (h'.setFam F f) w' := ⟨t.le, t.dom, t.new, t.img, t.frame, t.os, t.tape, t.output, t.size⟩
theorem Ev.shrink {P : Program} {f : FuncId} {args : List AV} {h h' : AHeap} {r : AV} (he : Ev P f args h r h') {F : Nat} {fm : Fam} (hf : h'.fam F = some fm) {l : List Nat} (hl : ∀ b ∈ l, fm.sees b = true) : Ev P f args h r (h'.setFam F ⟨fm.ext, some l⟩) := by
  refine ⟨he.1, he.2.1.shrink, ?_⟩
  intro φ w cs hfr hr hv
  refine (he.2.2 φ w cs hfr hr hv).mono ?_
  rintro e w' ⟨v, φ', h1, h2, h3, h4⟩
  exact ⟨v, φ', h1, h2.shrink, h3.shrink hf hl, h4⟩
theorem StepS.shrink {P : Program} {ρ : Operand → AV} {o : Oper} {h h' : AHeap} {v : AV} (hs : StepS P ρ o h v h') {F : Nat} {fm : Fam} (hf : h'.fam F = some fm) {l : List Nat} (hl : ∀ b ∈ l, fm.sees b = true) : StepS P ρ o h v (h'.setFam F ⟨fm.ext, some l⟩) := by
  refine ⟨hs.1.shrink, ?_⟩
  intro φ a w K Q hfr hr hops hk
  refine hs.2 φ a w K Q hfr hr hops ?_
  intro φ' c w' t r' hv
  exact hk φ' c w' t.shrink (r'.shrink hf hl) hv
/-- Fewer prefixes are looked at, and another one is what is owned. -/
theorem St.shrinkC {h0 h : AHeap} {objs : List Obj} (st : St h0 h objs) {i b N F b2 N2 x : Nat} {xs xs2 : List AV} {tip : Bool} {L L0 : List (Nat × List AV)} (hk : objs[i]? = some ⟨.slc b 0 N 1 false, 1, xs, tip⟩) (hL : SeenX h0.next h F L) (hb : (b, xs) ∈ L) (h2 : (b2, xs2) ∈ L0) (hsub : ∀ e ∈ L0, e ∈ L) (hN2 : xs2.length = N2) :
    St h0 (h.setFam F ⟨x, some (L0.map (·.1))⟩) (objs.set i ⟨.slc b2 0 N2 1 false, 1, xs2, false⟩) ∧ SeenX h0.next (h.setFam F ⟨x, some (L0.map (·.1))⟩) F L0 := by
  obtain ⟨y, hf, hs⟩ := hL
  have hF := AHeap.fam_lt hf
  obtain ⟨_, hg⟩ := hs _ hb
  obtain ⟨hlo2, hg2⟩ := hs _ (hsub _ h2)
  refine ⟨?_, x, shrink_fam hF, fun e he => hs e (hsub e he)⟩
  refine st.upd hk (Nat.le_refl _) (by simp [AHeap.setFam, AHeap.nfam]) rfl ?_
  intro F' hmu _
  have := chain_fam hg F' hmu
  subst this
  refine ⟨some F, .inl ⟨b2, 0, 0, xs2, _, hlo2, .inl ⟨N2, false, rfl, by simpa using hN2, Nat.zero_lt_one⟩, hg2, shrink_fam hF, sees_ids.2 ⟨_, h2, rfl⟩, by show (xs2.drop 0).take xs2.length = xs2; rw [List.drop_zero, List.take_length], fun h => by cases h⟩, .inl rfl, fun _ _ _ => rfl, ?_⟩
  intro G _ hne
  exact shrink_other (fun he => hne (by rw [he]))
theorem ACalls.shrinkC {P : Program} {f : FuncId} {args : List AV} {h0 h : AHeap} {X : Type} {OB : X → List Obj} {C : X → Prop} {b N F b2 N2 : Nat} {xs xs2 : List AV} {L L0 : List (Nat × List AV)}
    (hc : ACalls P f args h (fun _ h' => ∃ x, C x ∧ St h0 h' (⟨.slc b 0 N 1 false, 1, xs, false⟩ :: OB x) ∧ SeenX h0.next h' F L)) (hb : (b, xs) ∈ L) (h2 : (b2, xs2) ∈ L0) (hsub : ∀ e ∈ L0, e ∈ L) (hN2 : xs2.length = N2) :
    ACalls P f args h (fun _ h' => ∃ x, C x ∧ St h0 h' (⟨.slc b2 0 N2 1 false, 1, xs2, false⟩ :: OB x) ∧ SeenX h0.next h' F L0) := by
  obtain ⟨r, h', he, x, hC, st, hL⟩ := hc
  have hL' := hL
  obtain ⟨y, hf, hs⟩ := hL'
  obtain ⟨s1, s2⟩ := st.shrinkC (i := 0) (x := y) (L0 := L0) rfl hL hb h2 hsub hN2
  refine ⟨r, _, he.shrink hf (l := L0.map (·.1)) ?_, x, hC, s1, s2⟩
  intro q hq
  obtain ⟨e, he1, he2⟩ := List.mem_map.1 hq
  exact sees_ids.2 ⟨e, hsub e he1, he2⟩
section
variable {P : Program} {n : Nat} {ops : Array Oper} {ex : List Nat} {Q : KF → AHeap → Prop} {k : Nat} {os : List Oper} {K : KF} {h h0 : AHeap} {d : Nat} {ty : TypeId} {pos : String} {after : Array Edge} {objs : List Obj}
/-- An append to a prefix of an array that longer rows share, none of which is looked at any more. -/
theorem KOps.appendC {t e : TypeId} {x y : Operand} {u c : AV} {b N F i : Nat} {xs zs : List AV} {L : List (Nat × List AV)} {tip : Bool} [hx : EvK h.globs n K x (.slc b 0 N 1 false)] [hy : EvK h.globs n K y u] [ht : SlT P t e 1 zs]
    (st : St h0 h objs) (hk' : objs[i]? = some ⟨.slc b 0 N 1 false, 1, xs, tip⟩) (hN : xs.length = N) (hL : SeenX h0.next h F L) (hb : (b, xs) ∈ L) (hlen : ∀ e ∈ L, e.2.length ≤ N) (hr : Rd h u 1 [c]) (h1 : c.one = true) (hsz : N + 1 ≤ 4294967296)
    (hk : ∀ b' h', St h0 h' (objs.set i ⟨.slc b' 0 (N + 1) 1 false, 1, xs ++ [c], false⟩) → SeenX h0.next h' F ((b', xs ++ [c]) :: L) → KOps P n ops ex Q (k + 1) os ((d, .slc b' 0 (N + 1) 1 false) :: K) h') :
    KOps P n ops ex Q k (⟨some d, .call { callee := .builtin .append, args := #[x, y], argTypes := #[t, t] }, ty, pos, after, none⟩ :: os) K h := by
  obtain ⟨fx, hf, hs⟩ := hL
  obtain ⟨hlo, hg⟩ := hs _ hb
  obtain ⟨z, hz, hzs⟩ := Option.bind_eq_some_iff.1 ht.zero
  obtain ⟨ii, hi, hib⟩ := ht.info
  have hFlt := AHeap.fam_lt hf
  have hge := st.keeps.next
  have hcx := (st.rd i hk').cells (show 0 < 1 by decide) (m := N) (by simpa using hN)
  have hcy := hr.cells (show 0 < 1 by decide) (m := 1) rfl
  have hsees : ∀ b', Fam.sees ⟨Max.max fx (N + 1), some (((h.next, xs ++ [c]) :: L).map (·.1))⟩ b' = true ↔ b' = h.next ∨ ∃ e ∈ L, e.1 = b' := by
    intro b'
    rw [sees_ids]
    constructor
    · rintro ⟨e, he, rfl⟩
      rcases List.mem_cons.1 he with rfl | he
      · exact .inl rfl
      · exact .inr ⟨e, he, rfl⟩
    · rintro (rfl | ⟨e, he, rfl⟩)
      · exact ⟨_, List.mem_cons_self, rfl⟩
      · exact ⟨e, List.mem_cons_of_mem _ he, rfl⟩
  have hst : St h0 ((h.push (.cells (some F) (0 + 0) (xs ++ [c]))).setFam F ⟨Max.max fx (N + 1), some (((h.next, xs ++ [c]) :: L).map (·.1))⟩) (objs.set i ⟨.slc h.next 0 (N + 1) 1 false, 1, xs ++ [c], false⟩) := by
    refine st.upd hk' (by simp [AHeap.setFam, AHeap.push, AHeap.next]) (by simp [AHeap.setFam, AHeap.push, AHeap.nfam]) rfl ?_
    intro F' hmu _
    have := chain_fam hg F' hmu
    subst this
    refine ⟨some F, .inl ⟨h.next, 0, 0 + 0, xs ++ [c], _, hge, .inl ⟨N + 1, false, rfl, by simp [hN], Nat.zero_lt_one⟩, push_get_new, push_fam_same hFlt, (hsees _).2 (.inl rfl), (by show ((xs ++ [c]).drop 0).take (xs ++ [c]).length = xs ++ [c]; rw [List.drop_zero, List.take_length]), fun h => by cases h⟩, .inl rfl, ?_, ?_⟩
    · intro b' hb' _
      exact push_get_old hb'
    · intro G _ hne
      exact push_fam_other (fun he => hne (by rw [he]))
  have hseen : SeenX h0.next ((h.push (.cells (some F) (0 + 0) (xs ++ [c]))).setFam F ⟨Max.max fx (N + 1), some (((h.next, xs ++ [c]) :: L).map (·.1))⟩) F ((h.next, xs ++ [c]) :: L) := by
    refine ⟨_, push_fam_same hFlt, ?_⟩
    intro e he
    rcases List.mem_cons.1 he with rfl | he
    · exact ⟨hge, push_get_new⟩
    · obtain ⟨q1, q3⟩ := hs e he
      refine ⟨q1, ?_⟩
      rw [push_get_old (AHeap.get_lt q3)]; exact q3
  refine KOps.step (v := .slc h.next 0 (N + 1) 1 false) ?_ ?_ (hk _ _ hst hseen)
  · unfold SemStep
    show StepS P _ _ h _ _
    refine append_fam (P := P) (ρ := evalK h.globs n K) (x := x) (y := y) (t := t) (e := e) rfl ht.elem ht.sz hz hzs hi (n := N) (m := 1) (olds := xs) (news := [c]) (by rw [hx.eq]; exact hcx) (by rw [hy.eq]; exact hcy) (by decide) ht.zlen (by simpa using h1) (by omega) ?_ hx.eq hg hf _ _ (.inr ?_) ?_ ?_
    · calc (N + 1) * ii.bytes ≤ 4294967296 * 4096 := Nat.mul_le_mul hsz hib
        _ ≤ 140737488355328 := by decide
    · intro b' p' cs' hB hsb
      rcases (hsees b').1 hsb with rfl | ⟨e, he, rfl⟩
      · have := AHeap.get_lt hB; omega
      · obtain ⟨_, q3⟩ := hs e he
        rw [q3] at hB
        cases hB
        have := hlen e he
        omega
    · exact ⟨Nat.le_max_left _ _, by have := Nat.le_max_right fx (N + 1); omega⟩
    · intro b' hb' hsb
      rcases (hsees b').1 hsb with h | ⟨e, he, rfl⟩
      · exact absurd h hb'
      · exact sees_ids.2 ⟨e, he, rfl⟩
  · intro _ _
    refine ⟨by simp [AHeap.setFam, AHeap.push, AHeap.next], fun b' hb' => push_get_old hb', ?_⟩
    intro b' hb'
    unfold AHeap.valid
    rw [push_get_old hb']
    cases hg : h.get b' with
    | none => rfl
    | some B =>
      cases B with
      | obj _ _ => rfl
      | cells G p' cs' =>
        cases G with
        | none => rfl
        | some G =>
          simp only
          by_cases hFG : F = G
          · subst hFG
            rw [push_fam_same hFlt, hf]
            simp only
            rw [Bool.eq_iff_iff, hsees, sees_ids]
            constructor
            · rintro (rfl | q)
              · exact absurd hb' (Nat.lt_irrefl _)
              · exact q
            · exact .inr
          · rw [push_fam_other hFG]
/-- An append to nothing begins a chain. -/
theorem KOps.appendC0 {t e : TypeId} {x y : Operand} {u c : AV} {zs : List AV} [hx : EvK h.globs n K x .nils] [hy : EvK h.globs n K y u] [ht : SlT P t e 1 zs]
    (st : St h0 h objs) (hr : Rd h u 1 [c]) (h1 : c.one = true)
    (hk : ∀ b' F h', St h0 h' (⟨.slc b' 0 1 1 false, 1, [c], false⟩ :: objs) → SeenX h0.next h' F [(b', [c])] → KOps P n ops ex Q (k + 1) os ((d, .slc b' 0 1 1 false) :: K) h') :
    KOps P n ops ex Q k (⟨some d, .call { callee := .builtin .append, args := #[x, y], argTypes := #[t, t] }, ty, pos, after, none⟩ :: os) K h := by
  obtain ⟨z, hz, hzs⟩ := Option.bind_eq_some_iff.1 ht.zero
  obtain ⟨i, hi, hib⟩ := ht.info
  have hcy := hr.cells (show 0 < 1 by decide) (m := 1) rfl
  have hst : St h0 (h.alloc [c]) (⟨.slc h.next 0 1 1 false, 1, [c], true⟩ :: objs) := st.alloc (.inl ⟨1, false, rfl, rfl, Nat.zero_lt_one⟩)
  have hfam : (h.alloc [c]).fam h.nfam = some ⟨1, none⟩ := by rw [AHeap.fam_alloc, if_pos rfl]; rfl
  have hget : (h.alloc [c]).get h.next = some (.cells (some h.nfam) 0 [c]) := by rw [AHeap.get_alloc, if_pos rfl]
  have hF : h.nfam < (h.alloc [c]).nfam := by rw [AHeap.nfam_alloc]; omega
  have hst2 : St h0 ((h.alloc [c]).setFam h.nfam ⟨1, some [h.next]⟩) (⟨.slc h.next 0 1 1 false, 1, [c], false⟩ :: objs) := by
    refine hst.upd (k := 0) (o' := ⟨.slc h.next 0 1 1 false, 1, [c], false⟩) rfl (Nat.le_refl _) (by simp [AHeap.setFam, AHeap.nfam]) rfl ?_
    intro F' hmu _
    have := chain_fam hget F' hmu
    subst this
    refine ⟨some h.nfam, .inl ⟨h.next, 0, 0, [c], _, st.keeps.next, .inl ⟨1, false, rfl, rfl, Nat.zero_lt_one⟩, hget, shrink_fam hF, by simp [Fam.sees], rfl, fun h => by cases h⟩, .inl rfl, fun _ _ _ => rfl, ?_⟩
    intro G _ hne
    exact shrink_other (fun he => hne (by rw [he]))
  refine KOps.step (v := .slc h.next 0 1 1 false) (h' := (h.alloc [c]).setFam h.nfam ⟨1, some [h.next]⟩) ?_ ?_ (hk _ h.nfam _ hst2 ⟨1, shrink_fam hF, ?_⟩)
  · unfold SemStep
    show StepS P _ _ h _ _
    have hcn : acells h 1 .nils = some (0, []) := (show Rd h .nils 1 [] from .inl ⟨rfl, rfl⟩).cells (by decide) (m := 0) rfl
    have h2 : aappend P true h t .nils u = some (.slc h.next 0 1 1 false, h.alloc [c]) := by
      simp only [aappend, ht.elem, ht.sz, hz, hzs, hi, hcn, hcy, Option.bind_eq_bind, Option.bind_some]
      rw [if_neg (by decide), if_pos ⟨ht.zlen, by simpa using h1, by decide, by omega⟩]
    refine StepS.shrink (h' := h.alloc [c]) (achain_step (kill := true) ?_) hfam (fun _ _ => rfl)
    simp only [achain, hx.eq, hy.eq, if_true]
    exact h2
  · intro _ hw
    have h3 := (alloc_keeps h [c]).hext hw
    refine ⟨h3.next, h3.get, ?_⟩
    intro b' hb'
    rw [← h3.valid b' hb']
    unfold AHeap.valid
    rw [shrink_get]
    cases hg : (h.alloc [c]).get b' with
    | none => rfl
    | some B =>
      cases B with
      | obj _ _ => rfl
      | cells G p' cs' =>
        cases G with
        | none => rfl
        | some G =>
          simp only
          by_cases hFG : h.nfam = G
          · subst hFG
            rw [AHeap.get_alloc, if_neg (by omega)] at hg
            obtain ⟨f, hf, _⟩ := hw _ _ _ _ hg
            exact absurd (AHeap.fam_lt hf) (Nat.lt_irrefl _)
          · rw [shrink_other hFG]
  · intro e he
    rw [List.mem_singleton] at he
    subst he
    exact ⟨st.keeps.next, hget⟩
/-! Families of other objects stay. -/
theorem SeenX.append {lo F : Nat} {h' : AHeap} {L : List (Nat × List AV)} {t : TypeId} {v u r : AV} (s : SeenX lo h F L) (ha : aappend P true h t v u = some (r, h')) (hne : ∀ b o m s' full G p cs, v = .slc b o m s' full → h.get b = some (.cells (some G) p cs) → G ≠ F) : SeenX lo h' F L := by
  obtain ⟨x, hf, hs⟩ := s
  have hF := AHeap.fam_lt hf
  have halloc : ∀ cs, SeenX lo (h.alloc cs) F L := fun cs => ⟨x, (alloc_keeps h cs).fam_some hf, fun e he => ⟨(hs e he).1, (alloc_keeps h cs).get_some (hs e he).2⟩⟩
  simp only [aappend, Option.bind_eq_bind, Option.bind_eq_some_iff] at ha
  obtain ⟨e, _, s, _, z, _, zs, _, i, _, ⟨n, olds⟩, _, ⟨m, news⟩, _, ha⟩ := ha
  split at ha
  · cases ha; exact ⟨x, hf, hs⟩
  · split at ha
    · split at ha
      · cases ha; exact halloc _
      · cases ha; exact halloc _
      · rename_i b o n' s' 
        split at ha
        · rename_i G p cs hg
          obtain ⟨f, _, ha⟩ := Option.bind_eq_some_iff.1 ha
          have hGF := hne _ _ _ _ _ _ _ _ rfl hg
          have main : ∀ f B, SeenX lo ((h.push B).setFam G f) F L := by
            intro f B
            refine ⟨x, by rw [push_fam_other hGF]; exact hf, fun e he => ⟨(hs e he).1, ?_⟩⟩
            rw [push_get_old (AHeap.get_lt (hs e he).2)]
            exact (hs e he).2
          split at ha
          · cases ha; exact main _ _
          · split at ha
            · cases ha; exact main _ _
            · cases ha
        · cases ha
      · cases ha
    · cases ha
theorem SeenX.store {lo F b o : Nat} {h' : AHeap} {L : List (Nat × List AV)} {t : TypeId} {w r : AV} (s : SeenX lo h F L) (ha : astore P h t (.ptr b o) w = some (r, h')) (hne : ∀ G p cs, h.get b = some (.cells (some G) p cs) → G ≠ F) : SeenX lo h' F L := by
  obtain ⟨x, hf, hs⟩ := s
  simp only [astore] at ha
  split at ha
  · rename_i G p cs hg
    have hGF := hne _ _ _ hg
    simp only [Option.bind_eq_bind, Option.bind_eq_some_iff] at ha
    obtain ⟨f, _, l, _, s, _, ha⟩ := ha
    split at ha
    · cases ha
      refine ⟨x, by rw [shrink_other hGF]; exact hf, fun e he => ⟨(hs e he).1, ?_⟩⟩
      have h1 := (hs e he).2
      have hne2 : b ≠ e.1 := by
        intro he2
        rw [← he2, hg] at h1
        cases h1
        exact hGF rfl
      rw [shrink_get]
      simp only [AHeap.set, AHeap.get] at h1 ⊢
      rw [List.getElem?_set_ne hne2]
      exact h1
    · cases ha
  · cases ha
/-- Two objects are of two families. -/
theorem St.fam_ne {i j b N F lo b' G p : Nat} {cs xs : List AV} {tip : Bool} {L : List (Nat × List AV)} {o : Obj} (st : St h0 h objs) (hij : i ≠ j) (hi : objs[i]? = some ⟨.slc b 0 N 1 false, 1, xs, tip⟩) (hL : SeenX lo h F L) (hb : (b, xs) ∈ L) (hj : objs[j]? = some o) (hv : (∃ off m s full, o.v = .slc b' off m s full) ∨ ∃ off, o.v = .ptr b' off) (hg : h.get b' = some (.cells (some G) p cs)) : G ≠ F := by
  obtain ⟨x, hf, hs⟩ := hL
  have hgb := (hs _ hb).2
  obtain ⟨_, fs, hl, hm, hd, _⟩ := st
  have hil : i < fs.length := by rw [hl]; exact (List.getElem?_eq_some_iff.1 hi).1
  have hjl : j < fs.length := by rw [hl]; exact (List.getElem?_eq_some_iff.1 hj).1
  have h1 := chain_fam hgb _ (hm i _ _ hi (List.getElem?_eq_getElem hil))
  have h2 := hm j _ _ hj (List.getElem?_eq_getElem hjl)
  intro hGF
  subst hGF
  refine hij (hd i j G (by rw [List.getElem?_eq_getElem hil, h1]) ?_)
  rw [List.getElem?_eq_getElem hjl]
  cases hq : fs[j] with
  | none =>
    rw [hq] at h2
    have := h2.1
    rcases hv with ⟨_, _, _, _, hv⟩ | ⟨_, hv⟩ <;> rw [hv] at this <;> cases this
  | some G' =>
    rw [hq] at h2
    rcases h2 with ⟨b2, off, p2, cs2, f, _, hview, hg2, _⟩ | ⟨b2, y, f, _, h3, _⟩
    · have he : b2 = b' := by
        rcases hview with ⟨m, full, h4, _⟩ | ⟨_, h4⟩ <;> rcases hv with ⟨_, _, _, _, hv⟩ | ⟨_, hv⟩ <;> rw [hv] at h4 <;> cases h4 <;> rfl
      subst he
      rw [hg] at hg2
      cases hg2
      rfl
    · rcases hv with ⟨_, _, _, _, hv⟩ | ⟨_, hv⟩ <;> rw [hv] at h3
      · exact (Thing.at_slc h3.symm).elim
      · exact (Thing.at_ptr h3.symm).elim
theorem KOps.appendE {t e : TypeId} {x y : Operand} {v u : AV} {s a b i : Nat} {xs ys zs : List AV} {tip : Bool} [hx : EvK h.globs n K x v] [hy : EvK h.globs n K y u] [ht : SlT P t e s zs] (st : St h0 h objs) (hex : ex.contains k = true → tip = true) (hk' : objs[i]? = some ⟨v, s, xs, tip⟩) (ha : xs.length = a * s)
    (hr : Rd h u s ys) (hb : ys.length = b * s) (h1 : ys.all AV.one = true) (hsz : a + b ≤ 4294967296) (hk : ∀ r h', aappend P true h t v u = some (r, h') → St h0 h' (objs.set i ⟨r, s, xs ++ ys, tip⟩) → KOps P n ops ex Q (k + 1) os ((d, r) :: K) h') :
    KOps P n ops ex Q k (⟨some d, .call { callee := .builtin .append, args := #[x, y], argTypes := #[t, t] }, ty, pos, after, none⟩ :: os) K h := by
  obtain ⟨r, h', h2, h3, h4⟩ := st.append (P := P) (t := t) (e := e) (zs := zs) hk' ha hr hb h1 hsz
  refine KOps.chain (kill := true) rfl ?_ (fun hc => h4 (hex hc)) (hk r h' h2 h3)
  simp only [achain, hx.eq, hy.eq, if_true]
  exact h2
theorem KOps.appendRowE {pre rest : List Obj} {t e : TypeId} {x y : Operand} {vo u v : AV} {p : List Int} {vs : List AV} {ps : List (List Int)} {zs : List AV} {tp tip' : Bool} [hx : EvK h.globs n K x vo] [hy : EvK h.globs n K y u] [ht : SlT P t e 1 zs] (st : St h0 h (⟨u, 1, [v], tip'⟩ :: ⟨v, 1, ints p, tp⟩ :: (pre ++ (matObjs tp vo vs ps ++ rest)))) (hl : vs.length = ps.length) (hsz : ps.length + 1 ≤ 4294967296)
    (hk : ∀ r h', aappend P true h t vo u = some (r, h') → r.one = true → St h0 h' (pre ++ (matObjs tp r (vs ++ [v]) (ps ++ [p]) ++ rest)) → KOps P n ops ex Q (k + 1) os ((d, r) :: K) h') :
    KOps P n ops ex Q k (⟨some d, .call { callee := .builtin .append, args := #[x, y], argTypes := #[t, t] }, ty, pos, after, none⟩ :: os) K h := by
  have hv := st.one (k := 1) (o := ⟨v, 1, ints p, tp⟩) rfl
  refine KOps.appendE (e := e) (zs := zs) (s := 1) (i := pre.length + 2) (a := ps.length) (b := 1) (xs := vs) (ys := [v]) (tip := true) st (fun _ => rfl) ?_ (by omega) (st.rd 0 rfl) rfl (by simpa using hv) hsz ?_
  · rw [List.getElem?_cons_succ, List.getElem?_cons_succ, List.getElem?_append_right (Nat.le_refl _), Nat.sub_self]; rfl
  intro r h' hE hS
  have hS1 : St h0 h' (⟨v, 1, ints p, tp⟩ :: (pre ++ (⟨r, 1, vs ++ [v], true⟩ :: (rowObjs tp vs ps ++ rest)))) := by
    have := St.tail hS
    rw [List.set_cons_succ, List.set_append_right _ _ (Nat.le_refl _), Nat.sub_self] at this
    exact this
  have hone := (St.tail hS1).one (k := pre.length) (o := ⟨r, 1, vs ++ [v], true⟩) (by rw [List.getElem?_append_right (Nat.le_refl _), Nat.sub_self]; rfl)
  refine hk r h' hE hone (St.perm ?_ hS1)
  rw [matObjs, ← rowObjs_snoc hl]
  simp only [List.append_assoc, List.cons_append]
  refine List.Perm.trans (List.perm_middle.symm) (List.Perm.append_left _ ?_)
  refine List.Perm.trans (List.Perm.swap _ _ _) (List.Perm.cons _ ?_)
  simpa using (List.perm_middle (a := (⟨v, 1, ints p, tp⟩ : Obj)) (l₁ := rowObjs tp vs ps) (l₂ := rest)).symm
theorem KOps.storeEq {t : TypeId} {x y : Operand} {p v : AV} {i j : Nat} {o : Obj} [hx : EvK h.globs n K x p] [hy : EvK h.globs n K y v] [ht : ScT P t] (st : St h0 h objs) (hex : ex.contains k = false) (hk' : objs[i]? = some o) (ha : AddrOf p o.v o.s j) (h1 : v.one = true) (hj : j < o.xs.length)
    (hk : ∀ h', astore P h t p v = some (.tup [], h') → St h0 h' (objs.set i { o with xs := o.xs.set j v }) → KOps P n ops ex Q (k + 1) os K h') : KOps P n ops ex Q k (⟨none, .store t x y, ty, pos, after, none⟩ :: os) K h := by
  obtain ⟨h', h2, h3⟩ := st.store (P := P) (t := t) hk' ha (AV.cells_one h1) ht.sz (by simp) (by simpa using Nat.succ_le_of_lt hj)
  rw [putL_one _ _ _ hj] at h3
  refine KOps.chain0 (kill := true) (v := .tup []) rfl ?_ (fun hc => by rw [hex] at hc; cases hc) (hk h' h2 h3)
  simp only [achain, hx.eq, hy.eq]
  exact h2
theorem KOps.buildSliceE {t e : TypeId} {len : Nat} {l : List (Nat × Operand)} {vs zs : List AV} [ht : SlT P t e 1 zs] [hl : EvKp h.globs n K l vs] (st : St h0 h objs) (hr : l.map (·.1) = List.range len) (hlen : len ≤ 1000000) (h1 : vs.all AV.one = true)
    (hk : ∀ v h', Keeps h h' → St h0 h' (⟨v, 1, vs, true⟩ :: objs) → KOps P n ops ex Q (k + 1) os ((d, v) :: K) h') : KOps P n ops ex Q k (⟨some d, .buildSlice t len (List.toArray l), ty, pos, after, none⟩ :: os) K h := by
  have hvl : vs.length = len := by rw [← hl.eq, List.length_map, ← List.length_map (f := (·.1)), hr, List.length_range]
  obtain ⟨z, hz, _⟩ := Option.bind_eq_some_iff.1 ht.zero
  refine KOps.allo (mk := .slc len 1 true) (cs := vs) rfl ?_ (hk _ _ (alloc_keeps h vs) (st.alloc (.inl ⟨len, true, rfl, by simpa using hvl, by decide⟩)))
  simp only [aallo, ht.elem, ht.sz, hz, Option.bind_eq_bind, Option.bind_some]
  have : List.map (fun p : Nat × Operand => evalK h.globs n K p.snd) l = vs := hl.eq
  simp only [this, partsA_one vs h1, Option.bind_some]
  rw [if_pos ⟨hr, by omega, by omega⟩]
end
end Go.Am
