/-
  The abstract machine: an interpreter of more: maps, walks along strings, scopes, results in cells, and calls beside loads.
  Conditions: none.
-/
import Derived.Test.YtdfhmdhjeiipfaaDoorAmW
import Derived.Test.YtdfhmdhjeiipfaaDoorProg
import Derived.Test.YtdfhmdhjeiipfaaDoorAmC
import Derived.Test.YtdfhmdhjeiipfaaDoorAmQ
namespace Go.Am

/-- Values, compared. -/
def AV.eqF : Nat → AV → AV → Bool
  | _, .bot, .bot => true
  | _, .bool a, .bool b => a == b
  | _, .int k a, .int k' b => decide (k = k') && decide (a = b)
  | _, .str a, .str b => decide (a = b)
  | _, .ptr b o, .ptr b' o' => decide (b = b') && decide (o = o')
  | _, .nilp, .nilp => true
  | _, .slc b o n s f, .slc b' o' n' s' f' => decide (b = b') && (decide (o = o') && (decide (n = n') && (decide (s = s') && f == f')))
  | _, .nils, .nils => true
  | _, .mp b, .mp b' => decide (b = b')
  | _, .it b, .it b' => decide (b = b')
  | _, .nilm, .nilm => true
  | _, .nilf, .nilf => true
  | n + 1, .fn f l, .fn f' l' => decide (f = f') && (decide (l.length = l'.length) && (l.zip l').all fun p => AV.eqF n p.1 p.2)
  | n + 1, .agg l, .agg l' => decide (l.length = l'.length) && (l.zip l').all fun p => AV.eqF n p.1 p.2
  | n + 1, .tup l, .tup l' => decide (l.length = l'.length) && (l.zip l').all fun p => AV.eqF n p.1 p.2
  | _, _, _ => false
theorem AV.eqF_eq : ∀ (n : Nat) (x y : AV), AV.eqF n x y = true → x = y := by
  intro n
  induction n with
  | zero =>
    intro x y h
    cases x <;> cases y <;> simp only [AV.eqF, Bool.false_eq_true, Bool.and_eq_true, decide_eq_true_eq, beq_iff_eq] at h <;> simp_all
  | succ n ih =>
    intro x y h
    cases x <;> cases y <;> simp only [AV.eqF, Bool.false_eq_true, Bool.and_eq_true, decide_eq_true_eq, beq_iff_eq] at h <;> first
      | rfl
      | (rw [h]; done)
      | (rw [h.1, h.2]; done)
      | (rw [h.1, h.2.1, h.2.2.1, h.2.2.2.1, h.2.2.2.2]; done)
      | (rw [h.1, isPs_eq ih _ _ h.2.1 h.2.2]; done)
      | (rw [isPs_eq ih _ _ h.1 h.2]; done)
def Thing.eqF : Thing → Thing → Bool
  | .map es, .map es' => decide (es.length = es'.length) && (es.zip es').all fun p => AV.eqF 4 p.1.1 p.2.1 && AV.eqF 4 p.1.2 p.2.2
  | .walk s p, .walk s' p' => decide (s = s') && decide (p = p')
  | .gone, .gone => true
  | _, _ => false
theorem Thing.eqF_eq {x y : Thing} (h : Thing.eqF x y = true) : x = y := by
  cases x <;> cases y <;> simp only [Thing.eqF, Bool.false_eq_true, Bool.and_eq_true, decide_eq_true_eq] at h
  · rename_i es es'
    congr 1
    revert es'
    induction es with
    | nil => intro es' h; cases es' with
      | nil => rfl
      | cons _ _ => cases h.1
    | cons a es ih => intro es' h; cases es' with
      | nil => cases h.1
      | cons b es' =>
        obtain ⟨h1, h2⟩ := h
        rw [List.zip_cons_cons, List.all_cons, Bool.and_eq_true, Bool.and_eq_true] at h2
        have e1 : a.1 = b.1 := AV.eqF_eq 4 _ _ h2.1.1
        have e2 : a.2 = b.2 := AV.eqF_eq 4 _ _ h2.1.2
        rw [show a = b from Prod.ext e1 e2, ih es' ⟨Nat.succ.inj h1, h2.2⟩]
  · rw [h.1, h.2]
  · rfl
def Blk.eqF : Blk → Blk → Bool
  | .cells F p cs, .cells F' p' cs' => decide (F = F') && (decide (p = p') && (decide (cs.length = cs'.length) && (cs.zip cs').all fun q => AV.eqF 4 q.1 q.2))
  | .obj F x, .obj F' x' => decide (F = F') && Thing.eqF x x'
  | _, _ => false
theorem Blk.eqF_eq {x y : Blk} (h : Blk.eqF x y = true) : x = y := by
  cases x <;> cases y <;> simp only [Blk.eqF, Bool.false_eq_true, Bool.and_eq_true, decide_eq_true_eq] at h
  · rw [h.1, h.2.1, isPs_eq (AV.eqF_eq 4) _ _ h.2.2.1 h.2.2.2]
  · rw [h.1, Thing.eqF_eq h.2]
/-- Does a heap hold all of another? -/
noncomputable def heapExt (h h' : AHeap) : Bool := (List.range h.next).all fun b => (match getR h b, getR h' b with | some x, some y => Blk.eqF x y | _, _ => false) && validR h b == validR h' b
theorem heapExt_sound {h h' : AHeap} (hx : heapExt h h' = true) : HExt h h' := by
  have key : ∀ b, b < h.next → h'.get b = h.get b ∧ h'.valid b = h.valid b := by
    intro b hb
    have := List.all_eq_true.1 hx b (List.mem_range.2 hb)
    rw [Bool.and_eq_true, beq_iff_eq, validR_eq, validR_eq, getR_eq, getR_eq] at this
    obtain ⟨h1, h2⟩ := this
    split at h1
    · rename_i x y e1 e2
      rw [e1, e2, Blk.eqF_eq h1]
      exact ⟨rfl, h2.symm⟩
    · cases h1
  refine ⟨?_, fun b hb => (key b hb).1, fun b hb => (key b hb).2⟩
  cases hn : h.next with
  | zero => exact Nat.zero_le _
  | succ n =>
    have hlt : n < h.blks.length := by have : h.next = h.blks.length := rfl; omega
    have h1 := (key n (by omega)).1
    have h2 : h.get n = some h.blks[n] := List.getElem?_eq_getElem hlt
    rw [h2] at h1
    exact AHeap.get_lt h1
/-- A step that reads or changes memory. -/
noncomputable def axchain (P : Program) (kill : Bool) (h : AHeap) (ρ : Operand → AV) (op : Op) : Option (AV × AHeap) :=
  match op with
  | .makeMap _ none => some (.mp h.next, h.allocT (.map []))
  | .lookup t x ix ok => match alook P h t (ρ x) (ρ ix) ok with | some v => some (v, h) | none => none
  | .mapUpdate t x ix y => match aput P h t (ρ x) (ρ ix) (ρ y) with | some h' => some (.tup [], h') | none => none
  | .insert t x ix y => match aput P h t (ρ x) (ρ ix) (ρ y) with | some h' => some (.tup [], h') | none => none
  | .range t x => match ρ x with | .str s => if isStrA P t = true then some (.it h.next, h.allocT (.walk s 0)) else none | _ => none
  | .next x true => match ρ x with
    | .it b => match getR h b with
      | some (.obj F (.walk s pos)) => if pos < s.size then some (.tup [.bool true, .int .i64 pos, .int .i32 (Utf8.decode s pos).1], h.set b (.obj F (.walk s (pos + (Utf8.decode s pos).2)))) else some (.tup [.bool false], h)
      | _ => none
    | _ => none
  | op => achainR P kill h ρ op
theorem axchain_step {P : Program} {kill : Bool} {ρ : Operand → AV} {o : Oper} {h h' : AHeap} {v : AV} (hs : axchain P kill h ρ o.op = some (v, h')) : StepS P ρ o h v h' := by
  unfold axchain at hs
  split at hs
  · rename_i ho; cases hs; exact makeMap_step ho
  · rename_i ho
    split at hs
    · rename_i hl; cases hs; exact lookup_step ho hl
    · cases hs
  · rename_i ho
    split at hs
    · rename_i hl; cases hs; exact mapUpdate_step ho hl
    · cases hs
  · rename_i ho
    split at hs
    · rename_i hl; cases hs; exact insert_step ho hl
    · cases hs
  · rename_i ho
    split at hs
    · rename_i hx
      split at hs
      · rename_i ht; cases hs; exact range_step ho ht hx
      · cases hs
    · cases hs
  · rename_i ho
    split at hs
    · rename_i hx
      split at hs
      · rename_i hg
        rw [getR_eq] at hg
        split at hs
        · rename_i hlt; cases hs; exact next_step ho hx hg hlt
        · rename_i hlt; cases hs; exact next_over ho hx hg (by omega)
      · cases hs
    · cases hs
  · rw [achainR_eq] at hs; exact achain_step hs
def touchedX (h : AHeap) (ρ : Operand → AV) (op : Op) : Nat := match op with
  | .mapUpdate _ x _ _ => match ρ x with | .mp b => b | _ => 0
  | .insert _ x _ _ => match ρ x with | .mp b => b | _ => 0
  | .next x _ => match ρ x with | .it b => b | _ => 0
  | op => touched h ρ op
/-- One operation. -/
noncomputable def astepX (P : Program) (kill tx : Bool) (call : FuncId → List AV → AHeap → Option (AV × AHeap)) (h : AHeap) (ρ : Operand → AV) (o : Oper) : Option (AV × AHeap) :=
  match clsOf o.op with
  | .pure => match apure P ρ o.op with
    | some v => some (v, h)
    | none => if tx = true then (match o.op with
      | .makeFunc (.func f) first cap => some (.fnm f (first.toList.map ρ) (cap.toList.map ρ), h)
      | .call { callee := .builtin .len, args, argTypes } => match args.toList, argTypes.toList with
        | [x], [t] => match mapA P t, ents h (ρ x) with | some _, some es => some (.int .i64 es.length, h) | _, _ => none
        | _, _ => none
      | _ => none) else none
  | .read => match areadB P h ρ o.op with | some v => some (v, h) | none => none
  | .allo => match aallo P ρ o.op with | some (mk, cs) => seqHeapR (h.alloc cs) h.next fun h' => some (mk.val h.next, h') | none => none
  | .chain => match o.op with
    | .call { callee := .value g, args, .. } => match ρ g with
      | .fn f caps => call f (args.toList.map ρ ++ caps) h
      | .fnm f first caps => call f (first ++ args.toList.map ρ ++ caps) h
      | _ => none
    | op => match axchain P kill h ρ op with
      | some (v, h') => seqHeapR h' (touchedX h ρ op) fun h' => some (v, h')
      | none => none
theorem astepX_step {P : Program} {kill tx : Bool} {call : FuncId → List AV → AHeap → Option (AV × AHeap)} (hc : ∀ f args h r h', call f args h = some (r, h') → Ev P f args h r h') {h h' : AHeap} {ρ : Operand → AV} {o : Oper} {v : AV}
    (hs : astepX P kill tx call h ρ o = some (v, h')) : SemStep P ρ o h v h' ∨ (tx = true ∧ StepS P ρ o h v h') := by
  unfold astepX at hs
  split at hs
  · rename_i hcl
    split at hs
    · rename_i hp; cases hs; left; unfold SemStep; rw [hcl]; exact ⟨hp, rfl⟩
    · split at hs
      · rename_i htx
        right
        refine ⟨htx, ?_⟩
        split at hs
        · rename_i ho; cases hs; exact makeMeth_step ho
        · rename_i args tys ho
          split at hs
          · rename_i x t hx ht
            split at hs
            · rename_i p es hm he
              cases hs
              have hax : args = #[x] := by apply Array.ext'; simpa using hx
              have hat : tys = #[t] := by apply Array.ext'; simpa using ht
              subst hax hat
              exact mapLen_step ho hm he
            · cases hs
          · cases hs
        · cases hs
      · cases hs
  · rename_i hcl
    split at hs
    · rename_i hp; cases hs; left; rw [areadB_eq] at hp; unfold SemStep; rw [hcl]; exact ⟨hp, rfl⟩
    · cases hs
  · rename_i hcl
    split at hs
    · rename_i hp; rw [seqHeapR_eq] at hs; cases hs; left; unfold SemStep; rw [hcl]; exact ⟨_, _, hp, rfl, rfl⟩
    · cases hs
  · rename_i hcl
    left
    split at hs
    · rename_i g args tys ho
      split at hs
      · rename_i f caps hg
        exact Ev.step ho hg (hc _ _ _ _ _ hs)
      · rename_i f first caps hg
        exact Ev.stepM ho hg (hc _ _ _ _ _ hs)
      · cases hs
    · split at hs
      · rename_i hp
        rw [seqHeapR_eq] at hs; cases hs
        unfold SemStep; rw [hcl]
        exact axchain_step hp
      · cases hs
theorem astepX_call {P : Program} {kill tx : Bool} {c1 c2 : FuncId → List AV → AHeap → Option (AV × AHeap)} (hc : ∀ f args h r h', c1 f args h = some (r, h') → c2 f args h = some (r, h')) {h h' : AHeap} {ρ : Operand → AV} {o : Oper} {v : AV}
    (hs : astepX P kill tx c1 h ρ o = some (v, h')) : astepX P kill tx c2 h ρ o = some (v, h') := by
  unfold astepX at hs ⊢
  split at hs
  · exact hs
  · exact hs
  · exact hs
  · split at hs
    · split at hs
      · exact hc _ _ _ _ _ hs
      · exact hc _ _ _ _ _ hs
      · cases hs
    · exact hs
/-- Calls of a region. -/
def isVCall (o : Oper) : Bool := match o.op with | .call { callee := .value _, .. } => true | _ => false
def callsOf (l : List Oper) : List Nat := (l.zipIdx.filter fun p => isVCall p.1).map (·.2)
def exTest (exs : List Nat) (kill : Bool) (k : Nat) (o : Oper) : Bool := exs.contains k && !(isApp o && !kill)
def isTx (exs : List Nat) : Bool := match exs with | [x] => Nat.beq x 1000000 | _ => false
theorem isTx_eq {exs : List Nat} (h : isTx exs = true) : exs = TXT := by
  unfold isTx at h
  split at h
  · rw [Nat.eq_of_beq_eq_true h]
  · cases h

noncomputable def aopsX (P : Program) (kill : Bool) (call : FuncId → List AV → AHeap → Option (AV × AHeap)) (ops : Array Oper) (exs : List Nat) : Nat → List Oper → List AV → AHeap → Option (List AV × AHeap)
  | _, [], fr, h => some (fr, h)
  | k, o :: os, fr, h =>
    match (match o.guard with | none => some true | some (j, want) => (guardA ops fr j).map (· == some want)) with
    | some true => match astepX P kill (isTx exs) call h (evalA h.globs fr) o with
      | some (v, h') => if (!exTest exs kill k o || heapExt h h') = true then putS fr o.dst v fun fr' => aopsX P kill call ops exs (k + 1) os fr' h' else none
      | none => none
    | some false => putS fr o.dst (.tup []) fun fr' => aopsX P kill call ops exs (k + 1) os fr' h
    | none => none

theorem aopsX_sound {P : Program} {kill : Bool} {call : FuncId → List AV → AHeap → Option (AV × AHeap)} (hc : ∀ f args h r h', call f args h = some (r, h') → Ev P f args h r h') {ops : Array Oper} {exs : List Nat} {fr' : List AV} {h' : AHeap} :
    ∀ (l : List Oper) (k : Nat) (fr : List AV) (h : AHeap), aopsX P kill call ops exs k l fr h = some (fr', h') → AOps P ops exs (fun f1 h1 => f1 = fr' ∧ h1 = h') k l fr h := by
  intro l
  induction l with
  | nil => intro k fr h hs; cases hs; exact ⟨rfl, rfl⟩
  | cons o os ih =>
    intro k fr h hs
    have hgo : ∀ v h1, astepX P kill (isTx exs) call h (evalA h.globs fr) o = some (v, h1) → (!exTest exs kill k o || heapExt h h1) = true → aopsX P kill call ops exs (k + 1) os (setF fr o.dst v) h1 = some (fr', h') →
        ∃ v h1, (SemStep P (evalA h.globs fr) o h v h1 ∨ (exs = TXT ∧ StepS P (evalA h.globs fr) o h v h1)) ∧ (exs.contains k = true → WFH h → HExt h h1) ∧ AOps P ops exs (fun f1 h1 => f1 = fr' ∧ h1 = h') (k + 1) os (setF fr o.dst v) h1 := by
      intro v h1 hst htest hrest
      refine ⟨v, h1, (astepX_step hc hst).imp id (fun q => ⟨isTx_eq q.1, q.2⟩), ?_, ih (k + 1) _ h1 hrest⟩
      intro hk wf
      rw [Bool.or_eq_true] at htest
      rcases htest with ht | ht
      · simp only [exTest, hk, Bool.true_and, Bool.not_not, Bool.and_eq_true, Bool.not_eq_true'] at ht
        obtain ⟨happ, hkill⟩ := ht
        subst hkill
        unfold isApp at happ
        split at happ
        · rename_i args tys hop
          simp only [astepX, hop, clsOf, axchain, achainR_eq, achain] at hst
          split at hst
          · rename_i hp
            split at hp
            · split at hp
              · rw [seqHeapR_eq] at hst; cases hst
                exact aappend_ext wf hp
              · rw [seqHeapR_eq] at hst; cases hst
                exact aappendZ_ext wf hp
            · cases hp
          · cases hst
        · cases happ
      · exact heapExt_sound ht
    unfold aopsX at hs
    unfold AOps
    have hgo2 : (match astepX P kill (isTx exs) call h (evalA h.globs fr) o with
        | some (v, h') => if (!exTest exs kill k o || heapExt h h') = true then putS fr o.dst v fun fr' => aopsX P kill call ops exs (k + 1) os fr' h' else none
        | none => none) = some (fr', h') → ∃ v h1, (SemStep P (evalA h.globs fr) o h v h1 ∨ (exs = TXT ∧ StepS P (evalA h.globs fr) o h v h1)) ∧ (exs.contains k = true → WFH h → HExt h h1) ∧ AOps P ops exs (fun f1 h1 => f1 = fr' ∧ h1 = h') (k + 1) os (setF fr o.dst v) h1 := by
      intro hs
      split at hs
      · rename_i v h1 hst
        split at hs
        · rename_i ht
          rw [putS_eq] at hs
          exact hgo v h1 hst ht hs
        · cases hs
      · cases hs
    cases hg : o.guard with
    | none =>
      simp only [hg] at hs ⊢
      exact hgo2 hs
    | some jw =>
      obtain ⟨j, want⟩ := jw
      simp only [hg] at hs ⊢
      cases hga : guardA ops fr j with
      | none => rw [hga] at hs; simp at hs
      | some b =>
        rw [hga] at hs
        simp only [Option.map_some] at hs
        refine ⟨b, rfl, ?_, ?_⟩
        · intro hbw
          have : (b == some want) = true := by simp [hbw]
          rw [this] at hs
          exact hgo2 hs
        · intro hbw
          have : (b == some want) = false := by simp [hbw]
          rw [this] at hs
          simp only at hs
          rw [putS_eq] at hs
          exact ih (k + 1) _ h hs
theorem aopsX_length {P : Program} {kill : Bool} {call : FuncId → List AV → AHeap → Option (AV × AHeap)} {ops : Array Oper} {exs : List Nat} {fr' : List AV} {h' : AHeap} : ∀ (l : List Oper) (k : Nat) (fr : List AV) (h : AHeap), aopsX P kill call ops exs k l fr h = some (fr', h') → fr'.length = fr.length := by
  have hset : ∀ (fr : List AV) (d : Option Tmp) (v : AV), (setF fr d v).length = fr.length := by intro fr d v; cases d <;> simp [setF]
  intro l
  induction l with
  | nil => intro k fr h hs; cases hs; rfl
  | cons o os ih =>
    intro k fr h hs
    unfold aopsX at hs
    split at hs
    · split at hs
      · split at hs
        · rw [putS_eq] at hs; rw [ih _ _ _ hs, hset]
        · cases hs
      · cases hs
    · rw [putS_eq] at hs; rw [ih _ _ _ hs, hset]
    · cases hs

/-- A load that may come behind a store: the places are other ones (to be seen in the run). -/
def pairOkX (sz : Nat) (l : List Oper) (exs : List Nat) (c r : Nat) : Bool := Nat.blt r c && (Nat.ble (c + 1) l.length && (rgOk sz l exs [(c, r)] && (match l[r]? with
  | some o => (match o.op, o.dst with
    | .load _ (.tmp a), some d => Nat.blt d sz && ((List.range' r (c + 1 - r)).all fun j => match l[j]? with | some oj => oj.dst != some a && (j == r || oj.dst != some d) | none => true)
    | _, _ => false)
  | none => false)))
def candB (l : List Oper) (p : Nat × Nat) : Bool := (match l[p.1]? with | some o => isChain o | none => false) && (match l[p.2]? with | some o => (match o.op with | .load _ _ => true | _ => false) | none => false)
def pairOf (sz : Nat) (l : List Oper) (exs : List Nat) : Option (Nat × Nat) := ((List.range l.length).flatMap fun c => (List.range c).map fun r => (c, r)).find? fun p => candB l p && pairOkX sz l exs p.1 p.2
/-- How a region whose order is open is run: what is tested, and which load is read again behind which operation. -/
def planOf (sz : Nat) (l : List Oper) : List Nat × Option (Nat × Nat) :=
  if rgOk sz l (appsOf l) = true then (appsOf l, none) else match pairOf sz l (appsOf l) with
    | some p => (appsOf l, some p)
    | none => match pairOf sz l [] with
      | some p => ([], some p)
      | none => if rgOk sz l (appsOf l ++ callsOf l) = true then (appsOf l ++ callsOf l, none) else (appsOf l, none)
def planOk (sz : Nat) (l : List Oper) : Bool := match planOf sz l with | (exs, none) => rgOk sz l exs | (exs, some p) => pairOkX sz l exs p.1 p.2
noncomputable def reload (P : Program) (l : List Oper) (r : Nat) (ρ : Nat → AV) (h : AHeap) : Bool := match l[r]? with
  | some o => (match o.op, o.dst with
    | .load t (.tmp a), some d => (match aload P h t (ρ a) with | some v => AV.eqF 4 v (ρ d) | none => false)
    | _, _ => false)
  | none => false
noncomputable def regX (P : Program) (call : FuncId → List AV → AHeap → Option (AV × AHeap)) (ops : Array Oper) (sz : Nat) (draw : Bool) (fr : List AV) (h : AHeap) : Option (List AV × AHeap) :=
  if draw = true then (match planOf sz ops.toList with
    | (exs, none) => aopsX P false call ops exs 0 ops.toList fr h
    | (exs, some p) => match aopsX P (exs.isEmpty) call ops exs 0 (ops.toList.take (p.1 + 1)) fr h with
      | some (fr1, h1) => if reload P ops.toList p.2 (fun t => fr1.getD t .bot) h1 = true then aopsX P (exs.isEmpty) call ops exs (p.1 + 1) (ops.toList.drop (p.1 + 1)) fr1 h1 else none
      | none => none)
  else aopsX P true call ops TXT 0 ops.toList fr h
theorem regX_sound {P : Program} (hm : P.follows .mixedOrders = true) {call : FuncId → List AV → AHeap → Option (AV × AHeap)} (hc : ∀ f args h r h', call f args h = some (r, h') → Ev P f args h r h') {id sz : Nat} {ops : Array Oper} {draw : Bool} {fr fr' : List AV} {h h' : AHeap}
    (hok : draw = true → planOk sz ops.toList = true) (hsz : fr.length = sz) (hr : regX P call ops sz draw fr h = some (fr', h')) : fr'.length = sz ∧ AW P (.region id ops draw) (fun e1 f1 h1 => e1 = .normal ∧ f1 = fr' ∧ h1 = h') fr h := by
  unfold regX at hr
  cases draw with
  | false =>
    rw [if_neg (by decide)] at hr
    refine ⟨(aopsX_length _ _ _ _ hr).trans hsz, ?_⟩
    have := aopsX_sound hc (exs := TXT) ops.toList 0 fr h hr
    refine AW.region (ex := TXT) rfl ?_
    refine aops_mono ?_ _ _ _ _ this
    rintro f2 h2 ⟨rfl, rfl⟩
    exact ⟨rfl, rfl, rfl⟩
  | true =>
    have hok := hok rfl
    rw [if_pos rfl] at hr
    unfold planOk at hok
    split at hr
    · rename_i exs hp
      rw [hp] at hok
      refine ⟨(aopsX_length _ _ _ _ hr).trans hsz, ?_⟩
      have := aopsX_sound hc ops.toList 0 fr h hr
      refine AW.region_draw hm rfl (rgOk_sound rfl hok) hsz ?_
      refine aops_mono ?_ _ _ _ _ this
      rintro f2 h2 ⟨rfl, rfl⟩
      exact ⟨rfl, rfl, rfl⟩
    · rename_i exs p hp
      rw [hp] at hok
      simp only at hok
      split at hr
      · rename_i fr1 h1 ha
        split at hr
        · rename_i hre
          have l1 := aopsX_length _ _ _ _ ha
          have l2 := aopsX_length _ _ _ _ hr
          refine ⟨by omega, ?_⟩
          obtain ⟨c, r⟩ := p
          simp only at ha hr hre hok
          unfold pairOkX at hok
          simp only [Bool.and_eq_true] at hok
          obtain ⟨hrc, hlen, hrg, hm2⟩ := hok
          have hrc : r < c := by simpa using hrc
          have hlen : c + 1 ≤ ops.toList.length := by simpa using hlen
          split at hm2
          · rename_i o hro
            split at hm2
            · rename_i t a d hop hod
              simp only [Bool.and_eq_true] at hm2
              obtain ⟨hdz, hno⟩ := hm2
              have hdz : d < sz := by simpa using hdz
              have hrl : aload P h1 t (fr1.getD a .bot) = some (fr1.getD d .bot) := by
                unfold reload at hre
                simp only [hro, hop, hod] at hre
                split at hre
                · rename_i v hv
                  rw [hv, AV.eqF_eq 4 _ _ hre]
                · cases hre
              have hs1 := aopsX_sound hc (ops := ops) (ops.toList.take (c + 1)) 0 fr h ha
              have hs2 := aopsX_sound hc (ops := ops) (ops.toList.drop (c + 1)) (c + 1) fr1 h1 hr
              refine AW.region_drawS (c := c) (r := r) (t := t) (a := a) (d := d) hm (List.take_append_drop (c + 1) ops.toList).symm (by rw [List.length_take]; omega) (rgOk_sound rfl hrg) hsz hrc (o := o) (by rw [← Array.getElem?_toList]; exact hro) hop hod hdz ?_ ?_
              · intro j oj h1 h2 hj
                have := List.all_eq_true.1 hno j (List.mem_range'_1.2 ⟨h1, by omega⟩)
                rw [← Array.getElem?_toList] at hj
                simp only [hj, Bool.and_eq_true, bne_iff_ne, Bool.or_eq_true, beq_iff_eq] at this
                exact ⟨this.1, fun h3 => this.2.resolve_left (by omega)⟩
              · refine aops_mono ?_ _ _ _ _ hs1
                rintro f2 h2 ⟨rfl, rfl⟩
                refine ⟨hrl, aops_mono ?_ _ _ _ _ hs2⟩
                rintro f3 h3 ⟨rfl, rfl⟩
                exact ⟨rfl, rfl, rfl⟩
            · cases hm2
          · cases hm2
        · cases hr
      · cases hr

def codeOkX (sz : Nat) : Code → Bool
  | .seq a b => codeOkX sz a && codeOkX sz b
  | .cond _ a b => codeOkX sz a && codeOkX sz b
  | .block _ b => codeOkX sz b
  | .loop b => codeOkX sz b
  | .scope b => codeOkX sz b
  | .region _ ops true => planOk sz ops.toList
  | _ => true
def resultX (P : Program) (h : AHeap) (fr : List AV) (rs : List ResultVar) : Option AV := (resAH P h fr rs).map resV

noncomputable def acallX (P : Program) (ok : FuncId → Bool) (run : Nat → Code → List AV → AHeap → Option (Ex × List AV × AHeap)) (f : FuncId) (args : List AV) (h : AHeap) : Option (AV × AHeap) :=
  if ok f then
    match P.funcs[f]? with
    | some fn => match fn.body with
      | some c => if args.length ≤ fn.ntmps then
          match run fn.ntmps c (mkFr args fn.ntmps) h with
          | some (.normal, fr, h') => (resultX P h' fr fn.results.toList).map fun x => (x, h')
          | some (.ret, fr, h') => (resultX P h' fr fn.results.toList).map fun x => (x, h')
          | _ => none
        else none
      | none => none
    | none => none
  else none

noncomputable def arunX (P : Program) (ok : FuncId → Bool) : Nat → Nat → Code → List AV → AHeap → Option (Ex × List AV × AHeap)
  | 0, _, _, _, _ => none
  | n + 1, sz, c, fr, h => match c with
    | .skip => some (.normal, fr, h)
    | .label _ => some (.normal, fr, h)
    | .ret => some (.ret, fr, h)
    | .exit id => some (.exit id, fr, h)
    | .seq a b => match arunX P ok n sz a fr h with
      | some (.normal, fr', h') => arunX P ok n sz b fr' h'
      | r => r
    | .cond c a b => match evalA h.globs fr c with
      | .bool true => arunX P ok n sz a fr h
      | .bool false => arunX P ok n sz b fr h
      | _ => none
    | .block id b => match arunX P ok n sz b fr h with
      | some (.exit id', fr', h') => if id' = id then some (.normal, fr', h') else some (.exit id', fr', h')
      | r => r
    | .loop b => match arunX P ok n sz b fr h with
      | some (.normal, fr', h') => arunX P ok n sz (.loop b) fr' h'
      | r => r
    | .scope b => arunX P ok n sz b fr h
    | .region _ ops draw => match regX P (acallX P ok (arunX P ok n)) ops sz draw fr h with
      | some (fr', h') => some (.normal, fr', h')
      | none => none
    | _ => none

def okFnX (P : Program) (f : FuncId) : Bool := match P.funcs[f]? with
  | some fn => !(fn.name == "runtime.NumGoroutine") && (match fn.body with | some c => codeOkX fn.ntmps c | none => false)
  | none => false

theorem arunX_sound {P : Program} {ok : FuncId → Bool} (hm : P.follows .mixedOrders = true) (hok : ∀ f, ok f = true → okFnX P f = true) :
    ∀ (n : Nat) (c : Code) (fr : List AV) (h : AHeap) (e : Ex) (fr' : List AV) (h' : AHeap) (sz : Nat), codeOkX sz c = true → fr.length = sz → arunX P ok n sz c fr h = some (e, fr', h') →
      fr'.length = sz ∧ AW P c (fun e1 f1 h1 => e1 = e ∧ f1 = fr' ∧ h1 = h') fr h := by
  intro n
  induction n using Nat.strongRecOn with
  | _ n ih =>
    intro c fr h e fr' h' sz hco hsz hr
    cases n with
    | zero => cases hr
    | succ n =>
      have ihn := ih n (by omega)
      unfold arunX at hr
      cases c with
      | skip => cases hr; exact ⟨hsz, AW.skip ⟨rfl, rfl, rfl⟩⟩
      | label l => cases hr; exact ⟨hsz, AW.label ⟨rfl, rfl, rfl⟩⟩
      | ret => cases hr; exact ⟨hsz, AW.ret ⟨rfl, rfl, rfl⟩⟩
      | exit id => cases hr; exact ⟨hsz, AW.exit ⟨rfl, rfl, rfl⟩⟩
      | goto l => cases hr
      | scope b =>
        simp only [codeOkX] at hco
        obtain ⟨l1, w1⟩ := ihn b fr h e fr' h' sz hco hsz hr
        exact ⟨l1, AW.scope w1⟩
      | refuse w => cases hr
      | rangeFunc f p a b => cases hr
      | seq a b =>
        simp only [codeOkX, Bool.and_eq_true] at hco
        simp only at hr
        cases ha : arunX P ok n sz a fr h with
        | none => rw [ha] at hr; cases hr
        | some r =>
          obtain ⟨e1, f1, h1⟩ := r
          obtain ⟨l1, w1⟩ := ihn a fr h e1 f1 h1 sz hco.1 hsz ha
          rw [ha] at hr
          cases e1 with
          | normal =>
            obtain ⟨l2, w2⟩ := ihn b f1 h1 e fr' h' sz hco.2 l1 hr
            refine ⟨l2, AW.seq (w1.mono ?_)⟩
            rintro e2 f2 h2 ⟨rfl, rfl, rfl⟩
            exact w2
          | ret =>
            cases hr
            refine ⟨l1, AW.seq (w1.mono ?_)⟩
            rintro e2 f2 h2 ⟨rfl, rfl, rfl⟩
            exact ⟨rfl, rfl, rfl⟩
          | exit id =>
            cases hr
            refine ⟨l1, AW.seq (w1.mono ?_)⟩
            rintro e2 f2 h2 ⟨rfl, rfl, rfl⟩
            exact ⟨rfl, rfl, rfl⟩
      | cond x a b =>
        simp only [codeOkX, Bool.and_eq_true] at hco
        simp only at hr
        cases hx : evalA h.globs fr x with
        | bool t =>
          rw [hx] at hr
          cases t with
          | true =>
            obtain ⟨l1, w1⟩ := ihn a fr h e fr' h' sz hco.1 hsz hr
            exact ⟨l1, AW.cond hx (by simpa using w1)⟩
          | false =>
            obtain ⟨l1, w1⟩ := ihn b fr h e fr' h' sz hco.2 hsz hr
            exact ⟨l1, AW.cond hx (by simpa using w1)⟩
        | _ => rw [hx] at hr; cases hr
      | block id b =>
        simp only [codeOkX] at hco
        simp only at hr
        cases hb : arunX P ok n sz b fr h with
        | none => rw [hb] at hr; cases hr
        | some r =>
          obtain ⟨e1, f1, h1⟩ := r
          obtain ⟨l1, w1⟩ := ihn b fr h e1 f1 h1 sz hco hsz hb
          rw [hb] at hr
          cases e1 with
          | normal =>
            cases hr
            refine ⟨l1, AW.block (w1.mono ?_)⟩
            rintro e2 f2 h2 ⟨rfl, rfl, rfl⟩
            simp
          | ret =>
            cases hr
            refine ⟨l1, AW.block (w1.mono ?_)⟩
            rintro e2 f2 h2 ⟨rfl, rfl, rfl⟩
            simp
          | exit id' =>
            simp only at hr
            split at hr
            · rename_i hid
              cases hr
              refine ⟨l1, AW.block (w1.mono ?_)⟩
              rintro e2 f2 h2 ⟨rfl, rfl, rfl⟩
              simp [hid]
            · rename_i hid
              cases hr
              refine ⟨l1, AW.block (w1.mono ?_)⟩
              rintro e2 f2 h2 ⟨rfl, rfl, rfl⟩
              simp [hid]
      | loop b =>
        have hcb : codeOkX sz b = true := hco
        -- how long the frame stays
        have hlen : ∀ m, m ≤ n → ∀ f1 h1, f1.length = sz → arunX P ok (m + 1) sz (.loop b) f1 h1 = some (e, fr', h') → fr'.length = sz := by
          intro m hm f1 h1 hf1 hr1
          exact (ih (m + 1 - 1) (by omega) b f1 h1 e fr' h' sz hcb hf1 |> fun _ => by
            by_cases hmn : m + 1 < n + 1
            · exact (ih (m + 1) hmn (.loop b) f1 h1 e fr' h' sz hco hf1 hr1).1
            · have : m = n := by omega
              subst this
              unfold arunX at hr1
              simp only at hr1
              cases hb : arunX P ok m sz b f1 h1 with
              | none => rw [hb] at hr1; cases hr1
              | some r =>
                obtain ⟨e1, f2, h2⟩ := r
                have l1 := (ihn b f1 h1 e1 f2 h2 sz hcb hf1 hb).1
                rw [hb] at hr1
                cases e1 with
                | normal => exact (ihn (.loop b) f2 h2 e fr' h' sz hco l1 hr1).1
                | ret => cases hr1; exact l1
                | exit id => cases hr1; exact l1)
        have hr' : arunX P ok (n + 1) sz (.loop b) fr h = some (e, fr', h') := by unfold arunX; exact hr
        refine ⟨hlen n (Nat.le_refl _) fr h hsz hr', ?_⟩
        refine AW.loop (fun m f1 h1 => m ≤ n + 1 ∧ f1.length = sz ∧ arunX P ok m sz (.loop b) f1 h1 = some (e, fr', h')) ?_ (n + 1) fr h ⟨Nat.le_refl _, hsz, hr'⟩
        rintro m f1 h1 ⟨hmn, hf1, hr1⟩
        cases m with
        | zero => cases hr1
        | succ m =>
          unfold arunX at hr1
          simp only at hr1
          cases hb : arunX P ok m sz b f1 h1 with
          | none => rw [hb] at hr1; cases hr1
          | some r =>
            obtain ⟨e1, f2, h2⟩ := r
            obtain ⟨l1, w1⟩ := ih m (by omega) b f1 h1 e1 f2 h2 sz hcb hf1 hb
            rw [hb] at hr1
            refine w1.mono ?_
            rintro e2 f3 h3 ⟨rfl, rfl, rfl⟩
            cases e2 with
            | normal => exact ⟨m, by omega, by omega, l1, hr1⟩
            | ret => cases hr1; exact ⟨rfl, rfl, rfl⟩
            | exit id => cases hr1; exact ⟨rfl, rfl, rfl⟩
      | region id ops draw =>
        simp only at hr
        have hcall : ∀ f args h r h', acallX P ok (arunX P ok n) f args h = some (r, h') → Ev P f args h r h' := by
          intro f args h r h' hc
          unfold acallX at hc
          split at hc
          · rename_i hokf
            have hfn := hok f hokf
            unfold okFnX at hfn
            split at hc
            · rename_i fn hf
              rw [hf] at hfn
              simp only [Bool.and_eq_true, Bool.not_eq_true'] at hfn
              split at hc
              · rename_i body hb
                rw [hb] at hfn
                split at hc
                · rename_i hargs
                  have key : ∀ e fr h', arunX P ok n fn.ntmps body (mkFr args fn.ntmps) h = some (e, fr, h') → (e = .normal ∨ e = .ret) → ∀ x, resultX P h' fr fn.results.toList = some x → Ev P f args h x h' := by
                    intro e fr h' hrun he x hx
                    obtain ⟨_, w⟩ := ihn body _ h e fr h' fn.ntmps hfn.2 (mkFr_length hargs) hrun
                    simp only [resultX, Option.map_eq_some_iff] at hx
                    obtain ⟨l, hl, rfl⟩ := hx
                    have := ACalls.of_bodyH (args := args) (h := h) (R := fun r h1 => r = resV l ∧ h1 = h') hf hb hfn.1 (w.mono (by
                      rintro e1 f1 h1 ⟨rfl, rfl, rfl⟩
                      exact ⟨he, l, hl, rfl, rfl⟩))
                    obtain ⟨r, h1, hev, rfl, rfl⟩ := this
                    exact hev
                  split at hc
                  · rename_i fr1 h1 hrun
                    simp only [Option.map_eq_some_iff, Prod.mk.injEq] at hc
                    obtain ⟨x, hx, rfl, rfl⟩ := hc
                    exact key _ _ _ hrun (.inl rfl) x hx
                  · rename_i fr1 h1 hrun
                    simp only [Option.map_eq_some_iff, Prod.mk.injEq] at hc
                    obtain ⟨x, hx, rfl, rfl⟩ := hc
                    exact key _ _ _ hrun (.inr rfl) x hx
                  · cases hc
                · cases hc
              · cases hc
            · cases hc
          · cases hc
        cases ho : regX P (acallX P ok (arunX P ok n)) ops sz draw fr h with
        | none => rw [ho] at hr; cases hr
        | some r =>
          obtain ⟨f1, h1⟩ := r
          rw [ho] at hr
          cases hr
          exact regX_sound hm hcall (fun q => by subst q; exact hco) hsz ho
end Go.Am

namespace Go.Am

noncomputable def aopsY (P : Program) (kill : Bool) (call : FuncId → List AV → AHeap → Option (AV × AHeap)) (ops : Array Oper) (exs : List Nat) : Nat → List Oper → Tr → AHeap → Option (Tr × AHeap)
  | _, [], tr, h => some (tr, h)
  | k, o :: os, tr, h =>
    match (match o.guard with | none => some true | some (j, want) => (guardT ops tr j).map (· == some want)) with
    | some true => match astepX P kill (isTx exs) call h (evalT h.globs tr) o with
      | some (v, h') => if (!exTest exs kill k o || heapExt h h') = true then putT tr o.dst v fun tr' => aopsY P kill call ops exs (k + 1) os tr' h' else none
      | none => none
    | some false => putT tr o.dst (.tup []) fun tr' => aopsY P kill call ops exs (k + 1) os tr' h
    | none => none

theorem aopsY_sound {P : Program} {kill : Bool} {c1 c2 : FuncId → List AV → AHeap → Option (AV × AHeap)} (hc : ∀ f args h r h', c1 f args h = some (r, h') → c2 f args h = some (r, h')) {ops : Array Oper} {exs : List Nat} {tr' : Tr} {h' : AHeap} :
    ∀ (l : List Oper) (k : Nat) (tr : Tr) (fr : List AV) (h : AHeap), l.all dstSmall = true → Rep tr fr → aopsY P kill c1 ops exs k l tr h = some (tr', h') → ∃ fr', Rep tr' fr' ∧ aopsX P kill c2 ops exs k l fr h = some (fr', h') := by
  intro l
  induction l with
  | nil => intro k tr fr h _ r hs; cases hs; exact ⟨fr, r, rfl⟩
  | cons o os ih =>
    intro k tr fr h hsm r hs
    simp only [List.all_cons, Bool.and_eq_true] at hsm
    have hput : ∀ (v : AV) (h1 : AHeap), putT tr o.dst v (fun tr' => aopsY P kill c1 ops exs (k + 1) os tr' h1) = some (tr', h') → ∃ fr', Rep tr' fr' ∧ aopsX P kill c2 ops exs (k + 1) os (setF fr o.dst v) h1 = some (fr', h') := by
      intro v h1 hp
      unfold putT at hp
      split at hp
      · rename_i d hd
        rw [seqAV_eq, Tr.setK_eq] at hp
        have hdl : d < 4095 := by
          have := hsm.1
          simp only [dstSmall, hd] at this
          exact of_blt this
        simp only [setF, hd]
        exact ih _ _ _ h1 hsm.2 (r.set d hdl v) hp
      · rename_i hd
        simp only [setF, hd]
        exact ih _ _ _ h1 hsm.2 r hp
    unfold aopsY at hs
    unfold aopsX
    have hgo : (match astepX P kill (isTx exs) c1 h (evalT h.globs tr) o with
        | some (v, h') => if (!exTest exs kill k o || heapExt h h') = true then putT tr o.dst v fun tr' => aopsY P kill c1 ops exs (k + 1) os tr' h' else none
        | none => none) = some (tr', h') →
        ∃ fr', Rep tr' fr' ∧ (match astepX P kill (isTx exs) c2 h (evalA h.globs fr) o with
          | some (v, h') => if (!exTest exs kill k o || heapExt h h') = true then putS fr o.dst v fun fr' => aopsX P kill c2 ops exs (k + 1) os fr' h' else none
          | none => none) = some (fr', h') := by
      intro hs
      rw [evalT_eq r] at hs
      split at hs
      · rename_i v h1 hst
        split at hs
        · rename_i ht
          simp only [astepX_call hc hst, putS_eq, ht, if_true]
          exact hput v h1 hs
        · cases hs
      · cases hs
    cases hgd : o.guard with
    | none =>
      simp only [hgd] at hs ⊢
      exact hgo hs
    | some jw =>
      obtain ⟨j, want⟩ := jw
      simp only [hgd, guardT_eq r] at hs ⊢
      cases hga : (guardA ops fr j).map (· == some want) with
      | none => rw [hga] at hs; cases hs
      | some b =>
        rw [hga] at hs
        cases b with
        | true => exact hgo hs
        | false =>
          simp only [putS_eq]
          exact hput _ h hs

noncomputable def reloadY (P : Program) (l : List Oper) (r : Nat) (tr : Tr) (h : AHeap) : Bool := match l[r]? with
  | some o => (match o.op, o.dst with
    | .load t (.tmp a), some d => (match aloadR P h t (evalT [] tr (.tmp a)) with | some v => AV.eqF 4 v (evalT [] tr (.tmp d)) | none => false)
    | _, _ => false)
  | none => false
theorem reloadY_eq {P : Program} {l : List Oper} {r : Nat} {tr : Tr} {fr : List AV} {h : AHeap} (rp : Rep tr fr) : reloadY P l r tr h = reload P l r (fun t => fr.getD t .bot) h := by
  unfold reloadY reload
  simp only [evalT_eq rp, aloadR_eq]
  rfl
noncomputable def regY (P : Program) (call : FuncId → List AV → AHeap → Option (AV × AHeap)) (ops : Array Oper) (sz : Nat) (draw : Bool) (tr : Tr) (h : AHeap) : Option (Tr × AHeap) :=
  if draw = true then (match planOf sz ops.toList with
    | (exs, none) => aopsY P false call ops exs 0 ops.toList tr h
    | (exs, some p) => match aopsY P (exs.isEmpty) call ops exs 0 (ops.toList.take (p.1 + 1)) tr h with
      | some (tr1, h1) => if reloadY P ops.toList p.2 tr1 h1 = true then aopsY P (exs.isEmpty) call ops exs (p.1 + 1) (ops.toList.drop (p.1 + 1)) tr1 h1 else none
      | none => none)
  else aopsY P true call ops TXT 0 ops.toList tr h
theorem all_take {α : Type} {p : α → Bool} {l : List α} (h : l.all p = true) (n : Nat) : (l.take n).all p = true := List.all_eq_true.2 fun x hx => List.all_eq_true.1 h x (List.mem_of_mem_take hx)
theorem all_drop {α : Type} {p : α → Bool} {l : List α} (h : l.all p = true) (n : Nat) : (l.drop n).all p = true := List.all_eq_true.2 fun x hx => List.all_eq_true.1 h x (List.mem_of_mem_drop hx)
theorem regY_sound {P : Program} {c1 c2 : FuncId → List AV → AHeap → Option (AV × AHeap)} (hc : ∀ f args h r h', c1 f args h = some (r, h') → c2 f args h = some (r, h')) {ops : Array Oper} {sz : Nat} {draw : Bool} {tr tr' : Tr} {fr : List AV} {h h' : AHeap}
    (hsm : ops.toList.all dstSmall = true) (rp : Rep tr fr) (hs : regY P c1 ops sz draw tr h = some (tr', h')) : ∃ fr', Rep tr' fr' ∧ regX P c2 ops sz draw fr h = some (fr', h') := by
  unfold regY at hs
  unfold regX
  split at hs
  · rename_i hd
    rw [if_pos hd]
    split at hs
    · rename_i exs hp
      first | simp only [hp] | skip
      exact aopsY_sound hc _ _ _ _ _ hsm rp hs
    · rename_i exs p hp
      first | simp only [hp] | skip
      split at hs
      · rename_i tr1 h1 ha
        split at hs
        · rename_i hre
          obtain ⟨f1, r1, e1⟩ := aopsY_sound hc _ _ _ _ _ (all_take hsm _) rp ha
          obtain ⟨f2, r2, e2⟩ := aopsY_sound hc _ _ _ _ _ (all_drop hsm _) r1 hs
          rw [reloadY_eq r1] at hre
          simp only [e1, hre, if_true, e2]
          exact ⟨f2, r2, rfl⟩
        · cases hs
      · cases hs
  · rename_i hd
    rw [if_neg hd]
    exact aopsY_sound hc _ _ _ _ _ hsm rp hs

noncomputable def resY (P : Program) (h : AHeap) (tr : Tr) : List ResultVar → Option (List AV)
  | [] => some []
  | .tmp t :: rs => match resY P h tr rs with | some l => some (evalT [] tr (.tmp t) :: l) | none => none
  | .cell a t :: rs => match aloadR P h t (evalT [] tr (.tmp a)), resY P h tr rs with | some v, some l => some (v :: l) | _, _ => none
theorem resY_eq {P : Program} {h : AHeap} {tr : Tr} {fr : List AV} (r : Rep tr fr) : ∀ rs, resY P h tr rs = resAH P h fr rs
  | [] => rfl
  | .tmp t :: rs => by
    simp only [resY, resAH, resY_eq r rs, evalT_eq r]
    cases resAH P h fr rs <;> rfl
  | .cell a t :: rs => by
    simp only [resY, resAH, resY_eq r rs, evalT_eq r, aloadR_eq]
    show _ = (aload P h t (evalA [] fr (.tmp a))).bind _
    cases aload P h t (evalA [] fr (.tmp a)) with
    | none => rfl
    | some v => cases resAH P h fr rs <;> rfl

noncomputable def bcallY (P : Program) (ok : FuncId → Bool) (run : Nat → Code → Tr → AHeap → Option (Ex × Tr × AHeap)) (f : FuncId) (args : List AV) (h : AHeap) : Option (AV × AHeap) :=
  if ok f then
    match P.funcs[f]? with
    | some fn => match fn.body with
      | some c => if args.length ≤ fn.ntmps ∧ fn.ntmps ≤ 2000 then
          argsK args 0 (Tr.blank fn.ntmps 12 1 0) fun tr => match run fn.ntmps c tr h with
          | some (.normal, tr, h') => match resY P h' tr fn.results.toList with | some l => some (resV l, h') | none => none
          | some (.ret, tr, h') => match resY P h' tr fn.results.toList with | some l => some (resV l, h') | none => none
          | _ => none
        else none
      | none => none
    | none => none
  else none

noncomputable def brunY (P : Program) (ok : FuncId → Bool) : Nat → Nat → Code → Tr → AHeap → Option (Ex × Tr × AHeap)
  | 0, _, _, _, _ => none
  | n + 1, sz, c, tr, h => match c with
    | .skip => some (.normal, tr, h)
    | .label _ => some (.normal, tr, h)
    | .ret => some (.ret, tr, h)
    | .exit id => some (.exit id, tr, h)
    | .seq a b => match brunY P ok n sz a tr h with
      | some (.normal, tr', h') => brunY P ok n sz b tr' h'
      | r => r
    | .cond c a b => match evalT h.globs tr c with
      | .bool true => brunY P ok n sz a tr h
      | .bool false => brunY P ok n sz b tr h
      | _ => none
    | .block id b => match brunY P ok n sz b tr h with
      | some (.exit id', tr', h') => if id' = id then some (.normal, tr', h') else some (.exit id', tr', h')
      | r => r
    | .loop b => match brunY P ok n sz b tr h with
      | some (.normal, tr', h') => brunY P ok n sz (.loop b) tr' h'
      | r => r
    | .scope b => brunY P ok n sz b tr h
    | .region _ ops draw => match regY P (bcallY P ok (brunY P ok n)) ops sz draw tr h with
      | some (tr', h') => some (.normal, tr', h')
      | none => none
    | _ => none

def codeSmallX : Code → Bool
  | .seq a b => codeSmallX a && codeSmallX b
  | .cond _ a b => codeSmallX a && codeSmallX b
  | .block _ b => codeSmallX b
  | .loop b => codeSmallX b
  | .scope b => codeSmallX b
  | .region _ ops _ => ops.toList.all dstSmall
  | _ => true
def smallFnX (P : Program) (f : FuncId) : Bool := match P.funcs[f]? with
  | some fn => match fn.body with | some c => codeSmallX c | none => true
  | none => true

theorem bcallY_of {P : Program} {ok : FuncId → Bool} (hsm : ∀ f, ok f = true → smallFnX P f = true) {run : Nat → Code → Tr → AHeap → Option (Ex × Tr × AHeap)} {runA : Nat → Code → List AV → AHeap → Option (Ex × List AV × AHeap)}
    (hrun : ∀ sz c tr fr h e tr' h', codeSmallX c = true → Rep tr fr → run sz c tr h = some (e, tr', h') → ∃ fr', Rep tr' fr' ∧ runA sz c fr h = some (e, fr', h')) {f : FuncId} {args : List AV} {h h' : AHeap} {r : AV}
    (hc : bcallY P ok run f args h = some (r, h')) : acallX P ok runA f args h = some (r, h') := by
  unfold bcallY at hc
  unfold acallX
  split at hc
  · rename_i hokf
    have hs := hsm f hokf
    unfold smallFnX at hs
    rw [if_pos hokf]
    split at hc
    · rename_i fn hf
      rw [hf] at hs
      simp only at hs
      first | simp only [hf] | skip
      split at hc
      · rename_i c hb
        rw [hb] at hs
        first | simp only [hb] | skip
        split at hc
        · rename_i hargs
          rw [argsK_eq] at hc
          rw [if_pos hargs.1]
          have rep : Rep (setArgs (Tr.blank fn.ntmps 12 1 0) args 0) (mkFr args fn.ntmps) := by
            have := setArgs_rep args 0 _ [] _ (by simpa using Rep.blank fn.ntmps hargs.2) rfl (by simpa using hargs.1) (by omega)
            simpa [mkFr] using this
          have hfin : ∀ tr fr (q : AHeap), Rep tr fr → (match resY P q tr fn.results.toList with | some l => some (resV l, q) | none => none) = some (r, h') → (resultX P q fr fn.results.toList).map (fun x => (x, q)) = some (r, h') := by
            intro tr fr q rp hh
            rw [resY_eq rp] at hh
            unfold resultX
            cases hr : resAH P q fr fn.results.toList with
            | none => rw [hr] at hh; cases hh
            | some l => rw [hr] at hh; exact hh
          split at hc
          · rename_i tr1 h1 hr1
            obtain ⟨fr', rp, ha⟩ := hrun _ _ _ _ _ _ _ _ hs rep hr1
            simp only [ha]
            exact hfin _ _ _ rp hc
          · rename_i tr1 h1 hr1
            obtain ⟨fr', rp, ha⟩ := hrun _ _ _ _ _ _ _ _ hs rep hr1
            simp only [ha]
            exact hfin _ _ _ rp hc
          · cases hc
        · cases hc
      · cases hc
    · cases hc
  · cases hc

theorem brunY_sound {P : Program} {ok : FuncId → Bool} (hsm : ∀ f, ok f = true → smallFnX P f = true) :
    ∀ (n sz : Nat) (c : Code) (tr : Tr) (fr : List AV) (h : AHeap) (e : Ex) (tr' : Tr) (h' : AHeap), codeSmallX c = true → Rep tr fr → brunY P ok n sz c tr h = some (e, tr', h') → ∃ fr', Rep tr' fr' ∧ arunX P ok n sz c fr h = some (e, fr', h') := by
  intro n
  induction n with
  | zero => intro sz c tr fr h e tr' h' _ _ hr; cases hr
  | succ n ih =>
    intro sz c tr fr h e tr' h' hco r hr
    unfold brunY at hr
    unfold arunX
    cases c with
    | skip => cases hr; exact ⟨fr, r, rfl⟩
    | label l => cases hr; exact ⟨fr, r, rfl⟩
    | ret => cases hr; exact ⟨fr, r, rfl⟩
    | exit id => cases hr; exact ⟨fr, r, rfl⟩
    | goto l => cases hr
    | scope b => exact ih sz b tr fr h e tr' h' hco r hr
    | refuse w => cases hr
    | rangeFunc f p a b => cases hr
    | seq a b =>
      simp only [codeSmallX, Bool.and_eq_true] at hco
      simp only at hr ⊢
      cases ha : brunY P ok n sz a tr h with
      | none => rw [ha] at hr; cases hr
      | some q =>
        obtain ⟨e1, t1, h1⟩ := q
        obtain ⟨f1, r1, a1⟩ := ih sz a tr fr h e1 t1 h1 hco.1 r ha
        rw [ha] at hr
        rw [a1]
        cases e1 with
        | normal => exact ih sz b t1 f1 h1 e tr' h' hco.2 r1 hr
        | ret => cases hr; exact ⟨f1, r1, rfl⟩
        | exit id => cases hr; exact ⟨f1, r1, rfl⟩
    | cond x a b =>
      simp only [codeSmallX, Bool.and_eq_true] at hco
      simp only [evalT_eq r] at hr ⊢
      cases hx : evalA h.globs fr x with
      | bool t =>
        rw [hx] at hr
        cases t with
        | true => exact ih sz a tr fr h e tr' h' hco.1 r hr
        | false => exact ih sz b tr fr h e tr' h' hco.2 r hr
      | _ => rw [hx] at hr; cases hr
    | block id b =>
      simp only [codeSmallX] at hco
      simp only at hr ⊢
      cases hb : brunY P ok n sz b tr h with
      | none => rw [hb] at hr; cases hr
      | some q =>
        obtain ⟨e1, t1, h1⟩ := q
        obtain ⟨f1, r1, a1⟩ := ih sz b tr fr h e1 t1 h1 hco r hb
        rw [hb] at hr
        rw [a1]
        cases e1 with
        | normal => cases hr; exact ⟨f1, r1, rfl⟩
        | ret => cases hr; exact ⟨f1, r1, rfl⟩
        | exit id' =>
          simp only at hr ⊢
          split at hr
          · rename_i hid; cases hr; rw [if_pos hid]; exact ⟨f1, r1, rfl⟩
          · rename_i hid; cases hr; rw [if_neg hid]; exact ⟨f1, r1, rfl⟩
    | loop b =>
      have hcb : codeSmallX b = true := hco
      simp only at hr ⊢
      cases hb : brunY P ok n sz b tr h with
      | none => rw [hb] at hr; cases hr
      | some q =>
        obtain ⟨e1, t1, h1⟩ := q
        obtain ⟨f1, r1, a1⟩ := ih sz b tr fr h e1 t1 h1 hcb r hb
        rw [hb] at hr
        rw [a1]
        cases e1 with
        | normal => exact ih sz (.loop b) t1 f1 h1 e tr' h' hco r1 hr
        | ret => cases hr; exact ⟨f1, r1, rfl⟩
        | exit id => cases hr; exact ⟨f1, r1, rfl⟩
    | region id ops draw =>
      simp only at hr ⊢
      cases ho : regY P (bcallY P ok (brunY P ok n)) ops sz draw tr h with
      | none => rw [ho] at hr; cases hr
      | some q =>
        obtain ⟨t1, h1⟩ := q
        rw [ho] at hr
        cases hr
        obtain ⟨f1, r1, a1⟩ := regY_sound (c2 := acallX P ok (arunX P ok n)) (fun f args h r h' hc => bcallY_of hsm ih hc) hco r ho
        rw [a1]
        exact ⟨f1, r1, rfl⟩

/-- A call, run fast. -/
theorem bcallY_run {P : Program} {ok : FuncId → Bool} (hm : P.follows .mixedOrders = true) (hok : ∀ f, ok f = true → okFnX P f = true) (hsm : ∀ f, ok f = true → smallFnX P f = true) (n : Nat) {f : FuncId} {args : List AV} {h h' : AHeap} {r : AV}
    (hc : bcallY P ok (brunY P ok n) f args h = some (r, h')) : Ev P f args h r h' := by
  have hc := bcallY_of hsm (brunY_sound hsm n) hc
  unfold acallX at hc
  split at hc
  · rename_i hokf
    have hfn := hok f hokf
    unfold okFnX at hfn
    split at hc
    · rename_i fn hf
      rw [hf] at hfn
      simp only [Bool.and_eq_true, Bool.not_eq_true'] at hfn
      split at hc
      · rename_i body hb
        rw [hb] at hfn
        split at hc
        · rename_i hargs
          have key : ∀ e fr h', arunX P ok n fn.ntmps body (mkFr args fn.ntmps) h = some (e, fr, h') → (e = .normal ∨ e = .ret) → ∀ x, resultX P h' fr fn.results.toList = some x → Ev P f args h x h' := by
            intro e fr h' hrun he x hx
            obtain ⟨_, w⟩ := arunX_sound hm hok n body _ h e fr h' fn.ntmps hfn.2 (mkFr_length hargs) hrun
            simp only [resultX, Option.map_eq_some_iff] at hx
            obtain ⟨l, hl, rfl⟩ := hx
            have := ACalls.of_bodyH (args := args) (h := h) (R := fun r h1 => r = resV l ∧ h1 = h') hf hb hfn.1 (w.mono (by
              rintro e1 f1 h1 ⟨rfl, rfl, rfl⟩
              exact ⟨he, l, hl, rfl, rfl⟩))
            obtain ⟨r, h1, hev, rfl, rfl⟩ := this
            exact hev
          split at hc
          · rename_i fr1 h1 hrun
            simp only [Option.map_eq_some_iff, Prod.mk.injEq] at hc
            obtain ⟨x, hx, rfl, rfl⟩ := hc
            exact key _ _ _ hrun (.inl rfl) x hx
          · rename_i fr1 h1 hrun
            simp only [Option.map_eq_some_iff, Prod.mk.injEq] at hc
            obtain ⟨x, hx, rfl, rfl⟩ := hc
            exact key _ _ _ hrun (.inr rfl) x hx
          · cases hc
        · cases hc
      · cases hc
    · cases hc
  · cases hc
noncomputable def okY (P : Program) (f : FuncId) : Bool := okFnX P f && smallFnX P f
end Go.Am

namespace Go.Am
/-- What stands for a value in the kernel's run. -/
inductive ImG (bs : List ArgB) : AV → AV → Prop where
  | plain (x : AV) (h : x.plain = true) : ImG bs x x
  | slc (b n : Nat) (p : ArgB) (hb : bs[b]? = some p) (hs : 0 < p.s) (hn : p.xs.length = n * p.s) : ImG bs p.v (.slc b 0 n p.s false)
  | agg (l l' : List AV) (hl : l.length = l'.length) (h : ∀ (j : Nat) (x y : AV), l[j]? = some x → l'[j]? = some y → ImG bs x y) : ImG bs (.agg l) (.agg l')
structure OkG (h : AHeap) (bs : List ArgB) (p : ArgB) : Prop where
  rd : Rd h p.v p.s p.xs
  pos : (0 < p.s ∧ p.xs ≠ []) ∨ (p.s = 0 ∧ ∃ b0, p.v = .ptr b0 0)
  len : p.xs.length = p.ys.length
  im : ∀ (j : Nat) (x y : AV), p.xs[j]? = some x → p.ys[j]? = some y → ImG bs x y
theorem imG_nil {bs : List ArgB} : ∀ (j : Nat) (x y : AV), ([] : List AV)[j]? = some x → ([] : List AV)[j]? = some y → ImG bs x y := by intro j x y h; cases h
theorem imG_cons {bs : List ArgB} {x y : AV} {l l' : List AV} (h : ImG bs x y) (hl : ∀ (j : Nat) (x y : AV), l[j]? = some x → l'[j]? = some y → ImG bs x y) : ∀ (j : Nat) (u v : AV), (x :: l)[j]? = some u → (y :: l')[j]? = some v → ImG bs u v := by
  intro j u v hu hv
  cases j with
  | zero => simp at hu hv; subst hu hv; exact h
  | succ j => exact hl j u v (by simpa using hu) (by simpa using hv)
theorem imG_slc {bs : List ArgB} {b n s : Nat} {v : AV} {xs ys : List AV} (hb : bs[b]? = some ⟨v, s, xs, ys⟩) (hs : 0 < s) (hn : xs.length = n * s) : ImG bs v (.slc b 0 n s false) := .slc b n ⟨v, s, xs, ys⟩ hb hs hn
theorem imG_plain {bs : List ArgB} {l : List AV} (h : l.all AV.plain = true) : ∀ (j : Nat) (x y : AV), l[j]? = some x → l[j]? = some y → ImG bs x y := by
  intro j x y hx hy
  rw [hx] at hy; cases hy
  exact .plain x (List.all_eq_true.1 h x (List.mem_of_getElem? hx))
theorem okG_plain {h : AHeap} {bs : List ArgB} {v : AV} {s : Nat} {xs : List AV} (hr : Rd h v s xs) (hs : 0 < s) (hne : xs ≠ []) (hp : xs.all AV.plain = true) : OkG h bs ⟨v, s, xs, xs⟩ := ⟨hr, .inl ⟨hs, hne⟩, rfl, imG_plain hp⟩
theorem okG_glob {h : AHeap} {bs : List ArgB} {g : Nat} {xs : List AV} (hr : Rd h (.ptr g 0) 0 xs) (hp : xs.all AV.plain = true) : OkG h bs ⟨.ptr g 0, 0, xs, xs⟩ := ⟨hr, .inr ⟨rfl, g, rfl⟩, rfl, imG_plain hp⟩

def hArgG (bs : List ArgB) (gs : List Nat) : AHeap := ⟨bs.map fun p => .cells none 0 p.ys, [], gs⟩
theorem hArgG_next (bs : List ArgB) (gs : List Nat) : (hArgG bs gs).next = bs.length := by simp [hArgG, AHeap.next]
theorem hArgG_get {bs : List ArgB} {gs : List Nat} {b : Nat} {B : Blk} (h : (hArgG bs gs).get b = some B) : ∃ p, bs[b]? = some p ∧ B = .cells none 0 p.ys := by
  simp only [hArgG, AHeap.get, List.getElem?_map, Option.map_eq_some_iff] at h
  obtain ⟨p, h1, h2⟩ := h
  exact ⟨p, h1, h2.symm⟩
def embG (φ : Emb) (bs : List ArgB) : Emb := fun b => match bs[b]? with
  | some p => match p.v with
    | .slc b0 o _ _ _ => (φ b0).map fun q => (q.1, q.2.1 + o, q.2.2)
    | .ptr b0 _ => φ b0
    | _ => none
  | none => none
theorem OkG.view {h : AHeap} {bs : List ArgB} {p : ArgB} (ok : OkG h bs p) : ∃ b0 o F q cs, ((∃ n full, p.v = .slc b0 o n p.s full ∧ p.xs.length = n * p.s ∧ 0 < p.s) ∨ (p.v = .ptr b0 0 ∧ o = 0 ∧ p.s = 0)) ∧ h.get b0 = some (.cells F q cs) ∧ h.valid b0 = true ∧ (cs.drop o).take p.xs.length = p.xs := by
  rcases ok.rd with ⟨h1, h2⟩ | ⟨b, o, F, q, cs, hv, h1, h2, h3⟩ | ⟨_, _, x, h1, h2, _⟩
  · rcases ok.pos with ⟨_, h3⟩ | ⟨_, b0, h3⟩
    · exact absurd h2 h3
    · rw [h3] at h1; cases h1
  · rcases hv with ⟨n, full, e1, e2, e3⟩ | ⟨e, e2⟩
    · exact ⟨b, o, F, q, cs, .inl ⟨n, full, e1, e2, e3⟩, h1, h2, h3⟩
    · rcases ok.pos with ⟨h4, _⟩ | ⟨_, b0, h4⟩
      · omega
      · rw [h4] at e2; cases e2
        exact ⟨_, 0, F, q, cs, .inr ⟨h4, rfl, e⟩, h1, h2, h3⟩
  · rcases ok.pos with ⟨h4, _⟩ | ⟨_, b0, h4⟩
    · omega
    · rw [h4] at h1; exact (Thing.at_ptr h1.symm).elim
theorem ImG.rel {h : AHeap} {φ : Emb} {bs : List ArgB} (hok : ∀ p ∈ bs, OkG h bs p) {x y : AV} (hi : ImG bs x y) : ∀ {u : Value}, VRel φ x u → VRel (embG φ bs) y u := by
  induction hi with
  | plain x h => intro u hv; cases hv <;> simp only [AV.plain, Bool.false_eq_true] at h <;> first | exact .bool _ | exact .int _ _ | exact .str _ | exact .nilp | exact .nils | exact .nilm | exact .nilf
  | slc b n p hb hs hn =>
    intro u hv
    have ok := hok p (List.mem_of_getElem? hb)
    obtain ⟨b0, o, F, q, cs, ⟨n', full, e1, e2, _⟩ | ⟨_, _, e3⟩, _, _, _⟩ := ok.view
    · have hnn : n' = n := Nat.eq_of_mul_eq_mul_right hs (by rw [← e2, hn])
      subst hnn
      have he : embG φ bs b = (φ b0).map fun q => (q.1, q.2.1 + o, q.2.2) := by simp only [embG, hb, e1]
      rw [e1] at hv
      cases hv with
      | slc _ _ _ _ _ a c h1 h2 h3 h4 =>
        refine .slc _ _ _ _ _ _ _ h1 h2 (fun h => by cases h) ?_
        rcases h4 with h4 | ⟨k, i, z, h4, h5, h6⟩
        · exact .inl h4
        · exact .inr ⟨k, i + o, z, by rw [he, h4]; rfl, by rw [h5]; rfl, by omega⟩
    · omega
  | agg l l' hl h ih =>
    intro u hv
    cases hv with
    | agg _ cs h1 h2 =>
      refine .agg _ _ (by omega) ?_
      intro j y c hy hc
      have hj : j < l.length := by have := (List.getElem?_eq_some_iff.1 hy).1; omega
      exact ih j _ y (List.getElem?_eq_getElem hj) hy (h2 j _ c (List.getElem?_eq_getElem hj) hc)
theorem hArgG_rel {h : AHeap} {bs : List ArgB} {gs : List Nat} (hok : ∀ p ∈ bs, OkG h bs p) (hg : ∀ g ∈ gs, g ∈ h.globs ∧ ∃ p, bs[g]? = some p ∧ p.v = .ptr g 0) {φ : Emb} {w : World} (rr : HRel φ h w) : HRel (embG φ bs) (hArgG bs gs) w := by
  have key : ∀ b k i z, embG φ bs b = some (k, i, z) → ∃ p b0 o i0 F q cs, bs[b]? = some p ∧ φ b0 = some (k, i0, z) ∧ i = i0 + o ∧ h.get b0 = some (.cells F q cs) ∧ h.valid b0 = true ∧ (cs.drop o).take p.xs.length = p.xs := by
    intro b k i z hb
    unfold embG at hb
    split at hb
    · rename_i p hp
      obtain ⟨b0, o, F, q, cs, ⟨n', full, e1, e2, _⟩ | ⟨e1, e2, _⟩, h1, h2, h3⟩ := (hok p (List.mem_of_getElem? hp)).view
      · rw [e1] at hb
        simp only [Option.map_eq_some_iff] at hb
        obtain ⟨⟨k', i', z'⟩, h4, h5⟩ := hb
        cases h5
        exact ⟨p, b0, o, i', F, q, cs, hp, h4, rfl, h1, h2, h3⟩
      · rw [e1] at hb
        subst e2
        exact ⟨p, b0, 0, i, F, q, cs, hp, hb, rfl, h1, h2, h3⟩
    · cases hb
  refine ⟨?_, ?_, ?_, ?_, ?_, ?_, ?_, ?_⟩
  · intro g hgm
    obtain ⟨h1, p, h2, h3⟩ := hg g hgm
    obtain ⟨z, hz⟩ := rr.glob g h1
    exact ⟨z, by simp only [embG, h2, h3]; exact hz⟩
  · intro b k i z hb
    obtain ⟨p, b0, o, i0, F, q, cs, _, h3, _⟩ := key b k i z hb
    exact rr.lt _ _ _ _ h3
  · intro b k i z B hb hB _
    obtain ⟨p, b0, o, i0, F, q, cs, h1, h3, rfl, e3, e4, e5⟩ := key b k i z hb
    obtain ⟨p', h4, rfl⟩ := hArgG_get hB
    rw [h1] at h4; cases h4
    have ok := hok p (List.mem_of_getElem? h1)
    intro j y hy
    have hj : j < p.xs.length := by have := (List.getElem?_eq_some_iff.1 hy).1; rw [ok.len]; exact this
    have hx := List.getElem?_eq_getElem hj
    have hcs : cs[o + j]? = some p.xs[j] := by
      rw [← hx, ← e5, List.getElem?_take_of_lt hj, List.getElem?_drop]
    obtain ⟨u, hu, hru⟩ := (rr.blk b0 k i0 z _ h3 e3 e4).cell hcs
    exact ⟨u, by rw [← hu, Nat.add_assoc], ImG.rel hok (ok.im j _ y hx hy) hru⟩
  · intro b k i z F p cs _ hB
    obtain ⟨_, _, h⟩ := hArgG_get hB; cases h
  · intro b b' k i i' z z' F F' p p' cs cs' _ _ hB
    obtain ⟨_, _, h⟩ := hArgG_get hB; cases h
  · intro b b' k i i' z z' F p p' cs cs' _ _ hB
    obtain ⟨_, _, h⟩ := hArgG_get hB; cases h
  · intro b b' k i i' z z' F0 x0 B _ _ hB
    obtain ⟨_, _, h⟩ := hArgG_get hB; cases h
  · intro b F p cs hB
    obtain ⟨_, _, h⟩ := hArgG_get hB; cases h
noncomputable def runsG (P : Program) (n : Nat) (f : FuncId) (args : List AV) (ys : List (List AV)) (gs : List Nat) (test : AV → AHeap → Bool) : Bool := match bcallY P (okY P) (brunY P (okY P) n) f args ⟨ys.map fun y => .cells none 0 y, [], gs⟩ with | some (r, h) => test r h | none => false
theorem over_evG {P : Program} (hm : P.follows .mixedOrders = true) {n : Nat} {f : FuncId} {args args' : List AV} {h : AHeap} (bs : List ArgB) (gs : List Nat) {test : AV → AHeap → Bool} (hok : ∀ p ∈ bs, OkG h bs p) (hg : ∀ g ∈ gs, g ∈ h.globs ∧ ∃ p, bs[g]? = some p ∧ p.v = .ptr g 0) (hl : args.length = args'.length) (hi : ∀ (j : Nat) (x y : AV), args[j]? = some x → args'[j]? = some y → ImG bs x y)
    (hr : runsG P n f args' (bs.map ArgB.ys) gs test = true) : ∃ r h1, test r h1 = true ∧ Ev P f args h (AV.shm bs.length h.next 4 r) (h.frozm bs.length h1) := by
  unfold runsG at hr
  split at hr
  · rename_i r h1 hc
    rw [List.map_map] at hc
    have hev : Ev P f args' (hArgG bs gs) r h1 := bcallY_run (ok := okY P) hm (by intro f hf; simp only [okY, Bool.and_eq_true] at hf; exact hf.1) (by intro f hf; simp only [okY, Bool.and_eq_true] at hf; exact hf.2) n hc
    refine ⟨r, h1, hr, ?_⟩
    have := hev.over (args := args) (fun b B hB => by obtain ⟨p, _, h2⟩ := hArgG_get hB; exact ⟨0, _, h2⟩) h (fun φ w cs rr ha => ⟨embG φ bs, ?_, hArgG_rel hok hg rr, by have := ha.1; omega, ?_⟩)
    · rwa [hArgG_next] at this
    · intro b hb
      rw [hArgG_next] at hb
      simp only [embG, List.getElem?_eq_none hb]
    · intro j y c hy hc'
      have hj : j < args.length := by have := (List.getElem?_eq_some_iff.1 hy).1; omega
      exact ImG.rel hok (hi j _ y (List.getElem?_eq_getElem hj) hy) (ha.2 j _ c (List.getElem?_eq_getElem hj) hc')
  · cases hr
/-- What is returned has no addresses. -/
theorem over_plainG {P : Program} (hm : P.follows .mixedOrders = true) (n : Nat) {f : FuncId} {args : List AV} (args' : List AV) {h : AHeap} (bs : List ArgB) (gs : List Nat) {R : AV} (hok : ∀ p ∈ bs, OkG h bs p) (hg : ∀ g ∈ gs, g ∈ h.globs ∧ ∃ p, bs[g]? = some p ∧ p.v = .ptr g 0) (hl : args.length = args'.length) (hi : ∀ (j : Nat) (x y : AV), args[j]? = some x → args'[j]? = some y → ImG bs x y)
    (hr : runsG P n f args' (bs.map ArgB.ys) gs (fun r _ => AV.isP 3 r R) = true) (hR : ∀ m d, AV.shm m d 4 R = R) : ACalls P f args h (fun q h' => q = R ∧ Keeps h h') := by
  obtain ⟨r, h1, ht, he⟩ := over_evG hm bs gs hok hg hl hi hr
  refine ⟨_, _, he, ?_, frozm_keeps _ _ _⟩
  rw [AV.isP_eq 3 _ _ ht, hR]
theorem over_runG {P : Program} (hm : P.follows .mixedOrders = true) {n : Nat} {f : FuncId} {args args' : List AV} {ys : List (List AV)} {gs : List Nat} {R : AV} (hr : runsG P n f args' ys gs (fun r _ => AV.isP 3 r R) = true) {h : AHeap} (bs : List ArgB) (hys : bs.map ArgB.ys = ys) (hok : ∀ p ∈ bs, OkG h bs p) (hg : ∀ g ∈ gs, g ∈ h.globs ∧ ∃ p, bs[g]? = some p ∧ p.v = .ptr g 0) (hl : args.length = args'.length) (hi : ∀ (j : Nat) (x y : AV), args[j]? = some x → args'[j]? = some y → ImG bs x y)
    (hR : ∀ m d, AV.shm m d 4 R = R) : ACalls P f args h (fun q h' => q = R ∧ Keeps h h') := by
  subst hys
  exact over_plainG hm n args' bs gs hok hg hl hi hr hR
theorem okGs_nil {h : AHeap} {bs : List ArgB} : ∀ p ∈ ([] : List ArgB), OkG h bs p := fun p hp => by cases hp
theorem okGs_cons {h : AHeap} {bs l : List ArgB} {p : ArgB} (h1 : OkG h bs p) (h2 : ∀ q ∈ l, OkG h bs q) : ∀ q ∈ p :: l, OkG h bs q := fun q hq => by
  rcases List.mem_cons.1 hq with rfl | hq
  · exact h1
  · exact h2 q hq
theorem hgs_nil {h : AHeap} {bs : List ArgB} : ∀ g ∈ ([] : List Nat), g ∈ h.globs ∧ ∃ p, bs[g]? = some p ∧ p.v = .ptr g 0 := fun g hg => by cases hg
theorem hgs_cons {h : AHeap} {bs : List ArgB} {g : Nat} {gs : List Nat} {p : ArgB} (h1 : h.globs.contains g = true) (h2 : bs[g]? = some p) (h3 : p.v = .ptr g 0) (hr : ∀ g ∈ gs, g ∈ h.globs ∧ ∃ p, bs[g]? = some p ∧ p.v = .ptr g 0) : ∀ x ∈ g :: gs, x ∈ h.globs ∧ ∃ p, bs[x]? = some p ∧ p.v = .ptr x 0 := fun x hx => by
  rcases List.mem_cons.1 hx with rfl | hx
  · exact ⟨List.contains_iff_mem.1 h1, p, h2, h3⟩
  · exact hr x hx
end Go.Am

namespace Go.Am
/-- A tray: how many kinds, what places have, and what they want. -/
structure Tray where
  k : Nat
  has : List Int
  wants : List Int
structure Tray.Ok (t : Tray) : Prop where
  k : 1 ≤ t.k ∧ t.k ≤ 5
  n : 1 ≤ t.has.length ∧ t.has.length ≤ 10
  len : t.wants.length = t.has.length
  h : ∀ i, i < t.has.length → 0 ≤ t.has.getD i 0 ∧ t.has.getD i 0 < t.k
  w : ∀ i, i < t.has.length → 0 ≤ t.wants.getD i 0 ∧ t.wants.getD i 0 < t.k
/-- One more, or one less, of a kind. -/
def addAt (l : List Int) (i : Int) (d : Int) : List Int := l.set i.toNat (l.getD i.toNat 0 + d)
theorem addAt_len (l : List Int) (i d : Int) : (addAt l i d).length = l.length := List.length_set
def Tray.more (t : Tray) (p : Nat → Bool) : Nat → List Int
  | 0 => [0, 0, 0, 0, 0]
  | i + 1 => if p i = true then addAt (addAt (t.more p i) (t.has.getD i 0) 1) (t.wants.getD i 0) (-1) else t.more p i
theorem Tray.more_len (t : Tray) (p : Nat → Bool) (i : Nat) : (t.more p i).length = 5 := by
  induction i with
  | zero => rfl
  | succ i ih => rw [Tray.more]; split <;> simp only [addAt_len, ih]
def small (m : Int) (l : List Int) : Prop := ∀ j, -m ≤ l.getD j 0 ∧ l.getD j 0 ≤ m
theorem small_addAt {m : Int} {l : List Int} {i d : Int} (h : small m l) (hd : -1 ≤ d ∧ d ≤ 1) (hm : 0 ≤ m) : small (m + 1) (addAt l i d) := by
  intro j
  have h1 := h j
  have h2 := h i.toNat
  unfold addAt
  rw [List.getD_eq_getElem?_getD, List.getElem?_set]
  split
  · split
    · simp only [Option.getD_some]; omega
    · simp only [Option.getD_none]; omega
  · rw [← List.getD_eq_getElem?_getD]; omega
theorem Tray.more_small (t : Tray) (p : Nat → Bool) (i : Nat) : small (2 * (i : Int)) (t.more p i) := by
  induction i with
  | zero =>
    intro j
    have : (t.more p 0).getD j 0 = 0 := by
      show ([0, 0, 0, 0, 0] : List Int).getD j 0 = 0
      match j with
      | 0 => rfl
      | 1 => rfl
      | 2 => rfl
      | 3 => rfl
      | 4 => rfl
      | j + 5 => rfl
    rw [this]; omega
  | succ i ih =>
    rw [Tray.more]
    split
    · have h1 := small_addAt (i := t.has.getD i 0) (d := 1) ih (by omega) (by omega)
      have h2 := small_addAt (i := t.wants.getD i 0) (d := -1) h1 (by omega) (by omega)
      intro j
      have := h2 j
      omega
    · intro j
      have := ih j
      omega
/-- Is nothing wanted more than there is? -/
def Tray.evenB (t : Tray) (p : Nat → Bool) : Bool := decide (t.more p t.has.length = [0, 0, 0, 0, 0])
/-- Places that are wrong. -/
def Tray.wrongTo (t : Tray) : Nat → Nat
  | 0 => 0
  | i + 1 => if t.has.getD i 0 = t.wants.getD i 0 then t.wrongTo i else t.wrongTo i ||| 2 ^ i
def Tray.wrongS (t : Tray) : Nat := t.wrongTo t.has.length
theorem Tray.wrongTo_lt (t : Tray) (i : Nat) : t.wrongTo i < 2 ^ i := by
  induction i with
  | zero => exact Nat.two_pow_pos _
  | succ i ih =>
    rw [Tray.wrongTo]
    have h1 : 2 ^ i < 2 ^ (i + 1) := Nat.pow_lt_pow_right (by decide) (by omega)
    split
    · omega
    · exact Nat.or_lt_two_pow (by omega) h1
theorem Tray.wrongTo_bit (t : Tray) (i j : Nat) : (t.wrongTo i).testBit j = (decide (j < i) && !decide (t.has.getD j 0 = t.wants.getD j 0)) := by
  induction i with
  | zero => simp [Tray.wrongTo]
  | succ i ih =>
    rw [Tray.wrongTo]
    by_cases hj : j = i
    · subst hj
      have hlt : (t.wrongTo j).testBit j = false := Nat.testBit_lt_two_pow (t.wrongTo_lt j)
      split
      · rename_i he; rw [hlt, decide_eq_true he]; simp
      · rename_i he; rw [Nat.testBit_or, hlt, Nat.testBit_two_pow, decide_eq_false he]; simp
    · have hd : decide (j < i + 1) = decide (j < i) := by
        apply decide_eq_decide.2; omega
      split
      · rw [ih, hd]
      · rw [Nat.testBit_or, ih, Nat.testBit_two_pow, hd, decide_eq_false (p := i = j) (fun e => hj e.symm), Bool.or_false]
/-- The places of a set. -/
def bitsOf (s : Nat) : List Nat := (List.range 16).filter s.testBit
theorem mem_bitsOf {s j : Nat} : j ∈ bitsOf s ↔ j < 16 ∧ s.testBit j = true := by unfold bitsOf; rw [List.mem_filter, List.mem_range]
theorem bitsOf_nodup (s : Nat) : (bitsOf s).Nodup := (List.nodup_range).filter _
/-- A set without a place. -/
def dropB (s i : Nat) : Nat := s ^^^ (s &&& 2 ^ i)
theorem dropB_bit (s i j : Nat) : (dropB s i).testBit j = (s.testBit j && !decide (j = i)) := by
  unfold dropB
  rw [Nat.testBit_xor, Nat.testBit_and, Nat.testBit_two_pow]
  by_cases h : i = j
  · subst h; cases s.testBit i <;> simp
  · rw [decide_eq_false h, decide_eq_false (p := j = i) (fun e => h e.symm)]; cases s.testBit j <;> rfl
theorem bitsOf_drop (s i : Nat) : bitsOf (dropB s i) = (bitsOf s).filter fun j => decide (j ≠ i) := by
  unfold bitsOf
  rw [List.filter_filter]
  refine List.filter_congr fun j _ => ?_
  rw [dropB_bit]
  by_cases h : j = i
  · simp [h]
  · simp [h]
theorem dropB_le (s i : Nat) : dropB s i ≤ s := by
  refine Nat.le_of_testBit fun j hj => ?_
  rw [dropB_bit] at hj
  cases h : s.testBit j with
  | true => rfl
  | false => rw [h] at hj; cases hj
/-- Into how many rings a set can be divided at most: the best of the sets without one place, and one more if it is even. -/
def Tray.mostF (t : Tray) : Nat → Nat → Nat
  | 0, _ => 0
  | f + 1, s => if s = 0 then 0 else ((bitsOf s).foldl (fun b i => max b (t.mostF f (dropB s i))) 0) + if t.evenB s.testBit = true then 1 else 0
theorem bitsOf_drop_len {s i : Nat} (h : i ∈ bitsOf s) : (bitsOf (dropB s i)).length + 1 = (bitsOf s).length := by
  rw [bitsOf_drop, ← List.countP_eq_length_filter]
  have h1 : (bitsOf s).countP (fun j => decide (j = i)) = 1 := by
    have := (bitsOf_nodup s).count (a := i)
    rw [if_pos h] at this
    rw [← this]
    exact List.countP_congr fun j _ => by simp
  have h2 := List.length_eq_countP_add_countP (fun j => decide (j ≠ i)) (l := bitsOf s)
  have h3 : (bitsOf s).countP (fun j => decide ¬(decide (j ≠ i)) = true) = (bitsOf s).countP (fun j => decide (j = i)) := List.countP_congr fun j _ => by simp
  omega
theorem bitsOf_zero {s : Nat} (hs : s < 2 ^ 16) (h : (bitsOf s).length = 0) : s = 0 := by
  have h1 : bitsOf s = [] := List.length_eq_zero_iff.1 h
  refine Nat.eq_of_testBit_eq fun j => ?_
  rw [Nat.zero_testBit]
  by_cases hj : j < 16
  · cases hb : s.testBit j with
    | false => rfl
    | true =>
      have := mem_bitsOf.2 ⟨hj, hb⟩
      rw [h1] at this; cases this
  · exact Nat.testBit_lt_two_pow (Nat.lt_of_lt_of_le hs (Nat.pow_le_pow_right (by decide) (by omega)))
theorem foldl_congr {α β : Type} {f g : β → α → β} {l : List α} (h : ∀ b, ∀ a ∈ l, f b a = g b a) : ∀ b, l.foldl f b = l.foldl g b := by
  induction l with
  | nil => intro b; rfl
  | cons a l ih =>
    intro b
    rw [List.foldl_cons, List.foldl_cons, h b a List.mem_cons_self]
    exact ih (fun b x hx => h b x (List.mem_cons_of_mem _ hx)) _
theorem Tray.mostF_fuel (t : Tray) : ∀ (d s : Nat), s < 2 ^ 16 → (bitsOf s).length = d → ∀ f g, d ≤ f → d ≤ g → t.mostF f s = t.mostF g s := by
  intro d
  induction d using Nat.strongRecOn with
  | _ d ih =>
    intro s hs hd f g hf hg
    by_cases h0 : s = 0
    · have e : ∀ f, t.mostF f s = 0 := fun f => by
        cases f with
        | zero => rfl
        | succ f => rw [Tray.mostF, if_pos h0]
      rw [e, e]
    · have hpos : d ≠ 0 := fun e => h0 (bitsOf_zero hs (by omega))
      obtain ⟨f, rfl⟩ : ∃ k, f = k + 1 := ⟨f - 1, by omega⟩
      obtain ⟨g, rfl⟩ : ∃ k, g = k + 1 := ⟨g - 1, by omega⟩
      rw [Tray.mostF, Tray.mostF, if_neg h0, if_neg h0]
      congr 1
      refine foldl_congr (fun b i hi => ?_) 0
      have h1 := bitsOf_drop_len hi
      rw [ih (bitsOf (dropB s i)).length (by omega) (dropB s i) (Nat.lt_of_le_of_lt (dropB_le s i) hs) rfl f g (by omega) (by omega)]
def Tray.mostS (t : Tray) (s : Nat) : Nat := t.mostF 16 s
def Tray.bestK (t : Tray) (s : Nat) (k : Nat) : Nat := ((bitsOf s).take k).foldl (fun b i => max b (t.mostS (dropB s i))) 0
theorem Tray.bestK_succ (t : Tray) {s k : Nat} (h : k < (bitsOf s).length) : t.bestK s (k + 1) = max (t.bestK s k) (t.mostS (dropB s ((bitsOf s).getD k 0))) := by
  unfold Tray.bestK
  rw [List.take_add_one, List.getElem?_eq_getElem h, List.foldl_append]
  rw [List.getD_eq_getElem?_getD, List.getElem?_eq_getElem h]
  rfl
theorem bitsOf_len (s : Nat) : (bitsOf s).length ≤ 16 := Nat.le_trans (List.length_filter_le ..) (by rw [List.length_range]; exact Nat.le_refl _)
theorem Tray.mostF_step (t : Tray) {s : Nat} (hs : s < 2 ^ 16) (h0 : s ≠ 0) (f : Nat) (hf : 16 ≤ f + 1) : t.mostF (f + 1) s = ((bitsOf s).foldl (fun b i => max b (t.mostF (f + 1) (dropB s i))) 0) + if t.evenB s.testBit = true then 1 else 0 := by
  rw [Tray.mostF, if_neg h0]
  congr 1
  refine foldl_congr (fun b i hi => ?_) 0
  have h1 := bitsOf_drop_len hi
  have h2 := bitsOf_len s
  rw [t.mostF_fuel (bitsOf (dropB s i)).length (dropB s i) (Nat.lt_of_le_of_lt (dropB_le s i) hs) rfl f (f + 1) (by omega) (by omega)]
theorem Tray.mostS_step (t : Tray) {s : Nat} (hs : s < 2 ^ 16) (h0 : s ≠ 0) : t.mostS s = t.bestK s (bitsOf s).length + if t.evenB s.testBit = true then 1 else 0 := by
  unfold Tray.bestK
  rw [List.take_length]
  exact t.mostF_step hs h0 15 (by decide)
theorem Tray.mostS_zero (t : Tray) : t.mostS 0 = 0 := by unfold Tray.mostS; rw [Tray.mostF, if_pos rfl]
theorem foldl_max_le {α : Type} {f : α → Nat} {m : Nat} : ∀ {l : List α} {b : Nat}, b ≤ m → (∀ x ∈ l, f x ≤ m) → l.foldl (fun b i => max b (f i)) b ≤ m := by
  intro l
  induction l with
  | nil => intro b h _; exact h
  | cons x l ih =>
    intro b h1 h2
    rw [List.foldl_cons]
    exact ih (Nat.max_le.2 ⟨h1, h2 x List.mem_cons_self⟩) (fun y hy => h2 y (List.mem_cons_of_mem _ hy))
theorem Tray.mostF_le (t : Tray) : ∀ f s, t.mostF f s ≤ f := by
  intro f
  induction f with
  | zero => intro s; exact Nat.le_refl _
  | succ f ih =>
    intro s
    rw [Tray.mostF]
    split
    · exact Nat.zero_le _
    · have := foldl_max_le (l := bitsOf s) (b := 0) (f := fun i => t.mostF f (dropB s i)) (m := f) (Nat.zero_le _) (fun i _ => ih _)
      split <;> omega
theorem Tray.mostS_le (t : Tray) (s : Nat) : t.mostS s ≤ 16 := t.mostF_le 16 s
theorem Tray.bestK_le (t : Tray) (s k : Nat) : t.bestK s k ≤ 16 := foldl_max_le (Nat.zero_le _) fun i _ => t.mostS_le _
/-- How few exchanges put a tray right. -/
def Tray.fewS (t : Tray) : Int := ((bitsOf t.wrongS).length : Int) - (t.mostS t.wrongS : Int)
/-- The error of a tray whose kinds are kinds. -/
def Tray.chk (t : Tray) : Int := if t.evenB (fun _ => true) = true then 0 else 17
end Go.Am

namespace Go.Am
instance : ScT Go.Proofs.Tryd.prog 3 := ScT.of (by kernel_rfl)
instance : IntT Go.Proofs.Tryd.prog 3 .i64 := IntT.of (by kernel_rfl)
instance : ZeT Go.Proofs.Tryd.prog 3 [.int .i64 0] := ⟨by kernel_rfl⟩
instance : ScT Go.Proofs.Tryd.prog 4 := ScT.of (by kernel_rfl)
instance : ScT Go.Proofs.Tryd.prog 5 := ScT.of (by kernel_rfl)
instance : IntT Go.Proofs.Tryd.prog 5 .u8 := IntT.of (by kernel_rfl)
instance : IntT Go.Proofs.Tryd.prog 22 .u16 := IntT.of (by kernel_rfl)
instance : ScT Go.Proofs.Tryd.prog 23 := ScT.of (by kernel_rfl)
instance : ZeT Go.Proofs.Tryd.prog 23 [.nils] := ⟨by kernel_rfl⟩
instance : SlT Go.Proofs.Tryd.prog 23 3 1 [.int .i64 0] := SlT.of (by kernel_rfl) rfl (by decide)
instance : AgT Go.Proofs.Tryd.prog 25 3 := AgT.of (by kernel_rfl)
instance : ZeT Go.Proofs.Tryd.prog 25 [.int .i64 0, .nils, .nils] := ⟨by kernel_rfl⟩
instance : SlT Go.Proofs.Tryd.prog 33 5 1 [.int .u8 0] := SlT.of (by kernel_rfl) rfl (by decide)
instance : ScT Go.Proofs.Tryd.prog 35 := ScT.of (by kernel_rfl)
instance : SlT Go.Proofs.Tryd.prog 35 39 2 [.int .i64 0, .int .i64 0] := SlT.of (by kernel_rfl) rfl (by decide)
instance : AgT Go.Proofs.Tryd.prog 37 2 := AgT.of (by kernel_rfl)
instance : ZeT Go.Proofs.Tryd.prog 37 [.int .i64 0, .nils] := ⟨by kernel_rfl⟩
instance : AgT Go.Proofs.Tryd.prog 39 2 := AgT.of (by kernel_rfl)
instance : ZeT Go.Proofs.Tryd.prog 39 [.int .i64 0, .int .i64 0] := ⟨by kernel_rfl⟩
instance : SlT Go.Proofs.Tryd.prog 50 51 2 [.int .u8 0, .int .u8 0] := SlT.of (by kernel_rfl) rfl (by decide)
instance : AgT Go.Proofs.Tryd.prog 61 5 := AgT.of (by kernel_rfl)
instance : ZeT Go.Proofs.Tryd.prog 61 [.int .i64 0, .int .i64 0, .int .i64 0, .int .i64 0, .int .i64 0] := ⟨by kernel_rfl⟩
instance : ScT Go.Proofs.Tryd.prog 70 := ScT.of (by kernel_rfl)
instance : ScT Go.Proofs.Tryd.prog 83 := ScT.of (by kernel_rfl)
instance : AgT Go.Proofs.Tryd.prog 99 4 := AgT.of (by kernel_rfl)
instance : ZeT Go.Proofs.Tryd.prog 99 [.int .i64 0, .int .i64 0, .int .i64 0, .int .i64 0] := ⟨by kernel_rfl⟩
instance : ScT Go.Proofs.Tryd.prog 100 := ScT.of (by kernel_rfl)
instance : SlT Go.Proofs.Tryd.prog 100 99 4 [.int .i64 0, .int .i64 0, .int .i64 0, .int .i64 0] := SlT.of (by kernel_rfl) rfl (by decide)
instance : AgT Go.Proofs.Tryd.prog 102 2 := AgT.of (by kernel_rfl)
instance : IntT Go.Proofs.Tryd.prog 104 .u32 := IntT.of (by kernel_rfl)
instance : AgT Go.Proofs.Tryd.prog 164 3 := AgT.of (by kernel_rfl)
instance : ZeT Go.Proofs.Tryd.prog 164 [.int .i64 0, .int .i64 0, .bool false] := ⟨by kernel_rfl⟩
instance : ScT Go.Proofs.Tryd.prog 165 := ScT.of (by kernel_rfl)
instance : ZeT Go.Proofs.Tryd.prog 165 [.nilm] := ⟨by kernel_rfl⟩
end Go.Am

namespace Go.Am
instance ky3 : KeyT Go.Proofs.Tryd.prog 3 (AV.int .i64) := KeyT.int (by kernel_rfl)
instance st9 : StT Go.Proofs.Tryd.prog 9 := ⟨by kernel_rfl⟩
instance fd25_0 : FdT Go.Proofs.Tryd.prog 25 0 0 := FdT.of (by kernel_rfl)
instance fd25_1 : FdT Go.Proofs.Tryd.prog 25 1 1 := FdT.of (by kernel_rfl)
instance fd25_2 : FdT Go.Proofs.Tryd.prog 25 2 2 := FdT.of (by kernel_rfl)
instance fd37_0 : FdT Go.Proofs.Tryd.prog 37 0 0 := FdT.of (by kernel_rfl)
instance fd37_1 : FdT Go.Proofs.Tryd.prog 37 1 1 := FdT.of (by kernel_rfl)
instance ar39 : ArT Go.Proofs.Tryd.prog 39 2 := ArT.of (by kernel_rfl)
instance ky58 : KeyT Go.Proofs.Tryd.prog 58 (AV.int .u16) := KeyT.int (by kernel_rfl)
instance ar61 : ArT Go.Proofs.Tryd.prog 61 5 := ArT.of (by kernel_rfl)
instance mp70 : MpT Go.Proofs.Tryd.prog 70 58 (.int .i64 0) := MpT.of (by kernel_rfl)
instance fd72_0 : FdT Go.Proofs.Tryd.prog 72 0 0 := FdT.of (by kernel_rfl)
instance fd72_1 : FdT Go.Proofs.Tryd.prog 72 1 3 := FdT.of (by kernel_rfl)
instance fd99_0 : FdT Go.Proofs.Tryd.prog 99 0 0 := FdT.of (by kernel_rfl)
instance fd99_1 : FdT Go.Proofs.Tryd.prog 99 1 1 := FdT.of (by kernel_rfl)
instance fd99_2 : FdT Go.Proofs.Tryd.prog 99 2 2 := FdT.of (by kernel_rfl)
instance fd99_3 : FdT Go.Proofs.Tryd.prog 99 3 3 := FdT.of (by kernel_rfl)
instance fd102_0 : FdT Go.Proofs.Tryd.prog 102 0 0 := FdT.of (by kernel_rfl)
instance fd102_1 : FdT Go.Proofs.Tryd.prog 102 1 1 := FdT.of (by kernel_rfl)
instance ar103 : ArT Go.Proofs.Tryd.prog 103 32 := ArT.of (by kernel_rfl)
instance fd142_0 : FdT Go.Proofs.Tryd.prog 142 0 0 := FdT.of (by kernel_rfl)
instance fd142_1 : FdT Go.Proofs.Tryd.prog 142 1 2 := FdT.of (by kernel_rfl)
instance mp152 : MpT Go.Proofs.Tryd.prog 152 3 (.bool false) := MpT.of (by kernel_rfl)
instance fd164_0 : FdT Go.Proofs.Tryd.prog 164 0 0 := FdT.of (by kernel_rfl)
instance fd164_1 : FdT Go.Proofs.Tryd.prog 164 1 1 := FdT.of (by kernel_rfl)
instance fd164_2 : FdT Go.Proofs.Tryd.prog 164 2 2 := FdT.of (by kernel_rfl)
instance mp165 : MpT Go.Proofs.Tryd.prog 165 3 (.agg [.int .i64 0, .int .i64 0, .bool false]) := MpT.of (by kernel_rfl)
theorem mixed : Go.Proofs.Tryd.prog.follows .mixedOrders = true := by kernel_rfl
end Go.Am

namespace Go.Am
/-- The letter's byte, and a word's bytes. -/
def bch (b : Bool) : UInt8 := if b then 49 else 48
def wd (l : List Bool) : ByteArray := ⟨(l.map bch).toArray⟩
/-- The order of words. -/
def wlt : List Bool → List Bool → Bool
  | [], [] => false
  | [], _ :: _ => true
  | _ :: _, [] => false
  | a :: s, b :: t => if a = b then wlt s t else b
end Go.Am


namespace Go.Am
/-- The weight of the first letters, and how many of them are 1. -/
def wtTo (w : List Bool) : Nat → Nat
  | 0 => 0
  | k + 1 => wtTo w k + if w.getD k false = true then k + 1 else 0
abbrev wt (w : List Bool) : Nat := wtTo w w.length
def cls (w : List Bool) : Nat := wt w % (w.length + 1)
theorem mod_eq_lt {a x y m : Nat} (hx : x < m) (hy : y < m) (h : (a + x) % m = (a + y) % m) : x = y := by
  have key : ∀ x y : Nat, x < m → y < m → x ≤ y → (a + x) % m = (a + y) % m → x = y := by
    intro x y hx hy hxy h
    have h1 := Nat.sub_mod_eq_zero_of_mod_eq h.symm
    rw [show a + y - (a + x) = y - x by omega, Nat.mod_eq_of_lt (by omega)] at h1
    omega
  rcases Nat.le_total x y with h1 | h1
  · exact key x y hx hy h1 h
  · exact (key y x hy hx h1 h.symm).symm
end Go.Am


namespace Go.Am
/-- Places in a circle, turned. -/
def pos (n s i : Nat) : Nat := (i + s) % n
end Go.Am


namespace Go.Am
/-- A row of words. -/
abbrev wcs (l : List (List Bool)) : List AV := l.map fun w => AV.str (wd w)
abbrev WRow (h : AHeap) (v : AV) (l : List (List Bool)) : Prop := Rd h v 1 (wcs l)
theorem WRow.nil (h : AHeap) : WRow h .nils [] := .inl ⟨rfl, rfl⟩
section
variable {P : Program} {n : Nat} {ops : Array Oper} {ex : List Nat} {Q : KF → AHeap → Prop} {k : Nat} {os : List Oper} {K : KF} {h h0 : AHeap} {d : Nat} {ty : TypeId} {pos : String} {after : Array Edge} {objs : List Obj}
/-- A byte of a string. -/
theorem KOps.sAt {t : TypeId} {x ix : Operand} {s : ByteArray} {kd : IntKind} {i : Int} {j : Nat} [hx : EvK h.globs n K x (.str s)] [hi : EvK h.globs n K ix (.int kd i)] [ht : StT P t] (hj : i = (j : Int)) (hlt : j < s.size) (hk : KOps P n ops ex Q (k + 1) os ((d, .int .u8 ((s.get! j).toNat : Int)) :: K) h) :
    KOps P n ops ex Q k (⟨some d, .index t x ix, ty, pos, after, none⟩ :: os) K h := by
  subst hj
  refine KOps.pure rfl (v := .int .u8 ((s.get! j).toNat : Int)) ?_ hk
  simp only [apure, hx.eq, hi.eq, aindex, ht.st, Int.toNat_natCast]
  rw [if_pos ⟨trivial, by omega⟩, getElem?_pos s j hlt]
  have h2 : s.get! j = s[j]'hlt := by
    show s.data[j]! = s.data[j]'hlt
    rw [getElem!_pos _ j hlt]
  rw [h2]; rfl
end
end Go.Am


namespace Go.Am
def Ordt (l : List (List Bool)) (a : Nat) : Prop := ∀ i j, i < j → j < a → wlt (l.getD j []) (l.getD i []) = false
theorem Ordt.one (l : List (List Bool)) : Ordt l 1 := fun i j h1 h2 => by omega
/-! Looking for a word. -/
end Go.Am


namespace Go.Am
section
variable {P : Program} {n : Nat} {ops : Array Oper} {ex : List Nat} {Q : KF → AHeap → Prop} {k : Nat} {os : List Oper} {K : KF} {h h0 : AHeap} {d : Nat} {ty : TypeId} {pos : String} {after : Array Edge} {objs pre rest : List Obj}
/-- A remainder of natural numbers. -/
theorem KOps.remN {t t' : TypeId} {x y : Operand} {a b : Int} {i j : Nat} [hx : EvK h.globs n K x (.int .i64 a)] [hy : EvK h.globs n K y (.int .i64 b)] (ha : a = (i : Int)) (hb : b = (j : Int)) (h0 : 0 < j) (hi : i < 9223372036854775807)
    (hk : KOps P n ops ex Q (k + 1) os ((d, .int .i64 ((i % j : Nat) : Int)) :: K) h) : KOps P n ops ex Q k (⟨some d, .binOp .rem t x y t', ty, pos, after, none⟩ :: os) K h := by
  subst ha; subst hb
  have e : (i : Int).tmod (j : Int) = ((i % j : Nat) : Int) := by rw [Int.tmod_eq_emod_of_nonneg (by omega)]; rfl
  have hl := Nat.mod_le i j
  refine KOps.rem (by omega) ?_ ?_ ?_ <;> rw [e]
  · omega
  · omega
  · exact hk
end
end Go.Am


namespace Go.Am
open Go.RowKit
def AV.flat0 : AV → Bool
  | .int _ _ => true
  | .bool _ => true
  | .str _ => true
  | _ => false
def AV.flat : AV → Bool
  | .tup l => l.all AV.flat0
  | x => x.flat0
theorem flat0_rel {φ ψ : Emb} {x : AV} {v : Value} (hx : x.flat0 = true) (h : VRel φ x v) : VRel ψ x v := by
  cases h <;> first | (cases hx; done) | exact .int _ _ | exact .bool _ | exact .str _
theorem flat_rel {φ ψ : Emb} {x : AV} {v : Value} (hx : x.flat = true) (h : VRel φ x v) : VRel ψ x v := by
  cases h with
  | tup l cs hl hh => exact .tup l cs hl fun j x y h1 h2 => flat0_rel (List.all_eq_true.1 hx x (List.mem_of_getElem? h1)) (hh j x y h1 h2)
  | int k n => exact .int k n
  | bool b => exact .bool b
  | str s => exact .str s
  | _ => cases hx
theorem flats_rel {φ ψ : Emb} {l : List AV} {cs : List Value} (hx : l.all AV.flat = true) (h : VRels φ l cs) : VRels ψ l cs :=
  ⟨h.1, fun j x y h1 h2 => flat_rel (List.all_eq_true.1 hx x (List.mem_of_getElem? h1)) (h.2 j x y h1 h2)⟩
/-- What a call lays behind all that is known is of no interest. -/
theorem Ev.of_below {P : Program} {f : FuncId} {args : List AV} {r : AV} (hok : Okf P f) (hc : ∀ (φ : Emb) (w : World) (cs : List Value), VRels φ args cs → Calls P f cs.toArray w fun e w' => ∃ v, e = .returned v ∧ VRel φ r v ∧ Below w.heap.size w w') (h : AHeap) : Ev P f args h r h := by
  refine ⟨hok, HGrow.refl h, ?_⟩
  intro φ w cs _ rr ha
  refine (hc φ w cs ha).mono ?_
  rintro e w' ⟨v, rfl, hv, bel⟩
  have hk : ∀ k, k < w.heap.size → w'.heap[k]? = w.heap[k]? := fun k hk => bel.block k hk
  refine ⟨v, φ, rfl, ⟨Emb.le_refl φ, fun b h1 h2 => by omega, fun b p h1 h2 => (by rw [h1] at h2; cases h2), fun b k i z h1 h2 => (by rw [h1] at h2; cases h2), fun k hk' _ => hk k hk', bel.os, bel.tape, bel.output, bel.size⟩, ?_, hv⟩
  refine ⟨rr.glob, fun b k i z hb => Nat.lt_of_lt_of_le (rr.lt b k i z hb) bel.size, ?_, ?_, rr.one, rr.sep, rr.map, rr.ext⟩
  · intro b k i z B hb hB hv
    exact (rr.blk b k i z B hb hB hv).world (hk k (rr.lt b k i z hb))
  · intro b k i z F p cs hb hB
    obtain ⟨c, e, h2, h3⟩ := rr.arr b k i z F p cs hb hB
    exact ⟨c, e, (hk k (rr.lt b k i z hb)).trans h2, h3⟩
/-- A call of numbers, booleans and strings that gives such: beside whatever heap. -/
theorem Ev.free {P : Program} {f : FuncId} {args : List AV} {r : AV} {h1 : AHeap} (he : Ev P f args h00 r h1) (ha : args.all AV.flat = true) (hr : r.flat = true) (h : AHeap) : Ev P f args h r h := by
  refine Ev.of_below he.1 ?_ h
  intro φ w cs hcs
  refine (he.2.2 φ00 w cs (fun _ _ _ => rfl) (HRel.empty w) (flats_rel ha hcs)).mono ?_
  rintro e w' ⟨v, φ', rfl, t, _, hv⟩
  exact ⟨v, rfl, flat_rel hr hv, t.below⟩
theorem ACalls.free {P : Program} {f : FuncId} {args : List AV} {v : AV} {R : AHeap → Prop} (hc : ACalls P f args h00 (fun q h' => q = v ∧ R h')) (ha : args.all AV.flat = true) (hr : v.flat = true) (h : AHeap) : ACalls P f args h (fun q h' => q = v ∧ h = h') := by
  obtain ⟨r, h1, he, rfl, _⟩ := hc
  exact ⟨_, _, he.free ha hr h, rfl, rfl⟩
end Go.Am


namespace Go.Am
abbrev popS : ByteArray := ⟨(([0, 1, 1, 2, 1, 2, 2, 3, 1, 2, 2, 3, 2, 3, 3, 4, 1, 2, 2, 3, 2, 3, 3, 4, 2, 3, 3, 4, 3, 4, 4, 5, 1, 2, 2, 3, 2, 3, 3, 4, 2, 3, 3, 4, 3, 4, 4, 5, 2, 3, 3, 4, 3, 4, 4, 5, 3, 4, 4,
  5, 4, 5, 5, 6].append [1, 2, 2, 3, 2, 3, 3, 4, 2, 3, 3, 4, 3, 4, 4, 5, 2, 3, 3, 4, 3, 4, 4, 5, 3, 4, 4, 5, 4, 5, 5, 6, 2, 3, 3, 4, 3, 4, 4, 5, 3, 4, 4, 5, 4, 5, 5, 6, 3, 4, 4, 5,
  4, 5, 5, 6, 4, 5, 5, 6, 5, 6, 6, 7]).append ([1, 2, 2, 3, 2, 3, 3, 4, 2, 3, 3, 4, 3, 4, 4, 5, 2, 3, 3, 4, 3, 4, 4, 5, 3, 4, 4, 5, 4, 5, 5, 6, 2, 3, 3, 4, 3, 4, 4, 5, 3, 4, 4, 5, 4,
  5, 5, 6, 3, 4, 4, 5, 4, 5, 5, 6, 4, 5, 5, 6, 5, 6, 6, 7].append [2, 3, 3, 4, 3, 4, 4, 5, 3, 4, 4, 5, 4, 5, 5, 6, 3, 4, 4, 5, 4, 5, 5, 6, 4, 5, 5, 6, 5, 6, 6, 7, 3, 4, 4, 5, 4, 5,
  5, 6, 4, 5, 5, 6, 5, 6, 6, 7, 4, 5, 5, 6, 5, 6, 6, 7, 5, 6, 6, 7, 6, 7, 7, 8])).toArray⟩
theorem popS_size : popS.size = 256 := by kernel_rfl
/-- The table of the lowest bits. -/
def tzL : List Nat := [0, 1, 28, 2, 29, 14, 24, 3, 30, 22, 20, 15, 25, 17, 4, 8, 31, 27, 13, 23, 21, 19, 16, 7, 26, 12, 18, 6, 11, 5, 10, 9]
def tzC : List AV := tzL.map fun (v : Nat) => .int .u8 (v : Int)
def Tab (h : AHeap) : Prop := h.globs.contains 0 = true ∧ Rd h (.ptr 0 0) 0 tzC
theorem Tab.ext {h h' : AHeap} (z : Tab h) (k : Keeps h h') : Tab h' := ⟨by rw [k.globs]; exact z.1, Rd.ext k z.2⟩
theorem Tab.ev {h : AHeap} (z : Tab h) (n : Nat) (K : KF) : EvK h.globs n K (.global 0) (.ptr 0 0) := ⟨by simp only [evalK]; rw [if_pos z.1]⟩
theorem addr0 : AddrOf (.ptr 0 0) (.ptr 0 0) 0 0 := ⟨0, 0, .inr ⟨rfl, rfl⟩, rfl⟩
def tzJ (t : Nat) : Nat := (2 ^ t * 125613361 % 4294967296) >>> 27
theorem tz_idx : ∀ t : Nat, t < 32 → (IntKind.u32.wrap (((2 ^ t : Nat) : Int) * 125613361)).fdiv (2 ^ Min.min (27 : Int).toNat (IntKind.bits .u32)) = (tzJ t : Int) ∧ tzJ t < 32 ∧ tzC[tzJ t]? = some (.int .u8 (t : Int)) := by
  intro t ht
  refine ⟨?_, ?_, ?_⟩
  · revert t; decide +kernel
  · revert t; decide +kernel
  · have : ∀ t : Nat, t < 32 → tzL[tzJ t]? = some t := by decide +kernel
    rw [tzC, List.getElem?_map, this t ht]; rfl
section
variable {P : Program} {n : Nat} {ops : Array Oper} {ex : List Nat} {Q : KF → AHeap → Prop} {k : Nat} {os : List Oper} {K : KF} {h h0 : AHeap} {d : Nat} {ty : TypeId} {pos : String} {after : Array Edge} {objs : List Obj}
theorem KOps.negK {t : TypeId} {x : Operand} {kd : IntKind} {a : Int} [hx : EvK h.globs n K x (.int kd a)] (hk : KOps P n ops ex Q (k + 1) os ((d, .int kd (kd.wrap (0 - a))) :: K) h) : KOps P n ops ex Q k (⟨some d, .unOp .neg t x, ty, pos, after, none⟩ :: os) K h :=
  KOps.pure rfl (by simp only [apure, hx.eq, aun]) hk
end
end Go.Am


namespace Go.Am
/-- The tables of the lowest bits. -/
def tzL64 : List Nat := [0, 1, 56, 2, 57, 49, 28, 3, 61, 58, 42, 50, 38, 29, 17, 4, 62, 47, 59, 36, 45, 43, 51, 22, 53, 39, 33, 30, 24, 18, 12, 5, 63, 55, 48, 27, 60, 41, 37, 16, 46, 35, 44, 21, 52, 32, 23, 11, 54, 26, 40, 15, 34, 20, 31, 10, 25, 14, 19, 9, 13, 8, 7, 6]
def tzC64 : List AV := tzL64.map fun (v : Nat) => .int .u8 (v : Int)
def Tabs (h : AHeap) : Prop := Tab h ∧ h.globs.contains 1 = true ∧ Rd h (.ptr 1 0) 0 tzC64
theorem Tabs.ext {h h' : AHeap} (z : Tabs h) (k : Keeps h h') : Tabs h' := ⟨z.1.ext k, by rw [k.globs]; exact z.2.1, Rd.ext k z.2.2⟩
def lowB (s : Nat) : Nat := (bitsOf s).headD 0
theorem low_16 : ∀ s, s < 1024 → s ≠ 0 → s &&& (65536 - s) = 2 ^ lowB s ∧ lowB s < 10 ∧ bitsOf (s &&& (s - 1)) = (bitsOf s).tail ∧ bitsOf s ≠ [] := by decide +kernel
theorem low_lt : ∀ s, s < 1024 → s &&& (s - 1) < 1024 := fun s h => Nat.lt_of_le_of_lt Nat.and_le_left h
theorem neg16 {x : Nat} (h0 : 0 < x) (hx : x < 65536) : IntKind.u16.wrap (0 - (x : Int)) = ((65536 - x : Nat) : Int) := by
  unfold IntKind.wrap
  simp only [IntKind.bits, IntKind.signed, Bool.false_and]
  have e1 : (2 : Int) ^ 16 = 65536 := by decide
  rw [e1]
  simp
  omega
theorem bit_dec {s i : Nat} : decide (((s >>> i &&& 1 : Nat) : Int) = 1) = s.testBit i := by
  rw [and_one_bit]
  cases s.testBit i <;> rfl
theorem pop_len : ∀ s, s < 1024 → ((popS.get! (s >>> 8)).toNat + (popS.get! (s &&& 255)).toNat : Nat) = (bitsOf s).length ∧ s >>> 8 < 256 ∧ s &&& 255 < 256 ∧ (popS.get! (s >>> 8)).toNat ≤ 8 ∧ (popS.get! (s &&& 255)).toNat ≤ 8 := by decide +kernel
abbrev nI (l : List Nat) : List Int := l.map fun n : Nat => (n : Int)
theorem bits1024 : ∀ s, s < 1024 → ∀ i ∈ bitsOf s, i < 10 := by decide +kernel
section
variable {P : Program} {n : Nat} {ops : Array Oper} {ex : List Nat} {Q : KF → AHeap → Prop} {k : Nat} {os : List Oper} {K : KF} {h : AHeap} {d : Nat} {ty : TypeId} {pos : String} {after : Array Edge}
theorem KOps.eqlArr {t t' e : TypeId} {x y : Operand} {l m : List Int} {z : Nat} [hx : EvK h.globs n K x (.agg (ints l))] [hy : EvK h.globs n K y (.agg (ints m))] (h1 : arrA P t = some (z, e)) (h2 : intA P e = some .i64) (h3 : P.eqGuardType P.depth t = false) (h4 : szA P e = some 1) (hl : l.length = z) (hm : m.length = z)
    (hk : KOps P n ops ex Q (k + 1) os ((d, .bool (decide (l = m))) :: K) h) : KOps P n ops ex Q k (⟨some d, .binOp .eql t x y t', ty, pos, after, none⟩ :: os) K h := by
  refine KOps.pure rfl ?_ hk
  simp only [apure, hx.eq, hy.eq, abin, aarr, h1, h2, h3, h4, alits_map, if_true, Option.map_some, hl, hm, true_and, and_self]
  rw [show (l == m) = decide (l = m) by rw [Bool.eq_iff_iff, beq_iff_eq, decide_eq_true_iff]]
theorem KOps.neqArr {t t' e : TypeId} {x y : Operand} {l m : List Int} {z : Nat} [hx : EvK h.globs n K x (.agg (ints l))] [hy : EvK h.globs n K y (.agg (ints m))] (h1 : arrA P t = some (z, e)) (h2 : intA P e = some .i64) (h3 : P.eqGuardType P.depth t = false) (h4 : szA P e = some 1) (hl : l.length = z) (hm : m.length = z)
    (hk : KOps P n ops ex Q (k + 1) os ((d, .bool (!decide (l = m))) :: K) h) : KOps P n ops ex Q k (⟨some d, .binOp .neq t x y t', ty, pos, after, none⟩ :: os) K h := by
  refine KOps.pure rfl ?_ hk
  simp only [apure, hx.eq, hy.eq, abin, aarr, h1, h2, h3, h4, alits_map, if_true, Option.map_some, hl, hm, true_and, and_self]
  rw [show (l == m) = decide (l = m) by rw [Bool.eq_iff_iff, beq_iff_eq, decide_eq_true_iff]]
end
theorem mdBetween_c {h : AHeap} {a b c : Int} : ACalls Go.Proofs.Tryd.prog 26 [.int .i64 a, .int .i64 b, .int .i64 c] h (fun q h' => q = .bool (decide (a ≤ b ∧ b ≤ c)) ∧ h = h') := by
  refine KA.fn 15 [.tmp 6] Go.Proofs.Tryd.func26 rfl (by decide) rfl rfl (Nat.le_of_ble_eq_true rfl) ?_
  show KA _ 15 _ _ [(0, .int .i64 a), (1, .int .i64 b), (2, .int .i64 c)] _
  refine KA.seq ?_
  refine KA.region rfl ?_
  refine KOps.assign ?_
  refine KOps.done ?_
  refine sqQ.normal ?_
  refine KA.sub (Sub.cons (t := 0) Look.eq (Sub.cons (t := 1) Look.eq (Sub.cons (t := 2) Look.eq (Sub.nil _)))) ?_
  refine KA.seq ?_
  refine KA.region rfl ?_
  refine KOps.move ?_
  refine KOps.move ?_
  refine KOps.leq ?_
  refine KOps.move ?_
  refine KOps.guardB (dj := 10) rfl rfl true false rfl ?_ ?_
  · intro g10
    have g10 := of_decide_eq_true g10
    refine KOps.move ?_
    refine KOps.guardYes (dj := 10) rfl rfl ?_
    refine KOps.move ?_
    refine KOps.guardYes (dj := 10) rfl rfl ?_
    refine KOps.leq ?_
    refine KOps.pickT ?_
    refine KOps.assign ?_
    refine KOps.done ?_
    refine sqQ.normal ?_
    refine KA.sub (Sub.cons (t := 6) Look.eq (Sub.nil _)) ?_
    refine KA.ret ?_
    refine fnQ.ret1 ?_
    first | exact ⟨congrArg AV.bool (decide_eq_decide.2 (by omega)), rfl⟩ | exact ⟨congrArg AV.bool (decide_eq_false (by omega)).symm, rfl⟩
  · intro g10
    have g10 := of_decide_eq_false g10
    refine KOps.guardNo (dj := 10) rfl rfl rfl ?_
    refine KOps.guardNo (dj := 10) rfl rfl rfl ?_
    refine KOps.pickF ?_
    refine KOps.assign ?_
    refine KOps.done ?_
    refine sqQ.normal ?_
    refine KA.sub (Sub.cons (t := 6) Look.eq (Sub.nil _)) ?_
    refine KA.ret ?_
    refine fnQ.ret1 ?_
    first | exact ⟨congrArg AV.bool (decide_eq_decide.2 (by omega)), rfl⟩ | exact ⟨congrArg AV.bool (decide_eq_false (by omega)).symm, rfl⟩

theorem setHas_c {h : AHeap} {s i : Nat} (hs : s < 1024) (hi : i ≤ 16) : ACalls Go.Proofs.Tryd.prog 40 [.int .u16 (s : Int), .int .i64 (i : Int)] h (fun q h' => q = .bool (s.testBit i) ∧ h = h') := by
  refine KA.fn 10 [.tmp 4] Go.Proofs.Tryd.func40 rfl (by decide) rfl rfl (Nat.le_of_ble_eq_true rfl) ?_
  show KA _ 10 _ _ [(0, .int .u16 (s : Int)), (1, .int .i64 (i : Int))] _
  refine KA.seq ?_
  refine KA.region rfl ?_
  refine KOps.assign ?_
  refine KOps.done ?_
  refine sqQ.normal ?_
  refine KA.sub (Sub.cons (t := 0) Look.eq (Sub.cons (t := 1) Look.eq (Sub.nil _))) ?_
  refine KA.seq ?_
  refine KA.region rfl ?_
  refine KOps.move ?_
  refine KOps.move ?_
  refine KOps.shrN (s) (i) rfl rfl (by exact hi) ?_
  refine KOps.andN (s >>> i) (1) rfl rfl (by rw [Nat.shiftRight_eq_div_pow]; exact Nat.lt_of_le_of_lt (Nat.div_le_self ..) (show s < 65536 by omega)) (by first | assumption | decide | omega | (simp only [topK, IntKind.bits]; omega)) ?_
  refine KOps.eql ?_
  refine KOps.assign ?_
  refine KOps.done ?_
  refine sqQ.normal ?_
  refine KA.sub (Sub.cons (t := 4) Look.eq (Sub.nil _)) ?_
  refine KA.ret ?_
  refine fnQ.ret1 ?_
  rw [bit_dec]
  exact ⟨rfl, rfl⟩

theorem tz16_c {h : AHeap} {s : Nat} (hT : Tab h) (hs : s < 1024) (h0 : s ≠ 0) : ACalls Go.Proofs.Tryd.prog 39 [.int .u16 (s : Int)] h (fun q h' => q = .int .i64 (lowB s : Int) ∧ h = h') := by
  refine KA.fn 15 [.tmp 2] Go.Proofs.Tryd.func39 rfl (by decide) rfl rfl (Nat.le_of_ble_eq_true rfl) ?_
  have hl := low_16 s hs h0
  have hj := tz_idx (lowB s) (by omega)
  haveI hzi := hT.ev
  show KA _ 15 _ _ [(0, .int .u16 (s : Int))] _
  refine KA.seq ?_
  refine KA.region rfl ?_
  refine KOps.assign ?_
  refine KOps.done ?_
  refine sqQ.normal ?_
  refine KA.sub (Sub.cons (t := 0) Look.eq (Sub.nil _)) ?_
  refine KA.seq ?_
  refine KA.seq ?_
  refine KA.region rfl ?_
  refine KOps.move ?_
  refine KOps.eql ?_
  refine KOps.done ?_
  refine sqQ.normal ?_
  refine KA.sub (Sub.cons (t := 0) Look.eq (Sub.cons (t := 4) Look.eq (Sub.nil _))) ?_
  refine KA.condD ?_ ?_
  · intro c4
    exact absurd c4 (by omega)
  · intro c4
    refine KA.skip ?_
    refine sqQ.normal ?_
    refine KA.sub (Sub.cons (t := 0) Look.eq (Sub.nil _)) ?_
    refine KA.seq ?_
    refine KA.region rfl ?_
    refine KOps.move ?_
    refine KOps.move ?_
    refine KOps.negK ?_
    rw [neg16 (by omega) (by omega)]
    refine KOps.andN (s) (65536 - s) rfl rfl (by show s < 65536; omega) (by show 65536 - s < 65536; omega) ?_
    rw [hl.1]
    have hp := Nat.pow_lt_pow_right (a := 2) (by decide) hl.2.1
    refine KOps.convIn (wrapN (show 2 ^ lowB s < 4294967296 by omega)) ?_
    refine KOps.int (v := .int .u32 (IntKind.u32.wrap (((2 ^ lowB s : Nat) : Int) * 125613361))) (.inr (.inr rfl)) rfl ?_
    refine KOps.shr (by omega) ?_
    rw [hj.1]
    refine KOps.indexA addr0 (j := tzJ (lowB s)) rfl hj.2.1 ?_
    intro p12 hp12
    refine KOps.load hp12 hT.2 hj.2.2 ?_
    refine KOps.convU (by omega) (by omega) ?_
    refine KOps.assign ?_
    refine KOps.done ?_
    refine sqQ.normal ?_
    refine KA.sub (Sub.cons (t := 2) Look.eq (Sub.nil _)) ?_
    refine KA.ret ?_
    refine fnQ.ret1 ?_
    exact ⟨rfl, rfl⟩

theorem ones16_c {h : AHeap} {s : Nat} (hs : s < 1024) : ACalls Go.Proofs.Tryd.prog 27 [.int .u16 (s : Int)] h (fun q h' => q = .int .i64 ((bitsOf s).length : Int) ∧ h = h') := by
  refine KA.fn 11 [.tmp 2] Go.Proofs.Tryd.func27 rfl (by decide) rfl rfl (Nat.le_of_ble_eq_true rfl) ?_
  have hp := pop_len s hs
  show KA _ 11 _ _ [(0, .int .u16 (s : Int))] _
  refine KA.seq ?_
  refine KA.region rfl ?_
  refine KOps.assign ?_
  refine KOps.done ?_
  refine sqQ.normal ?_
  refine KA.sub (Sub.cons (t := 0) Look.eq (Sub.nil _)) ?_
  refine KA.seq ?_
  refine KA.draw [] mixed rfl (by kernel_rfl) ?_
  refine KOps.move ?_
  refine KOps.shrN (s) (8) (by first | rfl | (simp; done) | omega) (by first | rfl | (simp; done) | omega) (by first | assumption | decide | omega | (simp only [topK, IntKind.bits]; omega)) ?_
  refine KOps.sAt (s := popS) (j := s >>> 8) rfl (by rw [popS_size]; exact hp.2.1) ?_
  refine KOps.move ?_
  refine KOps.andN (s) (255) rfl rfl (by show s < 65536; omega) (by decide) ?_
  refine KOps.sAt (s := popS) (j := s &&& 255) rfl (by rw [popS_size]; exact hp.2.2.1) ?_
  refine KOps.addN ((popS.get! (s >>> 8)).toNat) ((popS.get! (s &&& 255)).toNat) rfl rfl (by show _ < 256; omega) ?_
  refine KOps.convU (by omega) (by omega) ?_
  refine KOps.assign ?_
  refine KOps.done ?_
  refine sqQ.normal ?_
  refine KA.sub (Sub.cons (t := 2) Look.eq (Sub.nil _)) ?_
  refine KA.ret ?_
  refine fnQ.ret1 ?_
  rw [hp.1]
  exact ⟨rfl, rfl⟩

theorem setList_c {h : AHeap} {s : Nat} (hTab : Tab h) (hs : s < 1024) : ACalls Go.Proofs.Tryd.prog 33 [.int .u16 (s : Int)] h (fun v h' => St h h' [⟨v, 1, ints (nI (bitsOf s)), true⟩]) := by
  refine KA.fn 16 [.tmp 2] Go.Proofs.Tryd.func33 rfl (by decide) rfl rfl (Nat.le_of_ble_eq_true rfl) ?_
  have hS := St.refl h
  have hbl := bitsOf_len s
  show KA _ 16 _ _ [(0, .int .u16 (s : Int))] _
  refine KA.seq ?_
  refine KA.region rfl ?_
  refine KOps.assign ?_
  refine KOps.done ?_
  refine sqQ.normal ?_
  refine KA.sub (Sub.cons (t := 0) Look.eq (Sub.nil _)) ?_
  refine KA.seq ?_
  refine KA.region rfl ?_
  refine KOps.assign ?_
  refine KOps.done ?_
  refine sqQ.normal ?_
  refine KA.seq ?_
  refine KA.block ?_
  refine KA.loop (X := Nat × Nat × AV) (fun x => [(0, .int .u16 (x.1 : Int)), (3, x.2.2)]) (fun x h' => x.1 < 1024 ∧ x.2.1 ≤ (bitsOf s).length ∧ bitsOf x.1 = (bitsOf s).drop x.2.1 ∧ St h h' [⟨x.2.2, 1, ints (nI ((bitsOf s).take x.2.1)), true⟩]) (fun x => (bitsOf s).length - x.2.1) (s, 0, .nils) (by repeat (first | exact Sub.nil _ | refine Sub.cons Look.eq ?_ | refine Sub.cons (Eq.trans Look.eq (congrArg (AV.int _) (by first | omega | (dsimp only; omega)))) ?_)) ?_ ?_
  · exact ⟨hs, Nat.zero_le _, rfl, hS.nil 1⟩
  rintro ⟨x, k, v⟩ h2 ⟨hx1, hk, hd, hS⟩
  dsimp only at hx1 hk hd hS ⊢
  refine KA.seq ?_
  refine KA.seq ?_
  refine KA.region rfl ?_
  refine KOps.move ?_
  refine KOps.neq ?_
  refine KOps.done ?_
  refine sqQ.normal ?_
  refine KA.sub (Sub.cons (t := 0) Look.eq (Sub.cons (t := 3) Look.eq (Sub.cons (t := 5) Look.eq (Sub.nil _)))) ?_
  refine KA.condN ?_ ?_
  · intro c5
    have hx0 : x ≠ 0 := fun e => c5 (by rw [e]; rfl)
    refine KA.skip ?_
    refine sqQ.normal ?_
    refine KA.sub (Sub.cons (t := 0) Look.eq (Sub.cons (t := 3) Look.eq (Sub.nil _))) ?_
    refine KA.seq ?_
    refine KA.block ?_
    refine KA.region rfl ?_
    refine KOps.move ?_
    refine KOps.move ?_
    refine KOps.call rfl (tz16_c (hTab.ext hS.keeps) hx1 hx0) ?_
    rintro _ _ ⟨rfl, rfl⟩
    refine KOps.buildSlice hS rfl (by decide) rfl ?_
    intro v13 h' hS
    refine KOps.appendI hS (fun _ => rfl) (i := 0) rfl (by first | omega | (simp; done) | (simp; omega)) ?_
    intro r14 h' hr14 hS
    refine KOps.assign ?_
    refine KOps.done ?_
    refine blQ.normal ?_
    refine sqQ.normal ?_
    refine KA.sub (Sub.cons (t := 0) Look.eq (Sub.cons (t := 3) Look.eq (Sub.nil _))) ?_
    refine KA.region rfl ?_
    refine KOps.move ?_
    refine KOps.move ?_
    refine KOps.subN (x) (1) rfl rfl (by omega) (by show x < 65536; omega) ?_
    refine KOps.andN (x) (x - 1) rfl rfl (by show x < 65536; omega) (by show x - 1 < 65536; omega) ?_
    refine KOps.assign ?_
    refine KOps.done ?_
    have hlow := low_16 x hx1 hx0
    have hkl : k < (bitsOf s).length := by
      rcases Nat.lt_or_eq_of_le hk with q | q
      · exact q
      · rw [q, List.drop_length] at hd; exact absurd hd hlow.2.2.2
    have hg : (bitsOf s).getD k 0 = lowB x := by
      unfold lowB
      rw [hd, List.getD_eq_getElem?_getD, List.headD_eq_head?_getD, List.head?_drop]
    have e8 : (bitsOf s).take (k + 1) = (bitsOf s).take k ++ [lowB x] := by
      rw [List.take_add_one, List.getElem?_eq_getElem hkl, ← hg, List.getD_eq_getElem?_getD, List.getElem?_eq_getElem hkl]; rfl
    have e9 : nI ((bitsOf s).take k) ++ [((lowB x : Nat) : Int)] = nI ((bitsOf s).take (k + 1)) := by
      rw [e8]
      exact (List.map_append (f := fun n : Nat => (n : Int)) (l₁ := (bitsOf s).take k) (l₂ := [lowB x])).symm
    simp only [List.set_cons_zero] at hS
    rw [e9] at hS
    exact lpQ.normal (x &&& (x - 1), k + 1, _) (by repeat (first | exact Sub.nil _ | refine Sub.cons Look.eq ?_ | refine Sub.cons (Eq.trans Look.eq (congrArg (AV.int _) (by first | omega | (dsimp only; omega)))) ?_)) ⟨low_lt x hx1, hkl, by dsimp only; rw [hlow.2.2.1, hd, List.tail_drop], hS⟩ (by dsimp only; omega)
  · intro c5
    have hx0 : x = 0 := by omega
    refine KA.exit ?_
    refine sqQ.exit ?_
    refine lpQ.exit ?_
    refine blQ.here ?_
    refine sqQ.normal ?_
    refine KA.sub (Sub.cons (t := 3) Look.eq (Sub.nil _)) ?_
    refine KA.seq ?_
    refine KA.region rfl ?_
    refine KOps.move ?_
    refine KOps.assign ?_
    refine KOps.done ?_
    refine sqQ.normal ?_
    refine KA.sub (Sub.cons (t := 2) Look.eq (Sub.nil _)) ?_
    refine KA.ret ?_
    refine fnQ.ret1 ?_
    subst hx0
    have hk2 : (bitsOf s).length ≤ k := by
      have e0 : bitsOf 0 = [] := by decide
      rw [e0] at hd
      have := congrArg List.length hd
      rw [List.length_drop, List.length_nil] at this
      omega
    rw [List.take_of_length_le hk2] at hS
    exact hS

end Go.Am

namespace Go.Am
theorem run_sorts : runsG Go.Proofs.Tryd.prog 4000 30 [.agg [.int .i64 3, .slc 0 0 3 2 false]] [ints [0, 1, 1, 2, 0, 1], tzC64] [1] (fun r _ => AV.isP 3 r (.tup [.bool true, .int .i64 0])) = true := by kernel_rfl
theorem run_ways : runsG Go.Proofs.Tryd.prog 4000 37 [.slc 0 0 5 1 false, .int .i64 3] [ints [0, 2, 1, 3, 4]] [] (fun r _ => AV.isP 3 r (.tup [.int .i64 6, .int .i64 0])) = true := by kernel_rfl
theorem run_cut : runsG Go.Proofs.Tryd.prog 4000 48 [.agg [.int .i64 2, .int .i64 3, .int .i64 2, .int .i64 1]] [] [] (fun r _ => AV.isP 3 r (.tup [.int .i64 3, .int .i64 0])) = true := by kernel_rfl
theorem run_back : runsG Go.Proofs.Tryd.prog 4000 47 [.agg [.int .i64 2, .int .i64 2, .int .i64 2, .slc 0 0 4 1 false]] [ints [0, 1, 2, 3]] [] (fun r _ => AV.isP 3 r (.tup [.int .i64 6, .int .i64 0])) = true := by kernel_rfl
theorem sorts_c {h : AHeap} {v : AV} (hv : Rd h v 2 (ints [0, 1, 1, 2, 0, 1])) (hT : Tabs h) : ACalls Go.Proofs.Tryd.prog 30 [.agg [.int .i64 3, v]] h (fun q h' => q = .tup [.bool true, .int .i64 0] ∧ Keeps h h') :=
  over_runG mixed run_sorts [⟨v, 2, ints [0, 1, 1, 2, 0, 1], ints [0, 1, 1, 2, 0, 1]⟩, ⟨.ptr 1 0, 0, tzC64, tzC64⟩] rfl (okGs_cons (okG_plain hv (by decide) (by simp [ints]) rfl) (okGs_cons (okG_glob hT.2.2 rfl) okGs_nil)) (hgs_cons hT.2.1 rfl rfl hgs_nil) rfl
    (imG_cons (.agg _ _ rfl (imG_cons (.plain _ rfl) (imG_cons (imG_slc rfl (by decide) rfl) imG_nil))) imG_nil) (fun _ _ => rfl)
theorem ways_c {h : AHeap} {v : AV} (hv : Rd h v 1 (ints [0, 2, 1, 3, 4])) : ACalls Go.Proofs.Tryd.prog 37 [v, .int .i64 3] h (fun q h' => q = .tup [.int .i64 6, .int .i64 0] ∧ Keeps h h') :=
  over_runG mixed run_ways [⟨v, 1, ints [0, 2, 1, 3, 4], ints [0, 2, 1, 3, 4]⟩] rfl (okGs_cons (okG_plain hv (by decide) (by simp [ints]) rfl) okGs_nil) hgs_nil rfl
    (imG_cons (imG_slc rfl (by decide) rfl) (imG_cons (.plain _ rfl) imG_nil)) (fun _ _ => rfl)
theorem cut23_c {h : AHeap} : ACalls Go.Proofs.Tryd.prog 48 [.agg [.int .i64 2, .int .i64 3, .int .i64 2, .int .i64 1]] h (fun q h' => q = .tup [.int .i64 3, .int .i64 0] ∧ Keeps h h') :=
  over_runG mixed run_cut [] rfl okGs_nil hgs_nil rfl (imG_cons (.agg _ _ rfl (imG_plain rfl)) imG_nil) (fun _ _ => rfl)
theorem backCount_c {h : AHeap} {v : AV} (hv : Rd h v 1 (ints [0, 1, 2, 3])) : ACalls Go.Proofs.Tryd.prog 47 [.agg [.int .i64 2, .int .i64 2, .int .i64 2, v]] h (fun q h' => q = .tup [.int .i64 6, .int .i64 0] ∧ Keeps h h') :=
  over_runG mixed run_back [⟨v, 1, ints [0, 1, 2, 3], ints [0, 1, 2, 3]⟩] rfl (okGs_cons (okG_plain hv (by decide) (by simp [ints]) rfl) okGs_nil) hgs_nil rfl
    (imG_cons (.agg _ _ rfl (imG_cons (.plain _ rfl) (imG_cons (.plain _ rfl) (imG_cons (.plain _ rfl) (imG_cons (imG_slc rfl (by decide) rfl) imG_nil))))) imG_nil) (fun _ _ => rfl)
end Go.Am
