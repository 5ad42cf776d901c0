/-
  The abstract machine: a region whose order is open, in which a step that reads the heap (the length of a map) stands, where all that could change it must stand behind or before it.
  The text of the drawn regions of AmB, with a mark in 'ex' (the place and 1000) for such a step.
  Conditions: none.
-/
import Derived.Test.YtdfhmdhjeiipfaaDoorAmQ
namespace Go.Am.R
open Go.Am
/-- The class of a step, by its place. -/
def clsI (ex : List Nat) (i : Nat) (op : Op) : Cls := if ex.contains (i + 1000) = true then .chain else clsOf op
def SemI (P : Program) (ex : List Nat) (i : Nat) (ρ : Operand → AV) (o : Oper) (h : AHeap) (v : AV) (h' : AHeap) : Prop :=
  match clsI ex i o.op with
  | .pure => apure P ρ o.op = some v ∧ h' = h
  | .read => areadR P h ρ o.op = some v ∧ h' = h
  | .allo => ∃ mk cs, aallo P ρ o.op = some (mk, cs) ∧ v = mk.val h.next ∧ h' = h.alloc cs
  | .chain => StepS P ρ o h v h'
theorem SemI.of {P : Program} {ex : List Nat} {i : Nat} {ρ : Operand → AV} {o : Oper} {h h' : AHeap} {v : AV} (hs : SemStep P ρ o h v h') : SemI P ex i ρ o h v h' := by
  unfold SemI clsI
  by_cases hm : ex.contains (i + 1000) = true
  · rw [if_pos hm]; exact hs.stepS
  · rw [if_neg hm]; exact hs
theorem SemI.mark {P : Program} {ex : List Nat} {i : Nat} {ρ : Operand → AV} {o : Oper} {h h' : AHeap} {v : AV} (hm : ex.contains (i + 1000) = true) (hs : StepS P ρ o h v h') : SemI P ex i ρ o h v h' := by
  unfold SemI clsI
  rw [if_pos hm]; exact hs
theorem SemI.stepS {P : Program} {ex : List Nat} {i : Nat} {ρ : Operand → AV} {o : Oper} {h h' : AHeap} {v : AV} (hs : SemI P ex i ρ o h v h') : StepS P ρ o h v h' := by
  unfold SemI clsI at hs
  by_cases hm : ex.contains (i + 1000) = true
  · rw [if_pos hm] at hs; exact hs
  · rw [if_neg hm] at hs; exact SemStep.stepS hs
/-- What the check says. -/
structure RgOk (sz : Nat) (ops : Array Oper) (ex : List Nat) (st : List (Nat × Nat)) : Prop where
  ntx : ex ≠ TXT
  back : ∀ (i : Nat) (o : Oper) e, ops[i]? = some o → e ∈ o.after → Region.binds .any e = true → e.on < i
  dst : ∀ (i : Nat) (o : Oper) d, ops[i]? = some o → o.dst = some d → d < sz
  inj : ∀ (i j : Nat) (oi oj : Oper) d, ops[i]? = some oi → ops[j]? = some oj → oi.dst = some d → oj.dst = some d → i = j
  opnd : ∀ (i j : Nat) (oi oj : Oper) t, ops[i]? = some oi → ops[j]? = some oj → .tmp t ∈ oi.op.operands → oj.dst = some t → (j < i ∧ Dep ops i j) ∨ (i < j ∧ Dep ops j i)
  guard : ∀ (i : Nat) (o : Oper) g want, ops[i]? = some o → o.guard = some (g, want) → Dep ops i g
  chain : ∀ (i j : Nat) (oi oj : Oper), ops[i]? = some oi → ops[j]? = some oj → clsI ex i oi.op = .chain → clsI ex j oj.op = .chain → j < i → Dep ops i j
  read : ∀ (c r : Nat) (oc or : Oper), ops[c]? = some oc → ops[r]? = some or → clsI ex c oc.op = .chain → clsI ex r or.op = .read → ex.contains c = true ∨ Dep ops c r ∨ Dep ops r c ∨ (r < c ∧ (c, r) ∈ st)
  allo : ∀ (c j : Nat) (oc oj : Oper), ops[c]? = some oc → ops[j]? = some oj → clsI ex c oc.op = .chain → clsI ex j oj.op = .allo → j < c → ex.contains c = true ∨ Dep ops c j

/-- One operation in the order of the text. -/
def TS (P : Program) (ops : Array Oper) (ex : List Nat) (i : Nat) (o : Oper) (fr : List AV) (h : AHeap) (v : AV) (fr' : List AV) (h' : AHeap) : Prop :=
  fr' = setF fr o.dst v ∧
  ((∃ j want b, o.guard = some (j, want) ∧ guardA ops fr j = some b ∧ b ≠ some want ∧ v = .tup [] ∧ h' = h) ∨
   ((o.guard = none ∨ ∃ j want, o.guard = some (j, want) ∧ guardA ops fr j = some (some want)) ∧ SemI P ex i (evalA h.globs fr) o h v h' ∧ (ex.contains i = true → WFH h → HExt h h')))

section drawn
variable {P : Program} {ops : Array Oper} {ex : List Nat} {st : List (Nat × Nat)} {sz : Nat} {vs : Nat → AV} {frs : Nat → List AV} {hs : Nat → AHeap}

theorem TS.grow {i : Nat} {o : Oper} {fr fr' : List AV} {h h' : AHeap} {v : AV} (t : TS P ops ex i o fr h v fr' h') : HGrow h h' := by
  rcases t.2 with ⟨_, _, _, _, _, _, _, rfl⟩ | ⟨_, hs, _⟩
  · exact HGrow.refl _
  · exact hs.stepS.1

/-- In the order of the text there is a world at each place. -/
theorem text_states (hts : ∀ i o, i < ops.size → ops[i]? = some o → TS P ops ex i o (frs i) (hs i) (vs i) (frs (i + 1)) (hs (i + 1)))
    {φ0 : Emb} {a0 : Act} {w0 : World} (hfr : Fresh φ0 (hs 0) (hs ops.size)) (s0 : Sim φ0 (frs 0) (hs 0) a0 w0) :
    (∀ i, i ≤ ops.size → HGrow (hs 0) (hs i)) ∧ (∀ i, i ≤ ops.size → HGrow (hs i) (hs ops.size)) ∧ ∀ i, i ≤ ops.size → ∃ φ a w, Sim φ (frs i) (hs i) a w ∧ Fresh φ (hs i) (hs ops.size) := by
  have hg : ∀ i, i < ops.size → HGrow (hs i) (hs (i + 1)) := fun i hi => (hts i _ hi (Array.getElem?_eq_getElem hi)).grow
  have g0 : ∀ i, i ≤ ops.size → HGrow (hs 0) (hs i) := by
    intro i
    induction i with
    | zero => intro _; exact HGrow.refl _
    | succ i ih => intro hi; exact (ih (by omega)).trans (hg i (by omega))
  have gn : ∀ d i, i + d = ops.size → HGrow (hs i) (hs ops.size) := by
    intro d
    induction d with
    | zero => intro i hi; simp at hi; subst hi; exact HGrow.refl _
    | succ d ih => intro i hi; exact (hg i (by omega)).trans (ih (i + 1) (by omega))
  have gn' : ∀ i, i ≤ ops.size → HGrow (hs i) (hs ops.size) := fun i hi => gn (ops.size - i) i (by omega)
  refine ⟨g0, gn', ?_⟩
  intro i
  induction i with
  | zero => intro _; exact ⟨φ0, a0, w0, s0, hfr⟩
  | succ i ih =>
    intro hi
    obtain ⟨φ, a, w, s, hf⟩ := ih (by omega)
    have ho := Array.getElem?_eq_getElem (xs := ops) (i := i) (by omega)
    have t := hts i _ (by omega) ho
    obtain ⟨hfr', t2⟩ := t
    rcases t2 with ⟨j, want, b, _, _, _, hv, hh⟩ | ⟨_, hst, _⟩
    · rw [hfr', hh, hv]
      exact ⟨φ, a.put ops[i].dst undef, w, ⟨s.heap, s.fr.put _ (VRel.undef φ)⟩, hf⟩
    · obtain ⟨g, hrun⟩ := hst.stepS
      have := hrun φ a w (fun a' w' => ∃ φ', Trans φ (hs i) w φ' (hs (i + 1)) w' ∧ Sim φ' (frs (i + 1)) (hs (i + 1)) a' w') (fun _ _ _ => False) (hf.left (gn' (i + 1) (by omega))) s.heap (fun x _ => evalA_rel s.heap s.fr x) (by
        intro φ' c w' t' r' hv'
        rw [hfr']
        exact ⟨φ', t', r', (s.fr.mono t'.le).put _ hv'⟩)
      obtain ⟨a', w', φ', t', s'⟩ := wp_some this
      exact ⟨φ', a', w', s', hf.right g t'⟩

/-- What holds while operations are taken in some order. -/
structure Inv (P : Program) (ops : Array Oper) (ex : List Nat) (sz : Nat) (vs : Nat → AV) (frs : Nat → List AV) (hs : Nat → AHeap) (φ0 : Emb) (w0 : World) (L : Nat → Bool) (φ : Emb) (a : Act) (w : World) : Prop where
  closed : ∀ i (o : Oper) e, ops[i]? = some o → L i = true → e ∈ o.after → Region.binds .any e = true → L e.on = true
  lt : ∀ i, L i = true → i < ops.size
  defers : a.defers = []
  size : a.tmps.size = sz
  new : ∀ i (o : Oper) d v, ops[i]? = some o → L i = true → o.dst = some d → a.tmps[d]? = some v → VRel φ (vs i) v
  old : ∀ (t : Nat) (x : AV) (v : Value), (∀ i (o : Oper), ops[i]? = some o → L i = true → o.dst ≠ some t) → (frs 0)[t]? = some x → a.tmps[t]? = some v → VRel φ x v
  free : ∀ i, i < ops.size → L i = false → ∀ b, (hs i).next ≤ b → b < (hs (i + 1)).next → φ b = none
  defd : ∀ i, L i = true → ∀ b, (hs i).next ≤ b → b < (hs (i + 1)).next → ∃ p, φ b = some p
  glob : ∀ g ∈ (hs 0).globs, ∃ z, φ g = some (g, 0, z)
  lies : ∀ b k i z, φ b = some (k, i, z) → k < w.heap.size
  heap : ∀ i, i ≤ ops.size → (∀ c (o : Oper), ops[c]? = some o → clsI ex c o.op = .chain → hs (c + 1) ≠ hs c → ((c < i ∧ L c = false) ∨ (i ≤ c ∧ L c = true)) → ex.contains c = true) → HRel φ (hs i) w
  own : ∀ j (o : Oper) cs, ops[j]? = some o → L j = true → clsI ex j o.op = .allo → hs (j + 1) = (hs j).alloc cs → (∀ c (o : Oper), ops[c]? = some o → clsI ex c o.op = .chain → L c = true → c < j) → Own φ w (hs j).next cs
  -- towards the whole step
  le : φ0.le φ
  fresh : ∀ b p, φ0 b = none → φ b = some p → (hs 0).next ≤ b ∧ b < (hs ops.size).next
  img : ∀ b k i z, φ0 b = none → φ b = some (k, i, z) → w0.heap.size ≤ k ∨ ∃ b0 i0 z0 F p cs, φ0 b0 = some (k, i0, z0) ∧ (hs 0).get b0 = some (.cells (some F) p cs)
  frame : ∀ k, k < w0.heap.size → ¬ (hs 0).mut φ0 k → w.heap[k]? = w0.heap[k]?
  os : w.os = w0.os
  tape : w.tape = w0.tape
  output : w.output = w0.output
  wsize : w0.heap.size ≤ w.heap.size

theorem dep_lt (hok : RgOk sz ops ex st) {i j : Nat} (h : Dep ops i j) : j < i := by
  induction h with
  | edge i o e ho he hb => exact hok.back i o e ho he hb
  | trans i j k _ _ h1 h2 => omega

theorem Dep.closed {L : Nat → Bool} (hcl : ∀ i (o : Oper) e, ops[i]? = some o → L i = true → e ∈ o.after → Region.binds .any e = true → L e.on = true) {i j : Nat} (h : Dep ops i j) : L i = true → L j = true := by
  induction h with
  | edge i o e ho he hb => intro hL; exact hcl i o e ho hL he hb
  | trans i j k _ _ h1 h2 => intro hL; exact h2 (h1 hL)

theorem Dep.ready {L : Nat → Bool} (hcl : ∀ i (o : Oper) e, ops[i]? = some o → L i = true → e ∈ o.after → Region.binds .any e = true → L e.on = true) {i j : Nat} {o : Oper} (ho : ops[i]? = some o)
    (hr : ∀ e ∈ o.after, Region.binds .any e = true → L e.on = true) (h : Dep ops i j) : L j = true := by
  induction h with
  | edge i o' e ho' he hb => rw [ho] at ho'; cases ho'; exact hr e he hb
  | trans i j k _ h2 h1 _ => exact h2.closed hcl (h1 ho)

/-- What the heaps of the text are among themselves. -/
structure Txt (P : Program) (ops : Array Oper) (ex : List Nat) (sz : Nat) (vs : Nat → AV) (frs : Nat → List AV) (hs : Nat → AHeap) : Prop where
  ts : ∀ i o, i < ops.size → ops[i]? = some o → TS P ops ex i o (frs i) (hs i) (vs i) (frs (i + 1)) (hs (i + 1))
  wf : ∀ i, i ≤ ops.size → WFH (hs i)
  glob : ∀ i, i ≤ ops.size → (hs i).globs = (hs 0).globs
  size : (frs 0).length = sz

theorem Txt.len (T : Txt P ops ex sz vs frs hs) : ∀ i, i ≤ ops.size → (frs i).length = sz := by
  intro i
  induction i with
  | zero => intro _; exact T.size
  | succ i ih =>
    intro hi
    have t := T.ts i _ (by omega) (Array.getElem?_eq_getElem (by omega))
    rw [t.1]
    unfold setF
    split
    · rw [List.length_set]; exact ih (by omega)
    · exact ih (by omega)

theorem Txt.nextLe (T : Txt P ops ex sz vs frs hs) : ∀ i j, i ≤ j → j ≤ ops.size → HGrow (hs i) (hs j) := by
  intro i j hij hj
  obtain ⟨d, rfl⟩ : ∃ d, j = i + d := ⟨j - i, by omega⟩
  clear hij
  induction d with
  | zero => exact HGrow.refl _
  | succ d ih => exact (ih (by omega)).trans (T.ts (i + d) _ (by omega) (Array.getElem?_eq_getElem (by omega))).grow

/-- A slot of the text's frame. -/
theorem Txt.slot (T : Txt P ops ex sz vs frs hs) (_hok : RgOk sz ops ex st) : ∀ i, i ≤ ops.size → ∀ t, t < sz →
    ((∃ j o, j < i ∧ ops[j]? = some o ∧ o.dst = some t ∧ (frs i)[t]? = some (vs j)) ∨ ((∀ j (o : Oper), j < i → ops[j]? = some o → o.dst ≠ some t) ∧ (frs i)[t]? = (frs 0)[t]?)) := by
  intro i
  induction i with
  | zero => intro _ t _; exact .inr ⟨fun j o hj => by omega, rfl⟩
  | succ i ih =>
    intro hi t ht
    have ho := Array.getElem?_eq_getElem (xs := ops) (i := i) (by omega)
    have hts := T.ts i _ (by omega) ho
    by_cases hd : ops[i].dst = some t
    · refine .inl ⟨i, ops[i], by omega, ho, hd, ?_⟩
      rw [hts.1]
      simp only [setF, hd]
      rw [List.getElem?_set, if_pos rfl, if_pos (by rw [T.len i (by omega)]; exact ht)]
    · have hsame : (frs (i + 1))[t]? = (frs i)[t]? := by
        rw [hts.1]
        unfold setF
        split
        · rename_i d hd'
          rw [List.getElem?_set_ne]
          rintro rfl
          exact hd hd'
        · rfl
      rcases ih (by omega) t ht with ⟨j, o, hj, hoj, hdj, hv⟩ | ⟨hno, hv⟩
      · exact .inl ⟨j, o, by omega, hoj, hdj, hsame.trans hv⟩
      · refine .inr ⟨?_, hsame.trans hv⟩
        intro j o hj hoj
        by_cases hji : j = i
        · subst hji
          rw [ho] at hoj; cases hoj; exact hd
        · exact hno j o (by omega) hoj

/-- A slot that an operation looks at holds what it holds in the text. -/
theorem Inv.slot {φ0 φ : Emb} {w0 w : World} {a : Act} {L : Nat → Bool} (I : Inv P ops ex sz vs frs hs φ0 w0 L φ a w) (T : Txt P ops ex sz vs frs hs) (hok : RgOk sz ops ex st) {i : Nat} {o : Oper} (hi : ops[i]? = some o) (hun : L i = false)
    (hr : ∀ e ∈ o.after, Region.binds .any e = true → L e.on = true) (t : Nat) (hdep : ∀ j oj, ops[j]? = some oj → oj.dst = some t → (j < i ∧ Dep ops i j) ∨ (i < j ∧ Dep ops j i)) :
    VRel φ ((frs i).getD t .bot) (a.tmps.getD t undef) := by
  have hin : i < ops.size := (Array.getElem?_eq_some_iff.1 hi).1
  by_cases ht : t < sz
  · have hta : t < a.tmps.size := by rw [I.size]; exact ht
    rw [List.getD_eq_getElem?_getD, Array.getD_eq_getD_getElem?, Array.getElem?_eq_getElem hta]
    simp only [Option.getD_some]
    rcases T.slot hok i (by omega) t ht with ⟨j, oj, hj, hoj, hdj, hv⟩ | ⟨hno, hv⟩
    · rw [hv]
      rcases hdep j oj hoj hdj with ⟨_, hd⟩ | ⟨hlt, _⟩
      · exact I.new j oj t _ hoj (hd.ready I.closed hi hr) hdj (Array.getElem?_eq_getElem hta)
      · omega
    · rw [hv]
      have h0 : t < (frs 0).length := by rw [T.size]; exact ht
      rw [List.getElem?_eq_getElem h0]
      refine I.old t _ _ ?_ (List.getElem?_eq_getElem h0) (Array.getElem?_eq_getElem hta)
      intro j oj hoj hL hd
      rcases hdep j oj hoj hd with ⟨hlt, _⟩ | ⟨_, hdp⟩
      · exact hno j oj hlt hoj hd
      · have := hdp.closed I.closed hL
        rw [hun] at this; cases this
  · rw [List.getD_eq_getElem?_getD, List.getElem?_eq_none (by rw [T.len i (by omega)]; omega)]
    exact .bot _

theorem Inv.opnd {φ0 φ : Emb} {w0 w : World} {a : Act} {L : Nat → Bool} (I : Inv P ops ex sz vs frs hs φ0 w0 L φ a w) (T : Txt P ops ex sz vs frs hs) (hok : RgOk sz ops ex st) {i : Nat} {o : Oper} (hi : ops[i]? = some o) (hun : L i = false)
    (hr : ∀ e ∈ o.after, Region.binds .any e = true → L e.on = true) : ∀ x ∈ o.op.operands, VRel φ (evalA (hs i).globs (frs i) x) (a.eval x) := by
  intro x hx
  cases x with
  | tmp t => exact I.slot T hok hi hun hr t fun j oj hj hd => hok.opnd i j o oj t hi hj hx hd
  | const v => exact AV.of_rel φ 4 v
  | global g =>
    simp only [evalA, Act.eval]
    split
    · rename_i hg
      rw [T.glob i (by have := (Array.getElem?_eq_some_iff.1 hi).1; omega)] at hg
      obtain ⟨z, hz⟩ := I.glob g (by simpa using hg)
      exact .ptr g 0 g 0 z hz
    · exact .bot _
  | func f => exact .fn f [] [] rfl (by simp)

/-- Is it to be done? As the text says. -/
theorem Inv.wanted {φ0 φ : Emb} {w0 w : World} {a : Act} {L : Nat → Bool} (I : Inv P ops ex sz vs frs hs φ0 w0 L φ a w) (T : Txt P ops ex sz vs frs hs) (hok : RgOk sz ops ex st) {i : Nat} {o : Oper} (hi : ops[i]? = some o) (hun : L i = false)
    (hr : ∀ e ∈ o.after, Region.binds .any e = true → L e.on = true) {j : Nat} {want : Bool} {b : Option Bool} (hg : o.guard = some (j, want)) (hb : guardA ops (frs i) j = some b) : yielded ops a.tmps j = b := by
  have hin : i < ops.size := (Array.getElem?_eq_some_iff.1 hi).1
  have hdep := hok.guard i o j want hi hg
  unfold guardA at hb
  split at hb
  · rename_i d hd
    obtain ⟨oj, hoj, hdj⟩ : ∃ oj, ops[j]? = some oj ∧ oj.dst = some d := by
      cases hoj : ops[j]? with
      | none => rw [hoj] at hd; cases hd
      | some oj => rw [hoj] at hd; exact ⟨oj, rfl, hd⟩
    have := I.slot T hok hi hun hr d fun j' oj' hj' hd' => by
      have := hok.inj j' j oj' oj d hj' hoj hd' hdj
      subst this
      exact .inl ⟨dep_lt hok hdep, hdep⟩
    have hlt : d < a.tmps.size := by
      rw [I.size]
      exact hok.dst j oj d hoj hdj
    split at hb
    · rename_i b' hb'
      cases hb
      exact (yielded_of hd this).1 _ hb' hlt
    · rename_i l hb'
      cases hb
      exact (yielded_of hd this).2 _ hb'
    · cases hb
  · cases hb

end drawn

section drawn
variable {P : Program} {ops : Array Oper} {ex : List Nat} {st : List (Nat × Nat)} {sz : Nat} {vs : Nat → AV} {frs : Nat → List AV} {hs : Nat → AHeap}

/-- May the operation change what is known of old blocks? -/
def Quiet (ops : Array Oper) (ex : List Nat) (hs : Nat → AHeap) (k : Nat) : Prop := ∀ (o : Oper), ops[k]? = some o → clsI ex k o.op = .chain → hs (k + 1) ≠ hs k → ex.contains k = true

theorem Txt.ext (T : Txt P ops ex sz vs frs hs) {k : Nat} (hk : k < ops.size) (q : Quiet ops ex hs k) : HExt (hs k) (hs (k + 1)) := by
  have ho := Array.getElem?_eq_getElem (xs := ops) (i := k) hk
  by_cases hsame : hs (k + 1) = hs k
  · rw [hsame]; exact HExt.refl _
  · rcases (T.ts k _ hk ho).2 with ⟨_, _, _, _, _, _, _, h⟩ | ⟨_, hst, hex⟩
    · exact absurd h hsame
    · cases hc : clsI ex k ops[k].op with
      | pure => unfold SemI at hst; rw [hc] at hst; exact absurd hst.2 hsame
      | read => unfold SemI at hst; rw [hc] at hst; exact absurd hst.2 hsame
      | allo =>
        unfold SemI at hst; rw [hc] at hst
        obtain ⟨mk, cs, _, _, h⟩ := hst
        rw [h]
        exact HExt.alloc' (T.wf k (by omega)) cs
      | chain => exact hex (q _ ho hc hsame) (T.wf k (by omega))

theorem Txt.extRange (T : Txt P ops ex sz vs frs hs) {i j : Nat} (hij : i ≤ j) (hj : j ≤ ops.size) (q : ∀ k, i ≤ k → k < j → Quiet ops ex hs k) : HExt (hs i) (hs j) := by
  obtain ⟨d, rfl⟩ : ∃ d, j = i + d := ⟨j - i, by omega⟩
  clear hij
  induction d with
  | zero => exact HExt.refl _
  | succ d ih => exact (ih (by omega) (fun k h1 h2 => q k h1 (by omega))).trans (T.ext (k := i + d) (by omega) (q (i + d) (by omega) (by omega)))

theorem Txt.down (T : Txt P ops ex sz vs frs hs) {φ : Emb} {w : World} {i j : Nat} (hij : i ≤ j) (hj : j ≤ ops.size) (q : ∀ k, i ≤ k → k < j → Quiet ops ex hs k) (r : HRel φ (hs j) w) : HRel φ (hs i) w :=
  r.down (T.extRange hij hj q) (T.nextLe i j hij hj) (T.wf i (by omega))

/-- Upwards: what was made and is there is its own. -/
theorem Txt.up (T : Txt P ops ex sz vs frs hs) {φ : Emb} {w : World} {i j : Nat} (hij : i ≤ j) (hj : j ≤ ops.size) (q : ∀ k, i ≤ k → k < j → Quiet ops ex hs k)
    (hnew : ∀ k (o : Oper), i ≤ k → k < j → ops[k]? = some o → (∀ b, (hs k).next ≤ b → b < (hs (k + 1)).next → φ b = none) ∨ hs (k + 1) = hs k ∨ ∃ cs, hs (k + 1) = (hs k).alloc cs ∧ Own φ w (hs k).next cs) (r : HRel φ (hs i) w) : HRel φ (hs j) w := by
  obtain ⟨d, rfl⟩ : ∃ d, j = i + d := ⟨j - i, by omega⟩
  clear hij
  induction d with
  | zero => exact r
  | succ d ih =>
    have r' := ih (by omega) (fun k h1 h2 => q k h1 (by omega)) (fun k o h1 h2 ho => hnew k o h1 (by omega) ho)
    have ho := Array.getElem?_eq_getElem (xs := ops) (i := i + d) (by omega)
    rcases hnew (i + d) _ (by omega) (by omega) ho with h | h | ⟨cs, h, own⟩
    · exact r'.up (T.ext (k := i + d) (by omega) (q (i + d) (by omega) (by omega))) (T.nextLe (i + d) (i + d + 1) (by omega) (by omega)) (T.wf (i + d + 1) (by omega)) h
    · show HRel φ (hs (i + d + 1)) w
      rw [h]; exact r'
    · show HRel φ (hs (i + d + 1)) w
      rw [h]; exact r'.add own

/-- What is its own stays so behind a step that knows nothing of it. -/
theorem Own.step {φ φ' : Emb} {h h' : AHeap} {w w' : World} {b : Nat} {cs : List AV} (o : Own φ w b cs) (hb : h.next ≤ b) (t : Trans φ h w φ' h' w') : Own φ' w' b cs := by
  obtain ⟨k, z, c, e, h1, h2, h3, h4, h5, h6⟩ := o.lies
  have hk : k < w.heap.size := (Array.getElem?_eq_some_iff.1 h2).1
  have hnot : ∀ b0 i0 z0 B, φ b0 = some (k, i0, z0) → h.get b0 = some B → False := by
    intro b0 i0 z0 B hb0 hB
    have := h6 b0 i0 z0 hb0
    subst this
    have := AHeap.get_lt hB
    omega
  refine ⟨k, z, c, e, t.le _ _ h1, ?_, h3, h4, ?_, ?_⟩
  · rw [t.frame k hk]
    · exact h2
    · rintro ⟨b0, i0, z0, hb0, hm⟩
      rcases hm with ⟨F, p, cs', hB⟩ | ⟨_, _, hB⟩
      · exact hnot b0 i0 z0 _ hb0 hB
      · exact hnot b0 i0 z0 _ hb0 hB
  · intro j x hx
    obtain ⟨v, hv, hr⟩ := h5 j x hx
    exact ⟨v, hv, hr.mono t.le⟩
  · intro b' i' z' hb'
    cases hφ : φ b' with
    | some q =>
      have := t.le b' q hφ
      rw [hb'] at this
      cases this
      exact h6 b' i' z' hφ
    | none =>
      rcases t.img b' k i' z' hφ hb' with h7 | ⟨b0, i0, z0, F, p, cs', h7, h8⟩
      · omega
      · exact (hnot b0 i0 z0 _ h7 h8).elim

/-- The frame's part of a step. -/
theorem Inv.frameStep {φ0 φ φ' : Emb} {w0 w : World} {a : Act} {L : Nat → Bool} (I : Inv P ops ex sz vs frs hs φ0 w0 L φ a w) (hok : RgOk sz ops ex st) {i : Nat} {o : Oper} (hi : ops[i]? = some o)
    (hr : ∀ e ∈ o.after, Region.binds .any e = true → L e.on = true) (hle : φ.le φ') {c : Value} (hc : VRel φ' (vs i) c) {L' : Nat → Bool} (hL : ∀ k, L' k = (decide (k = i) || L k)) :
    (∀ k (o : Oper) e, ops[k]? = some o → L' k = true → e ∈ o.after → Region.binds .any e = true → L' e.on = true) ∧ (∀ k, L' k = true → k < ops.size) ∧ (a.put o.dst c).defers = [] ∧ (a.put o.dst c).tmps.size = sz ∧
    (∀ k (o' : Oper) d v, ops[k]? = some o' → L' k = true → o'.dst = some d → (a.put o.dst c).tmps[d]? = some v → VRel φ' (vs k) v) ∧
    (∀ (t : Nat) (x : AV) (v : Value), (∀ k (o' : Oper), ops[k]? = some o' → L' k = true → o'.dst ≠ some t) → (frs 0)[t]? = some x → (a.put o.dst c).tmps[t]? = some v → VRel φ' x v) := by
  have hput : ∀ t v, (a.put o.dst c).tmps[t]? = some v → (o.dst = some t ∧ v = c) ∨ (o.dst ≠ some t ∧ a.tmps[t]? = some v) := by
    intro t v hv
    unfold Act.put at hv
    split at hv
    · rename_i d hd
      simp only [Array.getElem?_setIfInBounds] at hv
      by_cases hdt : d = t
      · subst hdt
        simp only [if_true] at hv
        split at hv
        · cases hv; exact .inl ⟨hd, rfl⟩
        · cases hv
      · rw [if_neg hdt] at hv
        exact .inr ⟨by rw [hd]; exact fun h => hdt (by cases h; rfl), hv⟩
    · rename_i hd
      exact .inr ⟨by rw [hd]; exact fun h => (by cases h), hv⟩
  refine ⟨?_, ?_, ?_, ?_, ?_, ?_⟩
  · intro k o' e ho' hk he hb
    rw [hL] at hk ⊢
    simp only [Bool.or_eq_true, decide_eq_true_eq] at hk ⊢
    rcases hk with rfl | hk
    · rw [hi] at ho'; cases ho'; exact .inr (hr e he hb)
    · exact .inr (I.closed k o' e ho' hk he hb)
  · intro k hk
    rw [hL] at hk
    simp only [Bool.or_eq_true, decide_eq_true_eq] at hk
    rcases hk with rfl | hk
    · exact (Array.getElem?_eq_some_iff.1 hi).1
    · exact I.lt k hk
  · unfold Act.put; split <;> exact I.defers
  · unfold Act.put; split
    · simpa using I.size
    · exact I.size
  · intro k o' d v ho' hk hd hv
    rw [hL] at hk
    simp only [Bool.or_eq_true, decide_eq_true_eq] at hk
    rcases hput d v hv with ⟨hdi, rfl⟩ | ⟨hdi, hv'⟩
    · have := hok.inj k i o' o d ho' hi hd hdi
      subst this
      exact hc
    · rcases hk with rfl | hk
      · rw [hi] at ho'; cases ho'; exact absurd hd hdi
      · exact (I.new k o' d v ho' hk hd hv').mono hle
  · intro t x v hno hx hv
    rcases hput t v hv with ⟨hdi, rfl⟩ | ⟨hdi, hv'⟩
    · exact absurd hdi (hno i o hi (by rw [hL]; simp))
    · exact (I.old t x v (fun k o' ho' hk => hno k o' ho' (by rw [hL]; simp [hk])) hx hv').mono hle

theorem ranges_apart (T : Txt P ops ex sz vs frs hs) {i j b : Nat} (hi : i < ops.size) (hj : j < ops.size) (h1 : (hs i).next ≤ b) (h2 : b < (hs (i + 1)).next) (h3 : (hs j).next ≤ b) (h4 : b < (hs (j + 1)).next) : i = j := by
  rcases Nat.lt_trichotomy i j with h | h | h
  · have := (T.nextLe (i + 1) j (by omega) (by omega)).next; omega
  · exact h
  · have := (T.nextLe (j + 1) i (by omega) (by omega)).next; omega

/-- A step that changes no memory. -/
theorem Inv.still {φ0 φ : Emb} {w0 w : World} {a : Act} {L : Nat → Bool} (I : Inv P ops ex sz vs frs hs φ0 w0 L φ a w) (_T : Txt P ops ex sz vs frs hs) (hok : RgOk sz ops ex st) {i : Nat} {o : Oper} (hi : ops[i]? = some o)
    (hr : ∀ e ∈ o.after, Region.binds .any e = true → L e.on = true) (hsame : hs (i + 1) = hs i) {c : Value} (hc : VRel φ (vs i) c) {L' : Nat → Bool} (hL : ∀ k, L' k = (decide (k = i) || L k)) :
    Inv P ops ex sz vs frs hs φ0 w0 L' φ (a.put o.dst c) w := by
  obtain ⟨f1, f2, f3, f4, f5, f6⟩ := I.frameStep hok hi hr (Emb.le_refl φ) hc hL
  have hmono : ∀ k, L k = true → L' k = true := fun k hk => by rw [hL]; simp [hk]
  refine ⟨f1, f2, f3, f4, f5, f6, ?_, ?_, I.glob, I.lies, ?_, ?_, I.le, I.fresh, I.img, I.frame, I.os, I.tape, I.output, I.wsize⟩
  · intro k hk hLk b h1 h2
    rw [hL] at hLk
    simp only [Bool.or_eq_false_iff] at hLk
    exact I.free k hk hLk.2 b h1 h2
  · intro k hLk b h1 h2
    rw [hL] at hLk
    simp only [Bool.or_eq_true, decide_eq_true_eq] at hLk
    rcases hLk with rfl | hLk
    · rw [hsame] at h2; omega
    · exact I.defd k hLk b h1 h2
  · intro k hk hcomp
    refine I.heap k hk ?_
    intro c' oc hoc hcl hne hside
    refine hcomp c' oc hoc hcl hne ?_
    have hci : c' ≠ i := fun h => hne (by rw [h]; exact hsame)
    rcases hside with ⟨h1, h2⟩ | ⟨h1, h2⟩
    · exact .inl ⟨h1, by rw [hL]; simp [hci, h2]⟩
    · exact .inr ⟨h1, hmono c' h2⟩
  · intro j oj cs hoj hLj hcl hal hall
    rw [hL] at hLj
    simp only [Bool.or_eq_true, decide_eq_true_eq] at hLj
    rcases hLj with rfl | hLj
    · have := congrArg AHeap.next hal
      rw [hsame, AHeap.next_alloc] at this
      omega
    · exact I.own j oj cs hoj hLj hcl hal (fun c' oc hoc hcc hLc => hall c' oc hoc hcc (hmono c' hLc))

/-- A new block. -/
theorem Inv.allo {φ0 φ : Emb} {w0 w : World} {a : Act} {L : Nat → Bool} (I : Inv P ops ex sz vs frs hs φ0 w0 L φ a w) (T : Txt P ops ex sz vs frs hs) (hok : RgOk sz ops ex st) {i : Nat} {o : Oper} (hi : ops[i]? = some o) (hun : L i = false)
    (hcls : clsI ex i o.op = .allo) (hr : ∀ e ∈ o.after, Region.binds .any e = true → L e.on = true) {cs : List AV} (hal : hs (i + 1) = (hs i).alloc cs) {c : Array Value} {e : TypeId} (hlen : cs.length ≤ c.size) (hcells : CellsAt φ cs c 0)
    {v : Value} (hv : VRel (φ.upd (hs i).next (w.heap.size, 0, c.size)) (vs i) v) {L' : Nat → Bool} (hL : ∀ k, L' k = (decide (k = i) || L k)) :
    Inv P ops ex sz vs frs hs φ0 w0 L' (φ.upd (hs i).next (w.heap.size, 0, c.size)) (a.put o.dst v) (w.alloc (.cells c e)) := by
  have hin : i < ops.size := (Array.getElem?_eq_some_iff.1 hi).1
  have hnx : (hs (i + 1)).next = (hs i).next + 1 := by rw [hal, AHeap.next_alloc]
  have hφ : φ (hs i).next = none := I.free i hin hun _ (Nat.le_refl _) (by omega)
  have hle := Emb.le_upd (φ := φ) (w.heap.size, 0, c.size) hφ
  obtain ⟨f1, f2, f3, f4, f5, f6⟩ := I.frameStep hok hi hr hle hv hL
  have hmono : ∀ k, L k = true → L' k = true := fun k hk => by rw [hL]; simp [hk]
  have hold : ∀ k, k < w.heap.size → (w.alloc (.cells c e)).heap[k]? = w.heap[k]? := fun k hk => heap_alloc_old w _ hk
  have hcase : ∀ b' p, φ.upd (hs i).next (w.heap.size, 0, c.size) b' = some p → (b' = (hs i).next ∧ p = (w.heap.size, 0, c.size)) ∨ (b' ≠ (hs i).next ∧ φ b' = some p) := by
    intro b' p hb
    by_cases hbn : b' = (hs i).next
    · subst hbn; rw [Emb.upd_same] at hb; cases hb; exact .inl ⟨rfl, rfl⟩
    · rw [Emb.upd_other φ _ hbn] at hb; exact .inr ⟨hbn, hb⟩
  have hnchain : ∀ c' (oc : Oper), ops[c']? = some oc → clsI ex c' oc.op = .chain → c' ≠ i := by
    rintro c' oc hoc hcc rfl
    rw [hi] at hoc; cases hoc; rw [hcls] at hcc; cases hcc
  refine ⟨f1, f2, f3, f4, f5, f6, ?_, ?_, ?_, ?_, ?_, ?_, Emb.le_trans I.le hle, ?_, ?_, ?_, I.os, I.tape, I.output, by simp; have := I.wsize; omega⟩
  · intro k hk hLk b h1 h2
    rw [hL] at hLk
    simp only [Bool.or_eq_false_iff, decide_eq_false_iff_not] at hLk
    have hbn : b ≠ (hs i).next := by
      rintro rfl
      exact hLk.1 (ranges_apart T hk hin h1 h2 (Nat.le_refl _) (by omega))
    rw [Emb.upd_other φ _ hbn]
    exact I.free k hk hLk.2 b h1 h2
  · intro k hLk b h1 h2
    rw [hL] at hLk
    simp only [Bool.or_eq_true, decide_eq_true_eq] at hLk
    rcases hLk with rfl | hLk
    · have : b = (hs k).next := by omega
      subst this
      exact ⟨_, Emb.upd_same _ _ _⟩
    · obtain ⟨p, hp⟩ := I.defd k hLk b h1 h2
      exact ⟨p, hle _ _ hp⟩
  · intro g hg
    obtain ⟨z, hz⟩ := I.glob g hg
    exact ⟨z, hle _ _ hz⟩
  · intro b k j z hb
    simp only [World.size_alloc]
    rcases hcase b _ hb with ⟨_, h⟩ | ⟨_, h⟩
    · cases h; omega
    · have := I.lies b k j z h; omega
  · intro k hk hcomp
    have hcompL : ∀ c' (oc : Oper), ops[c']? = some oc → clsI ex c' oc.op = .chain → hs (c' + 1) ≠ hs c' → ((c' < k ∧ L c' = false) ∨ (k ≤ c' ∧ L c' = true)) → ex.contains c' = true := by
      intro c' oc hoc hcl hne hside
      refine hcomp c' oc hoc hcl hne ?_
      have hci := hnchain c' oc hoc hcl
      rcases hside with ⟨h1, h2⟩ | ⟨h1, h2⟩
      · exact .inl ⟨h1, by rw [hL]; simp [hci, h2]⟩
      · exact .inr ⟨h1, hmono c' h2⟩
    refine (I.heap k hk hcompL).define hφ ?_ hlen hcells
    by_cases hki : k ≤ i
    · exact .inl (T.nextLe k i hki (by omega)).next
    · refine .inr ⟨(hs i).nfam, ?_⟩
      have hext : HExt (hs (i + 1)) (hs k) := T.extRange (by omega) hk (by
        intro q h1 h2 oq hoq hcq hne
        by_cases hLq : L q = true
        · rcases hok.allo q i oq o hoq hi hcq hcls (by omega) with h | h
          · exact h
          · have := h.closed I.closed hLq
            rw [hun] at this; cases this
        · exact hcompL q oq hoq hcq hne (.inl ⟨h2, by simpa using hLq⟩))
      rw [hext.get _ (by omega), hal, AHeap.get_alloc, if_pos rfl]
  · intro j oj cs' hoj hLj hcl hal' hall
    rw [hL] at hLj
    simp only [Bool.or_eq_true, decide_eq_true_eq] at hLj
    rcases hLj with rfl | hLj
    · have hcs : cs' = cs := by
        have h1 := congrArg (fun h => AHeap.get h (hs j).next) (hal.symm.trans hal')
        simp only [AHeap.get_alloc, if_pos] at h1
        cases h1; rfl
      subst hcs
      refine ⟨w.heap.size, c.size, c, e, Emb.upd_same _ _ _, heap_alloc_new w _, rfl, hlen, fun q x hx => let ⟨u, h1, h2⟩ := hcells q x hx; ⟨u, h1, h2.mono hle⟩, ?_⟩
      intro b' i' z' hb'
      rcases hcase b' _ hb' with ⟨h, _⟩ | ⟨_, h⟩
      · exact h
      · have := I.lies b' _ i' z' h; omega
    · obtain ⟨k, z, c1, e1, h1, h2, h3, h4, h5, h6⟩ := (I.own j oj cs' hoj hLj hcl hal' (fun c' oc hoc hcc hLc => hall c' oc hoc hcc (hmono c' hLc))).lies
      have hk : k < w.heap.size := (Array.getElem?_eq_some_iff.1 h2).1
      refine ⟨k, z, c1, e1, hle _ _ h1, (hold k hk).trans h2, h3, h4, fun q x hx => let ⟨u, q1, q2⟩ := h5 q x hx; ⟨u, q1, q2.mono hle⟩, ?_⟩
      intro b' i' z' hb'
      rcases hcase b' _ hb' with ⟨_, h⟩ | ⟨_, h⟩
      · cases h; omega
      · exact h6 b' i' z' h
  · intro b p h1 h2
    rcases hcase b p h2 with ⟨rfl, _⟩ | ⟨_, h⟩
    · have e1 := (T.nextLe 0 i (by omega) (by omega)).next
      have e2 := (T.nextLe (i + 1) ops.size (by omega) (by omega)).next
      omega
    · exact I.fresh b p h1 h
  · intro b k j z h1 h2
    rcases hcase b _ h2 with ⟨_, h⟩ | ⟨_, h⟩
    · cases h; exact .inl I.wsize
    · exact I.img b k j z h1 h
  · intro k hk hm
    rw [hold k (Nat.lt_of_lt_of_le hk I.wsize)]
    exact I.frame k hk hm

/-- A step of the chain. -/
theorem Inv.chain {φ0 φ φ' : Emb} {w0 w w' : World} {a : Act} {L : Nat → Bool} (I : Inv P ops ex sz vs frs hs φ0 w0 L φ a w) (T : Txt P ops ex sz vs frs hs) (hok : RgOk sz ops ex st) (hf0 : Fresh φ0 (hs 0) (hs ops.size)) {i : Nat} {o : Oper}
    (hi : ops[i]? = some o) (hun : L i = false) (hcls : clsI ex i o.op = .chain) (hr : ∀ e ∈ o.after, Region.binds .any e = true → L e.on = true) (t : Trans φ (hs i) w φ' (hs (i + 1)) w') (r' : HRel φ' (hs (i + 1)) w')
    {v : Value} (hv : VRel φ' (vs i) v) {L' : Nat → Bool} (hL : ∀ k, L' k = (decide (k = i) || L k)) : Inv P ops ex sz vs frs hs φ0 w0 L' φ' (a.put o.dst v) w' := by
  have hin : i < ops.size := (Array.getElem?_eq_some_iff.1 hi).1
  obtain ⟨f1, f2, f3, f4, f5, f6⟩ := I.frameStep hok hi hr t.le hv hL
  have hmono : ∀ k, L k = true → L' k = true := fun k hk => by rw [hL]; simp [hk]
  have hnx := (T.nextLe i (i + 1) (by omega) (by omega)).next
  have hg0 := (T.nextLe 0 i (by omega) (by omega))
  have hgn := (T.nextLe (i + 1) ops.size (by omega) (by omega)).next
  -- who is listed among the chain
  have hbefore : ∀ c' (oc : Oper), ops[c']? = some oc → clsI ex c' oc.op = .chain → c' < i → L c' = true := fun c' oc hoc hcc hlt => (hok.chain i c' o oc hi hoc hcls hcc hlt).ready I.closed hi hr
  have hbehind : ∀ c' (oc : Oper), ops[c']? = some oc → clsI ex c' oc.op = .chain → i < c' → L c' = false := by
    intro c' oc hoc hcc hlt
    cases hLc : L c' with
    | false => rfl
    | true =>
      have := (hok.chain c' i oc o hoc hi hcc hcls hlt).closed I.closed hLc
      rw [hun] at this; cases this
  have hfree : ∀ k, k < ops.size → L' k = false → ∀ b, (hs k).next ≤ b → b < (hs (k + 1)).next → φ' b = none := by
    intro k hk hLk b h1 h2
    rw [hL] at hLk
    simp only [Bool.or_eq_false_iff, decide_eq_false_iff_not] at hLk
    cases hb : φ' b with
    | none => rfl
    | some p =>
      have := t.new b p (I.free k hk hLk.2 b h1 h2) hb
      exact absurd (ranges_apart T hk hin h1 h2 this.1 this.2) hLk.1
  have hownstep : ∀ j (oj : Oper) cs, ops[j]? = some oj → L j = true → clsI ex j oj.op = .allo → hs (j + 1) = (hs j).alloc cs → i < j → Own φ' w' (hs j).next cs := by
    intro j oj cs hoj hLj hcl hal hij
    have hjn : j < ops.size := (Array.getElem?_eq_some_iff.1 hoj).1
    refine (I.own j oj cs hoj hLj hcl hal ?_).step (T.nextLe i j (by omega) (by omega)).next t
    intro c' oc hoc hcc hLc
    rcases Nat.lt_trichotomy c' i with h | h | h
    · omega
    · subst h; rw [hun] at hLc; cases hLc
    · rw [hbehind c' oc hoc hcc h] at hLc; cases hLc
  have hback : ∀ b, (∃ p, φ0 b = some p) → (∃ B, (hs i).get b = some B) → b < (hs 0).next := by
    rintro b ⟨p, hp⟩ ⟨B, hB⟩
    apply Nat.lt_of_not_le
    intro hle
    have := hf0 b hle (by have := AHeap.get_lt hB; omega)
    rw [hp] at this; cases this
  have hmut : ∀ k, k < w0.heap.size → (hs i).mut φ k → (hs 0).mut φ0 k := by
    rintro k hk ⟨b, j, z, hb, hm⟩
    cases hφ : φ0 b with
    | none =>
      rcases I.img b k j z hφ hb with h3 | ⟨b0, i0, z0, F, p, cs, h3, h4⟩
      · omega
      · exact ⟨b0, i0, z0, h3, .inl ⟨F, p, cs, h4⟩⟩
    | some q =>
      have := I.le b q hφ
      rw [hb] at this
      cases this
      rcases hm with ⟨F, p, cs, h4⟩ | ⟨_, _, h4⟩
      · obtain ⟨cs', h5, _⟩ := hg0.back (hback b ⟨_, hφ⟩ ⟨_, h4⟩) h4
        exact ⟨b, j, z, hφ, .inl ⟨F, p, cs', h5⟩⟩
      · obtain ⟨F', x', h5⟩ := hg0.backMap (hback b ⟨_, hφ⟩ ⟨_, h4⟩) h4
        exact ⟨b, j, z, hφ, .inr ⟨F', x', h5⟩⟩
  refine ⟨f1, f2, f3, f4, f5, f6, hfree, ?_, ?_, r'.lt, ?_, ?_, Emb.le_trans I.le t.le, ?_, ?_, ?_, t.os.trans I.os, t.tape.trans I.tape, t.output.trans I.output, Nat.le_trans I.wsize t.size⟩
  · intro k hLk b h1 h2
    rw [hL] at hLk
    simp only [Bool.or_eq_true, decide_eq_true_eq] at hLk
    rcases hLk with rfl | hLk
    · exact t.dom b h1 h2
    · obtain ⟨p, hp⟩ := I.defd k hLk b h1 h2
      exact ⟨p, t.le _ _ hp⟩
  · intro g hg
    obtain ⟨z, hz⟩ := I.glob g hg
    exact ⟨z, t.le _ _ hz⟩
  · intro k hk hcomp
    by_cases hki : k ≤ i
    · refine T.down (by omega) (by omega) ?_ r'
      intro q h1 h2 oq hoq hcq hne
      refine hcomp q oq hoq hcq hne (.inr ⟨h1, ?_⟩)
      by_cases hqi : q = i
      · subst hqi; rw [hL]; simp
      · exact hmono q (hbefore q oq hoq hcq (by omega))
    · refine T.up (show i + 1 ≤ k by omega) hk ?_ ?_ r'
      · intro q h1 h2 oq hoq hcq hne
        refine hcomp q oq hoq hcq hne (.inl ⟨h2, ?_⟩)
        rw [hL, hbehind q oq hoq hcq (by omega)]
        simp; omega
      · intro q oq h1 h2 hoq
        have hqn : q < ops.size := by omega
        cases hLq : L q with
        | false =>
          refine .inl (hfree q hqn ?_)
          rw [hL, hLq]; simp; omega
        | true =>
          rcases (T.ts q oq hqn hoq).2 with ⟨_, _, _, _, _, _, _, h⟩ | ⟨_, hst, _⟩
          · exact .inr (.inl h)
          · cases hc : clsI ex q oq.op with
            | pure => unfold SemI at hst; rw [hc] at hst; exact .inr (.inl hst.2)
            | read => unfold SemI at hst; rw [hc] at hst; exact .inr (.inl hst.2)
            | allo =>
              unfold SemI at hst; rw [hc] at hst
              obtain ⟨mk, cs, _, _, h⟩ := hst
              exact .inr (.inr ⟨cs, h, hownstep q oq cs hoq hLq hc h (by omega)⟩)
            | chain => rw [hbehind q oq hoq hc (by omega)] at hLq; cases hLq
  · intro j oj cs hoj hLj hcl hal hall
    have hij : i < j := hall i o hi hcls (by rw [hL]; simp)
    rw [hL] at hLj
    simp only [Bool.or_eq_true, decide_eq_true_eq] at hLj
    rcases hLj with rfl | hLj
    · omega
    · exact hownstep j oj cs hoj hLj hcl hal hij
  · intro b p h1 h2
    cases hφ : φ b with
    | some q => exact I.fresh b q h1 hφ
    | none =>
      have := t.new b p hφ h2
      have := hg0.next
      omega
  · intro b k j z h1 h2
    cases hφ : φ b with
    | some q =>
      have := t.le b q hφ
      rw [h2] at this
      cases this
      exact I.img b k j z h1 hφ
    | none =>
      rcases t.img b k j z hφ h2 with h3 | ⟨b0, i0, z0, F, p, cs, h3, h4⟩
      · exact .inl (Nat.le_trans I.wsize h3)
      · by_cases hk : w0.heap.size ≤ k
        · exact .inl hk
        · refine .inr ?_
          cases hφ0 : φ0 b0 with
          | none =>
            rcases I.img b0 k i0 z0 hφ0 h3 with h5 | h5
            · omega
            · exact h5
          | some q =>
            have := I.le b0 q hφ0
            rw [h3] at this
            cases this
            obtain ⟨cs', h5, _⟩ := hg0.back (hback b0 ⟨_, hφ0⟩ ⟨_, h4⟩) h4
            exact ⟨b0, i0, z0, F, p, cs', hφ0, h5⟩
  · intro k hk hm
    rw [t.frame k (Nat.lt_of_lt_of_le hk I.wsize) (fun hm' => hm (hmut k hk hm'))]
    exact I.frame k hk hm

/-- All of it, in whatever order. -/
theorem Inv.all {φ0 : Emb} {w0 : World} (T : Txt P ops ex sz vs frs hs) (hok : RgOk sz ops ex st) (hstab : ∀ c r (o : Oper), (c, r) ∈ st → c < ops.size → ops[r]? = some o → areadR P (hs (c + 1)) (evalA (hs r).globs (frs r)) o.op = some (vs r)) (hf0 : Fresh φ0 (hs 0) (hs ops.size)) {Q : Exit → Act → World → Prop}
    (hq : ∀ φ a w, Trans φ0 (hs 0) w0 φ (hs ops.size) w → Sim φ (frs ops.size) (hs ops.size) a w → Q .normal a w) :
    ∀ (fuel : Nat) (listed : Array Bool) (φ : Emb) (a : Act) (w : World), listed.size = ops.size → (List.range ops.size).countP (fun k => !listed.getD k false) ≤ fuel →
      Inv P ops ex sz vs frs hs φ0 w0 (fun k => listed.getD k false) φ a w → wpAny P .any ops Q fuel listed a w := by
  have hdone : ∀ (listed : Array Bool) (φ : Emb) (a : Act) (w : World), listed.size = ops.size → Inv P ops ex sz vs frs hs φ0 w0 (fun k => listed.getD k false) φ a w → Region.ready .any ops listed = [] → Q .normal a w := by
    intro listed φ a w hsz I hrd
    have hall : ∀ i, i < ops.size → listed.getD i false = true := by
      intro i
      induction i using Nat.strongRecOn with
      | _ i ih =>
        intro hi
        have ho := Array.getElem?_eq_getElem (xs := ops) (i := i) hi
        cases hL : listed.getD i false with
        | true => rfl
        | false =>
          have : i ∈ Region.ready .any ops listed := by
            rw [mem_ready]
            refine ⟨?_, ops[i], ho, ?_⟩
            · rw [Array.getD_eq_getD_getElem?, Array.getElem?_eq_getElem (by omega)] at hL ⊢
              exact hL
            · intro e he hb
              have hlt := hok.back i _ e ho he hb
              exact ih e.on hlt (by omega)
          rw [hrd] at this
          cases this
    have hrel := I.heap ops.size (Nat.le_refl _) (by
      intro c oc hoc _ _ hside
      have hc := (Array.getElem?_eq_some_iff.1 hoc).1
      rcases hside with ⟨_, h⟩ | ⟨h, _⟩
      · have := hall c hc; rw [this] at h; cases h
      · omega)
    refine hq φ a w ⟨I.le, ?_, I.fresh, I.img, I.frame, I.os, I.tape, I.output, I.wsize⟩ ⟨hrel, I.defers, ?_, ?_⟩
    · intro b h1 h2
      -- some operation made it
      have : ∀ d, d ≤ ops.size → b < (hs d).next → ∃ i, i < d ∧ (hs i).next ≤ b ∧ b < (hs (i + 1)).next := by
        intro d
        induction d with
        | zero => intro _ h; omega
        | succ d ih =>
          intro hd h
          by_cases h' : b < (hs d).next
          · obtain ⟨i, hi, h3⟩ := ih (by omega) h'
            exact ⟨i, by omega, h3⟩
          · exact ⟨d, by omega, by omega, h⟩
      obtain ⟨i, hi, h3, h4⟩ := this ops.size (Nat.le_refl _) h2
      exact I.defd i (hall i hi) b h3 h4
    · rw [T.len _ (Nat.le_refl _), I.size]
    · intro t x v hx hv
      have ht : t < sz := by rw [← T.len ops.size (Nat.le_refl _)]; exact (List.getElem?_eq_some_iff.1 hx).1
      rcases T.slot hok ops.size (Nat.le_refl _) t ht with ⟨j, oj, hj, hoj, hdj, hval⟩ | ⟨hno, hval⟩
      · rw [hval] at hx; cases hx
        exact I.new j oj t v hoj (hall j hj) hdj hv
      · rw [hval] at hx
        exact I.old t x v (fun k o ho _ => hno k o (Array.getElem?_eq_some_iff.1 ho).1 ho) hx hv
  have hnext : ∀ (listed : Array Bool) (i : Nat), listed.size = ops.size → i < ops.size → ∀ k, (listed.setIfInBounds i true).getD k false = (decide (k = i) || listed.getD k false) := by
    intro listed i hsz hi k
    by_cases hki : k = i
    · subst hki
      simp [show k < listed.size by omega]
    · rw [getD_set_ne false (fun h => hki h.symm)]
      simp [hki]
  intro fuel
  induction fuel with
  | zero =>
    intro listed φ a w hsz hcnt I
    have hrd : Region.ready .any ops listed = [] := by
      cases hr : Region.ready .any ops listed with
      | nil => rfl
      | cons i l =>
        have hm : i ∈ Region.ready .any ops listed := by rw [hr]; simp
        rw [mem_ready] at hm
        obtain ⟨h0, o, ho, _⟩ := hm
        have hi := (Array.getElem?_eq_some_iff.1 ho).1
        have : 0 < (List.range ops.size).countP (fun k => !listed.getD k false) := by
          rw [List.countP_pos_iff]
          refine ⟨i, List.mem_range.2 hi, ?_⟩
          rw [Array.getD_eq_getD_getElem?, Array.getElem?_eq_getElem (by omega)] at h0 ⊢
          simpa using h0
        omega
    exact ⟨hrd, hdone listed φ a w hsz I hrd⟩
  | succ fuel ih =>
    intro listed φ a w hsz hcnt I
    refine ⟨fun h => hdone listed φ a w hsz I h, ?_⟩
    intro i hi
    rw [mem_ready] at hi
    obtain ⟨h0, o, ho, hedges⟩ := hi
    have hin := (Array.getElem?_eq_some_iff.1 ho).1
    have hun : listed.getD i false = false := by
      rw [Array.getD_eq_getD_getElem?, Array.getElem?_eq_getElem (by omega)] at h0 ⊢
      exact h0
    have hL := hnext listed i hsz hin
    have hcnt' : (List.range ops.size).countP (fun k => !(listed.setIfInBounds i true).getD k false) ≤ fuel := by
      have hlt : (List.range ops.size).countP (fun k => !(listed.setIfInBounds i true).getD k false) < (List.range ops.size).countP (fun k => !listed.getD k false) := by
        have hgen : ∀ n, i < n → (List.range n).countP (fun k => !(listed.setIfInBounds i true).getD k false) < (List.range n).countP (fun k => !listed.getD k false) := by
          have hle : ∀ n, (List.range n).countP (fun k => !(listed.setIfInBounds i true).getD k false) ≤ (List.range n).countP (fun k => !listed.getD k false) := by
            intro n
            refine List.countP_mono_left ?_
            intro k _ hk
            rw [hL] at hk
            simp at hk ⊢
            exact hk.2
          intro n
          induction n with
          | zero => intro h; omega
          | succ n ihn =>
            intro h
            rw [List.range_succ, List.countP_append, List.countP_append, List.countP_singleton, List.countP_singleton]
            by_cases hni : i = n
            · subst hni
              have e1 : (!(listed.setIfInBounds i true).getD i false) = false := by rw [hL]; simp
              have e2 : (!listed.getD i false) = true := by rw [hun]; rfl
              rw [e1, e2]
              have := hle i
              simp
              simp at this
              omega
            · have := ihn (by omega)
              have e : (listed.setIfInBounds i true).getD n false = listed.getD n false := by rw [hL]; simp; omega
              rw [e]
              omega
        exact hgen ops.size hin
      omega
    have hrest : ∀ φ' a' w', Inv P ops ex sz vs frs hs φ0 w0 (fun k => (listed.setIfInBounds i true).getD k false) φ' a' w' → wpAny P .any ops Q fuel (listed.setIfInBounds i true) a' w' :=
      fun φ' a' w' I' => ih (listed.setIfInBounds i true) φ' a' w' (by simpa using hsz) hcnt' I'
    have hopnd := I.opnd T hok ho hun hedges
    unfold wpOp
    simp only [ho]
    rcases (T.ts i o hin ho).2 with ⟨j, want, b, hg, hb, hbw, hvs, hsame⟩ | ⟨hguard, hst, _⟩
    · have hw : Region.wanted o (yielded ops a.tmps) = false := by
        simp [Region.wanted, hg, I.wanted T hok ho hun hedges hg hb]
        exact hbw
      simp only [hw, Bool.false_eq_true, if_false]
      exact hrest φ _ w (I.still T hok ho hedges hsame (by rw [hvs]; exact VRel.undef φ) hL)
    · have hw : Region.wanted o (yielded ops a.tmps) = true := by
        rcases hguard with hg | ⟨j, want, hg, hb⟩
        · simp [Region.wanted, hg]
        · simp [Region.wanted, hg, I.wanted T hok ho hun hedges hg hb]
      simp only [hw, if_true]
      refine .inl ?_
      have hcomp0 : ∀ i', (∀ c (oc : Oper), ops[c]? = some oc → clsI ex c oc.op = .chain → hs (c + 1) ≠ hs c → ((c < i' ∧ listed.getD c false = false) ∨ (i' ≤ c ∧ listed.getD c false = true)) → ex.contains c = true) → i' ≤ ops.size → HRel φ (hs i') w := fun i' h hi' => I.heap i' hi' h
      cases hc : clsI ex i o.op with
      | pure =>
        unfold SemI at hst; rw [hc] at hst
        obtain ⟨c, hrun, hv⟩ := apure_sound (ev := a.eval) hopnd hst.1 w
        exact wp_of_run hrun (hrest φ _ w (I.still T hok ho hedges hst.2 hv hL))
      | read =>
        unfold SemI at hst; rw [hc] at hst
        by_cases hstx : ∃ (c : Nat) (oc : Oper), ops[c]? = some oc ∧ clsI ex c oc.op = .chain ∧ listed.getD c false = true ∧ (c, i) ∈ st ∧ i < c
        · -- a store that was done ahead
          have hmax : ∃ (c : Nat) (oc : Oper), (ops[c]? = some oc ∧ clsI ex c oc.op = .chain ∧ listed.getD c false = true ∧ (c, i) ∈ st ∧ i < c) ∧ ∀ (c' : Nat) (oc' : Oper), (ops[c']? = some oc' ∧ clsI ex c' oc'.op = .chain ∧ listed.getD c' false = true ∧ (c', i) ∈ st ∧ i < c') → c' ≤ c := by
            have key : ∀ (k c : Nat) (oc : Oper), ops.size - c = k → (ops[c]? = some oc ∧ clsI ex c oc.op = .chain ∧ listed.getD c false = true ∧ (c, i) ∈ st ∧ i < c) → ∃ (c : Nat) (oc : Oper), (ops[c]? = some oc ∧ clsI ex c oc.op = .chain ∧ listed.getD c false = true ∧ (c, i) ∈ st ∧ i < c) ∧ ∀ (c' : Nat) (oc' : Oper), (ops[c']? = some oc' ∧ clsI ex c' oc'.op = .chain ∧ listed.getD c' false = true ∧ (c', i) ∈ st ∧ i < c') → c' ≤ c := by
              intro k
              induction k using Nat.strongRecOn with
              | _ k ihk =>
                intro c oc hk hcc
                by_cases hb : ∃ (c' : Nat) (oc' : Oper), (ops[c']? = some oc' ∧ clsI ex c' oc'.op = .chain ∧ listed.getD c' false = true ∧ (c', i) ∈ st ∧ i < c') ∧ c < c'
                · obtain ⟨c', oc', h1, h2⟩ := hb
                  have hlt := (Array.getElem?_eq_some_iff.1 h1.1).1
                  exact ihk (ops.size - c') (by omega) c' oc' rfl h1
                · exact ⟨c, oc, hcc, fun c' oc' h1 => Classical.byContradiction fun h2 => hb ⟨c', oc', h1, by omega⟩⟩
            obtain ⟨c, oc, h⟩ := hstx
            exact key _ c oc rfl h
          obtain ⟨c, oc, ⟨hoc, hcc, hcl, hcs, hci⟩, hcm⟩ := hmax
          have hclt := (Array.getElem?_eq_some_iff.1 hoc).1
          have hrel : HRel φ (hs (c + 1)) w := by
            refine hcomp0 (c + 1) ?_ (by omega)
            intro c' oc' hoc' hcc' _ hside
            rcases hside with ⟨h1, h2⟩ | ⟨h1, h2⟩
            · by_cases hce : c' = c
              · subst hce; rw [hcl] at h2; cases h2
              · have := (hok.chain c c' oc oc' hoc hoc' hcc hcc' (by omega)).closed I.closed hcl
                rw [h2] at this; cases this
            · rcases hok.read c' i oc' o hoc' ho hcc' hc with h | h | h | ⟨h, h'⟩
              · exact h
              · have := h.closed I.closed h2
                rw [hun] at this; cases this
              · have := dep_lt hok h; omega
              · have := hcm c' oc' ⟨hoc', hcc', h2, h', h⟩; omega
          obtain ⟨cv, hrun, hv⟩ := areadR_sound (ev := a.eval) hrel hopnd (hstab c i o hcs hclt ho)
          exact wp_of_run hrun (hrest φ _ w (I.still T hok ho hedges hst.2 hv hL))
        have hrel : HRel φ (hs i) w := by
          refine hcomp0 i ?_ (by omega)
          intro c oc hoc hcc _ hside
          rcases hok.read c i oc o hoc ho hcc hc with h | h | h | ⟨h, h'⟩
          · exact h
          · have hlt := dep_lt hok h
            rcases hside with ⟨h1, _⟩ | ⟨_, h2⟩
            · omega
            · have := h.closed I.closed h2
              rw [hun] at this; cases this
          · have hlt := dep_lt hok h
            have := h.ready I.closed ho hedges
            rcases hside with ⟨_, h2⟩ | ⟨h1, _⟩
            · rw [h2] at this; cases this
            · omega
          · rcases hside with ⟨h1, _⟩ | ⟨_, h2⟩
            · omega
            · exact absurd ⟨c, oc, hoc, hcc, h2, h', h⟩ hstx
        obtain ⟨c, hrun, hv⟩ := areadR_sound (ev := a.eval) hrel hopnd hst.1
        exact wp_of_run hrun (hrest φ _ w (I.still T hok ho hedges hst.2 hv hL))
      | allo =>
        unfold SemI at hst; rw [hc] at hst
        obtain ⟨mk, cs, hal, hvs, hh⟩ := hst
        obtain ⟨c, e, v, hrun, hlen, hcells, hval⟩ := aallo_sound (ev := a.eval) (w := w) hopnd hal
        refine wp_of_run hrun (hrest _ _ _ (I.allo T hok ho hun hc hedges hh hlen hcells ?_ hL))
        rw [hvs]
        exact hval _ _ (Emb.upd_same _ _ _)
      | chain =>
        have hrel : HRel φ (hs i) w := by
          refine hcomp0 i ?_ (by omega)
          intro c oc hoc hcc _ hside
          rcases hside with ⟨h1, h2⟩ | ⟨h1, h2⟩
          · have := (hok.chain i c o oc ho hoc hc hcc h1).ready I.closed ho hedges
            rw [h2] at this; cases this
          · by_cases hci : c = i
            · subst hci; rw [hun] at h2; cases h2
            · have := (hok.chain c i oc o hoc ho hcc hc (by omega)).closed I.closed h2
              rw [hun] at this; cases this
        unfold SemI at hst; rw [hc] at hst
        refine hst.2 φ a w _ Q (fun b h1 h2 => I.free i hin hun b h1 h2) hrel hopnd ?_
        intro φ' c w' t r' hv
        exact hrest φ' _ w' (I.chain T hok hf0 ho hun hc hedges t r' hv hL)

end drawn

/-- A region whose order is open, by a run in the order of its text. -/
theorem AW.region_run {P : Program} {id : Nat} {ops : Array Oper} {ex : List Nat} {st : List (Nat × Nat)} {sz : Nat} {Q : Ex → List AV → AHeap → Prop} {fr : List AV} {h : AHeap} (hm : P.follows .mixedOrders = true)
    (hok : RgOk sz ops ex st) (hsz : fr.length = sz) {vs : Nat → AV} {frs : Nat → List AV} {hs : Nat → AHeap} (e1 : frs 0 = fr) (e2 : hs 0 = h) (hK : Q .normal (frs ops.size) (hs ops.size))
    (hts : ∀ i o, i < ops.size → ops[i]? = some o → TS P ops ex i o (frs i) (hs i) (vs i) (frs (i + 1)) (hs (i + 1)))
    (hstab : ∀ c r (o : Oper), (c, r) ∈ st → c < ops.size → ops[r]? = some o → areadR P (hs (c + 1)) (evalA (hs r).globs (frs r)) o.op = some (vs r)) : AW P (.region id ops true) Q fr h := by
  have hgrow : HGrow h (hs ops.size) := by
    have : ∀ i, i ≤ ops.size → HGrow (hs 0) (hs i) := by
      intro i
      induction i with
      | zero => intro _; exact HGrow.refl _
      | succ i ih => intro hi; exact (ih (by omega)).trans (hts i _ (by omega) (Array.getElem?_eq_getElem (by omega))).grow
    rw [← e2]
    exact this _ (Nat.le_refl _)
  refine ⟨.normal, frs ops.size, hs ops.size, ⟨hgrow, ?_⟩, hK⟩
  intro φ a w hfr s
  refine wp_region_any hm ?_
  rw [← e1, ← e2] at s
  rw [← e2] at hfr
  obtain ⟨g0, gn, hst⟩ := text_states hts hfr s
  have T : Txt P ops ex sz vs frs hs := by
    refine ⟨hts, ?_, fun i hi => (g0 i hi).globs, by rw [e1]; exact hsz⟩
    intro i hi
    obtain ⟨φ', a', w', s', _⟩ := hst i hi
    exact s'.heap.ext
  have hdrew : ({ w with drawn := w.drawn + 1 } : World) = w.drew := rfl
  rw [hdrew]
  refine Inv.all T hok hstab hfr (Q := fun e' a' w' => e' = Ex.normal.toExit ∧ ∃ φ', Trans φ h w φ' (hs ops.size) w' ∧ Sim φ' (frs ops.size) (hs ops.size) a' w') (w0 := w.drew) ?_ ops.size _ φ a w.drew (by simp) ?_ ?_
  · intro φ' a' w' t s'
    rw [e2] at t
    exact ⟨rfl, φ', t.drew, s'⟩
  · exact Nat.le_trans List.countP_le_length (by simp)
  · have hno : ∀ k, (Array.replicate ops.size false).getD k false = false := by
      intro k
      rw [Array.getD_eq_getD_getElem?]
      by_cases hk : k < ops.size
      · simp [hk]
      · simp [hk]
    have hd := s.heap.drew
    refine ⟨?_, ?_, s.fr.1, ?_, ?_, ?_, ?_, ?_, hd.glob, hd.lt, ?_, ?_, Emb.le_refl φ, ?_, ?_, fun _ _ _ => rfl, rfl, rfl, rfl, Nat.le_refl _⟩
    · intro i o e _ h _ _; rw [hno] at h; cases h
    · intro i h; rw [hno] at h; cases h
    · rw [← s.fr.2.1, e1]; exact hsz
    · intro i o d v _ h _ _; rw [hno] at h; cases h
    · intro t x v _ hx hv; exact s.fr.2.2 t x v hx hv
    · intro i hi _ b h1 h2
      exact hfr b (Nat.le_trans (g0 i (by omega)).next h1) (Nat.lt_of_lt_of_le h2 (gn (i + 1) (by omega)).next)
    · intro i h; rw [hno] at h; cases h
    · intro i hi hcomp
      refine T.up (Nat.zero_le i) hi ?_ ?_ hd
      · intro k _ hk oc hoc hcc hne
        exact hcomp k oc hoc hcc hne (.inl ⟨hk, hno k⟩)
      · intro k o _ hk _
        refine .inl ?_
        intro b h1 h2
        exact hfr b (Nat.le_trans (g0 k (by omega)).next h1) (Nat.lt_of_lt_of_le h2 (gn (k + 1) (by omega)).next)
    · intro j o cs _ h _ _ _; rw [hno] at h; cases h
    · intro b p h1 h2; rw [h1] at h2; cases h2
    · intro b k i z h1 h2; rw [h1] at h2; cases h2

def isChain (ex : List Nat) (i : Nat) (o : Oper) : Bool := clsI ex i o.op == .chain
def isRead (ex : List Nat) (i : Nat) (o : Oper) : Bool := clsI ex i o.op == .read
def isAllo (ex : List Nat) (i : Nat) (o : Oper) : Bool := clsI ex i o.op == .allo

def tmpsOf (o : Oper) : List Nat := o.op.operands.toList.filterMap fun | .tmp t => some t | _ => none

/-- One pair of operations. -/
def pairOk (ex : List Nat) (st : List (Nat × Nat)) (ri rj : Nat) (i j : Nat) (oi oj : Oper) : Bool :=
  (i == j || oi.dst.isNone || !(oi.dst == oj.dst)) &&
  (match oj.dst with
    | some t => !(tmpsOf oi).contains t || (decide (j < i) && inMask ri j) || (decide (i < j) && inMask rj i)
    | none => true) &&
  (!(isChain ex i oi && isChain ex j oj && decide (j < i)) || inMask ri j) &&
  (!(isChain ex i oi && isRead ex j oj) || ex.contains i || inMask ri j || inMask rj i || (decide (j < i) && st.contains (i, j))) &&
  (!(isChain ex i oi && isAllo ex j oj && decide (j < i)) || ex.contains i || inMask ri j)

def oneOk (sz : Nat) (ri : Nat) (i : Nat) (o : Oper) : Bool :=
  o.after.toList.all (fun e => !Region.binds .any e || decide (e.on < i)) &&
  (match o.dst with | some d => decide (d < sz) | none => true) &&
  (match o.guard with | some (g, _) => inMask ri g | none => true)

def rgOk (sz : Nat) (l : List Oper) (ex : List Nat) (st : List (Nat × Nat) := []) : Bool :=
  let rl := reachM [] l
  !(ex == TXT) && l.zipIdx.all fun (o, i) => oneOk sz (rl.getD i 0) i o && l.zipIdx.all fun (o', j) => pairOk ex st (rl.getD i 0) (rl.getD j 0) i j o o'

theorem rgOk_sound {sz : Nat} {ops : Array Oper} {l : List Oper} {ex : List Nat} {st : List (Nat × Nat)} (hl : ops.toList = l) (h : rgOk sz l ex st = true) : RgOk sz ops ex st := by
  subst hl
  have hdep : ∀ k j, inMask ((reachM [] ops.toList).getD k 0) j = true → Dep ops k j := reachM_dep ops.toList [] (by simp) (by intro k j h; simp [inMask] at h)
  unfold rgOk at h
  simp only [Bool.and_eq_true] at h
  obtain ⟨hntx, h⟩ := h
  simp only [List.all_eq_true] at h
  have hmem : ∀ i o, ops[i]? = some o → (o, i) ∈ ops.toList.zipIdx := by
    intro i o ho
    rw [List.mem_zipIdx_iff_getElem?]
    simpa using ho
  have h1 : ∀ i o, ops[i]? = some o → oneOk sz ((reachM [] ops.toList).getD i 0) i o = true := fun i o ho => (Bool.and_eq_true _ _ ▸ h (o, i) (hmem i o ho)).1
  have h2 : ∀ i j oi oj, ops[i]? = some oi → ops[j]? = some oj → pairOk ex st ((reachM [] ops.toList).getD i 0) ((reachM [] ops.toList).getD j 0) i j oi oj = true := by
    intro i j oi oj hi hj
    have := (Bool.and_eq_true _ _ ▸ h (oi, i) (hmem i oi hi)).2
    exact List.all_eq_true.1 this (oj, j) (hmem j oj hj)
  refine ⟨by simpa using hntx, ?_, ?_, ?_, ?_, ?_, ?_, ?_, ?_⟩
  · intro i o e ho he hb
    have := h1 i o ho
    simp only [oneOk, Bool.and_eq_true, List.all_eq_true] at this
    have := this.1.1 e (by simpa using he)
    simpa [hb] using this
  · intro i o d ho hd
    have := h1 i o ho
    simp only [oneOk, Bool.and_eq_true, hd] at this
    simpa using this.1.2
  · intro i j oi oj d hi hj hdi hdj
    have := h2 i j oi oj hi hj
    simp only [pairOk, Bool.and_eq_true, hdi, hdj] at this
    have := this.1.1.1.1
    simpa using this
  · intro i j oi oj t hi hj ht hdj
    have := h2 i j oi oj hi hj
    simp only [pairOk, Bool.and_eq_true, hdj] at this
    have := this.1.1.1.2
    have hin : (tmpsOf oi).contains t = true := by
      simp only [tmpsOf, List.contains_iff_mem, List.mem_filterMap]
      exact ⟨.tmp t, by simpa using ht, rfl⟩
    simp only [hin, Bool.not_true, Bool.false_or, Bool.or_eq_true, Bool.and_eq_true, decide_eq_true_eq] at this
    rcases this with ⟨a, b⟩ | ⟨a, b⟩
    · exact .inl ⟨a, hdep _ _ b⟩
    · exact .inr ⟨a, hdep _ _ b⟩
  · intro i o g want ho hg
    have := h1 i o ho
    simp only [oneOk, Bool.and_eq_true, hg] at this
    exact hdep _ _ this.2
  · intro i j oi oj hi hj hci hcj hlt
    have := h2 i j oi oj hi hj
    simp only [pairOk, Bool.and_eq_true] at this
    have := this.1.1.2
    simp only [isChain, hci, hcj, beq_self_eq_true, hlt, decide_true, Bool.and_self, Bool.not_true, Bool.false_or] at this
    exact hdep _ _ this
  · intro c r oc or hc hr hcc hrr
    have := h2 c r oc or hc hr
    simp only [pairOk, Bool.and_eq_true] at this
    have := this.1.2
    simp only [isChain, isRead, hcc, hrr, beq_self_eq_true, Bool.and_self, Bool.not_true, Bool.false_or, Bool.or_eq_true] at this
    rcases this with ((a | a) | a) | a
    · exact .inl a
    · exact .inr (.inl (hdep _ _ a))
    · exact .inr (.inr (.inl (hdep _ _ a)))
    · simp only [Bool.and_eq_true, decide_eq_true_eq, List.contains_iff_mem] at a
      exact .inr (.inr (.inr a))
  · intro c j oc oj hc hj hcc hjj hlt
    have := h2 c j oc oj hc hj
    simp only [pairOk, Bool.and_eq_true] at this
    have := this.2
    simp only [isChain, isAllo, hcc, hjj, beq_self_eq_true, hlt, decide_true, Bool.and_self, Bool.not_true, Bool.false_or, Bool.or_eq_true] at this
    rcases this with a | a
    · exact .inl a
    · exact .inr (hdep _ _ a)

theorem TS.of {P : Program} {ops : Array Oper} {ex : List Nat} {i : Nat} {o : Oper} {fr fr' : List AV} {h h' : AHeap} {v : AV} (t : Go.Am.TS P ops ex i o fr h v fr' h') : TS P ops ex i o fr h v fr' h' :=
  ⟨t.1, t.2.imp id fun ⟨h1, h2, h3⟩ => ⟨h1, SemI.of h2, h3⟩⟩
theorem AW.region_drawL {P : Program} {id c : Nat} {ops : Array Oper} {l1 l2 : List Oper} {oc : Oper} {ex : List Nat} {sz : Nat} {Q : Ex → List AV → AHeap → Prop} {fr : List AV} {h : AHeap} (hm : P.follows .mixedOrders = true) (hl : ops.toList = l1 ++ oc :: l2) (hc : l1.length = c)
    (hok : RgOk sz ops ex []) (hsz : fr.length = sz) (hg : oc.guard = none) (hmk : ex.contains (c + 1000) = true)
    (hw : AOps P ops ex (fun fr1 h1 => ∃ v, StepS P (evalA h1.globs fr1) oc h1 v h1 ∧ AOps P ops ex (Q .normal) (c + 1) l2 (setF fr1 oc.dst v) h1) 0 l1 fr h) : AW P (.region id ops true) Q fr h := by
  have hsize : ops.size = l1.length + (l2.length + 1) := by rw [← Array.length_toList, hl, List.length_append, List.length_cons]
  have g1 : ∀ i, i < l1.length → l1[i]? = ops[0 + i]? := by
    intro i hi
    rw [Nat.zero_add, ← Array.getElem?_toList, hl, List.getElem?_append_left hi]
  have hoc : ops[c]? = some oc := by
    rw [← Array.getElem?_toList, hl, List.getElem?_append_right (by omega), hc, Nat.sub_self]; rfl
  have g2 : ∀ i, l2[i]? = ops[c + 1 + i]? := by
    intro i
    rw [← Array.getElem?_toList, hl, List.getElem?_append_right (by omega), hc, show c + 1 + i - c = i + 1 by omega]
    rfl
  obtain ⟨vs1, frs1, hs1, e1, e2, ⟨v, hst, hK1⟩, hall1⟩ := aops_textP hok.ntx l1 0 fr h g1 hw
  simp only [Nat.zero_add, hc] at hst hK1 hall1
  obtain ⟨vs2, frs2, hs2, e3, e4, hK2, hall2⟩ := aops_text hok.ntx l2 (c + 1) _ _ g2 hK1
  refine AW.region_run hm hok hsz (vs := fun i => if i < c then vs1 i else if i = c then v else vs2 i) (frs := fun i => if i ≤ c then frs1 i else frs2 i) (hs := fun i => if i ≤ c then hs1 i else hs2 i) (by simp [e1]) (by simp [e2]) ?_ ?_ ?_
  · simp only [if_neg (show ¬ ops.size ≤ c by omega)]
    rw [show ops.size = c + 1 + l2.length by omega]
    exact hK2
  · intro i oi hi hoi
    by_cases h1 : i < c
    · simp only [if_pos h1, if_pos (show i ≤ c by omega), if_pos (show i + 1 ≤ c by omega)]
      exact TS.of (hall1 i oi (Nat.zero_le _) (by omega) hoi)
    · by_cases h2 : i = c
      · subst h2
        rw [hoc] at hoi
        cases hoi
        simp only [if_neg h1, if_true, Nat.le_refl, if_neg (show ¬ i + 1 ≤ i by omega), e3, e4]
        exact ⟨rfl, .inr ⟨.inl hg, SemI.mark hmk hst, fun _ w => HExt.refl _⟩⟩
      · simp only [if_neg h1, if_neg h2, if_neg (show ¬ i ≤ c by omega), if_neg (show ¬ i + 1 ≤ c by omega)]
        exact TS.of (hall2 i oi (by omega) (by omega) hoi)
  · intro c r o hcr; cases hcr
end Go.Am.R
namespace Go.Am
section drawL
variable {P : Program} {n : Nat} {Q : Ex → KF → AHeap → Prop} {K : KF} {h : AHeap}
theorem KA.drawL {id c d : Nat} {ops : Array Oper} {l1 l2 : List Oper} {op : Op} {ty : TypeId} {pos : String} {after : Array Edge} (ex : List Nat) (hm : P.follows .mixedOrders = true) (hl1 : ops.toList.take c = l1) (hl2 : ops.toList.drop c = ⟨some d, op, ty, pos, after, none⟩ :: l2) (hc : l1.length = c) (hok : R.rgOk n ops.toList ex = true) (hmk : ex.contains (c + 1000) = true)
    (hw : KOps P n ops ex (fun K1 h1 => ∃ v, StepS P (evalK h1.globs n K1) ⟨some d, op, ty, pos, after, none⟩ h1 v h1 ∧ KOps P n ops ex (Q .normal) (c + 1) l2 ((d, v) :: K1) h1) 0 l1 K h) : KA P n (.region id ops true) Q K h := by
  refine R.AW.region_drawL (c := c) (l1 := l1) (l2 := l2) hm (by rw [← hl1, ← hl2, List.take_append_drop]) hc (R.rgOk_sound rfl hok) (toFr_length n K) rfl hmk ?_
  refine aops_mono ?_ _ _ _ _ hw
  rintro fr1 h1 ⟨K1, rfl, v, hst, hrest⟩
  refine ⟨v, ?_, ?_⟩
  · rw [evalA_toFr]; exact hst
  · simp only [setF, toFr_set]; exact hrest
theorem NA.drawL {id c d : Nat} {ops : Array Oper} {l1 l2 : List Oper} {op : Op} {ty : TypeId} {pos : String} {after : Array Edge} (ex : List Nat) (hm : P.follows .mixedOrders = true) (hl1 : ops.toList.take c = l1) (hl2 : ops.toList.drop c = ⟨some d, op, ty, pos, after, none⟩ :: l2) (hc : l1.length = c) (hok : R.rgOk n ops.toList ex = true) (hmk : ex.contains (c + 1000) = true)
    (hw : KOps P n ops ex (fun K1 h1 => ∃ v, StepS P (evalK h1.globs n K1) ⟨some d, op, ty, pos, after, none⟩ h1 v h1 ∧ KOps P n ops ex (Q .normal) (c + 1) l2 ((d, v) :: K1) h1) 0 l1 K h) : NA P n (.region id ops true) Q K h := NA.of (KA.drawL ex hm hl1 hl2 hc hok hmk hw)
end drawL
section
variable {P : Program} {n : Nat} {ops : Array Oper} {ex : List Nat} {Q : KF → AHeap → Prop} {k j : Nat} {l2 : List Oper} {K : KF} {h : AHeap} {d : Nat} {ty : TypeId} {pos : String} {after : Array Edge}
end
end Go.Am

namespace Go.Am

/-- Parts with their places and cells. -/
inductive PartsAt (P : Program) (t : TypeId) (n : Nat) : List (Nat × AV) → List (Nat × List AV) → Prop where
  | nil : PartsAt P t n [] []
  | cons {i off s : Nat} {v : AV} {l : List AV} {ps : List (Nat × AV)} {qs : List (Nat × List AV)} (hp : aplaces P t i = some (off, s)) (hc : v.cells? = some l) (hl : l.length = s) (hn : off + s ≤ n) (h : PartsAt P t n ps qs) : PartsAt P t n ((i, v) :: ps) ((off, l) :: qs)
theorem cells_agg {l : List AV} (h : l.all AV.one = true) : (AV.agg l).cells? = some l := by simp only [AV.cells?]; rw [if_pos h]
theorem putL_len2 {α : Type} {cs l : List α} {o : Nat} (h : o + l.length ≤ cs.length) : (putL cs o l).length = cs.length := by
  simp only [putL, List.length_append, List.length_take, List.length_drop]; omega
theorem PartsAt.fill {P : Program} {t : TypeId} {n : Nat} {ps : List (Nat × AV)} {qs : List (Nat × List AV)} (h : PartsAt P t n ps qs) : ∀ {cs : List AV}, cs.length = n → afill (aplaces P t) cs ps = some (qs.foldl (fun cs q => putL cs q.1 q.2) cs) := by
  induction h with
  | nil => intro cs _; rfl
  | cons hp hc hl hn _ ih =>
    intro cs hcs
    simp only [afill, hp, hc]
    rw [if_pos ⟨hl, by omega⟩]
    exact ih (by rw [putL_len2 (by omega)]; exact hcs)
section
variable {P : Program} {n : Nat} {ops : Array Oper} {ex : List Nat} {Q : KF → AHeap → Prop} {k : Nat} {os : List Oper} {K : KF} {h0 h : AHeap} {objs : List Obj} {d : Nat} {ty : TypeId} {pos : String} {after : Array Edge}
theorem KOps.buildG {t : TypeId} {l : List (Nat × Operand)} {vs zs cs : List AV} {qs : List (Nat × List AV)} [hl : EvKp h.globs n K l vs] (hz : zeroA P t = some (.agg zs)) (hz1 : zs.all AV.one = true) (hok : abuildOk P t = true) (hp : PartsAt P t zs.length ((l.map (·.1)).zip vs) qs)
    (he : qs.foldl (fun cs q => putL cs q.1 q.2) zs = cs) (hk : KOps P n ops ex Q (k + 1) os ((d, .agg cs) :: K) h) :
    KOps P n ops ex Q k (⟨some d, .build t (List.toArray l), ty, pos, after, none⟩ :: os) K h := by
  refine KOps.build (vs := vs) (v := .agg cs) ?_ hk
  simp only [abuild, hz, cells_agg hz1, hok, if_true, Option.bind_eq_bind, Option.bind_some, hp.fill rfl, he]
/-- A part of a struct behind a pointer is read. -/
theorem KOps.loadPart {x : Operand} {p v : AV} {t : TypeId} {s j z : Nat} {xs ys : List AV} [hx : EvK h.globs n K x p] [ht : AgT P t z] (ha : AddrOf p v s j) (hr : Rd h v s xs) (hz : 0 < z) (hj : j + z ≤ xs.length) (hy : (xs.drop j).take z = ys) (hk : KOps P n ops ex Q (k + 1) os ((d, .agg ys) :: K) h) :
    KOps P n ops ex Q k (⟨some d, .load t x, ty, pos, after, none⟩ :: os) K h := by
  subst hy
  exact KOps.loadAgg ha hr hz hj hk
end
theorem St.pickF {h0 h : AHeap} {A A' F : List Obj} (k : Nat) (σ : List Nat) (hk : A.length = k) (hn : σ.Nodup) (hlt : ∀ i ∈ σ, i < k) (he : σ.map (fun i => A[i]?) = A'.map some) (st : St h0 h (A ++ F)) : St h0 h (A' ++ F) := by
  have hp : St h0 h (F ++ A') := by
    have h1 : St h0 h (F ++ A) := st.rot
    refine h1.pick ((List.range F.length) ++ σ.map (· + F.length)) ?_ ?_
    · refine List.nodup_append.2 ⟨List.nodup_range, ?_, ?_⟩
      · exact (List.pairwise_map.2 (hn.imp fun h e => h (by omega)))
      · intro a ha b hb
        have := List.mem_range.1 ha
        obtain ⟨c, _, rfl⟩ := List.mem_map.1 hb
        omega
    · rw [List.map_append, List.map_append]
      congr 1
      · refine List.ext_getElem? fun i => ?_
        simp only [List.getElem?_map]
        by_cases hi : i < F.length
        · rw [List.getElem?_eq_getElem (by simpa using hi), List.getElem?_eq_getElem hi]
          simp [List.getElem?_append_left hi, List.getElem?_eq_getElem hi]
        · rw [List.getElem?_eq_none (by simpa using hi), List.getElem?_eq_none (by omega)]; rfl
      · rw [List.map_map, ← he]
        refine List.map_congr_left fun i _ => ?_
        show (F ++ A)[i + F.length]? = A[i]?
        rw [List.getElem?_append_right (by omega), Nat.add_sub_cancel]
  exact hp.rot
end Go.Am

namespace Go.Am
/-- The first number that a kind does not hold. -/
def topK : IntKind → Nat
  | .i8 => 128 | .i16 => 32768 | .i32 => 2147483648 | .i64 => 9223372036854775808
  | .u8 => 256 | .u16 => 65536 | .u32 => 4294967296 | .u64 => 18446744073709551616
theorem wrapN {kd : IntKind} {x : Nat} (h : x < topK kd) : kd.wrap (x : Int) = (x : Int) := by
  cases kd <;> simp only [topK] at h <;> simp only [IntKind.wrap, IntKind.bits, IntKind.signed, Bool.true_and, Bool.false_and, ge_iff_le, decide_eq_true_eq, Bool.false_eq_true, if_false] <;>
    first
    | (have e1 : (2 : Int) ^ 8 = 256 := by decide); (have e2 : (2 : Int) ^ (8 - 1) = 128 := by decide); rw [e1, e2]; split <;> omega
    | (have e1 : (2 : Int) ^ 16 = 65536 := by decide); (have e2 : (2 : Int) ^ (16 - 1) = 32768 := by decide); rw [e1, e2]; split <;> omega
    | (have e1 : (2 : Int) ^ 32 = 4294967296 := by decide); (have e2 : (2 : Int) ^ (32 - 1) = 2147483648 := by decide); rw [e1, e2]; split <;> omega
    | (have e1 : (2 : Int) ^ 64 = 18446744073709551616 := by decide); (have e2 : (2 : Int) ^ (64 - 1) = 9223372036854775808 := by decide); rw [e1, e2]; split <;> omega
    | (have e1 : (2 : Int) ^ 8 = 256 := by decide); rw [e1]; omega
    | (have e1 : (2 : Int) ^ 16 = 65536 := by decide); rw [e1]; omega
    | (have e1 : (2 : Int) ^ 32 = 4294967296 := by decide); rw [e1]; omega
    | (have e1 : (2 : Int) ^ 64 = 18446744073709551616 := by decide); rw [e1]; omega
theorem topK_pow (kd : IntKind) : ∃ m, topK kd = 2 ^ m ∧ m ≤ kd.bits ∧ kd.bits ≤ m + 1 := by
  cases kd
  · exact ⟨7, by decide, by decide, by decide⟩
  · exact ⟨15, by decide, by decide, by decide⟩
  · exact ⟨31, by decide, by decide, by decide⟩
  · exact ⟨63, by decide, by decide, by decide⟩
  · exact ⟨8, by decide, by decide, by decide⟩
  · exact ⟨16, by decide, by decide, by decide⟩
  · exact ⟨32, by decide, by decide, by decide⟩
  · exact ⟨64, by decide, by decide, by decide⟩
theorem ofIntN {kd : IntKind} {x : Nat} (h : x < topK kd) : (BitVec.ofInt kd.bits (x : Int)).toNat = x := by
  obtain ⟨m, h1, h2, _⟩ := topK_pow kd
  rw [BitVec.ofInt_natCast, BitVec.toNat_ofNat]
  exact Nat.mod_eq_of_lt (Nat.lt_of_lt_of_le h (h1 ▸ Nat.pow_le_pow_right (by decide) h2))
theorem and_lt_topK {kd : IntKind} {x y : Nat} (h : x < topK kd) : x &&& y < topK kd := Nat.lt_of_le_of_lt Nat.and_le_left h
theorem or_lt_topK {kd : IntKind} {x y : Nat} (hx : x < topK kd) (hy : y < topK kd) : x ||| y < topK kd := by
  obtain ⟨m, h1, -⟩ := topK_pow kd
  rw [h1] at hx hy ⊢
  exact Nat.or_lt_two_pow hx hy
theorem bits_andN {kd : IntKind} {x y : Nat} (hx : x < topK kd) (hy : y < topK kd) : Go.bits .and kd (x : Int) (y : Int) = ((x &&& y : Nat) : Int) := by
  show kd.wrap (((BitVec.ofInt kd.bits (x : Int) &&& BitVec.ofInt kd.bits (y : Int)).toNat : Nat) : Int) = _
  rw [BitVec.toNat_and, ofIntN hx, ofIntN hy, wrapN (and_lt_topK hx)]
theorem bits_orN {kd : IntKind} {x y : Nat} (hx : x < topK kd) (hy : y < topK kd) : Go.bits .or kd (x : Int) (y : Int) = ((x ||| y : Nat) : Int) := by
  show kd.wrap (((BitVec.ofInt kd.bits (x : Int) ||| BitVec.ofInt kd.bits (y : Int)).toNat : Nat) : Int) = _
  rw [BitVec.toNat_or, ofIntN hx, ofIntN hy, wrapN (or_lt_topK hx hy)]
theorem and_not_bits {m x y : Nat} (hx : x < 2 ^ m) (hy : y < 2 ^ m) (n : Nat) (hn : m ≤ n) : x &&& (2 ^ n - 1 - y) = x ^^^ (x &&& y) := by
  refine Nat.eq_of_testBit_eq fun i => ?_
  rw [Nat.testBit_and, Nat.testBit_xor, Nat.testBit_and]
  have hyn : y < 2 ^ n := Nat.lt_of_lt_of_le hy (Nat.pow_le_pow_right (by decide) hn)
  have e : 2 ^ n - 1 - y = 2 ^ n - (y + 1) := by omega
  rw [e, Nat.testBit_two_pow_sub_succ hyn]
  by_cases hi : i < n
  · simp only [hi, decide_true, Bool.true_and]
    cases x.testBit i <;> cases y.testBit i <;> rfl
  · have : x.testBit i = false := Nat.testBit_lt_two_pow (Nat.lt_of_lt_of_le hx (Nat.pow_le_pow_right (by decide) (by omega)))
    rw [this]; rfl
theorem bits_andNotN {kd : IntKind} {x y : Nat} (hx : x < topK kd) (hy : y < topK kd) : Go.bits .andNot kd (x : Int) (y : Int) = ((x ^^^ (x &&& y) : Nat) : Int) := by
  show kd.wrap (((BitVec.ofInt kd.bits (x : Int) &&& ~~~BitVec.ofInt kd.bits (y : Int)).toNat : Nat) : Int) = _
  obtain ⟨m, h1, h2, -⟩ := topK_pow kd
  have hx' := hx; have hy' := hy
  rw [h1] at hx' hy'
  rw [BitVec.toNat_and, BitVec.toNat_not, ofIntN hx, ofIntN hy, and_not_bits hx' hy' _ h2, wrapN]
  rw [h1]
  exact Nat.xor_lt_two_pow hx' (Nat.lt_of_le_of_lt Nat.and_le_left hx')
theorem shrN (x k : Nat) (kd : IntKind) (hk : k ≤ kd.bits) : (x : Int).fdiv (2 ^ Min.min (k : Int).toNat kd.bits) = ((x >>> k : Nat) : Int) := by
  rw [Int.toNat_natCast, Nat.min_eq_left hk, Int.fdiv_eq_ediv_of_nonneg _ (by exact Int.le_of_lt (Int.pow_pos (by decide))), Nat.shiftRight_eq_div_pow]
  norm_cast
theorem shlN {x k : Nat} {kd : IntKind} (hk : k ≤ kd.bits) (h : x <<< k < topK kd) : kd.wrap ((x : Int) * 2 ^ Min.min (k : Int).toNat kd.bits) = ((x <<< k : Nat) : Int) := by
  rw [Int.toNat_natCast, Nat.min_eq_left hk, ← wrapN h, Nat.shiftLeft_eq, Int.natCast_mul, Int.natCast_pow]
  rfl
theorem and_one_bit (x k : Nat) : (x >>> k) &&& 1 = if x.testBit k = true then 1 else 0 := by
  rw [Nat.testBit]
  rcases Nat.and_one_is_mod (x >>> k) ▸ Nat.mod_two_eq_zero_or_one (x >>> k) with h | h
  · rw [h]; rw [Nat.and_comm] at h; rw [h]; rfl
  · rw [h]; rw [Nat.and_comm] at h; rw [h]; rfl
section
variable {P : Program} {n : Nat} {ops : Array Oper} {ex : List Nat} {Q : KF → AHeap → Prop} {k : Nat} {os : List Oper} {K : KF} {h : AHeap} {d : Nat} {ty : TypeId} {pos : String} {after : Array Edge}
theorem KOps.andN {t t' : TypeId} {x y : Operand} {kd : IntKind} {a b : Int} (i j : Nat) [hx : EvK h.globs n K x (.int kd a)] [hy : EvK h.globs n K y (.int kd b)] (ha : a = (i : Int)) (hb : b = (j : Int)) (hi : i < topK kd) (hj : j < topK kd) (hk : KOps P n ops ex Q (k + 1) os ((d, .int kd ((i &&& j : Nat) : Int)) :: K) h) :
    KOps P n ops ex Q k (⟨some d, .binOp .and t x y t', ty, pos, after, none⟩ :: os) K h := by
  subst ha hb
  exact KOps.int (.inr (.inr rfl)) (by simp only [aint, bits_andN hi hj]) hk
theorem KOps.orN {t t' : TypeId} {x y : Operand} {kd : IntKind} {a b : Int} (i j : Nat) [hx : EvK h.globs n K x (.int kd a)] [hy : EvK h.globs n K y (.int kd b)] (ha : a = (i : Int)) (hb : b = (j : Int)) (hi : i < topK kd) (hj : j < topK kd) (hk : KOps P n ops ex Q (k + 1) os ((d, .int kd ((i ||| j : Nat) : Int)) :: K) h) :
    KOps P n ops ex Q k (⟨some d, .binOp .or t x y t', ty, pos, after, none⟩ :: os) K h := by
  subst ha hb
  exact KOps.int (.inr (.inr rfl)) (by simp only [aint, bits_orN hi hj]) hk
theorem KOps.andNotN {t t' : TypeId} {x y : Operand} {kd : IntKind} {a b : Int} (i j : Nat) [hx : EvK h.globs n K x (.int kd a)] [hy : EvK h.globs n K y (.int kd b)] (ha : a = (i : Int)) (hb : b = (j : Int)) (hi : i < topK kd) (hj : j < topK kd) (hk : KOps P n ops ex Q (k + 1) os ((d, .int kd ((i ^^^ (i &&& j) : Nat) : Int)) :: K) h) :
    KOps P n ops ex Q k (⟨some d, .binOp .andNot t x y t', ty, pos, after, none⟩ :: os) K h := by
  subst ha hb
  exact KOps.int (.inr (.inr rfl)) (by simp only [aint, bits_andNotN hi hj]) hk
theorem KOps.shrN {t t' : TypeId} {x y : Operand} {kd kd' : IntKind} {a b : Int} (i j : Nat) [hx : EvK h.globs n K x (.int kd a)] [hy : EvK h.globs n K y (.int kd' b)] (ha : a = (i : Int)) (hb : b = (j : Int)) (hj : j ≤ kd.bits) (hk : KOps P n ops ex Q (k + 1) os ((d, .int kd ((i >>> j : Nat) : Int)) :: K) h) :
    KOps P n ops ex Q k (⟨some d, .binOp .shr t x y t', ty, pos, after, none⟩ :: os) K h := by
  subst ha hb
  exact KOps.shr (by omega) (by rw [Go.Am.shrN i j kd hj]; exact hk)
theorem KOps.shlN {t t' : TypeId} {x y : Operand} {kd kd' : IntKind} {a b : Int} (i j : Nat) [hx : EvK h.globs n K x (.int kd a)] [hy : EvK h.globs n K y (.int kd' b)] (ha : a = (i : Int)) (hb : b = (j : Int)) (hj : j ≤ kd.bits) (ht : i <<< j < topK kd) (hk : KOps P n ops ex Q (k + 1) os ((d, .int kd ((i <<< j : Nat) : Int)) :: K) h) :
    KOps P n ops ex Q k (⟨some d, .binOp .shl t x y t', ty, pos, after, none⟩ :: os) K h := by
  subst ha hb
  exact KOps.shl (by omega) (by rw [Go.Am.shlN hj ht]; exact hk)
theorem KOps.modN {t t' : TypeId} {x y : Operand} {a b : Int} (i j : Nat) [hx : EvK h.globs n K x (.int .i64 a)] [hy : EvK h.globs n K y (.int .i64 b)] (ha : a = (i : Int)) (hb : b = (j : Int)) (h0 : 0 < j) (hi : i < 9223372036854775807)
    (hk : KOps P n ops ex Q (k + 1) os ((d, .int .i64 ((i % j : Nat) : Int)) :: K) h) : KOps P n ops ex Q k (⟨some d, .binOp .rem t x y t', ty, pos, after, none⟩ :: os) K h := by
  subst ha; subst hb
  have e : (i : Int).tmod (j : Int) = ((i % j : Nat) : Int) := by rw [Int.tmod_eq_emod_of_nonneg (by omega)]; rfl
  have hl := Nat.mod_le i j
  refine KOps.rem (by omega) ?_ ?_ ?_ <;> rw [e]
  · omega
  · omega
  · exact hk
end
end Go.Am

namespace Go.Am
section
variable {P : Program} {n : Nat} {ops : Array Oper} {ex : List Nat} {Q : KF → AHeap → Prop} {k : Nat} {os : List Oper} {K : KF} {h : AHeap} {d : Nat} {ty : TypeId} {pos : String} {after : Array Edge}
theorem KOps.subN {t t' : TypeId} {x y : Operand} {kd : IntKind} {a b : Int} (i j : Nat) [hx : EvK h.globs n K x (.int kd a)] [hy : EvK h.globs n K y (.int kd b)] (ha : a = (i : Int)) (hb : b = (j : Int)) (hle : j ≤ i) (hi : i < topK kd) (hk : KOps P n ops ex Q (k + 1) os ((d, .int kd ((i - j : Nat) : Int)) :: K) h) :
    KOps P n ops ex Q k (⟨some d, .binOp .sub t x y t', ty, pos, after, none⟩ :: os) K h := by
  subst ha hb
  refine KOps.int (.inr (.inr rfl)) ?_ hk
  simp only [aint]
  rw [show (i : Int) - (j : Int) = ((i - j : Nat) : Int) by omega, wrapN (Nat.lt_of_le_of_lt (Nat.sub_le ..) hi)]
theorem KOps.addN {t t' : TypeId} {x y : Operand} {kd : IntKind} {a b : Int} (i j : Nat) [hx : EvK h.globs n K x (.int kd a)] [hy : EvK h.globs n K y (.int kd b)] (ha : a = (i : Int)) (hb : b = (j : Int)) (hi : i + j < topK kd) (hk : KOps P n ops ex Q (k + 1) os ((d, .int kd ((i + j : Nat) : Int)) :: K) h) :
    KOps P n ops ex Q k (⟨some d, .binOp .add t x y t', ty, pos, after, none⟩ :: os) K h := by
  subst ha hb
  refine KOps.int (.inr (.inr rfl)) ?_ hk
  simp only [aint]
  rw [show (i : Int) + (j : Int) = ((i + j : Nat) : Int) by omega, wrapN hi]
end
end Go.Am

namespace Go.Am

/-- The value with other block numbers; what lies in the first blocks is forgotten. -/
def AV.shm (m d : Nat) : Nat → AV → AV
  | _, .ptr b o => if b < m then .bot else .ptr (d + (b - m)) o
  | _, .slc b o n s f => if b < m then .bot else .slc (d + (b - m)) o n s f
  | _, .nilp => .nilp
  | _, .nils => .nils
  | _, .nilm => .nilm
  | _, .nilf => .nilf
  | _, .bool b => .bool b
  | _, .int k n => .int k n
  | _, .str s => .str s
  | n + 1, .fn f l => .fn f (l.map (AV.shm m d n))
  | n + 1, .agg l => .agg (l.map (AV.shm m d n))
  | n + 1, .tup l => .tup (l.map (AV.shm m d n))
  | _, _ => .bot

theorem AV.shm_rel {φ φ' : Emb} {m d : Nat} (hφ : ∀ b p, m ≤ b → φ b = some p → φ' (d + (b - m)) = some p) : ∀ (n : Nat) (x : AV) (v : Value), VRel φ x v → VRel φ' (AV.shm m d n x) v := by
  have hl : ∀ (n : Nat), (∀ (x : AV) (v : Value), VRel φ x v → VRel φ' (AV.shm m d n x) v) → ∀ (l : List AV) (cs : List Value), (∀ (j : Nat) (x : AV) (y : Value), l[j]? = some x → cs[j]? = some y → VRel φ x y) → ∀ (j : Nat) (x : AV) (y : Value), (l.map (AV.shm m d n))[j]? = some x → cs[j]? = some y → VRel φ' x y := by
    intro n ih l cs h j x y hx hy
    rw [List.getElem?_map, Option.map_eq_some_iff] at hx
    obtain ⟨q, hq, rfl⟩ := hx
    exact ih q y (h j q y hq hy)
  have hp : ∀ (b o k i z : Nat), φ b = some (k, i, z) → VRel φ' (if b < m then .bot else .ptr (d + (b - m)) o) (.pointer (some ⟨k, i + o, none⟩)) := by
    intro b o k i z h
    split
    · exact .bot _
    · exact .ptr _ _ _ _ _ (hφ _ _ (by omega) h)
  have hs : ∀ (b o n s : Nat) (full : Bool) (a : Addr) (c : Nat), n ≤ c → c ≤ maxLen → (full = true → c = n) → (c = 0 ∨ ∃ k i z, φ b = some (k, i, z) ∧ a = ⟨k, i + o, none⟩ ∧ i + o + c * s ≤ z) → VRel φ' (if b < m then .bot else .slc (d + (b - m)) o n s full) (.slice (some a) n c) := by
    intro b o n s full a c hn hc hf hadr
    split
    · exact .bot _
    · refine .slc _ _ _ _ _ _ _ hn hc hf ?_
      rcases hadr with h | ⟨k, i, z, h1, h2, h3⟩
      · exact .inl h
      · exact .inr ⟨k, i, z, hφ _ _ (by omega) h1, h2, h3⟩
  intro n
  induction n with
  | zero =>
    intro x v h
    cases h <;> simp only [AV.shm] <;> first
      | exact .bot _ | exact .bool _ | exact .int _ _ | exact .str _ | exact .nilp | exact .nils | exact .nilm | exact .nilf
      | exact hp _ _ _ _ _ (by assumption)
      | skip
    rename_i a c hn hc hf hadr
    exact hs _ _ _ _ _ _ _ hn hc hf hadr
  | succ n ih =>
    intro x v h
    cases h <;> simp only [AV.shm] <;> first
      | exact .bot _ | exact .bool _ | exact .int _ _ | exact .str _ | exact .nilp | exact .nils | exact .nilm | exact .nilf
      | exact hp _ _ _ _ _ (by assumption)
      | skip
    · rename_i a c hn hc hf hadr
      exact hs _ _ _ _ _ _ _ hn hc hf hadr
    · rename_i hl' hh
      exact .fn _ _ _ (by simpa using hl') (hl n ih _ _ hh)
    · rename_i hl' hh
      exact .agg _ _ (by simpa using hl') (hl n ih _ _ hh)
    · rename_i hl' hh
      exact .tup _ _ (by simpa using hl') (hl n ih _ _ hh)

/-- A block, only to be read. -/
def frozBm (h1 : AHeap) (m d : Nat) (i : Nat) : Blk → Blk
  | .cells _ _ cs => if h1.valid i then .cells none 0 (cs.map (AV.shm m d 4)) else .cells none 0 []
  | .obj _ _ => .cells none 0 []
def AHeap.frozm (h : AHeap) (m : Nat) (h1 : AHeap) : AHeap := ⟨h.blks ++ (h1.blks.mapIdx (frozBm h1 m h.next)).drop m, h.fams, h.globs⟩

theorem frozm_next (h : AHeap) (m : Nat) (h1 : AHeap) : (h.frozm m h1).next = h.next + (h1.next - m) := by simp [AHeap.frozm, AHeap.next]
theorem frozm_old (h : AHeap) (m : Nat) (h1 : AHeap) {b : Nat} (hb : b < h.next) : (h.frozm m h1).get b = h.get b := List.getElem?_append_left hb
theorem frozm_new (h : AHeap) (m : Nat) (h1 : AHeap) (b : Nat) : (h.frozm m h1).get (h.next + b) = (h1.get (m + b)).map (frozBm h1 m h.next (m + b)) := by
  simp only [AHeap.frozm, AHeap.get, AHeap.next]
  rw [List.getElem?_append_right (by omega), Nat.add_sub_cancel_left, List.getElem?_drop, List.getElem?_mapIdx]
theorem frozm_keeps (h : AHeap) (m : Nat) (h1 : AHeap) : Keeps h (h.frozm m h1) := ⟨by rw [frozm_next]; omega, Nat.le_refl _, rfl, fun b hb => frozm_old h m h1 hb, fun _ _ => rfl⟩
theorem frozm_ro {h : AHeap} {m : Nat} {h1 : AHeap} {b : Nat} {B : Blk} (hb : h.next ≤ b) (hB : (h.frozm m h1).get b = some B) : ∃ cs, B = .cells none 0 cs := by
  obtain ⟨q, rfl⟩ : ∃ q, b = h.next + q := ⟨b - h.next, by omega⟩
  rw [frozm_new, Option.map_eq_some_iff] at hB
  obtain ⟨C, _, rfl⟩ := hB
  unfold frozBm
  split
  · split
    · exact ⟨_, rfl⟩
    · exact ⟨_, rfl⟩
  · exact ⟨_, rfl⟩

theorem Ev.over {P : Program} {f : FuncId} {args args' : List AV} {r : AV} {hA h1 : AHeap} (he : Ev P f args' hA r h1) (hro : ∀ b B, hA.get b = some B → ∃ p cs, B = .cells none p cs) (h : AHeap)
    (hrel : ∀ φ w cs, HRel φ h w → VRels φ args cs → ∃ φA, (∀ b, hA.next ≤ b → φA b = none) ∧ HRel φA hA w ∧ VRels φA args' cs) : Ev P f args h (AV.shm hA.next h.next 4 r) (h.frozm hA.next h1) := by
  obtain ⟨hrun, hgrow, hev⟩ := he
  have hm : hA.next ≤ h1.next := hgrow.next
  generalize hmm : hA.next = m at *
  refine ⟨hrun, ⟨(frozm_keeps h m h1).next, Nat.le_refl _, rfl, fun b hb => by rw [frozm_old h m h1 hb]⟩, ?_⟩
  intro φ w cs hfr rr ha
  obtain ⟨φA, hfA, hrA, hvA⟩ := hrel φ w cs rr ha
  refine (hev φA w cs (fun b h1 _ => hfA b (by omega)) hrA hvA).mono ?_
  rintro e w' ⟨v, φ', rfl, t, r', hv⟩
  have hk : ∀ k, k < w.heap.size → w'.heap[k]? = w.heap[k]? := fun k hk => t.frame k hk (by
    rintro ⟨b, i, z, hb, ⟨F, p, cs, hm⟩ | ⟨F, x, hm⟩⟩
    · obtain ⟨_, _, h2⟩ := hro _ _ hm; cases h2
    · obtain ⟨_, _, h2⟩ := hro _ _ hm; cases h2)
  have himg : ∀ b k i z, m ≤ b → φ' b = some (k, i, z) → w.heap.size ≤ k := by
    intro b k i z hmb hb
    rcases t.img b k i z (hfA b hmb) hb with h2 | ⟨_, _, _, _, _, _, h2, h3⟩
    · exact h2
    · obtain ⟨_, _, h4⟩ := hro _ _ h3; cases h4
  have hdom : ∀ b p, m ≤ b → φ' b = some p → b < h1.next := fun b p hmb hb => (t.new b p (hfA b hmb) hb).2
  let ψ : Emb := fun b => if h.next ≤ b ∧ b < h.next + (h1.next - m) then φ' (m + (b - h.next)) else φ b
  have hψ : ∀ b p, ψ b = some p → (h.next ≤ b ∧ φ' (m + (b - h.next)) = some p) ∨ (¬ (h.next ≤ b ∧ b < h.next + (h1.next - m)) ∧ φ b = some p) := by
    intro b p hb
    by_cases hc : h.next ≤ b ∧ b < h.next + (h1.next - m)
    · simp only [ψ, if_pos hc] at hb; exact .inl ⟨hc.1, hb⟩
    · simp only [ψ, if_neg hc] at hb; exact .inr ⟨hc, hb⟩
  have hnew : ∀ b p, m ≤ b → φ' b = some p → ψ (h.next + (b - m)) = some p := by
    intro b p hmb hb
    have := hdom b p hmb hb
    simp only [ψ]
    rw [if_pos ⟨by omega, by omega⟩, Nat.add_sub_cancel_left, show m + (b - m) = b by omega]; exact hb
  have hle : φ.le ψ := by
    intro b p hb
    have : ¬ (h.next ≤ b ∧ b < h.next + (h1.next - m)) := by
      rintro ⟨c1, c2⟩
      have := hfr b c1 (by rw [frozm_next]; exact c2)
      rw [hb] at this; cases this
    simp only [ψ, if_neg this]; exact hb
  have hold : ∀ b B, ¬ (h.next ≤ b ∧ b < h.next + (h1.next - m)) → (h.frozm m h1).get b = some B → b < h.next ∧ h.get b = some B := by
    intro b B hc hB
    have h2 := AHeap.get_lt hB
    rw [frozm_next] at h2
    have h3 : b < h.next := by omega
    rw [frozm_old h m h1 h3] at hB
    exact ⟨h3, hB⟩
  have hfm : ∀ b F p cs', (h.frozm m h1).get b = some (.cells (some F) p cs') → b < h.next ∧ h.get b = some (.cells (some F) p cs') := by
    intro b F p cs' hB
    by_cases hb : b < h.next
    · rw [frozm_old h m h1 hb] at hB; exact ⟨hb, hB⟩
    · obtain ⟨_, h2⟩ := frozm_ro (by omega) hB
      cases h2
  have hom : ∀ b F x, (h.frozm m h1).get b = some (.obj F x) → b < h.next ∧ h.get b = some (.obj F x) := by
    intro b F x hB
    by_cases hb : b < h.next
    · rw [frozm_old h m h1 hb] at hB; exact ⟨hb, hB⟩
    · obtain ⟨_, h2⟩ := frozm_ro (by omega) hB
      cases h2
  have hψold : ∀ b p, b < h.next → ψ b = some p → φ b = some p := by
    intro b p hb h2
    rcases hψ b p h2 with ⟨h3, _⟩ | ⟨_, h3⟩
    · omega
    · exact h3
  refine ⟨v, ψ, rfl, ⟨hle, ?_, ?_, ?_, fun k hk' _ => hk k hk', t.os, t.tape, t.output, t.size⟩, ?_, AV.shm_rel hnew 4 r v hv⟩
  · intro b h2 h3
    rw [frozm_next] at h3
    obtain ⟨p, hp⟩ := t.dom (m + (b - h.next)) (by omega) (by omega)
    refine ⟨p, ?_⟩
    have := hnew _ _ (by omega) hp
    rwa [show h.next + (m + (b - h.next) - m) = b by omega] at this
  · intro b p h2 h3
    rw [frozm_next]
    rcases hψ b p h3 with ⟨h4, h5⟩ | ⟨_, h4⟩
    · have := hdom _ _ (by omega) h5; omega
    · rw [h2] at h4; cases h4
  · intro b k i z h2 h3
    rcases hψ b _ h3 with ⟨h4, h5⟩ | ⟨_, h4⟩
    · exact .inl (himg _ _ _ _ (by omega) h5)
    · rw [h2] at h4; cases h4
  refine ⟨?_, ?_, ?_, ?_, ?_, ?_, ?_, ?_⟩
  · intro g hg
    obtain ⟨z, hz⟩ := rr.glob g hg
    exact ⟨z, hle _ _ hz⟩
  · intro b k i z hb
    rcases hψ b _ hb with ⟨_, h5⟩ | ⟨_, h4⟩
    · exact r'.lt _ _ _ _ h5
    · exact Nat.lt_of_lt_of_le (rr.lt b k i z h4) t.size
  · intro b k i z B hb hB hvd
    by_cases hlt : b < h.next
    · have hb' := hψold b _ hlt hb
      rw [frozm_old h m h1 hlt] at hB
      refine ((rr.blk b k i z B hb' hB ?_).world (hk k (rr.lt b k i z hb'))).mono hle
      unfold AHeap.valid at hvd ⊢
      rw [frozm_old h m h1 hlt] at hvd
      exact hvd
    · obtain ⟨q, rfl⟩ : ∃ q, b = h.next + q := ⟨b - h.next, by omega⟩
      rw [frozm_new, Option.map_eq_some_iff] at hB
      obtain ⟨C, hC, rfl⟩ := hB
      have hbq : φ' (m + q) = some (k, i, z) := by
        rcases hψ _ _ hb with ⟨_, h5⟩ | ⟨h4, _⟩
        · rwa [Nat.add_sub_cancel_left] at h5
        · exact absurd ⟨by omega, by have := AHeap.get_lt hC; omega⟩ h4
      cases C with
      | obj F x => intro j x hx; simp at hx
      | cells F p cs' =>
        simp only [frozBm]
        split
        · rename_i hval
          have hBR := r'.blk (m + q) k i z _ hbq hC hval
          intro j x hx
          rw [List.getElem?_map, Option.map_eq_some_iff] at hx
          obtain ⟨y, hy, rfl⟩ := hx
          obtain ⟨u, hu, hru⟩ := hBR.cell hy
          exact ⟨u, hu, AV.shm_rel hnew 4 y u hru⟩
        · intro j x hx; simp at hx
  · intro b k i z F p cs' hb hB
    obtain ⟨hlt, hB'⟩ := hfm b F p cs' hB
    have hb' := hψold b _ hlt hb
    obtain ⟨c, e, h2, h3⟩ := rr.arr b k i z F p cs' hb' hB'
    exact ⟨c, e, (hk k (rr.lt b k i z hb')).trans h2, h3⟩
  · intro b b' k i i' z z' F F' p p' c1 c2 hb hb' hB hB'
    obtain ⟨hlt, hB⟩ := hfm b F p c1 hB
    obtain ⟨hlt', hB'⟩ := hfm b' F' p' c2 hB'
    exact rr.one b b' k i i' z z' F F' p p' c1 c2 (hψold b _ hlt hb) (hψold b' _ hlt' hb') hB hB'
  · intro b b' k i i' z z' F p p' c1 c2 hb hb' hB hB'
    obtain ⟨hlt, hB⟩ := hfm b F p c1 hB
    have hb1 := hψold b _ hlt hb
    have hk1 := rr.lt b k i z hb1
    rcases hψ b' _ hb' with ⟨_, h5⟩ | ⟨h4, h5⟩
    · have := himg _ _ _ _ (by omega) h5; omega
    · obtain ⟨_, hB2⟩ := hold b' _ h4 hB'
      exact rr.sep b b' k i i' z z' F p p' c1 c2 hb1 h5 hB hB2
  · intro b b' k i i' z z' F x B hb hb' hB hB'
    obtain ⟨hlt, hB⟩ := hom b F x hB
    have hb1 := hψold b _ hlt hb
    have hk1 := rr.lt b k i z hb1
    rcases hψ b' _ hb' with ⟨_, h5⟩ | ⟨h4, h5⟩
    · have := himg _ _ _ _ (by omega) h5; omega
    · obtain ⟨_, hB2⟩ := hold b' _ h4 hB'
      exact rr.map b b' k i i' z z' F x B hb1 h5 hB hB2
  · intro b F p cs' hB
    obtain ⟨hlt, hB'⟩ := hfm b F p cs' hB
    exact rr.ext b F p cs' hB'

end Go.Am

namespace Go.Am

/-- A row of the arguments: its value, the cells of an element, its cells, and these as the kernel's run has them. -/
structure ArgB where
  v : AV
  s : Nat
  xs : List AV
  ys : List AV

/-- What stands for a value in the kernel's run. -/
inductive Im (bs : List ArgB) : AV → AV → Prop where
  | plain (x : AV) (h : x.plain = true) : Im bs x x
  | slc (b n : Nat) (p : ArgB) (hb : bs[b]? = some p) (hn : p.xs.length = n * p.s) : Im bs p.v (.slc b 0 n p.s false)
  | agg (l l' : List AV) (hl : l.length = l'.length) (h : ∀ (j : Nat) (x y : AV), l[j]? = some x → l'[j]? = some y → Im bs x y) : Im bs (.agg l) (.agg l')
structure OkB (h : AHeap) (bs : List ArgB) (p : ArgB) : Prop where
  rd : Rd h p.v p.s p.xs
  pos : 0 < p.s
  ne : p.xs ≠ []
  len : p.xs.length = p.ys.length
  im : ∀ (j : Nat) (x y : AV), p.xs[j]? = some x → p.ys[j]? = some y → Im bs x y

/-- Where a row's cells begin. -/
def embA (φ : Emb) (bs : List ArgB) : Emb := fun b => match bs[b]? with
  | some p => match p.v with
    | .slc b0 o _ _ _ => (φ b0).map fun q => (q.1, q.2.1 + o, q.2.2)
    | _ => none
  | none => none
theorem OkB.slc {h : AHeap} {bs : List ArgB} {p : ArgB} (ok : OkB h bs p) : ∃ b0 o n full F q cs, p.v = .slc b0 o n p.s full ∧ p.xs.length = n * p.s ∧ h.get b0 = some (.cells F q cs) ∧ h.valid b0 = true ∧ (cs.drop o).take p.xs.length = p.xs := by
  rcases ok.rd with ⟨_, h2⟩ | ⟨b, o, F, q, cs, hv, h1, h2, h3⟩ | ⟨_, _, _, _, h2, _⟩
  · exact absurd h2 ok.ne
  · rcases hv with ⟨n, full, e1, e2, _⟩ | ⟨e, _⟩
    · exact ⟨b, o, n, full, F, q, cs, e1, e2, h1, h2, h3⟩
    · have := ok.pos; omega
  · have := ok.pos; omega
theorem Im.rel {h : AHeap} {φ : Emb} {bs : List ArgB} (hok : ∀ p ∈ bs, OkB h bs p) {x y : AV} (hi : Im bs x y) : ∀ {u : Value}, VRel φ x u → VRel (embA φ bs) y u := by
  induction hi with
  | plain x h => intro u hv; cases hv <;> simp only [AV.plain, Bool.false_eq_true] at h <;> first | exact .bool _ | exact .int _ _ | exact .str _ | exact .nilp | exact .nils | exact .nilm | exact .nilf
  | slc b n p hb hn =>
    intro u hv
    have ok := hok p (List.mem_of_getElem? hb)
    obtain ⟨b0, o, n', full, F, q, cs, e1, e2, _, _, _⟩ := ok.slc
    have hpos := ok.pos
    have hnn : n' = n := Nat.eq_of_mul_eq_mul_right hpos (by rw [← e2, hn])
    subst hnn
    have he : embA φ bs b = (φ b0).map fun q => (q.1, q.2.1 + o, q.2.2) := by simp only [embA, hb, e1]
    rw [e1] at hv
    cases hv with
    | slc _ _ _ _ _ a c h1 h2 h3 h4 =>
      refine .slc _ _ _ _ _ _ _ h1 h2 (fun h => by cases h) ?_
      rcases h4 with h4 | ⟨k, i, z, h4, h5, h6⟩
      · exact .inl h4
      · exact .inr ⟨k, i + o, z, by rw [he, h4]; rfl, by rw [h5]; rfl, by omega⟩
  | agg l l' hl h ih =>
    intro u hv
    cases hv with
    | agg _ cs h1 h2 =>
      refine .agg _ _ (by omega) ?_
      intro j y c hy hc
      have hj : j < l.length := by have := (List.getElem?_eq_some_iff.1 hy).1; omega
      exact ih j _ y (List.getElem?_eq_getElem hj) hy (h2 j _ c (List.getElem?_eq_getElem hj) hc)
/-- Values without addresses, compared. -/
def AV.isP : Nat → AV → AV → Bool
  | _, .bool a, .bool b => a == b
  | _, .int k a, .int k' b => decide (k = k') && decide (a = b)
  | _, .str a, .str b => decide (a = b)
  | _, .nils, .nils => true
  | n + 1, .tup l, .tup l' => decide (l.length = l'.length) && (l.zip l').all fun p => AV.isP n p.1 p.2
  | n + 1, .agg l, .agg l' => decide (l.length = l'.length) && (l.zip l').all fun p => AV.isP n p.1 p.2
  | _, _, _ => false
theorem isPs_eq {f : AV → AV → Bool} (hf : ∀ x y, f x y = true → x = y) : ∀ l l' : List AV, l.length = l'.length → ((l.zip l').all fun p => f p.1 p.2) = true → l = l' := by
  intro l
  induction l with
  | nil => intro l' h _; cases l' with
    | nil => rfl
    | cons _ _ => cases h
  | cons a l ih => intro l' h h2; cases l' with
    | nil => cases h
    | cons b l' =>
      rw [List.zip_cons_cons, List.all_cons, Bool.and_eq_true] at h2
      have e : a = b := hf _ _ h2.1
      rw [e, ih l' (Nat.succ.inj h) h2.2]
theorem AV.isP_eq : ∀ (n : Nat) (x y : AV), AV.isP n x y = true → x = y := by
  intro n
  induction n with
  | zero =>
    intro x y h
    unfold AV.isP at h
    split at h
    · rw [beq_iff_eq] at h; rw [h]
    · rw [Bool.and_eq_true, decide_eq_true_iff, decide_eq_true_iff] at h; rw [h.1, h.2]
    · rw [decide_eq_true_iff] at h; rw [h]
    · rfl
    · rename_i e; cases e
    · rename_i e; cases e
    · cases h
  | succ n ih =>
    intro x y h
    unfold AV.isP at h
    split at h
    · rw [beq_iff_eq] at h; rw [h]
    · rw [Bool.and_eq_true, decide_eq_true_iff, decide_eq_true_iff] at h; rw [h.1, h.2]
    · rw [decide_eq_true_iff] at h; rw [h]
    · rfl
    · rename_i e
      cases e
      rw [Bool.and_eq_true, decide_eq_true_iff] at h
      rw [isPs_eq ih _ _ h.1 h.2]
    · rename_i e
      cases e
      rw [Bool.and_eq_true, decide_eq_true_iff] at h
      rw [isPs_eq ih _ _ h.1 h.2]
    · cases h
end Go.Am
