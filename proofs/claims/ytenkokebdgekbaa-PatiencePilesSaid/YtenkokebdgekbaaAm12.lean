/-
  The abstract machine: a region whose order is open: one run in the order of the text serves every order, where a check over its edges says yes.
  Conditions: none.
-/
import Derived.Test.YtenkokebdgekbaaAm11
namespace Go.Am

/-- Operation i must come behind operation j. -/
inductive Dep (ops : Array Oper) : Nat → Nat → Prop where
  | edge (i : Nat) (o : Oper) (e : Edge) (ho : ops[i]? = some o) (he : e ∈ o.after) (hb : Region.binds .any e = true) : Dep ops i e.on
  | trans (i j k : Nat) (h : Dep ops i j) (h' : Dep ops j k) : Dep ops i k

/-- What the check says. -/
structure RgOk (sz : Nat) (ops : Array Oper) (ex : List Nat) : Prop where
  back : ∀ (i : Nat) (o : Oper) e, ops[i]? = some o → e ∈ o.after → Region.binds .any e = true → e.on < i
  dst : ∀ (i : Nat) (o : Oper) d, ops[i]? = some o → o.dst = some d → d < sz
  inj : ∀ (i j : Nat) (oi oj : Oper) d, ops[i]? = some oi → ops[j]? = some oj → oi.dst = some d → oj.dst = some d → i = j
  opnd : ∀ (i j : Nat) (oi oj : Oper) t, ops[i]? = some oi → ops[j]? = some oj → .tmp t ∈ oi.op.operands → oj.dst = some t → (j < i ∧ Dep ops i j) ∨ (i < j ∧ Dep ops j i)
  guard : ∀ (i : Nat) (o : Oper) g want, ops[i]? = some o → o.guard = some (g, want) → Dep ops i g
  chain : ∀ (i j : Nat) (oi oj : Oper), ops[i]? = some oi → ops[j]? = some oj → clsOf oi.op = .chain → clsOf oj.op = .chain → j < i → Dep ops i j
  read : ∀ (c r : Nat) (oc or : Oper), ops[c]? = some oc → ops[r]? = some or → clsOf oc.op = .chain → clsOf or.op = .read → ex.contains c = true ∨ Dep ops c r ∨ Dep ops r c
  allo : ∀ (c j : Nat) (oc oj : Oper), ops[c]? = some oc → ops[j]? = some oj → clsOf oc.op = .chain → clsOf oj.op = .allo → j < c → ex.contains c = true ∨ Dep ops c j

/-- One operation in the order of the text. -/
def TS (P : Program) (ops : Array Oper) (ex : List Nat) (i : Nat) (o : Oper) (fr : List AV) (h : AHeap) (v : AV) (fr' : List AV) (h' : AHeap) : Prop :=
  fr' = setF fr o.dst v ∧
  ((∃ j want b, o.guard = some (j, want) ∧ guardA ops fr j = some b ∧ b ≠ some want ∧ v = .tup [] ∧ h' = h) ∨
   ((o.guard = none ∨ ∃ j want, o.guard = some (j, want) ∧ guardA ops fr j = some (some want)) ∧ SemStep P (evalA h.globs fr) o h v h' ∧ (ex.contains i = true → WFH h → HExt h h')))

theorem aops_text {P : Program} {ops : Array Oper} {ex : List Nat} {K : List AV → AHeap → Prop} : ∀ (l : List Oper) (k : Nat) (fr : List AV) (h : AHeap), (∀ i, l[i]? = ops[k + i]?) → AOps P ops ex K k l fr h →
    ∃ (vs : Nat → AV) (frs : Nat → List AV) (hs : Nat → AHeap), frs k = fr ∧ hs k = h ∧ K (frs (k + l.length)) (hs (k + l.length)) ∧
      ∀ i o, k ≤ i → i < k + l.length → ops[i]? = some o → TS P ops ex i o (frs i) (hs i) (vs i) (frs (i + 1)) (hs (i + 1)) := by
  intro l
  induction l with
  | nil => intro k fr h _ hk; exact ⟨fun _ => .bot, fun _ => fr, fun _ => h, rfl, rfl, hk, fun i o h1 h2 => by simp at h2; omega⟩
  | cons o os ih =>
    intro k fr h hl hA
    have ho : ops[k]? = some o := by have := hl 0; simpa using this.symm
    have hl' : ∀ i, os[i]? = ops[k + 1 + i]? := by
      intro i
      have := hl (i + 1)
      simp only [List.getElem?_cons_succ] at this
      rw [this]; congr 1; omega
    have hglue : ∀ v h1, TS P ops ex k o fr h v (setF fr o.dst v) h1 → AOps P ops ex K (k + 1) os (setF fr o.dst v) h1 →
        ∃ (vs : Nat → AV) (frs : Nat → List AV) (hs : Nat → AHeap), frs k = fr ∧ hs k = h ∧ K (frs (k + (o :: os).length)) (hs (k + (o :: os).length)) ∧
          ∀ i o', k ≤ i → i < k + (o :: os).length → ops[i]? = some o' → TS P ops ex i o' (frs i) (hs i) (vs i) (frs (i + 1)) (hs (i + 1)) := by
      intro v h1 hts hrest
      obtain ⟨vs, frs, hs, e1, e2, hK, hall⟩ := ih (k + 1) _ h1 hl' hrest
      refine ⟨fun i => if i = k then v else vs i, fun i => if i = k then fr else frs i, fun i => if i = k then h else hs i, by simp, by simp, ?_, ?_⟩
      · have e : k + (o :: os).length = k + 1 + os.length := by simp; omega
        rw [e]
        simp only [if_neg (show ¬ k + 1 + os.length = k by omega)]
        exact hK
      · intro i o' h1' h2' ho'
        by_cases hik : i = k
        · subst hik
          rw [ho] at ho'; cases ho'
          simp only [if_true, if_neg (show ¬ i + 1 = i by omega), e1, e2]
          exact hts
        · simp only [if_neg hik, if_neg (show ¬ i + 1 = k by omega)]
          exact hall i o' (by omega) (by simp at h2'; omega) ho'
    unfold AOps at hA
    cases hgd : o.guard with
    | none =>
      simp only [hgd] at hA
      obtain ⟨v, h1, hs, hex, hrest⟩ := hA
      exact hglue v h1 ⟨rfl, .inr ⟨.inl hgd, hs, hex⟩⟩ hrest
    | some jw =>
      obtain ⟨j, want⟩ := jw
      simp only [hgd] at hA
      obtain ⟨b, hb, hyes, hno⟩ := hA
      by_cases hbw : b = some want
      · obtain ⟨v, h1, hs, hex, hrest⟩ := hyes hbw
        exact hglue v h1 ⟨rfl, .inr ⟨.inr ⟨j, want, hgd, by rw [← hbw]; exact hb⟩, hs, hex⟩⟩ hrest
      · exact hglue (.tup []) h ⟨rfl, .inl ⟨j, want, b, hgd, hb, hbw, rfl, rfl⟩⟩ (hno hbw)

section drawn
variable {P : Program} {ops : Array Oper} {ex : List Nat} {sz : Nat} {vs : Nat → AV} {frs : Nat → List AV} {hs : Nat → AHeap}

theorem TS.grow {i : Nat} {o : Oper} {fr fr' : List AV} {h h' : AHeap} {v : AV} (t : TS P ops ex i o fr h v fr' h') : HGrow h h' := by
  rcases t.2 with ⟨_, _, _, _, _, _, _, rfl⟩ | ⟨_, hs, _⟩
  · exact HGrow.refl _
  · exact hs.stepS.1

/-- In the order of the text there is a world at each place. -/
theorem text_states (hts : ∀ i o, i < ops.size → ops[i]? = some o → TS P ops ex i o (frs i) (hs i) (vs i) (frs (i + 1)) (hs (i + 1)))
    {φ0 : Emb} {a0 : Act} {w0 : World} (hfr : Fresh φ0 (hs 0) (hs ops.size)) (s0 : Sim φ0 (frs 0) (hs 0) a0 w0) :
    (∀ i, i ≤ ops.size → HGrow (hs 0) (hs i)) ∧ (∀ i, i ≤ ops.size → HGrow (hs i) (hs ops.size)) ∧ ∀ i, i ≤ ops.size → ∃ φ a w, Sim φ (frs i) (hs i) a w ∧ Fresh φ (hs i) (hs ops.size) := by
  have hg : ∀ i, i < ops.size → HGrow (hs i) (hs (i + 1)) := fun i hi => (hts i _ hi (Array.getElem?_eq_getElem hi)).grow
  have g0 : ∀ i, i ≤ ops.size → HGrow (hs 0) (hs i) := by
    intro i
    induction i with
    | zero => intro _; exact HGrow.refl _
    | succ i ih => intro hi; exact (ih (by omega)).trans (hg i (by omega))
  have gn : ∀ d i, i + d = ops.size → HGrow (hs i) (hs ops.size) := by
    intro d
    induction d with
    | zero => intro i hi; simp at hi; subst hi; exact HGrow.refl _
    | succ d ih => intro i hi; exact (hg i (by omega)).trans (ih (i + 1) (by omega))
  have gn' : ∀ i, i ≤ ops.size → HGrow (hs i) (hs ops.size) := fun i hi => gn (ops.size - i) i (by omega)
  refine ⟨g0, gn', ?_⟩
  intro i
  induction i with
  | zero => intro _; exact ⟨φ0, a0, w0, s0, hfr⟩
  | succ i ih =>
    intro hi
    obtain ⟨φ, a, w, s, hf⟩ := ih (by omega)
    have ho := Array.getElem?_eq_getElem (xs := ops) (i := i) (by omega)
    have t := hts i _ (by omega) ho
    obtain ⟨hfr', t2⟩ := t
    rcases t2 with ⟨j, want, b, _, _, _, hv, hh⟩ | ⟨_, hst, _⟩
    · rw [hfr', hh, hv]
      exact ⟨φ, a.put ops[i].dst undef, w, ⟨s.heap, s.fr.put _ (VRel.undef φ)⟩, hf⟩
    · obtain ⟨g, hrun⟩ := hst.stepS
      have := hrun φ a w (fun a' w' => ∃ φ', Trans φ (hs i) w φ' (hs (i + 1)) w' ∧ Sim φ' (frs (i + 1)) (hs (i + 1)) a' w') (fun _ _ _ => False) (hf.left (gn' (i + 1) (by omega))) s.heap (fun x _ => evalA_rel s.heap s.fr x) (by
        intro φ' c w' t' r' hv'
        rw [hfr']
        exact ⟨φ', t', r', (s.fr.mono t'.le).put _ hv'⟩)
      obtain ⟨a', w', φ', t', s'⟩ := wp_some this
      exact ⟨φ', a', w', s', hf.right g t'⟩

/-- What holds while operations are taken in some order. -/
structure Inv (P : Program) (ops : Array Oper) (ex : List Nat) (sz : Nat) (vs : Nat → AV) (frs : Nat → List AV) (hs : Nat → AHeap) (φ0 : Emb) (w0 : World) (L : Nat → Bool) (φ : Emb) (a : Act) (w : World) : Prop where
  closed : ∀ i (o : Oper) e, ops[i]? = some o → L i = true → e ∈ o.after → Region.binds .any e = true → L e.on = true
  lt : ∀ i, L i = true → i < ops.size
  defers : a.defers = []
  size : a.tmps.size = sz
  new : ∀ i (o : Oper) d v, ops[i]? = some o → L i = true → o.dst = some d → a.tmps[d]? = some v → VRel φ (vs i) v
  old : ∀ (t : Nat) (x : AV) (v : Value), (∀ i (o : Oper), ops[i]? = some o → L i = true → o.dst ≠ some t) → (frs 0)[t]? = some x → a.tmps[t]? = some v → VRel φ x v
  free : ∀ i, i < ops.size → L i = false → ∀ b, (hs i).next ≤ b → b < (hs (i + 1)).next → φ b = none
  defd : ∀ i, L i = true → ∀ b, (hs i).next ≤ b → b < (hs (i + 1)).next → ∃ p, φ b = some p
  glob : ∀ g ∈ (hs 0).globs, ∃ z, φ g = some (g, 0, z)
  lies : ∀ b k i z, φ b = some (k, i, z) → k < w.heap.size
  heap : ∀ i, i ≤ ops.size → (∀ c (o : Oper), ops[c]? = some o → clsOf o.op = .chain → hs (c + 1) ≠ hs c → ((c < i ∧ L c = false) ∨ (i ≤ c ∧ L c = true)) → ex.contains c = true) → HRel φ (hs i) w
  own : ∀ j (o : Oper) cs, ops[j]? = some o → L j = true → clsOf o.op = .allo → hs (j + 1) = (hs j).alloc cs → (∀ c (o : Oper), ops[c]? = some o → clsOf o.op = .chain → L c = true → c < j) → Own φ w (hs j).next cs
  -- towards the whole step
  le : φ0.le φ
  fresh : ∀ b p, φ0 b = none → φ b = some p → (hs 0).next ≤ b ∧ b < (hs ops.size).next
  img : ∀ b k i z, φ0 b = none → φ b = some (k, i, z) → w0.heap.size ≤ k ∨ ∃ b0 i0 z0 F p cs, φ0 b0 = some (k, i0, z0) ∧ (hs 0).get b0 = some (.cells (some F) p cs)
  frame : ∀ k, k < w0.heap.size → ¬ (hs 0).mut φ0 k → w.heap[k]? = w0.heap[k]?
  os : w.os = w0.os
  tape : w.tape = w0.tape
  output : w.output = w0.output
  wsize : w0.heap.size ≤ w.heap.size

theorem Dep.lt (hok : RgOk sz ops ex) {i j : Nat} (h : Dep ops i j) : j < i := by
  induction h with
  | edge i o e ho he hb => exact hok.back i o e ho he hb
  | trans i j k _ _ h1 h2 => omega

theorem Dep.closed {L : Nat → Bool} (hcl : ∀ i (o : Oper) e, ops[i]? = some o → L i = true → e ∈ o.after → Region.binds .any e = true → L e.on = true) {i j : Nat} (h : Dep ops i j) : L i = true → L j = true := by
  induction h with
  | edge i o e ho he hb => intro hL; exact hcl i o e ho hL he hb
  | trans i j k _ _ h1 h2 => intro hL; exact h2 (h1 hL)

theorem Dep.ready {L : Nat → Bool} (hcl : ∀ i (o : Oper) e, ops[i]? = some o → L i = true → e ∈ o.after → Region.binds .any e = true → L e.on = true) {i j : Nat} {o : Oper} (ho : ops[i]? = some o)
    (hr : ∀ e ∈ o.after, Region.binds .any e = true → L e.on = true) (h : Dep ops i j) : L j = true := by
  induction h with
  | edge i o' e ho' he hb => rw [ho] at ho'; cases ho'; exact hr e he hb
  | trans i j k _ h2 h1 _ => exact h2.closed hcl (h1 ho)

/-- What the heaps of the text are among themselves. -/
structure Txt (P : Program) (ops : Array Oper) (ex : List Nat) (sz : Nat) (vs : Nat → AV) (frs : Nat → List AV) (hs : Nat → AHeap) : Prop where
  ts : ∀ i o, i < ops.size → ops[i]? = some o → TS P ops ex i o (frs i) (hs i) (vs i) (frs (i + 1)) (hs (i + 1))
  wf : ∀ i, i ≤ ops.size → WFH (hs i)
  glob : ∀ i, i ≤ ops.size → (hs i).globs = (hs 0).globs
  size : (frs 0).length = sz

theorem Txt.len (T : Txt P ops ex sz vs frs hs) : ∀ i, i ≤ ops.size → (frs i).length = sz := by
  intro i
  induction i with
  | zero => intro _; exact T.size
  | succ i ih =>
    intro hi
    have t := T.ts i _ (by omega) (Array.getElem?_eq_getElem (by omega))
    rw [t.1]
    unfold setF
    split
    · rw [List.length_set]; exact ih (by omega)
    · exact ih (by omega)

theorem Txt.nextLe (T : Txt P ops ex sz vs frs hs) : ∀ i j, i ≤ j → j ≤ ops.size → HGrow (hs i) (hs j) := by
  intro i j hij hj
  obtain ⟨d, rfl⟩ : ∃ d, j = i + d := ⟨j - i, by omega⟩
  clear hij
  induction d with
  | zero => exact HGrow.refl _
  | succ d ih => exact (ih (by omega)).trans (T.ts (i + d) _ (by omega) (Array.getElem?_eq_getElem (by omega))).grow

/-- A slot of the text's frame. -/
theorem Txt.slot (T : Txt P ops ex sz vs frs hs) (hok : RgOk sz ops ex) : ∀ i, i ≤ ops.size → ∀ t, t < sz →
    ((∃ j o, j < i ∧ ops[j]? = some o ∧ o.dst = some t ∧ (frs i)[t]? = some (vs j)) ∨ ((∀ j (o : Oper), j < i → ops[j]? = some o → o.dst ≠ some t) ∧ (frs i)[t]? = (frs 0)[t]?)) := by
  intro i
  induction i with
  | zero => intro _ t _; exact .inr ⟨fun j o hj => by omega, rfl⟩
  | succ i ih =>
    intro hi t ht
    have ho := Array.getElem?_eq_getElem (xs := ops) (i := i) (by omega)
    have hts := T.ts i _ (by omega) ho
    by_cases hd : ops[i].dst = some t
    · refine .inl ⟨i, ops[i], by omega, ho, hd, ?_⟩
      rw [hts.1]
      simp only [setF, hd]
      rw [List.getElem?_set, if_pos rfl, if_pos (by rw [T.len i (by omega)]; exact ht)]
    · have hsame : (frs (i + 1))[t]? = (frs i)[t]? := by
        rw [hts.1]
        unfold setF
        split
        · rename_i d hd'
          rw [List.getElem?_set_ne]
          rintro rfl
          exact hd hd'
        · rfl
      rcases ih (by omega) t ht with ⟨j, o, hj, hoj, hdj, hv⟩ | ⟨hno, hv⟩
      · exact .inl ⟨j, o, by omega, hoj, hdj, hsame.trans hv⟩
      · refine .inr ⟨?_, hsame.trans hv⟩
        intro j o hj hoj
        by_cases hji : j = i
        · subst hji
          rw [ho] at hoj; cases hoj; exact hd
        · exact hno j o (by omega) hoj

/-- A slot that an operation looks at holds what it holds in the text. -/
theorem Inv.slot {φ0 φ : Emb} {w0 w : World} {a : Act} {L : Nat → Bool} (I : Inv P ops ex sz vs frs hs φ0 w0 L φ a w) (T : Txt P ops ex sz vs frs hs) (hok : RgOk sz ops ex) {i : Nat} {o : Oper} (hi : ops[i]? = some o) (hun : L i = false)
    (hr : ∀ e ∈ o.after, Region.binds .any e = true → L e.on = true) (t : Nat) (hdep : ∀ j oj, ops[j]? = some oj → oj.dst = some t → (j < i ∧ Dep ops i j) ∨ (i < j ∧ Dep ops j i)) :
    VRel φ ((frs i).getD t .bot) (a.tmps.getD t undef) := by
  have hin : i < ops.size := (Array.getElem?_eq_some_iff.1 hi).1
  by_cases ht : t < sz
  · have hta : t < a.tmps.size := by rw [I.size]; exact ht
    rw [List.getD_eq_getElem?_getD, Array.getD_eq_getD_getElem?, Array.getElem?_eq_getElem hta]
    simp only [Option.getD_some]
    rcases T.slot hok i (by omega) t ht with ⟨j, oj, hj, hoj, hdj, hv⟩ | ⟨hno, hv⟩
    · rw [hv]
      rcases hdep j oj hoj hdj with ⟨_, hd⟩ | ⟨hlt, _⟩
      · exact I.new j oj t _ hoj (hd.ready I.closed hi hr) hdj (Array.getElem?_eq_getElem hta)
      · omega
    · rw [hv]
      have h0 : t < (frs 0).length := by rw [T.size]; exact ht
      rw [List.getElem?_eq_getElem h0]
      refine I.old t _ _ ?_ (List.getElem?_eq_getElem h0) (Array.getElem?_eq_getElem hta)
      intro j oj hoj hL hd
      rcases hdep j oj hoj hd with ⟨hlt, _⟩ | ⟨_, hdp⟩
      · exact hno j oj hlt hoj hd
      · have := hdp.closed I.closed hL
        rw [hun] at this; cases this
  · rw [List.getD_eq_getElem?_getD, List.getElem?_eq_none (by rw [T.len i (by omega)]; omega)]
    exact .bot _

theorem Inv.opnd {φ0 φ : Emb} {w0 w : World} {a : Act} {L : Nat → Bool} (I : Inv P ops ex sz vs frs hs φ0 w0 L φ a w) (T : Txt P ops ex sz vs frs hs) (hok : RgOk sz ops ex) {i : Nat} {o : Oper} (hi : ops[i]? = some o) (hun : L i = false)
    (hr : ∀ e ∈ o.after, Region.binds .any e = true → L e.on = true) : ∀ x ∈ o.op.operands, VRel φ (evalA (hs i).globs (frs i) x) (a.eval x) := by
  intro x hx
  cases x with
  | tmp t => exact I.slot T hok hi hun hr t fun j oj hj hd => hok.opnd i j o oj t hi hj hx hd
  | const v => exact AV.of_rel φ 4 v
  | global g =>
    simp only [evalA, Act.eval]
    split
    · rename_i hg
      rw [T.glob i (by have := (Array.getElem?_eq_some_iff.1 hi).1; omega)] at hg
      obtain ⟨z, hz⟩ := I.glob g (by simpa using hg)
      exact .ptr g 0 g 0 z hz
    · exact .bot _
  | func f => exact .fn f [] [] rfl (by simp)

/-- Is it to be done? As the text says. -/
theorem Inv.wanted {φ0 φ : Emb} {w0 w : World} {a : Act} {L : Nat → Bool} (I : Inv P ops ex sz vs frs hs φ0 w0 L φ a w) (T : Txt P ops ex sz vs frs hs) (hok : RgOk sz ops ex) {i : Nat} {o : Oper} (hi : ops[i]? = some o) (hun : L i = false)
    (hr : ∀ e ∈ o.after, Region.binds .any e = true → L e.on = true) {j : Nat} {want : Bool} {b : Option Bool} (hg : o.guard = some (j, want)) (hb : guardA ops (frs i) j = some b) : yielded ops a.tmps j = b := by
  have hin : i < ops.size := (Array.getElem?_eq_some_iff.1 hi).1
  have hdep := hok.guard i o j want hi hg
  unfold guardA at hb
  split at hb
  · rename_i d hd
    obtain ⟨oj, hoj, hdj⟩ : ∃ oj, ops[j]? = some oj ∧ oj.dst = some d := by
      cases hoj : ops[j]? with
      | none => rw [hoj] at hd; cases hd
      | some oj => rw [hoj] at hd; exact ⟨oj, rfl, hd⟩
    have := I.slot T hok hi hun hr d fun j' oj' hj' hd' => by
      have := hok.inj j' j oj' oj d hj' hoj hd' hdj
      subst this
      exact .inl ⟨hdep.lt hok, hdep⟩
    have hlt : d < a.tmps.size := by
      rw [I.size]
      exact hok.dst j oj d hoj hdj
    split at hb
    · rename_i b' hb'
      cases hb
      exact (yielded_of hd this).1 _ hb' hlt
    · rename_i l hb'
      cases hb
      exact (yielded_of hd this).2 _ hb'
    · cases hb
  · cases hb

end drawn

end Go.Am
