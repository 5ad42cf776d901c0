/-
  The abstract machine: a region whose order is open: each step keeps the invariant; the whole.
  Conditions: none.
-/
import Derived.Test.YtenkokebdgekbaaAm12
namespace Go.Am

section drawn
variable {P : Program} {ops : Array Oper} {ex : List Nat} {sz : Nat} {vs : Nat → AV} {frs : Nat → List AV} {hs : Nat → AHeap}

/-- May the operation change what is known of old blocks? -/
def Quiet (ops : Array Oper) (ex : List Nat) (hs : Nat → AHeap) (k : Nat) : Prop := ∀ (o : Oper), ops[k]? = some o → clsOf o.op = .chain → hs (k + 1) ≠ hs k → ex.contains k = true

theorem Txt.ext (T : Txt P ops ex sz vs frs hs) {k : Nat} (hk : k < ops.size) (q : Quiet ops ex hs k) : HExt (hs k) (hs (k + 1)) := by
  have ho := Array.getElem?_eq_getElem (xs := ops) (i := k) hk
  by_cases hsame : hs (k + 1) = hs k
  · rw [hsame]; exact HExt.refl _
  · rcases (T.ts k _ hk ho).2 with ⟨_, _, _, _, _, _, _, h⟩ | ⟨_, hst, hex⟩
    · exact absurd h hsame
    · cases hc : clsOf ops[k].op with
      | pure => unfold SemStep at hst; rw [hc] at hst; exact absurd hst.2 hsame
      | read => unfold SemStep at hst; rw [hc] at hst; exact absurd hst.2 hsame
      | allo =>
        unfold SemStep at hst; rw [hc] at hst
        obtain ⟨mk, cs, _, _, h⟩ := hst
        rw [h]
        exact HExt.alloc' (T.wf k (by omega)) cs
      | chain => exact hex (q _ ho hc hsame) (T.wf k (by omega))

theorem Txt.extRange (T : Txt P ops ex sz vs frs hs) {i j : Nat} (hij : i ≤ j) (hj : j ≤ ops.size) (q : ∀ k, i ≤ k → k < j → Quiet ops ex hs k) : HExt (hs i) (hs j) := by
  obtain ⟨d, rfl⟩ : ∃ d, j = i + d := ⟨j - i, by omega⟩
  clear hij
  induction d with
  | zero => exact HExt.refl _
  | succ d ih => exact (ih (by omega) (fun k h1 h2 => q k h1 (by omega))).trans (T.ext (k := i + d) (by omega) (q (i + d) (by omega) (by omega)))

theorem Txt.down (T : Txt P ops ex sz vs frs hs) {φ : Emb} {w : World} {i j : Nat} (hij : i ≤ j) (hj : j ≤ ops.size) (q : ∀ k, i ≤ k → k < j → Quiet ops ex hs k) (r : HRel φ (hs j) w) : HRel φ (hs i) w :=
  r.down (T.extRange hij hj q) (T.nextLe i j hij hj) (T.wf i (by omega))

/-- Upwards: what was made and is there is its own. -/
theorem Txt.up (T : Txt P ops ex sz vs frs hs) {φ : Emb} {w : World} {i j : Nat} (hij : i ≤ j) (hj : j ≤ ops.size) (q : ∀ k, i ≤ k → k < j → Quiet ops ex hs k)
    (hnew : ∀ k (o : Oper), i ≤ k → k < j → ops[k]? = some o → (∀ b, (hs k).next ≤ b → b < (hs (k + 1)).next → φ b = none) ∨ hs (k + 1) = hs k ∨ ∃ cs, hs (k + 1) = (hs k).alloc cs ∧ Own φ w (hs k).next cs) (r : HRel φ (hs i) w) : HRel φ (hs j) w := by
  obtain ⟨d, rfl⟩ : ∃ d, j = i + d := ⟨j - i, by omega⟩
  clear hij
  induction d with
  | zero => exact r
  | succ d ih =>
    have r' := ih (by omega) (fun k h1 h2 => q k h1 (by omega)) (fun k o h1 h2 ho => hnew k o h1 (by omega) ho)
    have ho := Array.getElem?_eq_getElem (xs := ops) (i := i + d) (by omega)
    rcases hnew (i + d) _ (by omega) (by omega) ho with h | h | ⟨cs, h, own⟩
    · exact r'.up (T.ext (k := i + d) (by omega) (q (i + d) (by omega) (by omega))) (T.nextLe (i + d) (i + d + 1) (by omega) (by omega)) (T.wf (i + d + 1) (by omega)) h
    · show HRel φ (hs (i + d + 1)) w
      rw [h]; exact r'
    · show HRel φ (hs (i + d + 1)) w
      rw [h]; exact r'.add own

/-- What is its own stays so behind a step that knows nothing of it. -/
theorem Own.step {φ φ' : Emb} {h h' : AHeap} {w w' : World} {b : Nat} {cs : List AV} (o : Own φ w b cs) (hb : h.next ≤ b) (t : Trans φ h w φ' h' w') : Own φ' w' b cs := by
  obtain ⟨k, z, c, e, h1, h2, h3, h4, h5, h6⟩ := o.lies
  have hk : k < w.heap.size := (Array.getElem?_eq_some_iff.1 h2).1
  have hnot : ∀ b0 i0 z0 B, φ b0 = some (k, i0, z0) → h.get b0 = some B → False := by
    intro b0 i0 z0 B hb0 hB
    have := h6 b0 i0 z0 hb0
    subst this
    have := AHeap.get_lt hB
    omega
  refine ⟨k, z, c, e, t.le _ _ h1, ?_, h3, h4, ?_, ?_⟩
  · rw [t.frame k hk]
    · exact h2
    · rintro ⟨b0, i0, z0, hb0, hm⟩
      rcases hm with ⟨F, p, cs', hB⟩ | ⟨es, hB⟩
      · exact hnot b0 i0 z0 _ hb0 hB
      · exact hnot b0 i0 z0 _ hb0 hB
  · intro j x hx
    obtain ⟨v, hv, hr⟩ := h5 j x hx
    exact ⟨v, hv, hr.mono t.le⟩
  · intro b' i' z' hb'
    cases hφ : φ b' with
    | some q =>
      have := t.le b' q hφ
      rw [hb'] at this
      cases this
      exact h6 b' i' z' hφ
    | none =>
      rcases t.img b' k i' z' hφ hb' with h7 | ⟨b0, i0, z0, F, p, cs', h7, h8⟩
      · omega
      · exact (hnot b0 i0 z0 _ h7 h8).elim

/-- The frame's part of a step. -/
theorem Inv.frameStep {φ0 φ φ' : Emb} {w0 w : World} {a : Act} {L : Nat → Bool} (I : Inv P ops ex sz vs frs hs φ0 w0 L φ a w) (hok : RgOk sz ops ex) {i : Nat} {o : Oper} (hi : ops[i]? = some o)
    (hr : ∀ e ∈ o.after, Region.binds .any e = true → L e.on = true) (hle : φ.le φ') {c : Value} (hc : VRel φ' (vs i) c) {L' : Nat → Bool} (hL : ∀ k, L' k = (decide (k = i) || L k)) :
    (∀ k (o : Oper) e, ops[k]? = some o → L' k = true → e ∈ o.after → Region.binds .any e = true → L' e.on = true) ∧ (∀ k, L' k = true → k < ops.size) ∧ (a.put o.dst c).defers = [] ∧ (a.put o.dst c).tmps.size = sz ∧
    (∀ k (o' : Oper) d v, ops[k]? = some o' → L' k = true → o'.dst = some d → (a.put o.dst c).tmps[d]? = some v → VRel φ' (vs k) v) ∧
    (∀ (t : Nat) (x : AV) (v : Value), (∀ k (o' : Oper), ops[k]? = some o' → L' k = true → o'.dst ≠ some t) → (frs 0)[t]? = some x → (a.put o.dst c).tmps[t]? = some v → VRel φ' x v) := by
  have hput : ∀ t v, (a.put o.dst c).tmps[t]? = some v → (o.dst = some t ∧ v = c) ∨ (o.dst ≠ some t ∧ a.tmps[t]? = some v) := by
    intro t v hv
    unfold Act.put at hv
    split at hv
    · rename_i d hd
      simp only [Array.getElem?_setIfInBounds] at hv
      by_cases hdt : d = t
      · subst hdt
        simp only [if_true] at hv
        split at hv
        · cases hv; exact .inl ⟨hd, rfl⟩
        · cases hv
      · rw [if_neg hdt] at hv
        exact .inr ⟨by rw [hd]; exact fun h => hdt (by cases h; rfl), hv⟩
    · rename_i hd
      exact .inr ⟨by rw [hd]; exact fun h => (by cases h), hv⟩
  refine ⟨?_, ?_, ?_, ?_, ?_, ?_⟩
  · intro k o' e ho' hk he hb
    rw [hL] at hk ⊢
    simp only [Bool.or_eq_true, decide_eq_true_eq] at hk ⊢
    rcases hk with rfl | hk
    · rw [hi] at ho'; cases ho'; exact .inr (hr e he hb)
    · exact .inr (I.closed k o' e ho' hk he hb)
  · intro k hk
    rw [hL] at hk
    simp only [Bool.or_eq_true, decide_eq_true_eq] at hk
    rcases hk with rfl | hk
    · exact (Array.getElem?_eq_some_iff.1 hi).1
    · exact I.lt k hk
  · unfold Act.put; split <;> exact I.defers
  · unfold Act.put; split
    · simpa using I.size
    · exact I.size
  · intro k o' d v ho' hk hd hv
    rw [hL] at hk
    simp only [Bool.or_eq_true, decide_eq_true_eq] at hk
    rcases hput d v hv with ⟨hdi, rfl⟩ | ⟨hdi, hv'⟩
    · have := hok.inj k i o' o d ho' hi hd hdi
      subst this
      exact hc
    · rcases hk with rfl | hk
      · rw [hi] at ho'; cases ho'; exact absurd hd hdi
      · exact (I.new k o' d v ho' hk hd hv').mono hle
  · intro t x v hno hx hv
    rcases hput t v hv with ⟨hdi, rfl⟩ | ⟨hdi, hv'⟩
    · exact absurd hdi (hno i o hi (by rw [hL]; simp))
    · exact (I.old t x v (fun k o' ho' hk => hno k o' ho' (by rw [hL]; simp [hk])) hx hv').mono hle

theorem ranges_apart (T : Txt P ops ex sz vs frs hs) {i j b : Nat} (hi : i < ops.size) (hj : j < ops.size) (h1 : (hs i).next ≤ b) (h2 : b < (hs (i + 1)).next) (h3 : (hs j).next ≤ b) (h4 : b < (hs (j + 1)).next) : i = j := by
  rcases Nat.lt_trichotomy i j with h | h | h
  · have := (T.nextLe (i + 1) j (by omega) (by omega)).next; omega
  · exact h
  · have := (T.nextLe (j + 1) i (by omega) (by omega)).next; omega

/-- A step that changes no memory. -/
theorem Inv.still {φ0 φ : Emb} {w0 w : World} {a : Act} {L : Nat → Bool} (I : Inv P ops ex sz vs frs hs φ0 w0 L φ a w) (T : Txt P ops ex sz vs frs hs) (hok : RgOk sz ops ex) {i : Nat} {o : Oper} (hi : ops[i]? = some o)
    (hr : ∀ e ∈ o.after, Region.binds .any e = true → L e.on = true) (hsame : hs (i + 1) = hs i) {c : Value} (hc : VRel φ (vs i) c) {L' : Nat → Bool} (hL : ∀ k, L' k = (decide (k = i) || L k)) :
    Inv P ops ex sz vs frs hs φ0 w0 L' φ (a.put o.dst c) w := by
  obtain ⟨f1, f2, f3, f4, f5, f6⟩ := I.frameStep hok hi hr (Emb.le_refl φ) hc hL
  have hmono : ∀ k, L k = true → L' k = true := fun k hk => by rw [hL]; simp [hk]
  refine ⟨f1, f2, f3, f4, f5, f6, ?_, ?_, I.glob, I.lies, ?_, ?_, I.le, I.fresh, I.img, I.frame, I.os, I.tape, I.output, I.wsize⟩
  · intro k hk hLk b h1 h2
    rw [hL] at hLk
    simp only [Bool.or_eq_false_iff] at hLk
    exact I.free k hk hLk.2 b h1 h2
  · intro k hLk b h1 h2
    rw [hL] at hLk
    simp only [Bool.or_eq_true, decide_eq_true_eq] at hLk
    rcases hLk with rfl | hLk
    · rw [hsame] at h2; omega
    · exact I.defd k hLk b h1 h2
  · intro k hk hcomp
    refine I.heap k hk ?_
    intro c' oc hoc hcl hne hside
    refine hcomp c' oc hoc hcl hne ?_
    have hci : c' ≠ i := fun h => hne (by rw [h]; exact hsame)
    rcases hside with ⟨h1, h2⟩ | ⟨h1, h2⟩
    · exact .inl ⟨h1, by rw [hL]; simp [hci, h2]⟩
    · exact .inr ⟨h1, hmono c' h2⟩
  · intro j oj cs hoj hLj hcl hal hall
    rw [hL] at hLj
    simp only [Bool.or_eq_true, decide_eq_true_eq] at hLj
    rcases hLj with rfl | hLj
    · have := congrArg AHeap.next hal
      rw [hsame, AHeap.next_alloc] at this
      omega
    · exact I.own j oj cs hoj hLj hcl hal (fun c' oc hoc hcc hLc => hall c' oc hoc hcc (hmono c' hLc))

/-- A new block. -/
theorem Inv.allo {φ0 φ : Emb} {w0 w : World} {a : Act} {L : Nat → Bool} (I : Inv P ops ex sz vs frs hs φ0 w0 L φ a w) (T : Txt P ops ex sz vs frs hs) (hok : RgOk sz ops ex) {i : Nat} {o : Oper} (hi : ops[i]? = some o) (hun : L i = false)
    (hcls : clsOf o.op = .allo) (hr : ∀ e ∈ o.after, Region.binds .any e = true → L e.on = true) {cs : List AV} (hal : hs (i + 1) = (hs i).alloc cs) {c : Array Value} {e : TypeId} (hlen : cs.length ≤ c.size) (hcells : CellsAt φ cs c 0)
    {v : Value} (hv : VRel (φ.upd (hs i).next (w.heap.size, 0, c.size)) (vs i) v) {L' : Nat → Bool} (hL : ∀ k, L' k = (decide (k = i) || L k)) :
    Inv P ops ex sz vs frs hs φ0 w0 L' (φ.upd (hs i).next (w.heap.size, 0, c.size)) (a.put o.dst v) (w.alloc (.cells c e)) := by
  have hin : i < ops.size := (Array.getElem?_eq_some_iff.1 hi).1
  have hnx : (hs (i + 1)).next = (hs i).next + 1 := by rw [hal, AHeap.next_alloc]
  have hφ : φ (hs i).next = none := I.free i hin hun _ (Nat.le_refl _) (by omega)
  have hle := Emb.le_upd (φ := φ) (w.heap.size, 0, c.size) hφ
  obtain ⟨f1, f2, f3, f4, f5, f6⟩ := I.frameStep hok hi hr hle hv hL
  have hmono : ∀ k, L k = true → L' k = true := fun k hk => by rw [hL]; simp [hk]
  have hold : ∀ k, k < w.heap.size → (w.alloc (.cells c e)).heap[k]? = w.heap[k]? := fun k hk => heap_alloc_old w _ hk
  have hcase : ∀ b' p, φ.upd (hs i).next (w.heap.size, 0, c.size) b' = some p → (b' = (hs i).next ∧ p = (w.heap.size, 0, c.size)) ∨ (b' ≠ (hs i).next ∧ φ b' = some p) := by
    intro b' p hb
    by_cases hbn : b' = (hs i).next
    · subst hbn; rw [Emb.upd_same] at hb; cases hb; exact .inl ⟨rfl, rfl⟩
    · rw [Emb.upd_other φ _ hbn] at hb; exact .inr ⟨hbn, hb⟩
  have hnchain : ∀ c' (oc : Oper), ops[c']? = some oc → clsOf oc.op = .chain → c' ≠ i := by
    rintro c' oc hoc hcc rfl
    rw [hi] at hoc; cases hoc; rw [hcls] at hcc; cases hcc
  refine ⟨f1, f2, f3, f4, f5, f6, ?_, ?_, ?_, ?_, ?_, ?_, Emb.le_trans I.le hle, ?_, ?_, ?_, I.os, I.tape, I.output, by simp; have := I.wsize; omega⟩
  · intro k hk hLk b h1 h2
    rw [hL] at hLk
    simp only [Bool.or_eq_false_iff, decide_eq_false_iff_not] at hLk
    have hbn : b ≠ (hs i).next := by
      rintro rfl
      exact hLk.1 (ranges_apart T hk hin h1 h2 (Nat.le_refl _) (by omega))
    rw [Emb.upd_other φ _ hbn]
    exact I.free k hk hLk.2 b h1 h2
  · intro k hLk b h1 h2
    rw [hL] at hLk
    simp only [Bool.or_eq_true, decide_eq_true_eq] at hLk
    rcases hLk with rfl | hLk
    · have : b = (hs k).next := by omega
      subst this
      exact ⟨_, Emb.upd_same _ _ _⟩
    · obtain ⟨p, hp⟩ := I.defd k hLk b h1 h2
      exact ⟨p, hle _ _ hp⟩
  · intro g hg
    obtain ⟨z, hz⟩ := I.glob g hg
    exact ⟨z, hle _ _ hz⟩
  · intro b k j z hb
    simp only [World.size_alloc]
    rcases hcase b _ hb with ⟨_, h⟩ | ⟨_, h⟩
    · cases h; omega
    · have := I.lies b k j z h; omega
  · intro k hk hcomp
    have hcompL : ∀ c' (oc : Oper), ops[c']? = some oc → clsOf oc.op = .chain → hs (c' + 1) ≠ hs c' → ((c' < k ∧ L c' = false) ∨ (k ≤ c' ∧ L c' = true)) → ex.contains c' = true := by
      intro c' oc hoc hcl hne hside
      refine hcomp c' oc hoc hcl hne ?_
      have hci := hnchain c' oc hoc hcl
      rcases hside with ⟨h1, h2⟩ | ⟨h1, h2⟩
      · exact .inl ⟨h1, by rw [hL]; simp [hci, h2]⟩
      · exact .inr ⟨h1, hmono c' h2⟩
    refine (I.heap k hk hcompL).define hφ ?_ hlen hcells
    by_cases hki : k ≤ i
    · exact .inl (T.nextLe k i hki (by omega)).next
    · refine .inr ⟨(hs i).nfam, ?_⟩
      have hext : HExt (hs (i + 1)) (hs k) := T.extRange (by omega) hk (by
        intro q h1 h2 oq hoq hcq hne
        by_cases hLq : L q = true
        · rcases hok.allo q i oq o hoq hi hcq hcls (by omega) with h | h
          · exact h
          · have := h.closed I.closed hLq
            rw [hun] at this; cases this
        · exact hcompL q oq hoq hcq hne (.inl ⟨h2, by simpa using hLq⟩))
      rw [hext.get _ (by omega), hal, AHeap.get_alloc, if_pos rfl]
  · intro j oj cs' hoj hLj hcl hal' hall
    rw [hL] at hLj
    simp only [Bool.or_eq_true, decide_eq_true_eq] at hLj
    rcases hLj with rfl | hLj
    · have hcs : cs' = cs := by
        have h1 := congrArg (fun h => AHeap.get h (hs j).next) (hal.symm.trans hal')
        simp only [AHeap.get_alloc, if_pos] at h1
        cases h1; rfl
      subst hcs
      refine ⟨w.heap.size, c.size, c, e, Emb.upd_same _ _ _, heap_alloc_new w _, rfl, hlen, fun q x hx => let ⟨u, h1, h2⟩ := hcells q x hx; ⟨u, h1, h2.mono hle⟩, ?_⟩
      intro b' i' z' hb'
      rcases hcase b' _ hb' with ⟨h, _⟩ | ⟨_, h⟩
      · exact h
      · have := I.lies b' _ i' z' h; omega
    · obtain ⟨k, z, c1, e1, h1, h2, h3, h4, h5, h6⟩ := (I.own j oj cs' hoj hLj hcl hal' (fun c' oc hoc hcc hLc => hall c' oc hoc hcc (hmono c' hLc))).lies
      have hk : k < w.heap.size := (Array.getElem?_eq_some_iff.1 h2).1
      refine ⟨k, z, c1, e1, hle _ _ h1, (hold k hk).trans h2, h3, h4, fun q x hx => let ⟨u, q1, q2⟩ := h5 q x hx; ⟨u, q1, q2.mono hle⟩, ?_⟩
      intro b' i' z' hb'
      rcases hcase b' _ hb' with ⟨_, h⟩ | ⟨_, h⟩
      · cases h; omega
      · exact h6 b' i' z' h
  · intro b p h1 h2
    rcases hcase b p h2 with ⟨rfl, _⟩ | ⟨_, h⟩
    · have e1 := (T.nextLe 0 i (by omega) (by omega)).next
      have e2 := (T.nextLe (i + 1) ops.size (by omega) (by omega)).next
      omega
    · exact I.fresh b p h1 h
  · intro b k j z h1 h2
    rcases hcase b _ h2 with ⟨_, h⟩ | ⟨_, h⟩
    · cases h; exact .inl I.wsize
    · exact I.img b k j z h1 h
  · intro k hk hm
    rw [hold k (Nat.lt_of_lt_of_le hk I.wsize)]
    exact I.frame k hk hm

/-- A step of the chain. -/
theorem Inv.chain {φ0 φ φ' : Emb} {w0 w w' : World} {a : Act} {L : Nat → Bool} (I : Inv P ops ex sz vs frs hs φ0 w0 L φ a w) (T : Txt P ops ex sz vs frs hs) (hok : RgOk sz ops ex) (hf0 : Fresh φ0 (hs 0) (hs ops.size)) {i : Nat} {o : Oper}
    (hi : ops[i]? = some o) (hun : L i = false) (hcls : clsOf o.op = .chain) (hr : ∀ e ∈ o.after, Region.binds .any e = true → L e.on = true) (t : Trans φ (hs i) w φ' (hs (i + 1)) w') (r' : HRel φ' (hs (i + 1)) w')
    {v : Value} (hv : VRel φ' (vs i) v) {L' : Nat → Bool} (hL : ∀ k, L' k = (decide (k = i) || L k)) : Inv P ops ex sz vs frs hs φ0 w0 L' φ' (a.put o.dst v) w' := by
  have hin : i < ops.size := (Array.getElem?_eq_some_iff.1 hi).1
  obtain ⟨f1, f2, f3, f4, f5, f6⟩ := I.frameStep hok hi hr t.le hv hL
  have hmono : ∀ k, L k = true → L' k = true := fun k hk => by rw [hL]; simp [hk]
  have hnx := (T.nextLe i (i + 1) (by omega) (by omega)).next
  have hg0 := (T.nextLe 0 i (by omega) (by omega))
  have hgn := (T.nextLe (i + 1) ops.size (by omega) (by omega)).next
  -- who is listed among the chain
  have hbefore : ∀ c' (oc : Oper), ops[c']? = some oc → clsOf oc.op = .chain → c' < i → L c' = true := fun c' oc hoc hcc hlt => (hok.chain i c' o oc hi hoc hcls hcc hlt).ready I.closed hi hr
  have hbehind : ∀ c' (oc : Oper), ops[c']? = some oc → clsOf oc.op = .chain → i < c' → L c' = false := by
    intro c' oc hoc hcc hlt
    cases hLc : L c' with
    | false => rfl
    | true =>
      have := (hok.chain c' i oc o hoc hi hcc hcls hlt).closed I.closed hLc
      rw [hun] at this; cases this
  have hfree : ∀ k, k < ops.size → L' k = false → ∀ b, (hs k).next ≤ b → b < (hs (k + 1)).next → φ' b = none := by
    intro k hk hLk b h1 h2
    rw [hL] at hLk
    simp only [Bool.or_eq_false_iff, decide_eq_false_iff_not] at hLk
    cases hb : φ' b with
    | none => rfl
    | some p =>
      have := t.new b p (I.free k hk hLk.2 b h1 h2) hb
      exact absurd (ranges_apart T hk hin h1 h2 this.1 this.2) hLk.1
  have hownstep : ∀ j (oj : Oper) cs, ops[j]? = some oj → L j = true → clsOf oj.op = .allo → hs (j + 1) = (hs j).alloc cs → i < j → Own φ' w' (hs j).next cs := by
    intro j oj cs hoj hLj hcl hal hij
    have hjn : j < ops.size := (Array.getElem?_eq_some_iff.1 hoj).1
    refine (I.own j oj cs hoj hLj hcl hal ?_).step (T.nextLe i j (by omega) (by omega)).next t
    intro c' oc hoc hcc hLc
    rcases Nat.lt_trichotomy c' i with h | h | h
    · omega
    · subst h; rw [hun] at hLc; cases hLc
    · rw [hbehind c' oc hoc hcc h] at hLc; cases hLc
  have hback : ∀ b, (∃ p, φ0 b = some p) → (∃ B, (hs i).get b = some B) → b < (hs 0).next := by
    rintro b ⟨p, hp⟩ ⟨B, hB⟩
    apply Nat.lt_of_not_le
    intro hle
    have := hf0 b hle (by have := AHeap.get_lt hB; omega)
    rw [hp] at this; cases this
  have hmut : ∀ k, k < w0.heap.size → (hs i).mut φ k → (hs 0).mut φ0 k := by
    rintro k hk ⟨b, j, z, hb, hm⟩
    cases hφ : φ0 b with
    | none =>
      rcases I.img b k j z hφ hb with h3 | ⟨b0, i0, z0, F, p, cs, h3, h4⟩
      · omega
      · exact ⟨b0, i0, z0, h3, .inl ⟨F, p, cs, h4⟩⟩
    | some q =>
      have := I.le b q hφ
      rw [hb] at this
      cases this
      rcases hm with ⟨F, p, cs, h4⟩ | ⟨es, h4⟩
      · obtain ⟨cs', h5, _⟩ := hg0.back (hback b ⟨_, hφ⟩ ⟨_, h4⟩) h4
        exact ⟨b, j, z, hφ, .inl ⟨F, p, cs', h5⟩⟩
      · obtain ⟨es', h5⟩ := hg0.backMap (hback b ⟨_, hφ⟩ ⟨_, h4⟩) h4
        exact ⟨b, j, z, hφ, .inr ⟨es', h5⟩⟩
  refine ⟨f1, f2, f3, f4, f5, f6, hfree, ?_, ?_, r'.lt, ?_, ?_, Emb.le_trans I.le t.le, ?_, ?_, ?_, t.os.trans I.os, t.tape.trans I.tape, t.output.trans I.output, Nat.le_trans I.wsize t.size⟩
  · intro k hLk b h1 h2
    rw [hL] at hLk
    simp only [Bool.or_eq_true, decide_eq_true_eq] at hLk
    rcases hLk with rfl | hLk
    · exact t.dom b h1 h2
    · obtain ⟨p, hp⟩ := I.defd k hLk b h1 h2
      exact ⟨p, t.le _ _ hp⟩
  · intro g hg
    obtain ⟨z, hz⟩ := I.glob g hg
    exact ⟨z, t.le _ _ hz⟩
  · intro k hk hcomp
    by_cases hki : k ≤ i
    · refine T.down (by omega) (by omega) ?_ r'
      intro q h1 h2 oq hoq hcq hne
      refine hcomp q oq hoq hcq hne (.inr ⟨h1, ?_⟩)
      by_cases hqi : q = i
      · subst hqi; rw [hL]; simp
      · exact hmono q (hbefore q oq hoq hcq (by omega))
    · refine T.up (show i + 1 ≤ k by omega) hk ?_ ?_ r'
      · intro q h1 h2 oq hoq hcq hne
        refine hcomp q oq hoq hcq hne (.inl ⟨h2, ?_⟩)
        rw [hL, hbehind q oq hoq hcq (by omega)]
        simp; omega
      · intro q oq h1 h2 hoq
        have hqn : q < ops.size := by omega
        cases hLq : L q with
        | false =>
          refine .inl (hfree q hqn ?_)
          rw [hL, hLq]; simp; omega
        | true =>
          rcases (T.ts q oq hqn hoq).2 with ⟨_, _, _, _, _, _, _, h⟩ | ⟨_, hst, _⟩
          · exact .inr (.inl h)
          · cases hc : clsOf oq.op with
            | pure => unfold SemStep at hst; rw [hc] at hst; exact .inr (.inl hst.2)
            | read => unfold SemStep at hst; rw [hc] at hst; exact .inr (.inl hst.2)
            | allo =>
              unfold SemStep at hst; rw [hc] at hst
              obtain ⟨mk, cs, _, _, h⟩ := hst
              exact .inr (.inr ⟨cs, h, hownstep q oq cs hoq hLq hc h (by omega)⟩)
            | chain => rw [hbehind q oq hoq hc (by omega)] at hLq; cases hLq
  · intro j oj cs hoj hLj hcl hal hall
    have hij : i < j := hall i o hi hcls (by rw [hL]; simp)
    rw [hL] at hLj
    simp only [Bool.or_eq_true, decide_eq_true_eq] at hLj
    rcases hLj with rfl | hLj
    · omega
    · exact hownstep j oj cs hoj hLj hcl hal hij
  · intro b p h1 h2
    cases hφ : φ b with
    | some q => exact I.fresh b q h1 hφ
    | none =>
      have := t.new b p hφ h2
      have := hg0.next
      omega
  · intro b k j z h1 h2
    cases hφ : φ b with
    | some q =>
      have := t.le b q hφ
      rw [h2] at this
      cases this
      exact I.img b k j z h1 hφ
    | none =>
      rcases t.img b k j z hφ h2 with h3 | ⟨b0, i0, z0, F, p, cs, h3, h4⟩
      · exact .inl (Nat.le_trans I.wsize h3)
      · by_cases hk : w0.heap.size ≤ k
        · exact .inl hk
        · refine .inr ?_
          cases hφ0 : φ0 b0 with
          | none =>
            rcases I.img b0 k i0 z0 hφ0 h3 with h5 | h5
            · omega
            · exact h5
          | some q =>
            have := I.le b0 q hφ0
            rw [h3] at this
            cases this
            obtain ⟨cs', h5, _⟩ := hg0.back (hback b0 ⟨_, hφ0⟩ ⟨_, h4⟩) h4
            exact ⟨b0, i0, z0, F, p, cs', hφ0, h5⟩
  · intro k hk hm
    rw [t.frame k (Nat.lt_of_lt_of_le hk I.wsize) (fun hm' => hm (hmut k hk hm'))]
    exact I.frame k hk hm

/-- All of it, in whatever order. -/
theorem Inv.all {φ0 : Emb} {w0 : World} (T : Txt P ops ex sz vs frs hs) (hok : RgOk sz ops ex) (hf0 : Fresh φ0 (hs 0) (hs ops.size)) {Q : Exit → Act → World → Prop}
    (hq : ∀ φ a w, Trans φ0 (hs 0) w0 φ (hs ops.size) w → Sim φ (frs ops.size) (hs ops.size) a w → Q .normal a w) :
    ∀ (fuel : Nat) (listed : Array Bool) (φ : Emb) (a : Act) (w : World), listed.size = ops.size → (List.range ops.size).countP (fun k => !listed.getD k false) ≤ fuel →
      Inv P ops ex sz vs frs hs φ0 w0 (fun k => listed.getD k false) φ a w → wpAny P .any ops Q fuel listed a w := by
  have hdone : ∀ (listed : Array Bool) (φ : Emb) (a : Act) (w : World), listed.size = ops.size → Inv P ops ex sz vs frs hs φ0 w0 (fun k => listed.getD k false) φ a w → Region.ready .any ops listed = [] → Q .normal a w := by
    intro listed φ a w hsz I hrd
    have hall : ∀ i, i < ops.size → listed.getD i false = true := by
      intro i
      induction i using Nat.strongRecOn with
      | _ i ih =>
        intro hi
        have ho := Array.getElem?_eq_getElem (xs := ops) (i := i) hi
        cases hL : listed.getD i false with
        | true => rfl
        | false =>
          have : i ∈ Region.ready .any ops listed := by
            rw [mem_ready]
            refine ⟨?_, ops[i], ho, ?_⟩
            · rw [Array.getD_eq_getD_getElem?, Array.getElem?_eq_getElem (by omega)] at hL ⊢
              exact hL
            · intro e he hb
              have hlt := hok.back i _ e ho he hb
              exact ih e.on hlt (by omega)
          rw [hrd] at this
          cases this
    have hrel := I.heap ops.size (Nat.le_refl _) (by
      intro c oc hoc _ _ hside
      have hc := (Array.getElem?_eq_some_iff.1 hoc).1
      rcases hside with ⟨_, h⟩ | ⟨h, _⟩
      · have := hall c hc; rw [this] at h; cases h
      · omega)
    refine hq φ a w ⟨I.le, ?_, I.fresh, I.img, I.frame, I.os, I.tape, I.output, I.wsize⟩ ⟨hrel, I.defers, ?_, ?_⟩
    · intro b h1 h2
      -- some operation made it
      have : ∀ d, d ≤ ops.size → b < (hs d).next → ∃ i, i < d ∧ (hs i).next ≤ b ∧ b < (hs (i + 1)).next := by
        intro d
        induction d with
        | zero => intro _ h; omega
        | succ d ih =>
          intro hd h
          by_cases h' : b < (hs d).next
          · obtain ⟨i, hi, h3⟩ := ih (by omega) h'
            exact ⟨i, by omega, h3⟩
          · exact ⟨d, by omega, by omega, h⟩
      obtain ⟨i, hi, h3, h4⟩ := this ops.size (Nat.le_refl _) h2
      exact I.defd i (hall i hi) b h3 h4
    · rw [T.len _ (Nat.le_refl _), I.size]
    · intro t x v hx hv
      have ht : t < sz := by rw [← T.len ops.size (Nat.le_refl _)]; exact (List.getElem?_eq_some_iff.1 hx).1
      rcases T.slot hok ops.size (Nat.le_refl _) t ht with ⟨j, oj, hj, hoj, hdj, hval⟩ | ⟨hno, hval⟩
      · rw [hval] at hx; cases hx
        exact I.new j oj t v hoj (hall j hj) hdj hv
      · rw [hval] at hx
        exact I.old t x v (fun k o ho _ => hno k o (Array.getElem?_eq_some_iff.1 ho).1 ho) hx hv
  have hnext : ∀ (listed : Array Bool) (i : Nat), listed.size = ops.size → i < ops.size → ∀ k, (listed.setIfInBounds i true).getD k false = (decide (k = i) || listed.getD k false) := by
    intro listed i hsz hi k
    by_cases hki : k = i
    · subst hki
      simp [show k < listed.size by omega]
    · rw [getD_set_ne false (fun h => hki h.symm)]
      simp [hki]
  intro fuel
  induction fuel with
  | zero =>
    intro listed φ a w hsz hcnt I
    have hrd : Region.ready .any ops listed = [] := by
      cases hr : Region.ready .any ops listed with
      | nil => rfl
      | cons i l =>
        have hm : i ∈ Region.ready .any ops listed := by rw [hr]; simp
        rw [mem_ready] at hm
        obtain ⟨h0, o, ho, _⟩ := hm
        have hi := (Array.getElem?_eq_some_iff.1 ho).1
        have : 0 < (List.range ops.size).countP (fun k => !listed.getD k false) := by
          rw [List.countP_pos_iff]
          refine ⟨i, List.mem_range.2 hi, ?_⟩
          rw [Array.getD_eq_getD_getElem?, Array.getElem?_eq_getElem (by omega)] at h0 ⊢
          simpa using h0
        omega
    exact ⟨hrd, hdone listed φ a w hsz I hrd⟩
  | succ fuel ih =>
    intro listed φ a w hsz hcnt I
    refine ⟨fun h => hdone listed φ a w hsz I h, ?_⟩
    intro i hi
    rw [mem_ready] at hi
    obtain ⟨h0, o, ho, hedges⟩ := hi
    have hin := (Array.getElem?_eq_some_iff.1 ho).1
    have hun : listed.getD i false = false := by
      rw [Array.getD_eq_getD_getElem?, Array.getElem?_eq_getElem (by omega)] at h0 ⊢
      exact h0
    have hL := hnext listed i hsz hin
    have hcnt' : (List.range ops.size).countP (fun k => !(listed.setIfInBounds i true).getD k false) ≤ fuel := by
      have hlt : (List.range ops.size).countP (fun k => !(listed.setIfInBounds i true).getD k false) < (List.range ops.size).countP (fun k => !listed.getD k false) := by
        have hgen : ∀ n, i < n → (List.range n).countP (fun k => !(listed.setIfInBounds i true).getD k false) < (List.range n).countP (fun k => !listed.getD k false) := by
          have hle : ∀ n, (List.range n).countP (fun k => !(listed.setIfInBounds i true).getD k false) ≤ (List.range n).countP (fun k => !listed.getD k false) := by
            intro n
            refine List.countP_mono_left ?_
            intro k _ hk
            rw [hL] at hk
            simp at hk ⊢
            exact hk.2
          intro n
          induction n with
          | zero => intro h; omega
          | succ n ihn =>
            intro h
            rw [List.range_succ, List.countP_append, List.countP_append, List.countP_singleton, List.countP_singleton]
            by_cases hni : i = n
            · subst hni
              have e1 : (!(listed.setIfInBounds i true).getD i false) = false := by rw [hL]; simp
              have e2 : (!listed.getD i false) = true := by rw [hun]; rfl
              rw [e1, e2]
              have := hle i
              simp
              simp at this
              omega
            · have := ihn (by omega)
              have e : (listed.setIfInBounds i true).getD n false = listed.getD n false := by rw [hL]; simp; omega
              rw [e]
              omega
        exact hgen ops.size hin
      omega
    have hrest : ∀ φ' a' w', Inv P ops ex sz vs frs hs φ0 w0 (fun k => (listed.setIfInBounds i true).getD k false) φ' a' w' → wpAny P .any ops Q fuel (listed.setIfInBounds i true) a' w' :=
      fun φ' a' w' I' => ih (listed.setIfInBounds i true) φ' a' w' (by simpa using hsz) hcnt' I'
    have hopnd := I.opnd T hok ho hun hedges
    unfold wpOp
    simp only [ho]
    rcases (T.ts i o hin ho).2 with ⟨j, want, b, hg, hb, hbw, hvs, hsame⟩ | ⟨hguard, hst, _⟩
    · have hw : Region.wanted o (yielded ops a.tmps) = false := by
        simp [Region.wanted, hg, I.wanted T hok ho hun hedges hg hb]
        exact hbw
      simp only [hw, Bool.false_eq_true, if_false]
      exact hrest φ _ w (I.still T hok ho hedges hsame (by rw [hvs]; exact VRel.undef φ) hL)
    · have hw : Region.wanted o (yielded ops a.tmps) = true := by
        rcases hguard with hg | ⟨j, want, hg, hb⟩
        · simp [Region.wanted, hg]
        · simp [Region.wanted, hg, I.wanted T hok ho hun hedges hg hb]
      simp only [hw, if_true]
      refine .inl ?_
      have hcomp0 : ∀ i', (∀ c (oc : Oper), ops[c]? = some oc → clsOf oc.op = .chain → hs (c + 1) ≠ hs c → ((c < i' ∧ listed.getD c false = false) ∨ (i' ≤ c ∧ listed.getD c false = true)) → ex.contains c = true) → i' ≤ ops.size → HRel φ (hs i') w := fun i' h hi' => I.heap i' hi' h
      cases hc : clsOf o.op with
      | pure =>
        unfold SemStep at hst; rw [hc] at hst
        obtain ⟨c, hrun, hv⟩ := apure_sound (ev := a.eval) hopnd hst.1 w
        exact wp_of_run hrun (hrest φ _ w (I.still T hok ho hedges hst.2 hv hL))
      | read =>
        unfold SemStep at hst; rw [hc] at hst
        have hrel : HRel φ (hs i) w := by
          refine hcomp0 i ?_ (by omega)
          intro c oc hoc hcc _ hside
          rcases hok.read c i oc o hoc ho hcc hc with h | h | h
          · exact h
          · have hlt := h.lt hok
            rcases hside with ⟨h1, _⟩ | ⟨_, h2⟩
            · omega
            · have := h.closed I.closed h2
              rw [hun] at this; cases this
          · have hlt := h.lt hok
            have := h.ready I.closed ho hedges
            rcases hside with ⟨_, h2⟩ | ⟨h1, _⟩
            · rw [h2] at this; cases this
            · omega
        obtain ⟨c, hrun, hv⟩ := areadR_sound (ev := a.eval) hrel hopnd hst.1
        exact wp_of_run hrun (hrest φ _ w (I.still T hok ho hedges hst.2 hv hL))
      | allo =>
        unfold SemStep at hst; rw [hc] at hst
        obtain ⟨mk, cs, hal, hvs, hh⟩ := hst
        obtain ⟨c, e, v, hrun, hlen, hcells, hval⟩ := aallo_sound (ev := a.eval) (w := w) hopnd hal
        refine wp_of_run hrun (hrest _ _ _ (I.allo T hok ho hun hc hedges hh hlen hcells ?_ hL))
        rw [hvs]
        exact hval _ _ (Emb.upd_same _ _ _)
      | chain =>
        have hrel : HRel φ (hs i) w := by
          refine hcomp0 i ?_ (by omega)
          intro c oc hoc hcc _ hside
          rcases hside with ⟨h1, h2⟩ | ⟨h1, h2⟩
          · have := (hok.chain i c o oc ho hoc hc hcc h1).ready I.closed ho hedges
            rw [h2] at this; cases this
          · by_cases hci : c = i
            · subst hci; rw [hun] at h2; cases h2
            · have := (hok.chain c i oc o hoc ho hcc hc (by omega)).closed I.closed h2
              rw [hun] at this; cases this
        unfold SemStep at hst; rw [hc] at hst
        refine hst.2 φ a w _ Q (fun b h1 h2 => I.free i hin hun b h1 h2) hrel hopnd ?_
        intro φ' c w' t r' hv
        exact hrest φ' _ w' (I.chain T hok hf0 ho hun hc hedges t r' hv hL)

end drawn

/-- A region whose order is open. -/
theorem AW.region_draw {P : Program} {id : Nat} {ops : Array Oper} {l : List Oper} {ex : List Nat} {sz : Nat} {Q : Ex → List AV → AHeap → Prop} {fr : List AV} {h : AHeap} (hm : P.follows .mixedOrders = true) (hl : ops.toList = l)
    (hok : RgOk sz ops ex) (hsz : fr.length = sz) (hw : AOps P ops ex (Q .normal) 0 l fr h) : AW P (.region id ops true) Q fr h := by
  subst hl
  obtain ⟨fr1, h1, _, hg1, hrun1⟩ := aops_run (ex := ex) ops.toList 0 fr h (by simp) hw
  obtain ⟨vs, frs, hs, e1, e2, hK, hall⟩ := aops_text ops.toList 0 fr h (by simp) hw
  simp only [Nat.zero_add, Array.length_toList] at hK hall
  have hts : ∀ i o, i < ops.size → ops[i]? = some o → TS P ops ex i o (frs i) (hs i) (vs i) (frs (i + 1)) (hs (i + 1)) := fun i o hi ho => hall i o (Nat.zero_le _) hi ho
  have hgrow : HGrow h (hs ops.size) := by
    have : ∀ i, i ≤ ops.size → HGrow (hs 0) (hs i) := by
      intro i
      induction i with
      | zero => intro _; exact HGrow.refl _
      | succ i ih => intro hi; exact (ih (by omega)).trans (hts i _ (by omega) (Array.getElem?_eq_getElem (by omega))).grow
    rw [← e2]
    exact this _ (Nat.le_refl _)
  refine ⟨.normal, frs ops.size, hs ops.size, ⟨hgrow, ?_⟩, hK⟩
  intro φ a w hfr s
  refine wp_region_any hm ?_
  rw [← e1, ← e2] at s
  rw [← e2] at hfr
  obtain ⟨g0, gn, hst⟩ := text_states hts hfr s
  have T : Txt P ops ex sz vs frs hs := by
    refine ⟨hts, ?_, fun i hi => (g0 i hi).globs, by rw [e1]; exact hsz⟩
    intro i hi
    obtain ⟨φ', a', w', s', _⟩ := hst i hi
    exact s'.heap.ext
  have hdrew : ({ w with drawn := w.drawn + 1 } : World) = w.drew := rfl
  rw [hdrew]
  refine Inv.all T hok hfr (Q := fun e' a' w' => e' = Ex.normal.toExit ∧ ∃ φ', Trans φ h w φ' (hs ops.size) w' ∧ Sim φ' (frs ops.size) (hs ops.size) a' w') (w0 := w.drew) ?_ ops.size _ φ a w.drew (by simp) ?_ ?_
  · intro φ' a' w' t s'
    rw [e2] at t
    exact ⟨rfl, φ', t.drew, s'⟩
  · exact Nat.le_trans List.countP_le_length (by simp)
  · have hno : ∀ k, (Array.replicate ops.size false).getD k false = false := by
      intro k
      rw [Array.getD_eq_getD_getElem?]
      by_cases hk : k < ops.size
      · simp [hk]
      · simp [hk]
    have hd := s.heap.drew
    refine ⟨?_, ?_, s.fr.1, ?_, ?_, ?_, ?_, ?_, hd.glob, hd.lt, ?_, ?_, Emb.le_refl φ, ?_, ?_, fun _ _ _ => rfl, rfl, rfl, rfl, Nat.le_refl _⟩
    · intro i o e _ h _ _; rw [hno] at h; cases h
    · intro i h; rw [hno] at h; cases h
    · rw [← s.fr.2.1, e1]; exact hsz
    · intro i o d v _ h _ _; rw [hno] at h; cases h
    · intro t x v _ hx hv; exact s.fr.2.2 t x v hx hv
    · intro i hi _ b h1 h2
      exact hfr b (Nat.le_trans (g0 i (by omega)).next h1) (Nat.lt_of_lt_of_le h2 (gn (i + 1) (by omega)).next)
    · intro i h; rw [hno] at h; cases h
    · intro i hi hcomp
      refine T.up (Nat.zero_le i) hi ?_ ?_ hd
      · intro k _ hk oc hoc hcc hne
        exact hcomp k oc hoc hcc hne (.inl ⟨hk, hno k⟩)
      · intro k o _ hk _
        refine .inl ?_
        intro b h1 h2
        exact hfr b (Nat.le_trans (g0 k (by omega)).next h1) (Nat.lt_of_lt_of_le h2 (gn (k + 1) (by omega)).next)
    · intro j o cs _ h _ _ _; rw [hno] at h; cases h
    · intro b p h1 h2; rw [h1] at h2; cases h2
    · intro b k i z h1 h2; rw [h1] at h2; cases h2

end Go.Am
