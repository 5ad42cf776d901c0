/-
  The abstract machine: regions in the order of the text, code, calls.
  Conditions: none.
-/
import Derived.Test.YtenkokebdgekbaaAm9
namespace Go.Am

/-- A family ends where it is said to, in each heap. -/
def WFH (h : AHeap) : Prop := ∀ b F p cs, h.get b = some (.cells (some F) p cs) → ∃ f, h.fam F = some f ∧ p + cs.length ≤ f.ext

/-- A step keeps what is known of old blocks. -/
structure HExt (h h' : AHeap) : Prop where
  next : h.next ≤ h'.next
  get : ∀ b, b < h.next → h'.get b = h.get b
  valid : ∀ b, b < h.next → h'.valid b = h.valid b

theorem HExt.refl (h : AHeap) : HExt h h := ⟨Nat.le_refl _, fun _ _ => rfl, fun _ _ => rfl⟩
theorem HExt.trans {a b c : AHeap} (h : HExt a b) (k : HExt b c) : HExt a c :=
  ⟨Nat.le_trans h.next k.next, fun x hx => (k.get x (Nat.lt_of_lt_of_le hx h.next)).trans (h.get x hx), fun x hx => (k.valid x (Nat.lt_of_lt_of_le hx h.next)).trans (h.valid x hx)⟩

theorem Fresh.left {φ : Emb} {a b c : AHeap} (h : Fresh φ a c) (g : HGrow b c) : Fresh φ a b := fun x h1 h2 => h x h1 (Nat.lt_of_lt_of_le h2 g.next)
theorem Fresh.right {φ φ' : Emb} {a b c : AHeap} {w w' : World} (h : Fresh φ a c) (g : HGrow a b) (t : Trans φ a w φ' b w') : Fresh φ' b c := by
  intro x h1 h2
  cases hx : φ' x with
  | none => rfl
  | some p =>
    have h0 : φ x = none := h x (Nat.le_trans g.next h1) h2
    have := t.new x p h0 hx
    omega

/-- The operations of a region, one behind the other. 'ex': where the step must keep what is known of old blocks. -/
def AOps (P : Program) (ops : Array Oper) (ex : List Nat) (K : List AV → AHeap → Prop) : Nat → List Oper → List AV → AHeap → Prop
  | _, [], fr, h => K fr h
  | k, o :: os, fr, h =>
    let go : Prop := ∃ v h', SemStep P (evalA h.globs fr) o h v h' ∧ (ex.contains k = true → WFH h → HExt h h') ∧ AOps P ops ex K (k + 1) os (setF fr o.dst v) h'
    match o.guard with
    | none => go
    | some (j, want) => ∃ y, guardA ops fr j = some y ∧ (y = some want → go) ∧ (y ≠ some want → AOps P ops ex K (k + 1) os (setF fr o.dst (.tup [])) h)

/-- Frames and heap at a moment. -/
structure Sim (φ : Emb) (fr : List AV) (h : AHeap) (a : Act) (w : World) : Prop where
  heap : HRel φ h w
  fr : FRel φ fr a

theorem aops_run {P : Program} {ops : Array Oper} {ex : List Nat} {K : List AV → AHeap → Prop} : ∀ (l : List Oper) (k : Nat) (fr : List AV) (h : AHeap), (∀ i, l[i]? = ops[k + i]?) → AOps P ops ex K k l fr h →
    ∃ fr' h', K fr' h' ∧ HGrow h h' ∧ ∀ (φ : Emb) (a : Act) (w : World) (Q : Exit → Act → World → Prop), Fresh φ h h' → Sim φ fr h a w →
      (∀ φ' a' w', Trans φ h w φ' h' w' → Sim φ' fr' h' a' w' → Q .normal a' w') → wpOps P ops Q (List.range' k l.length) a w := by
  intro l
  induction l with
  | nil =>
    intro k fr h _ hk
    refine ⟨fr, h, hk, HGrow.refl h, ?_⟩
    intro φ a w Q _ s hq
    exact hq φ a w (Trans.refl _ _ _) s
  | cons o os ih =>
    intro k fr h hl hA
    have ho : ops[k]? = some o := by have := hl 0; simpa using this.symm
    have hl' : ∀ i, os[i]? = ops[k + 1 + i]? := by
      intro i
      have := hl (i + 1)
      simp only [List.getElem?_cons_succ] at this
      rw [this]; congr 1; omega
    -- the two ways
    have hgo : (∃ v h', SemStep P (evalA h.globs fr) o h v h' ∧ (ex.contains k = true → WFH h → HExt h h') ∧ AOps P ops ex K (k + 1) os (setF fr o.dst v) h') →
        ∃ fr' h', K fr' h' ∧ HGrow h h' ∧ ∀ (φ : Emb) (a : Act) (w : World) (Q : Exit → Act → World → Prop), Fresh φ h h' → Sim φ fr h a w → Region.wanted o (yielded ops a.tmps) = true →
          (∀ φ' a' w', Trans φ h w φ' h' w' → Sim φ' fr' h' a' w' → Q .normal a' w') → wpOps P ops Q (List.range' k (os.length + 1)) a w := by
      rintro ⟨v, h1, hs, _, hrest⟩
      obtain ⟨fr', h', hK, hg', hrun⟩ := ih (k + 1) _ h1 hl' hrest
      obtain ⟨hg, hst⟩ := hs.stepS
      refine ⟨fr', h', hK, hg.trans hg', ?_⟩
      intro φ a w Q hfr s hw hq
      rw [List.range'_succ]
      simp only [wpOps, ho, hw, if_true]
      refine .inl (hst φ a w _ Q (hfr.left hg') s.heap (fun x _ => evalA_rel s.heap s.fr x) ?_)
      intro φ1 c w1 t1 r1 hv1
      refine hrun φ1 _ w1 Q (hfr.right hg t1) ⟨r1, (s.fr.mono t1.le).put o.dst hv1⟩ ?_
      intro φ2 a2 w2 t2 s2
      exact hq φ2 a2 w2 (t1.trans hfr hg hg' t2) s2
    unfold AOps at hA
    cases hgd : o.guard with
    | none =>
      simp only [hgd] at hA
      obtain ⟨fr', h', hK, hg, hrun⟩ := hgo hA
      refine ⟨fr', h', hK, hg, ?_⟩
      intro φ a w Q hfr s hq
      exact hrun φ a w Q hfr s (by simp [Region.wanted, hgd]) hq
    | some jw =>
      obtain ⟨j, want⟩ := jw
      simp only [hgd] at hA
      obtain ⟨b, hb, hyes, hno⟩ := hA
      by_cases hbw : b = some want
      · obtain ⟨fr', h', hK, hg, hrun⟩ := hgo (hyes hbw)
        refine ⟨fr', h', hK, hg, ?_⟩
        intro φ a w Q hfr s hq
        exact hrun φ a w Q hfr s (by simp [Region.wanted, hgd, guardA_rel s.fr hb, hbw]) hq
      · obtain ⟨fr', h', hK, hg, hrun⟩ := ih (k + 1) _ h hl' (hno hbw)
        refine ⟨fr', h', hK, hg, ?_⟩
        intro φ a w Q hfr s hq
        have hw : Region.wanted o (yielded ops a.tmps) = false := by
          simp [Region.wanted, hgd, guardA_rel s.fr hb]
          exact hbw
        simp only [List.length_cons, List.range'_succ, wpOps, ho, hw, Bool.false_eq_true, if_false]
        exact hrun φ _ w Q hfr ⟨s.heap, s.fr.put o.dst (VRel.undef φ)⟩ hq

/-- How code ends. -/
inductive Ex where
  | normal | ret
  | exit (id : Nat)
  deriving DecidableEq

def Ex.toExit : Ex → Exit
  | .normal => .normal
  | .ret => .ret
  | .exit id => .exit id

/-- Code, from one frame and heap to others: whatever world they stand for. -/
def AX (P : Program) (c : Code) (fr : List AV) (h : AHeap) (e : Ex) (fr' : List AV) (h' : AHeap) : Prop :=
  HGrow h h' ∧ ∀ (φ : Emb) (a : Act) (w : World), Fresh φ h h' → Sim φ fr h a w →
    c.wp P (fun e' a' w' => e' = e.toExit ∧ ∃ φ', Trans φ h w φ' h' w' ∧ Sim φ' fr' h' a' w') a w

/-- Code comes to an end of which Q holds. -/
def AW (P : Program) (c : Code) (Q : Ex → List AV → AHeap → Prop) (fr : List AV) (h : AHeap) : Prop := ∃ e fr' h', AX P c fr h e fr' h' ∧ Q e fr' h'

theorem AW.mono {P : Program} {c : Code} {Q Q' : Ex → List AV → AHeap → Prop} {fr : List AV} {h : AHeap} (hw : AW P c Q fr h) (hq : ∀ e fr h, Q e fr h → Q' e fr h) : AW P c Q' fr h :=
  let ⟨e, fr', h', hx, q⟩ := hw; ⟨e, fr', h', hx, hq _ _ _ q⟩

theorem AW.skip {P : Program} {Q : Ex → List AV → AHeap → Prop} {fr : List AV} {h : AHeap} (hq : Q .normal fr h) : AW P .skip Q fr h :=
  ⟨.normal, fr, h, ⟨HGrow.refl h, fun φ _ w _ s => wp_skip ⟨rfl, φ, Trans.refl φ h w, s⟩⟩, hq⟩
theorem AW.label {P : Program} {Q : Ex → List AV → AHeap → Prop} {fr : List AV} {h : AHeap} {l : Nat} (hq : Q .normal fr h) : AW P (.label l) Q fr h :=
  ⟨.normal, fr, h, ⟨HGrow.refl h, fun φ _ w _ s => wp_label ⟨rfl, φ, Trans.refl φ h w, s⟩⟩, hq⟩
theorem AW.ret {P : Program} {Q : Ex → List AV → AHeap → Prop} {fr : List AV} {h : AHeap} (hq : Q .ret fr h) : AW P .ret Q fr h :=
  ⟨.ret, fr, h, ⟨HGrow.refl h, fun φ _ w _ s => wp_ret ⟨rfl, φ, Trans.refl φ h w, s⟩⟩, hq⟩
theorem AW.exit {P : Program} {Q : Ex → List AV → AHeap → Prop} {fr : List AV} {h : AHeap} {id : Nat} (hq : Q (.exit id) fr h) : AW P (.exit id) Q fr h :=
  ⟨.exit id, fr, h, ⟨HGrow.refl h, fun φ _ w _ s => wp_exit ⟨rfl, φ, Trans.refl φ h w, s⟩⟩, hq⟩

theorem AW.seq {P : Program} {c d : Code} {Q : Ex → List AV → AHeap → Prop} {fr : List AV} {h : AHeap} (hw : AW P c (fun e fr h => match e with | .normal => AW P d Q fr h | e => Q e fr h) fr h) : AW P (.seq c d) Q fr h := by
  obtain ⟨e, fr1, h1, ⟨g1, hx1⟩, hq1⟩ := hw
  cases e with
  | normal =>
    obtain ⟨e2, fr2, h2, ⟨g2, hx2⟩, hq2⟩ := hq1
    refine ⟨e2, fr2, h2, ⟨g1.trans g2, ?_⟩, hq2⟩
    intro φ a w hfr s
    refine wp_seq (wp_mono (hx1 φ a w (hfr.left g2) s) ?_)
    rintro e' a' w' ⟨rfl, φ1, t1, s1⟩
    show d.wp P _ a' w'
    refine wp_mono (hx2 φ1 a' w' (hfr.right g1 t1) s1) ?_
    rintro e'' a'' w'' ⟨rfl, φ2, t2, s2⟩
    exact ⟨rfl, φ2, t1.trans hfr g1 g2 t2, s2⟩
  | ret =>
    refine ⟨.ret, fr1, h1, ⟨g1, ?_⟩, hq1⟩
    intro φ a w hfr s
    refine wp_seq (wp_mono (hx1 φ a w hfr s) ?_)
    rintro e' a' w' ⟨rfl, r⟩
    exact ⟨rfl, r⟩
  | exit id =>
    refine ⟨.exit id, fr1, h1, ⟨g1, ?_⟩, hq1⟩
    intro φ a w hfr s
    refine wp_seq (wp_mono (hx1 φ a w hfr s) ?_)
    rintro e' a' w' ⟨rfl, r⟩
    exact ⟨rfl, r⟩

theorem AW.cond {P : Program} {c : Operand} {x y : Code} {Q : Ex → List AV → AHeap → Prop} {fr : List AV} {h : AHeap} {t : Bool} (hc : evalA h.globs fr c = .bool t) (hw : AW P (if t then x else y) Q fr h) : AW P (.cond c x y) Q fr h := by
  obtain ⟨e, fr1, h1, ⟨g1, hx1⟩, hq1⟩ := hw
  refine ⟨e, fr1, h1, ⟨g1, ?_⟩, hq1⟩
  intro φ a w hfr s
  have hv := evalA_rel s.heap s.fr c
  rw [hc] at hv
  generalize hcv : a.eval c = cv at hv
  cases hv
  exact wp_cond hcv (hx1 φ a w hfr s)

theorem AW.block {P : Program} {id : Nat} {c : Code} {Q : Ex → List AV → AHeap → Prop} {fr : List AV} {h : AHeap} (hw : AW P c (fun e fr h => if e = .exit id then Q .normal fr h else Q e fr h) fr h) : AW P (.block id c) Q fr h := by
  obtain ⟨e, fr1, h1, ⟨g1, hx1⟩, hq1⟩ := hw
  by_cases he : e = .exit id
  · subst he
    simp only [if_true] at hq1
    refine ⟨.normal, fr1, h1, ⟨g1, ?_⟩, hq1⟩
    intro φ a w hfr s
    refine wp_block (wp_mono (hx1 φ a w hfr s) ?_)
    rintro e' a' w' ⟨rfl, r⟩
    simp only [Ex.toExit, Exit.inBlock, if_true]
    exact ⟨trivial, r⟩
  · rw [if_neg he] at hq1
    refine ⟨e, fr1, h1, ⟨g1, ?_⟩, hq1⟩
    intro φ a w hfr s
    refine wp_block (wp_mono (hx1 φ a w hfr s) ?_)
    rintro e' a' w' ⟨rfl, r⟩
    cases e with
    | normal => exact ⟨rfl, r⟩
    | ret => exact ⟨rfl, r⟩
    | exit id' =>
      have : id' ≠ id := fun h => he (by rw [h])
      simp only [Ex.toExit, Exit.inBlock, if_neg this]
      exact ⟨trivial, r⟩

/-- A region in the order of its text. -/
theorem AW.region {P : Program} {id : Nat} {ops : Array Oper} {l : List Oper} {Q : Ex → List AV → AHeap → Prop} {fr : List AV} {h : AHeap} (hl : ops.toList = l) (hw : AOps P ops [] (Q .normal) 0 l fr h) : AW P (.region id ops false) Q fr h := by
  subst hl
  obtain ⟨fr', h', hK, hg, hrun⟩ := aops_run ops.toList 0 fr h (by simp) hw
  refine ⟨.normal, fr', h', ⟨hg, ?_⟩, hK⟩
  intro φ a w hfr s
  refine wp_region ?_
  have := hrun φ a w (fun e' a' w' => e' = Exit.normal ∧ ∃ φ', Trans φ h w φ' h' w' ∧ Sim φ' fr' h' a' w') hfr s (fun φ' a' w' t s' => ⟨rfl, φ', t, s'⟩)
  rw [List.range_eq_range']
  simpa [Ex.toExit] using this

theorem rounds_mono {P : Program} {c : Code} {Q Q' : Exit → Act → World → Prop} (hq : ∀ e a w, Q e a w → Q' e a w) : ∀ (n : Nat) (a : Act) (w : World), Code.rounds P c Q n a w → Code.rounds P c Q' n a w := by
  intro n
  induction n with
  | zero => intro a w h; exact h
  | succ n ih =>
    intro a w h
    rw [rounds_succ] at h ⊢
    refine wp_mono h ?_
    intro e a' w' he
    cases e with
    | normal => exact ih a' w' he
    | _ => exact hq _ _ _ he

/-- A loop, by an invariant and a measure. -/
theorem AW.loop {P : Program} {c : Code} {Q : Ex → List AV → AHeap → Prop} (I : Nat → List AV → AHeap → Prop)
    (round : ∀ n fr h, I n fr h → AW P c (fun e fr' h' => match e with | .normal => ∃ m, m < n ∧ I m fr' h' | e => Q e fr' h') fr h) :
    ∀ n fr h, I n fr h → AW P (.loop c) Q fr h := by
  have key : ∀ n fr h, I n fr h → ∃ N e fr' h', Q e fr' h' ∧ HGrow h h' ∧ ∀ (φ : Emb) (a : Act) (w : World), Fresh φ h h' → Sim φ fr h a w →
      Code.rounds P c (fun e' a' w' => e' = e.toExit ∧ ∃ φ', Trans φ h w φ' h' w' ∧ Sim φ' fr' h' a' w') N a w := by
    intro n
    induction n using Nat.strongRecOn with
    | _ n ih =>
      intro fr h hI
      obtain ⟨e, fr1, h1, ⟨g1, hx1⟩, hq1⟩ := round n fr h hI
      cases e with
      | normal =>
        obtain ⟨m, hm, hI'⟩ := hq1
        obtain ⟨N, e2, fr2, h2, hq2, g2, hx2⟩ := ih m hm fr1 h1 hI'
        refine ⟨N + 1, e2, fr2, h2, hq2, g1.trans g2, ?_⟩
        intro φ a w hfr s
        rw [rounds_succ]
        refine wp_mono (hx1 φ a w (hfr.left g2) s) ?_
        rintro e' a' w' ⟨rfl, φ1, t1, s1⟩
        show Code.rounds P c _ N a' w'
        refine rounds_mono ?_ N a' w' (hx2 φ1 a' w' (hfr.right g1 t1) s1)
        rintro e'' a'' w'' ⟨rfl, φ2, t2, s2⟩
        exact ⟨rfl, φ2, t1.trans hfr g1 g2 t2, s2⟩
      | ret =>
        refine ⟨1, .ret, fr1, h1, hq1, g1, ?_⟩
        intro φ a w hfr s
        rw [rounds_succ]
        refine wp_mono (hx1 φ a w hfr s) ?_
        rintro e' a' w' ⟨rfl, r⟩
        exact ⟨rfl, r⟩
      | exit id =>
        refine ⟨1, .exit id, fr1, h1, hq1, g1, ?_⟩
        intro φ a w hfr s
        rw [rounds_succ]
        refine wp_mono (hx1 φ a w hfr s) ?_
        rintro e' a' w' ⟨rfl, r⟩
        exact ⟨rfl, r⟩
  intro n fr h hI
  obtain ⟨N, e, fr', h', hq, g, hx⟩ := key n fr h hI
  exact ⟨e, fr', h', ⟨g, fun φ a w hfr s => wp_loop_rounds N (hx φ a w hfr s)⟩, hq⟩

/-- A call: the function is there, and whatever world the heap stands for, it returns. -/
def Okf (P : Program) (f : FuncId) : Prop := ∃ fn, P.funcs[f]? = some fn ∧ (fn.name == "runtime.NumGoroutine") = false ∧ fn.body.isNone = false

def Ev (P : Program) (f : FuncId) (args : List AV) (h : AHeap) (r : AV) (h' : AHeap) : Prop :=
  Okf P f ∧ HGrow h h' ∧ ∀ (φ : Emb) (w : World) (cs : List Value), Fresh φ h h' → HRel φ h w → VRels φ args cs →
    Calls P f cs.toArray w fun e w' => ∃ v φ', e = .returned v ∧ Trans φ h w φ' h' w' ∧ HRel φ' h' w' ∧ VRel φ' r v

/-- A call comes to an end of which R holds. -/
def ACalls (P : Program) (f : FuncId) (args : List AV) (h : AHeap) (R : AV → AHeap → Prop) : Prop := ∃ r h', Ev P f args h r h' ∧ R r h'

theorem ACalls.mono {P : Program} {f : FuncId} {args : List AV} {h : AHeap} {R R' : AV → AHeap → Prop} (hc : ACalls P f args h R) (hr : ∀ r h', R r h' → R' r h') : ACalls P f args h R' :=
  let ⟨r, h', he, q⟩ := hc; ⟨r, h', he, hr _ _ q⟩

/-- The frame with which a function begins. -/
def mkFr (args : List AV) (n : Nat) : List AV := args ++ List.replicate (n - args.length) (.tup [])

def resA (fr : List AV) : List ResultVar → Option (List AV)
  | [] => some []
  | .tmp t :: rs => (resA fr rs).map fun l => fr.getD t .bot :: l
  | .cell _ _ :: _ => none

def resultA (fr : List AV) (rs : List ResultVar) : Option AV := (resA fr rs).map fun l => match l with | [x] => x | l => .tup l

theorem resA_run {P : Program} {φ : Emb} {fr : List AV} {a : Act} (hf : FRel φ fr a) (w : World) : ∀ (rs : List ResultVar) (l : List AV), resA fr rs = some l →
    ∃ vs : List Value, VRels φ l vs ∧ (rs.mapM fun | .tmp t => pure (a.tmps.getD t undef) | .cell ad t => do loadVar t (← asAddr (a.tmps.getD ad undef)) : Sem (List Value)).run P w = .ok vs w := by
  intro rs
  induction rs with
  | nil => intro l h; cases h; exact ⟨[], ⟨rfl, by simp⟩, rfl⟩
  | cons r rs ih =>
    intro l h
    cases r with
    | cell ad t => cases h
    | tmp t =>
      simp only [resA, Option.map_eq_some_iff] at h
      obtain ⟨l', hl', rfl⟩ := h
      obtain ⟨vs, hv, hr⟩ := ih l' hl'
      refine ⟨a.tmps.getD t undef :: vs, ⟨by simp [hv.1], ?_⟩, ?_⟩
      · intro j x y hx hy
        cases j with
        | zero => simp at hx hy; subst hx hy; simpa using hf.get t
        | succ j => exact hv.2 j x y (by simpa using hx) (by simpa using hy)
      · simp only [List.mapM_cons, Sem.run_bind, Sem.run_pure, Result.andThen_ok, hr]

theorem result_run {P : Program} {φ : Emb} {fr : List AV} {a : Act} (hf : FRel φ fr a) (w : World) {fn : Func} {x : AV} (h : resultA fr fn.results.toList = some x) : ∃ v, (results fn a.tmps).run P w = .ok v w ∧ VRel φ x v := by
  simp only [resultA, Option.map_eq_some_iff] at h
  obtain ⟨l, hl, hx⟩ := h
  obtain ⟨vs, hv, hr⟩ := resA_run (P := P) hf w _ l hl
  have hm : (fn.results.mapM fun | .tmp t => pure (a.tmps.getD t undef) | .cell ad t => do loadVar t (← asAddr (a.tmps.getD ad undef)) : Sem (Array Value)).run P w = .ok vs.toArray w := by
    rw [Array.mapM_eq_mapM_toList]
    simp only [Sem.run_map, hr, Result.andThen_ok]
  refine ⟨if h : vs.toArray.size = 1 then vs.toArray[0] else .tuple vs.toArray, ?_, ?_⟩
  · have he : results fn a.tmps = (do
        let vs ← (fn.results.mapM fun | .tmp t => pure (a.tmps.getD t undef) | .cell ad t => do loadVar t (← asAddr (a.tmps.getD ad undef)) : Sem (Array Value))
        pure (if h : vs.size = 1 then vs[0] else .tuple vs)) := rfl
    rw [he, Sem.run_bind, hm]
    rfl
  · subst hx
    have hlen := hv.1
    match l, vs, hv, hlen with
    | [], [], hv, _ => exact .tup [] [] rfl (by simp)
    | [x], [v], hv, _ => simpa using hv.2 0 x v rfl rfl
    | x :: y :: l, v :: u :: vs, hv, _ => exact .tup _ _ hv.1 hv.2

/-- A function, by its body. -/
theorem ACalls.of_body {P : Program} {f : FuncId} {fn : Func} {c : Code} {args : List AV} {h : AHeap} {R : AV → AHeap → Prop} (hf : P.funcs[f]? = some fn) (hb : fn.body = some c) (hn : (fn.name == "runtime.NumGoroutine") = false)
    (hw : AW P c (fun e fr' h' => (e = .normal ∨ e = .ret) ∧ ∃ x, resultA fr' fn.results.toList = some x ∧ R x h') (mkFr args fn.ntmps) h) : ACalls P f args h R := by
  obtain ⟨e, fr', h', ⟨g, hx⟩, he, x, hr, hR⟩ := hw
  refine ⟨x, h', ⟨⟨fn, hf, hn, by rw [hb]; rfl⟩, g, ?_⟩, hR⟩
  intro φ w cs hfr r hargs
  refine calls_of_wp hf hb ?_
  have hs : Sim φ (mkFr args fn.ntmps) h { tmps := cs.toArray ++ Array.replicate (fn.ntmps - cs.toArray.size) undef, defers := [] } w := by
    refine ⟨r, rfl, ?_, ?_⟩
    · simp [mkFr, hargs.1]
    · intro t y v hy hv
      simp only [mkFr] at hy
      rw [← Array.getElem?_toList] at hv
      simp only [Array.toList_append, Array.toList_replicate] at hv
      rw [List.getElem?_append] at hy hv
      rw [hargs.1] at hy
      split at hy
      · rename_i hlt
        rw [if_pos hlt] at hv
        exact hargs.2 t y v hy hv
      · rename_i hlt
        rw [if_neg hlt] at hv
        rw [List.getElem?_replicate] at hy hv
        split at hy
        · cases hy
          split at hv
          · cases hv; exact VRel.undef φ
          · cases hv
        · cases hy
  refine wp_mono (hx φ _ w hfr hs) ?_
  rintro e' a' w' ⟨rfl, φ', t, s'⟩
  obtain ⟨v, hv, hrel⟩ := result_run (P := P) s'.fr w' hr
  rcases he with rfl | rfl
  · exact ⟨s'.fr.1, v, hv, v, φ', rfl, t, s'.heap, hrel⟩
  · exact ⟨s'.fr.1, v, hv, v, φ', rfl, t, s'.heap, hrel⟩

/-- A call as an operation. -/
theorem Ev.step {P : Program} {ρ : Operand → AV} {o : Oper} {h h' : AHeap} {f : FuncId} {caps : List AV} {r : AV} {g : Operand} {args : Array Operand} {tys : Array TypeId}
    (ho : o.op = .call { callee := .value g, args := args, argTypes := tys }) (hg : ρ g = .fn f caps) (hev : Ev P f (args.toList.map ρ ++ caps) h r h') : SemStep P ρ o h r h' := by
  have hc : clsOf o.op = .chain := by rw [ho]; rfl
  unfold SemStep
  rw [hc]
  obtain ⟨⟨fn, hf, hn, hb⟩, hgrow, hcalls⟩ := hev
  refine ⟨hgrow, ?_⟩
  intro φ a w K Q hfr rr hops hk
  have hgv := hops g (by simp [ho, Op.operands, Call.operands])
  rw [hg] at hgv
  generalize hgc : a.eval g = cg at hgv
  cases hgv with | fn _ _ cs hl hh =>
  have hrun : (execOp a.eval o).run P w = .ok (.enter f ((args.toList.map a.eval ++ cs).toArray)) w := by
    simp only [execOp, ho, resolve, hgc, Deferred.ofValue, Sem.run_bind, Sem.run_pure, Result.andThen_ok, invoke, callFunc, run_program, hf, hn, hb, Bool.false_eq_true, if_false]
    simp
  unfold Oper.wp
  rw [hrun]
  refine (hcalls φ w _ hfr rr ?_).mono ?_
  · refine VRels.append ⟨by simp, ?_⟩ ⟨hl, hh⟩
    intro j x y hx hy
    rw [List.getElem?_map, Option.map_eq_some_iff] at hx hy
    obtain ⟨q, hq, rfl⟩ := hx
    obtain ⟨q', hq', rfl⟩ := hy
    rw [hq] at hq'; cases hq'
    refine hops q ?_
    simp [ho, Op.operands, Call.operands]
    exact .inr (Array.mem_of_getElem? (by simpa using hq))
  · rintro e w' ⟨v, φ', rfl, t, r', hv⟩
    exact hk φ' v w' t r' hv

end Go.Am
