/-
  The abstract machine: stores, append, copy; what a step of it is.
  Conditions: none.
-/
import Derived.Test.YtenkokebdgekbaaAm7
namespace Go.Am

/-- One step: whatever world the heap stands for, the operation goes through, and the new heap stands for what is there behind it. -/
def StepS (P : Program) (ρ : Operand → AV) (o : Oper) (h : AHeap) (v : AV) (h' : AHeap) : Prop :=
  HGrow h h' ∧ ∀ (φ : Emb) (a : Act) (w : World) (K : Act → World → Prop) (Q : Exit → Act → World → Prop), Fresh φ h h' → HRel φ h w → (∀ x ∈ o.op.operands, VRel φ (ρ x) (a.eval x)) →
    (∀ φ' c w', Trans φ h w φ' h' w' → HRel φ' h' w' → VRel φ' v c → K (a.put o.dst c) w') → o.wp P a w K Q

theorem wp_of_run {P : Program} {o : Oper} {a : Act} {w w' : World} {c : Value} {K : Act → World → Prop} {Q : Exit → Act → World → Prop} (h : (execOp a.eval o).run P w = .ok (.value c) w') (hk : K (a.put o.dst c) w') : o.wp P a w K Q := by
  unfold Oper.wp; rw [h]; exact hk
theorem wp_of_skip {P : Program} {o : Oper} {a : Act} {w w' : World} {K : Act → World → Prop} {Q : Exit → Act → World → Prop} (h : (execOp a.eval o).run P w = .ok .skip w') (hk : K (a.put o.dst undef) w') : o.wp P a w K Q := by
  unfold Oper.wp; rw [h]; exact hk

theorem VRel.undef (φ : Emb) : VRel φ (.tup []) undef := .tup [] [] rfl (by simp)

/-- A slice's elements, as cells. -/
def acells (h : AHeap) (s : Nat) : AV → Option (Nat × List AV)
  | .slc b o n s' _ => if s' = s then
      (if n = 0 then some (0, []) else match h.get b with
        | some (.cells _ _ cs) => if h.valid b = true ∧ o + n * s ≤ cs.length then some (n, (cs.drop o).take (n * s)) else none
        | _ => none) else none
  | .nils => some (0, [])
  | _ => none

def astore (P : Program) (h : AHeap) (t : TypeId) (x y : AV) : Option (AV × AHeap) :=
  match x with
  | .ptr b o => match h.get b with
    | some (.cells (some F) p cs) => do
      let f ← h.fam F
      let l ← y.cells?
      let s ← szA P t
      if h.valid b = true ∧ l.length = s ∧ o + l.length ≤ cs.length then
        some (.tup [], (h.set b (.cells (some F) p (putL cs o l))).setFam F { f with live := some [b] })
      else none
    | _ => none
  | _ => none

def aappend (P : Program) (kill : Bool) (h : AHeap) (t : TypeId) (x y : AV) : Option (AV × AHeap) := do
  let e ← elemA P t
  let s ← szA P e
  let z ← zeroA P e
  let zs ← z.cells?
  let i ← P.info? e
  let (n, olds) ← acells h s x
  let (m, news) ← acells h s y
  if m = 0 then some (x, h)
  else if zs.length = s ∧ news.all AV.one = true ∧ n + m ≤ 9223372036854775807 ∧ (n + m) * i.bytes ≤ 140737488355328 then
    match x with
    | .nils => some (.slc h.next 0 m s false, h.alloc news)
    | .slc _ _ _ _ true => some (.slc h.next 0 (n + m) s false, h.alloc (olds ++ news))
    | .slc b o _ _ false => match h.get b with
      | some (.cells (some F) p _) => do
        let f ← h.fam F
        if p + o + n * s = f.ext then
          some (.slc h.next 0 (n + m) s false, (h.push (.cells (some F) (p + o) (olds ++ news))).setFam F ⟨f.ext + m * s, f.live.map (h.next :: ·)⟩)
        else if kill = true then
          some (.slc h.next 0 (n + m) s false, (h.push (.cells (some F) (p + o) (olds ++ news))).setFam F ⟨max f.ext (p + o + (n + m) * s), some [h.next]⟩)
        else none
      | _ => none
    | _ => none
  else none

/-- append(nil, make(.., n)...) -/
def aappendZ (P : Program) (h : AHeap) (t t' : TypeId) (x y : AV) : Option (AV × AHeap) :=
  match x, y with
  | .nils, .int _ n => do
    let e ← elemA P t
    let s ← szA P e
    let z ← zeroA P e
    let zs ← z.cells?
    let i ← P.info? e
    let _ ← intA P t'
    if zs.length = s ∧ 0 < s ∧ 0 < n ∧ n ≤ 9223372036854775807 ∧ n.toNat * i.bytes ≤ 140737488355328 then
      (some (.slc h.next 0 n.toNat s false, h.alloc (List.replicate n.toNat zs).flatten))
    else none
  | _, _ => none

def acopy (P : Program) (h : AHeap) (t : TypeId) (x y : AV) : Option (AV × AHeap) := do
  let e ← elemA P t
  let s ← szA P e
  let (n, _) ← acells h s x
  let (m, news) ← acells h s y
  if min m n = 0 then some (.int .i64 0, h)
  else if news.all AV.one = true then
    match x with
    | .slc b o _ _ _ => match h.get b with
      | some (.cells (some F) p cs) => do
        let f ← h.fam F
        if o + min m n * s ≤ cs.length then
          some (.int .i64 (min m n : Nat), (h.set b (.cells (some F) p (putL cs o (news.take (min m n * s))))).setFam F { f with live := some [b] })
        else none
      | _ => none
    | _ => none
  else none

def achain (P : Program) (kill : Bool) (h : AHeap) (ρ : Operand → AV) (op : Op) : Option (AV × AHeap) :=
  match op with
  | .store t x y => astore P h t (ρ x) (ρ y)
  | .call { callee := .builtin .append, args, argTypes } => match args.toList, argTypes.toList with
    | [x, y], [t, t'] => if t = t' then aappend P kill h t (ρ x) (ρ y) else aappendZ P h t t' (ρ x) (ρ y)
    | _, _ => none
  | .call { callee := .builtin .copy, args, argTypes } => match args.toList, argTypes.toList with
    | [x, y], [t, t'] => if t = t' then acopy P h t (ρ x) (ρ y) else none
    | _, _ => none
  | _ => none

theorem VRels.all_one {φ : Emb} {l : List AV} {cs : List Value} (h : VRels φ l cs) (h1 : l.all AV.one = true) : ∀ u ∈ cs, u.oneCell' = true := by
  intro u hu
  obtain ⟨j, hj⟩ := List.mem_iff_getElem?.1 hu
  have hlt : j < l.length := by rw [h.1]; exact (List.getElem?_eq_some_iff.1 hj).1
  exact (h.2 j _ u (List.getElem?_eq_getElem hlt) hj).one (List.all_eq_true.1 h1 _ (List.getElem_mem hlt))

theorem VRels.append {φ : Emb} {l l' : List AV} {cs cs' : List Value} (h : VRels φ l cs) (h' : VRels φ l' cs') : VRels φ (l ++ l') (cs ++ cs') := by
  refine ⟨by simp [h.1, h'.1], ?_⟩
  intro j x y hx hy
  rw [List.getElem?_append] at hx hy
  rw [h.1] at hx
  split at hx
  · rename_i hj; rw [if_pos hj] at hy; exact h.2 j x y hx hy
  · rename_i hj; rw [if_neg hj] at hy; exact h'.2 _ x y hx hy

/-- What a slice's elements are in the model. -/
theorem acells_rel {φ : Emb} {h : AHeap} {w : World} {s n : Nat} {x : AV} {cx : Value} {l : List AV} (r : HRel φ h w) (hx : VRel φ x cx) (hl : acells h s x = some (n, l)) :
    ∃ cs : List Value, VRels φ l cs ∧ cs.length = n * s ∧ ((cx = .slice none 0 0 ∧ n = 0) ∨ ∃ a c, cx = .slice (some a) n c ∧ n ≤ c ∧ c ≤ maxLen ∧ ∀ j v, cs[j]? = some v → w.cell? (a.add j) = some v) := by
  unfold acells at hl
  split at hl
  · rename_i b o n' s' full
    split at hl
    · rename_i hs
      subst hs
      obtain ⟨a, c, rfl, hn, hc, hadr⟩ : ∃ a c, cx = .slice (some a) n' c ∧ n' ≤ c ∧ c ≤ maxLen ∧ (c = 0 ∨ ∃ k i z, φ b = some (k, i, z) ∧ a = ⟨k, i + o, none⟩ ∧ i + o + c * s' ≤ z) := by
        cases hx with | slc _ _ _ _ _ a c hn hc hf hadr => exact ⟨a, c, rfl, hn, hc, hadr⟩
      split at hl
      · rename_i h0
        cases hl
        subst h0
        exact ⟨[], ⟨rfl, by simp⟩, by simp, .inr ⟨a, c, rfl, hn, hc, by simp⟩⟩
      · rename_i h0
        split at hl
        · rename_i F p cs hg
          split at hl
          · rename_i hcond
            cases hl
            rcases hadr with hadr | ⟨k, i, z, h1, h2, h3⟩
            · omega
            · have hB := r.blk b k i z _ h1 hg hcond.1
              have hex : ∀ j, j < n * s' → ∃ u, w.cell? (a.add j) = some u ∧ ∀ y, cs[o + j]? = some y → VRel φ y u := by
                intro j hj
                have hlt : o + j < cs.length := by omega
                obtain ⟨u, hu, hr⟩ := hB.cell (List.getElem?_eq_getElem hlt)
                refine ⟨u, by rw [h2, Addr.add_lit, Nat.add_assoc]; exact hu, ?_⟩
                intro y hy
                rw [List.getElem?_eq_getElem hlt] at hy
                cases hy
                exact hr
              refine ⟨(List.range (n * s')).map fun j => (w.cell? (a.add j)).getD undef, ⟨?_, ?_⟩, by simp, .inr ⟨a, c, rfl, hn, hc, ?_⟩⟩
              · simp; omega
              · intro j x y hx hy
                rw [List.getElem?_take] at hx
                split at hx
                · rename_i hj
                  rw [List.getElem?_drop] at hx
                  obtain ⟨u, hu, hr⟩ := hex j hj
                  rw [List.getElem?_map, List.getElem?_range hj, Option.map_some, hu] at hy
                  cases hy
                  exact hr x hx
                · cases hx
              · intro j v hv
                have hj : j < n * s' := by
                  have := (List.getElem?_eq_some_iff.1 hv).1
                  simpa using this
                obtain ⟨u, hu, _⟩ := hex j hj
                rw [List.getElem?_map, List.getElem?_range hj, Option.map_some, hu] at hv
                cases hv
                exact hu
          · cases hl
        · cases hl
    · cases hl
  · cases hl
    cases hx
    exact ⟨[], ⟨rfl, by simp⟩, by simp, .inl ⟨rfl, rfl⟩⟩
  · cases hl

theorem astore_step {P : Program} {ρ : Operand → AV} {o : Oper} {h h' : AHeap} {v : AV} {t : TypeId} {x y : Operand} (ho : o.op = .store t x y) (hs : astore P h t (ρ x) (ρ y) = some (v, h')) : StepS P ρ o h v h' := by
  unfold astore at hs
  split at hs
  · rename_i b off hρx
    split at hs
    · rename_i F p cs hg
      simp only [Option.bind_eq_bind, Option.bind_eq_some_iff] at hs
      obtain ⟨f, hf, l, hl, s, hsz, hs⟩ := hs
      split at hs
      · rename_i hc
        cases hs
        refine ⟨HGrow.store hg hc.2.2, ?_⟩
        intro φ a w K Q _ r hops hk
        have hx := hops x (by simp [ho, Op.operands])
        have hy := hops y (by simp [ho, Op.operands])
        rw [hρx] at hx
        generalize hex : a.eval x = cx at hx
        cases hx with | ptr _ _ k i z hφ =>
        obtain ⟨hc1, hc2⟩ := hy.cells hl
        obtain ⟨c, e, h1, hfit, r', tr⟩ := r.store hφ hg hc.1 hf hc.2.2 hc1
        refine wp_of_skip (w' := w.setRow k (putL c.toList (i + off) (a.eval y).cells.toList).toArray) ?_ (hk φ undef _ tr r' (VRel.undef φ))
        have hst := run_storeCells_at P k (i + off) e (a.eval y).cells.toList 0 c w h1 (by simpa using hfit) hc2
        have hlen : (a.eval y).cells.size = s := by rw [← Array.length_toList, ← hc1.1]; exact hc.2.1
        simp only [Nat.add_zero] at hst
        simp only [execOp, ho, hex, Instr.storeAt, Instr.sureAddr, storeVar, Sem.run_bind, Sem.run_pure, Result.andThen_ok, szA_run hsz, hlen, ne_eq, not_true_eq_false, if_false, hst, putL]
      · cases hs
    · cases hs
  · cases hs

theorem run_append_none {P : Program} {w : World} {t ty e : TypeId} {s : Nat} (hu : P.underlying t = some (.slice e)) (hs : szA P e = some s) (b : Option Addr) (n c : Nat) (hn : n ≤ c) (y : Option Addr) (c' : Nat) :
    (Builtin.append_ #[t, t] ty #[.slice b n c, .slice y 0 c']).run P w = .ok (.slice b n c) w := by
  cases b <;> cases y <;> simp [Builtin.append_, run_underlying hu, szA_run hs, Builtin.lenOf, Builtin.firstCells, hn, loadCells, loadCellsFrom, storeCells]

theorem run_append_room' {P : Program} {w : World} {t ty e : TypeId} {s : Nat} (hu : P.underlying t = some (.slice e)) (hs : szA P e = some s)
    (g q sLen sCap : Nat) (cur : Array Value) (e' : TypeId) (hg : w.heap[g]? = some (.cells cur e' (0, 0)))
    (a : Addr) (m c : Nat) (news : List Value) (hl : news.length = m * s) (hnews : ∀ j u, news[j]? = some u → w.cell? (a.add j) = some u) (h1 : ∀ u ∈ news, u.oneCell' = true)
    (hroom : sLen + m ≤ sCap) (hfit : q + sLen * s + news.length ≤ cur.size) :
    (Builtin.append_ #[t, t] ty #[.slice (some ⟨g, q, none⟩) sLen sCap, .slice (some a) m c]).run P w =
      .ok (.slice (some ⟨g, q, none⟩) (sLen + m) sCap) (w.setRow g (putL cur.toList (q + sLen * s) news).toArray) := by
  have hf := run_firstCells_some (P := P) w s m a m c news hl hnews
  have hst := run_storeCells_at P g (q + sLen * s) e' news 0 cur w hg (by simpa using hfit) h1
  simp only [Nat.add_zero] at hst
  simp [Builtin.append_, run_underlying hu, szA_run hs, Builtin.lenOf, hroom, hf, Addr.add_lit, hst, putL]

theorem run_append_zeros {P : Program} {w : World} {t t' ty e : TypeId} {i : TypeInfo} {z : Value} {k k' : IntKind} {n : Int} (hu : P.underlying t = some (.slice e)) (hu' : P.underlying t' = some (.int k)) (hi : P.info? e = some i) (hz : i.zero = some z)
    (h0 : 0 < n) (hsz : 0 < i.size) (h63 : n ≤ 9223372036854775807) (h47 : n.toNat * i.bytes ≤ 140737488355328) :
    (Builtin.append_ #[t, t'] ty #[.slice none 0 0, .int k' n]).run P w =
      .ok (.slice (some ⟨w.heap.size, 0, none⟩) n.toNat (grownCap w n.toNat 0 e)) (w.drew.alloc (.cells (Builtin.zeroCells z.cells n.toNat ++ Builtin.zeroCells z.cells (grownCap w n.toNat 0 e - n.toNat)) e)) := by
  have hw : IntKind.i64.wrap n = n := IntWalk.i64_in n ⟨by omega, by omega⟩
  have hnn : ¬ n < 0 := by omega
  have hb : ¬ n * (i.bytes : Int) > 281474976710656 := by
    have : ((n.toNat * i.bytes : Nat) : Int) ≤ 140737488355328 := by omega
    rw [Int.natCast_mul, Int.toNat_of_nonneg (by omega)] at this
    omega
  have hpos : n.toNat ≠ 0 := by omega
  have h63' : ¬ (9223372036854775807 < (n.toNat : Int)) := by omega
  have hcap : ¬ (281474976710656 < Builtin.nextslicecap n.toNat 0 * i.bytes) := by
    have := growslice_fits (old := 0) (by omega) h47
    omega
  have hb' : ¬ (281474976710656 < n * (i.bytes : Int)) := by omega
  have hns : ¬ (n.toNat * i.size = 0) := by
    intro h
    rcases Nat.mul_eq_zero.1 h with h | h <;> omega
  simp [Builtin.append_, run_underlying hu, run_underlying hu', sizeOf, typeInfo, zeroValue, hi, hz, asInt, asIntOf, hw, hnn, hb', hpos, hcap, Question.forced, run_firstCells_none, newRow, grownCap]
  rw [if_neg (by omega), if_neg (by omega), if_neg hns]

theorem acells_slc {h : AHeap} {s b o n s' n0 : Nat} {full : Bool} {l : List AV} (hl : acells h s (.slc b o n s' full) = some (n0, l)) :
    n0 = n ∧ s' = s ∧ l.length = n * s ∧ (n ≠ 0 → h.valid b = true) := by
  unfold acells at hl
  simp only at hl
  split at hl
  · rename_i hss
    split at hl
    · rename_i h0; simp only [Option.some.injEq, Prod.mk.injEq] at hl; obtain ⟨rfl, rfl⟩ := hl; subst h0; exact ⟨rfl, hss, by simp, fun h => absurd rfl h⟩
    · split at hl
      · split at hl
        · rename_i hc
          simp only [Option.some.injEq, Prod.mk.injEq] at hl; obtain ⟨rfl, rfl⟩ := hl; exact ⟨rfl, hss, by simp; omega, fun _ => hc.1⟩
        · cases hl
      · cases hl
  · cases hl

/-- A new array for a block of a family. -/
theorem grow_new {φ : Emb} {h : AHeap} {w : World} (r : HRel φ h w) (hφ : φ h.next = none) {F q x : Nat} {cs : List AV} {f : Fam} {lv : Option (List Nat)} {c : Array Value} {e : TypeId} (hF : h.fam F = some f) (hc : CellsAt φ cs c 0) (hi : cs.length ≤ c.size)
    (hx : f.ext ≤ x ∧ q + cs.length ≤ x) (hlv : ∀ b, b ≠ h.next → Fam.sees ⟨x, lv⟩ b = true → f.sees b = true) :
    HRel (φ.upd h.next (w.heap.size, 0, c.size)) ((h.push (.cells (some F) q cs)).setFam F ⟨x, lv⟩) (w.alloc (.cells c e)) ∧
    Trans φ h w (φ.upd h.next (w.heap.size, 0, c.size)) ((h.push (.cells (some F) q cs)).setFam F ⟨x, lv⟩) (w.alloc (.cells c e)) := by
  have hold : ∀ k, k < w.heap.size → (w.alloc (.cells c e)).heap[k]? = w.heap[k]? := fun k hk => heap_alloc_old w _ hk
  have hnew : (w.alloc (.cells c e)).heap[w.heap.size]? = some (.cells c e (0, 0)) := heap_alloc_new w _
  refine ⟨r.grow hφ hF hnew rfl hc (by omega) (by simp) (by simp) ?_ hlv ?_ ?_ ?_ ?_ hx, ?_⟩
  · intro b k' i' z' B hb hg hv _
    exact (r.blk b k' i' z' B hb hg hv).world (hold k' (r.lt b k' i' z' hb))
  · intro b k' i' z' F' p' cs' hb hg
    obtain ⟨c1, e1, q1, q2, _⟩ := r.arr b k' i' z' F' p' cs' hb hg
    exact ⟨c1, e1, (hold k' (r.lt b k' i' z' hb)).trans q1, q2⟩
  · intro b' i' z' F' p' cs' hb hg
    have := r.lt b' _ i' z' hb; omega
  · intro b' i' z' p' cs' hb hg
    have := r.lt b' _ i' z' hb; omega
  · intro b' i' z' es hb hg
    have := r.lt b' _ i' z' hb; omega
  · refine ⟨Emb.le_upd _ hφ, ?_, ?_, ?_, ?_, rfl, rfl, rfl, by simp⟩
    · intro b h1 h2
      rw [AHeap.next_setFam, AHeap.next_push] at h2
      have : b = h.next := by omega
      subst this
      exact ⟨_, Emb.upd_same _ _ _⟩
    · intro b p h1 h2
      by_cases hbn : b = h.next
      · subst hbn; rw [AHeap.next_setFam, AHeap.next_push]; omega
      · rw [Emb.upd_other φ _ hbn, h1] at h2; cases h2
    · intro b k i z h1 h2
      by_cases hbn : b = h.next
      · subst hbn; rw [Emb.upd_same] at h2; cases h2; exact .inl (Nat.le_refl _)
      · rw [Emb.upd_other φ _ hbn, h1] at h2; cases h2
    · intro k hk _
      exact hold k hk

/-- An append that finds room. -/
theorem grow_room {φ : Emb} {h : AHeap} {w : World} (r : HRel φ h w) (hφ : φ h.next = none) {b F p k i z n s off : Nat} {cs0 olds news : List AV} {f : Fam} {x : Nat} {lv : Option (List Nat)} {c : Array Value} {e : TypeId} {vs ws : List Value} (hF : h.fam F = some f)
    (hb : φ b = some (k, i, z)) (hg : h.get b = some (.cells (some F) p cs0)) (htip : (p + off + n * s = f.ext) ∨ lv = some [h.next]) (hk : w.heap[k]? = some (.cells c e (0, 0))) (hz : c.size = z)
    (ho : VRels φ olds vs) (hol : vs.length = n * s) (hoc : ∀ j v, vs[j]? = some v → c[i + off + j]? = some v) (hn : VRels φ news ws) (hfit : i + off + n * s + ws.length ≤ z)
    (hx : f.ext ≤ x ∧ p + off + n * s + ws.length ≤ x) (hlv : ∀ b, b ≠ h.next → Fam.sees ⟨x, lv⟩ b = true → f.sees b = true) :
    HRel (φ.upd h.next (k, i + off, z)) ((h.push (.cells (some F) (p + off) (olds ++ news))).setFam F ⟨x, lv⟩) (w.setRow k (putL c.toList (i + off + n * s) ws).toArray) ∧
    Trans φ h w (φ.upd h.next (k, i + off, z)) ((h.push (.cells (some F) (p + off) (olds ++ news))).setFam F ⟨x, lv⟩) (w.setRow k (putL c.toList (i + off + n * s) ws).toArray) := by
  have hfitL : i + off + n * s + ws.length ≤ c.toList.length := by simp; omega
  have hsz : (putL c.toList (i + off + n * s) ws).length = c.size := by rw [putL_length _ _ _ hfitL]; simp
  have hnew : (w.setRow k (putL c.toList (i + off + n * s) ws).toArray).heap[k]? = some (.cells (putL c.toList (i + off + n * s) ws).toArray e (0, 0)) := setRow_heap w k c _ e (0, 0) hk
  have hold : ∀ k', k' ≠ k → (w.setRow k (putL c.toList (i + off + n * s) ws).toArray).heap[k']? = w.heap[k']? := fun k' hk' => setRow_other w k k' _ hk'
  have hklt : k < w.heap.size := (Array.getElem?_eq_some_iff.1 hk).1
  have hol' : olds.length = n * s := by rw [ho.1, hol]
  refine ⟨r.grow hφ hF hnew (by simp [hsz, hz]) ?_ (by simp [ho.1, hn.1]; omega) (by simpa using hklt) (by simp) ?_ hlv ?_ ?_ ?_ ?_ (by simp [ho.1, hn.1]; omega), ?_⟩
  · intro j x hx
    simp only [List.getElem?_toArray]
    rw [putL_get _ _ _ hfitL]
    rw [List.getElem?_append] at hx
    split at hx
    · rename_i hj
      rw [if_neg (by omega)]
      have hjl : j < vs.length := by omega
      have := hoc j vs[j] (List.getElem?_eq_getElem hjl)
      exact ⟨vs[j], by simpa using this, ho.2 j x _ hx (List.getElem?_eq_getElem hjl)⟩
    · rename_i hj
      have hjl : j - olds.length < ws.length := by rw [← hn.1]; exact (List.getElem?_eq_some_iff.1 hx).1
      rw [if_pos (by omega), show i + off + j - (i + off + n * s) = j - olds.length by omega]
      exact ⟨ws[j - olds.length], List.getElem?_eq_getElem hjl, hn.2 _ x _ hx (List.getElem?_eq_getElem hjl)⟩
  · intro b' k' i' z' B hb' hB hv hsee
    have hBR := r.blk b' k' i' z' B hb' hB hv
    by_cases hkk : k' = k
    · subst hkk
      cases B with
      | map es =>
        have := r.map b' b k' i' i z' z es _ hb' hb hB hg
        subst this; rw [hB] at hg; cases hg
      | cells F' p' cs' =>
        cases F' with
        | none => exact (r.sep b b' k' i i' z z' F p p' cs0 cs' hb hb' hg hB).elim
        | some F' =>
          obtain ⟨rfl, hpos⟩ := r.one b b' k' i i' z z' F F' p p' cs0 cs' hb hb' hg hB
          obtain ⟨f', hf', hle⟩ := r.ext b' F p' cs' hB
          rw [hF] at hf'; cases hf'
          have htip' : p + off + n * s = f.ext := by
            rcases htip with h | h
            · exact h
            · have hs := hsee p' cs' rfl
              subst h
              simp only [Fam.sees, List.contains_cons, List.contains_nil, Bool.or_false, beq_iff_eq] at hs
              have := AHeap.get_lt hB
              omega
          obtain ⟨c1, e1, h1, h2, h3⟩ := hBR
          rw [hk] at h1; cases h1
          refine ⟨_, e, hnew, by simp [hsz, h2], ?_⟩
          intro j x hx
          have hjl : j < cs'.length := (List.getElem?_eq_some_iff.1 hx).1
          obtain ⟨v, hv1, hv2⟩ := h3 j x hx
          refine ⟨v, ?_, hv2⟩
          simp only [List.getElem?_toArray]
          rw [putL_get _ _ _ hfitL, if_neg (by omega)]
          simpa using hv1
    · exact hBR.world (hold k' hkk)
  · intro b' k' i' z' F' p' cs' hb' hB
    obtain ⟨c1, e1, q1, q2, _⟩ := r.arr b' k' i' z' F' p' cs' hb' hB
    by_cases hkk : k' = k
    · subst hkk
      rw [hk] at q1; cases q1
      exact ⟨_, e, hnew, by simp [hsz, q2]⟩
    · exact ⟨c1, e1, (hold k' hkk).trans q1, q2⟩
  · intro b' i' z' F' p' cs' hb' hB
    obtain ⟨rfl, hpos⟩ := r.one b b' k i i' z z' F F' p p' cs0 cs' hb hb' hg hB
    exact ⟨rfl, by omega⟩
  · intro b' i' z' p' cs' hb' hB
    exact r.sep b b' k i i' z z' F p p' cs0 cs' hb hb' hg hB
  · intro b' i' z' es hb' hB
    have := r.map b' b k i' i z' z es _ hb' hb hB hg
    subst this; rw [hB] at hg; cases hg
  · refine ⟨Emb.le_upd _ hφ, ?_, ?_, ?_, ?_, rfl, rfl, rfl, by simp⟩
    · intro b' h1 h2
      rw [AHeap.next_setFam, AHeap.next_push] at h2
      have : b' = h.next := by omega
      subst this
      exact ⟨_, Emb.upd_same _ _ _⟩
    · intro b' q h1 h2
      by_cases hbn : b' = h.next
      · subst hbn; rw [AHeap.next_setFam, AHeap.next_push]; omega
      · rw [Emb.upd_other φ _ hbn, h1] at h2; cases h2
    · intro b' k' i' z' h1 h2
      by_cases hbn : b' = h.next
      · subst hbn; rw [Emb.upd_same] at h2; cases h2; exact .inr ⟨b, i, z, F, p, cs0, hb, hg⟩
      · rw [Emb.upd_other φ _ hbn, h1] at h2; cases h2
    · intro k' hk' hm
      refine hold k' ?_
      rintro rfl
      exact hm ⟨b, i, z, hb, .inl ⟨F, p, cs0, hg⟩⟩

theorem aappendZ_step {P : Program} {ρ : Operand → AV} {o : Oper} {h h' : AHeap} {v : AV} {t t' : TypeId} {x y : Operand} (ho : o.op = .call { callee := .builtin .append, args := #[x, y], argTypes := #[t, t'] })
    (hs : aappendZ P h t t' (ρ x) (ρ y) = some (v, h')) : StepS P ρ o h v h' := by
  have hopx : x ∈ o.op.operands := by simp [ho, Op.operands, Call.operands]
  have hopy : y ∈ o.op.operands := by simp [ho, Op.operands, Call.operands]
  unfold aappendZ at hs
  split at hs
  · rename_i k' n hρx hρy
    simp only [Option.bind_eq_bind, Option.bind_eq_some_iff] at hs
    obtain ⟨e, he, s, hsz, z, hz, zs, hzs, i, hi, k, hk', hs⟩ := hs
    split at hs
    · rename_i hcond
      cases hs
      obtain ⟨hzl, hs0, hn0, h63, h47⟩ := hcond
      have hu := elemA_und he
      have hu' := intA_und hk'
      obtain ⟨i', zv, hi', hzv, hzr⟩ := zeroA_info hz
      rw [hi] at hi'; cases hi'
      have hsi : i.size = s := by simpa [szA, hi] using hsz
      refine ⟨HGrow.alloc h _, ?_⟩
      intro φ a w K Q hfr r hops hk
      have hvx := hops x hopx; rw [hρx] at hvx
      have hvy := hops y hopy; rw [hρy] at hvy
      generalize hex : a.eval x = cx at hvx
      generalize hey : a.eval y = cy at hvy
      cases hvx; cases hvy
      have hrun := run_append_zeros (P := P) (w := w) (ty := o.type) (k' := k') hu hu' hi hzv hn0 (by omega) h63 h47
      have hge := grownCap_ge w n.toNat 0 e
      have hle := grownCap_le_maxLen w n.toNat 0 e (by unfold maxLen; omega)
      generalize grownCap w n.toNat 0 e = cap at hrun hge hle
      have hφ : φ h.next = none := hfr h.next (Nat.le_refl _) (by rw [AHeap.next_alloc]; omega)
      obtain ⟨hc1, hc2⟩ := (hzr φ).cells hzs
      have hzvs : zv.cells.size = s := by rw [← Array.length_toList, ← hc1.1]; exact hzl
      have hsize : (Builtin.zeroCells zv.cells n.toNat ++ Builtin.zeroCells zv.cells (cap - n.toNat)).size = cap * s := by
        simp only [Array.size_append, size_zeroCells, hzvs, ← Nat.add_mul]
        congr 1; omega
      have hlen0 : (List.replicate n.toNat zs).flatten.length = n.toNat * s := by simp [hzl]
      have hlen : (List.replicate n.toNat zs).flatten.length ≤ (Builtin.zeroCells zv.cells n.toNat ++ Builtin.zeroCells zv.cells (cap - n.toNat)).size := by
        rw [hlen0, hsize]; exact Nat.mul_le_mul_right _ (by omega)
      have hcells : CellsAt φ (List.replicate n.toNat zs).flatten (Builtin.zeroCells zv.cells n.toNat ++ Builtin.zeroCells zv.cells (cap - n.toNat)) 0 := by
        intro j q hq
        have hj : j < n.toNat * s := by rw [← hlen0]; exact (List.getElem?_eq_some_iff.1 hq).1
        have hq' : zs[j % s]? = some q := by rw [← hq, flat_rep zs _ j (by rw [hzl]; exact hj), hzl]
        have hjm : j % s < zv.cells.size := by rw [hzvs]; exact Nat.mod_lt _ hs0
        refine ⟨zv.cells[j % s], ?_, ?_⟩
        · rw [Nat.zero_add, Array.getElem?_append_left (by rw [size_zeroCells, hzvs]; exact hj)]
          simp only [Builtin.zeroCells, Array.getElem?_map, hzvs]
          rw [Array.getElem?_range, if_pos hj]
          simp only [Option.map_some, getElem!_pos zv.cells (j % s) hjm]
        · exact hc1.2 (j % s) q zv.cells[j % s] hq' (by simp [hjm])
      obtain ⟨r', tr⟩ := (r.drew).alloc hφ _ _ e hlen hcells
      refine wp_of_run (by simp only [execOp, ho, resolve, invoke, builtin, Sem.run_bind, Sem.run_pure, Result.andThen_ok, List.map_toArray, List.map_cons, List.map_nil, hex, hey, hrun]; rfl) (hk _ _ _ tr.drew r' ?_)
      exact .slc _ 0 _ s false _ cap hge hle (fun h => by cases h) (.inr ⟨_, 0, _, Emb.upd_same _ _ _, by simp, by rw [hsize]; omega⟩)
    · cases hs
  · cases hs

theorem aappend_step {P : Program} {ρ : Operand → AV} {o : Oper} {h h' : AHeap} {v : AV} {t : TypeId} {x y : Operand} (ho : o.op = .call { callee := .builtin .append, args := #[x, y], argTypes := #[t, t] })
    {kill : Bool} (hs : aappend P kill h t (ρ x) (ρ y) = some (v, h')) : StepS P ρ o h v h' := by
  simp only [aappend, Option.bind_eq_bind, Option.bind_eq_some_iff] at hs
  obtain ⟨e, he, s, hsz, z, hz, zs, hzs, i, hi, ⟨n, olds⟩, hxo, ⟨m, news⟩, hyo, hs⟩ := hs
  have hu := elemA_und he
  have hexec : ∀ (a : Act) (w : World), (execOp a.eval o).run P w = ((Builtin.append_ #[t, t] o.type #[a.eval x, a.eval y]).run P w).andThen fun c w' => .ok (.value c) w' := by
    intro a w
    simp [execOp, ho, resolve, invoke, builtin]
  have hopx : x ∈ o.op.operands := by simp [ho, Op.operands, Call.operands]
  have hopy : y ∈ o.op.operands := by simp [ho, Op.operands, Call.operands]
  split at hs
  · rename_i hm
    cases hs
    subst hm
    refine ⟨HGrow.refl h, ?_⟩
    intro φ a w K Q _ r hops hk
    obtain ⟨cs1, hr1, hl1, hd1⟩ := acells_rel r (hops x hopx) hxo
    obtain ⟨cs2, hr2, hl2, hd2⟩ := acells_rel r (hops y hopy) hyo
    refine wp_of_run (c := a.eval x) (w' := w) ?_ (hk φ _ _ (Trans.refl φ h w) r (hops x hopx))
    rw [hexec]
    rcases hd1 with ⟨hx, hn⟩ | ⟨a1, c1, hx, hn, _⟩ <;> rcases hd2 with ⟨hy, _⟩ | ⟨a2, c2, hy, _⟩
    · rw [hx, hy, run_append_none hu hsz none 0 0 (Nat.le_refl 0) none 0]; rfl
    · rw [hx, hy, run_append_none hu hsz none 0 0 (Nat.le_refl 0) (some a2) c2]; rfl
    · rw [hx, hy, run_append_none hu hsz (some a1) n c1 hn none 0]; rfl
    · rw [hx, hy, run_append_none hu hsz (some a1) n c1 hn (some a2) c2]; rfl
  · rename_i hm
    split at hs
    · rename_i hcond
      obtain ⟨hzl, hone, h63, h47⟩ := hcond
      obtain ⟨i', zv, hi', hzv, _⟩ := zeroA_info hz
      rw [hi] at hi'; cases hi'
      have hsi : i.size = s := by simpa [szA, hi] using hsz
      -- what is appended
      have hnews : ∀ (φ : Emb) (a : Act) (w : World), HRel φ h w → (∀ x ∈ o.op.operands, VRel φ (ρ x) (a.eval x)) →
          ∃ (cs : List Value) (a2 : Addr) (c2 : Nat), VRels φ news cs ∧ cs.length = m * s ∧ a.eval y = .slice (some a2) m c2 ∧ ∀ j v, cs[j]? = some v → w.cell? (a2.add j) = some v := by
        intro φ a w r hops
        obtain ⟨cs2, hr2, hl2, hd2⟩ := acells_rel r (hops y hopy) hyo
        rcases hd2 with ⟨_, h0⟩ | ⟨a2, c2, hy, _, _, hcell⟩
        · exact absurd h0 hm
        · exact ⟨cs2, a2, c2, hr2, hl2, hy, hcell⟩
      -- a new array of its own
      have hown : ∀ (x' : AV), ρ x = x' → (x' = .nils ∨ ∃ b off s' , x' = .slc b off n s' true) → StepS P ρ o h (.slc h.next 0 (n + m) s false) (h.alloc (olds ++ news)) := by
        intro x' hρx hx'
        refine ⟨HGrow.alloc h _, ?_⟩
        intro φ a w K Q hfr r hops hk
        obtain ⟨cs2, a2, c2, hr2, hl2, hy, hcell2⟩ := hnews φ a w r hops
        obtain ⟨cs1, hr1, hl1, hd1⟩ := acells_rel r (hops x hopx) hxo
        have hφ : φ h.next = none := hfr h.next (Nat.le_refl _) (by rw [AHeap.next_alloc]; omega)
        have hcase : ∃ old : Nat, old < n + m ∧ (Builtin.append_ #[t, t] o.type #[a.eval x, a.eval y]).run P w =
            .ok (.slice (some ⟨w.heap.size, 0, none⟩) (n + m) (grownCap w (n + m) old e)) (w.drew.alloc (.cells (cs1.toArray ++ cs2.toArray ++ Builtin.zeroCells zv.cells (grownCap w (n + m) old e - (n + m))) e)) := by
          rcases hd1 with ⟨hx, hn0⟩ | ⟨a1, c1, hx, hn, _, hcell1⟩
          · subst hn0
            have : cs1 = [] := List.eq_nil_of_length_eq_zero (by simpa using hl1)
            subst this
            refine ⟨0, by omega, ?_⟩
            rw [hx, hy]
            have := run_append_nil (P := P) w t o.type e i zv hu hi hzv a2 m c2 cs2 (by rw [hsi]; exact hl2) hcell2 (by omega) (by omega) (by simp at h47; omega)
            simpa using this
          · have hc1 : c1 = n := by
              have hvx := hops x hopx
              rw [hρx, hx] at hvx
              rcases hx' with hx' | ⟨b, off, s', hx'⟩
              · rw [hx'] at hvx; cases hvx
              · rw [hx'] at hvx
                cases hvx with | slc _ _ _ _ _ _ _ _ _ hf _ => exact hf rfl
            refine ⟨c1, by omega, ?_⟩
            rw [hx, hy]
            exact run_append_grow (P := P) w t o.type e i zv hu hi hzv a1 n c1 cs1 (by rw [hsi]; exact hl1) hcell1 a2 m c2 cs2 (by rw [hsi]; exact hl2) hcell2 (by omega) (by omega) (growslice_fits (by omega) h47)
        obtain ⟨old, hold, hrun⟩ := hcase
        have hge := grownCap_ge w (n + m) old e
        have hle := grownCap_le_maxLen w (n + m) old e (by unfold maxLen; omega)
        generalize grownCap w (n + m) old e = cap at hrun hge hle
        have hrel := hr1.append hr2
        have hzvs : zv.cells.size = s := by
          obtain ⟨i2, z2, hi2, hz2, hrz⟩ := zeroA_info hz
          rw [hi] at hi2; cases hi2
          rw [hzv] at hz2; cases hz2
          have := ((hrz φ).cells hzs).1.1
          rw [← Array.length_toList, ← this]; exact hzl
        have hsize : (cs1.toArray ++ cs2.toArray ++ Builtin.zeroCells zv.cells (cap - (n + m))).size = cap * s := by
          simp only [Array.size_append, List.size_toArray, size_zeroCells, hzvs, hl1, hl2, ← Nat.add_mul]
          congr 1; omega
        have hcells : CellsAt φ (olds ++ news) (cs1.toArray ++ cs2.toArray ++ Builtin.zeroCells zv.cells (cap - (n + m))) 0 := by
          intro j q hq
          have hlt : j < (cs1 ++ cs2).length := by rw [← hrel.1]; exact (List.getElem?_eq_some_iff.1 hq).1
          refine ⟨(cs1 ++ cs2)[j], ?_, hrel.2 j q _ hq (List.getElem?_eq_getElem hlt)⟩
          rw [Nat.zero_add, ← Array.getElem?_toList]
          simp only [Array.toList_append]
          rw [List.getElem?_append_left hlt, List.getElem?_eq_getElem hlt]
        have hlen : (olds ++ news).length ≤ (cs1.toArray ++ cs2.toArray ++ Builtin.zeroCells zv.cells (cap - (n + m))).size := by
          rw [hrel.1, hsize, List.length_append, hl1, hl2, ← Nat.add_mul]
          exact Nat.mul_le_mul_right _ (by omega)
        obtain ⟨r', tr⟩ := (r.drew).alloc hφ (olds ++ news) _ e hlen hcells
        refine wp_of_run (by rw [hexec, hrun]; rfl) (hk _ _ _ tr.drew r' ?_)
        exact .slc _ 0 _ s false _ cap hge hle (fun h => by cases h) (.inr ⟨_, 0, _, Emb.upd_same _ _ _, by simp, by rw [hsize]; omega⟩)
      split at hs
      · rename_i hρx
        cases hs
        have hxo' : n = 0 ∧ olds = [] := by
          rw [hρx] at hxo; simp [acells] at hxo; exact ⟨hxo.1.symm, hxo.2⟩
        obtain ⟨rfl, rfl⟩ := hxo'
        have := hown _ hρx (.inl rfl)
        simpa using this
      · rename_i b off n' s' hρx
        cases hs
        have hn' : n' = n := by rw [hρx] at hxo; exact (acells_slc hxo).1.symm
        subst hn'
        exact hown _ hρx (.inr ⟨b, off, s', rfl⟩)
      · rename_i b off n' s' hρx
        have hns : n' = n ∧ s' = s := by rw [hρx] at hxo; exact ⟨(acells_slc hxo).1.symm, (acells_slc hxo).2.1⟩
        obtain ⟨rfl, rfl⟩ := hns
        split at hs
        · rename_i F p cs hg
          simp only [Option.bind_eq_some_iff] at hs
          obtain ⟨f, hf, hs⟩ := hs
          have hfam : ∀ (xx : Nat) (lv : Option (List Nat)), ((p + off + n' * s' = f.ext) ∨ lv = some [h.next]) → (f.ext ≤ xx ∧ p + off + (n' + m) * s' ≤ xx) → (∀ b, b ≠ h.next → Fam.sees ⟨xx, lv⟩ b = true → f.sees b = true) →
              StepS P ρ o h (.slc h.next 0 (n' + m) s' false) ((h.push (.cells (some F) (p + off) (olds ++ news))).setFam F ⟨xx, lv⟩) := by
            intro xx lv htip hxx hlv
            refine ⟨HGrow.grow, ?_⟩
            intro φ a w K Q hfr r hops hk
            obtain ⟨cs2, a2, c2, hr2, hl2, hy, hcell2⟩ := hnews φ a w r hops
            obtain ⟨cs1, hr1, hl1, hd1⟩ := acells_rel r (hops x hopx) hxo
            have hφ : φ h.next = none := hfr h.next (Nat.le_refl _) (by rw [AHeap.next_setFam, AHeap.next_push]; omega)
            have hvx := hops x hopx
            rw [hρx] at hvx
            obtain ⟨a1, c1, hx, hn, hcm, hadr⟩ : ∃ a1 c1, a.eval x = .slice (some a1) n' c1 ∧ n' ≤ c1 ∧ c1 ≤ maxLen ∧ (c1 = 0 ∨ ∃ k i z, φ b = some (k, i, z) ∧ a1 = ⟨k, i + off, none⟩ ∧ i + off + c1 * s' ≤ z) := by
              generalize a.eval x = cx at hvx
              cases hvx with | slc _ _ _ _ _ a c hn hc hf hadr => exact ⟨a, c, rfl, hn, hc, hadr⟩
            have hcell1 : ∀ j v, cs1[j]? = some v → w.cell? (a1.add j) = some v := by
              rcases hd1 with ⟨hx', _⟩ | ⟨a1', c1', hx', _, _, hcell⟩
              · rw [hx] at hx'; cases hx'
              · rw [hx] at hx'; cases hx'; exact hcell
            by_cases hroom : n' + m ≤ c1
            · rcases hadr with hadr | ⟨k, i0, z0, hb, ha1, hfz⟩
              · omega
              · obtain ⟨c, e', hk1, hk2, hk3⟩ := r.arr b k i0 z0 F p cs hb hg
                have hmul : n' * s' + m * s' ≤ c1 * s' := by rw [← Nat.add_mul]; exact Nat.mul_le_mul_right _ hroom
                have hrun := run_append_room' (P := P) (ty := o.type) hu hsz k (i0 + off) n' c1 c e' hk1 a2 m c2 cs2 hl2 hcell2 (hr2.all_one hone) hroom (by omega)
                have hoc : ∀ j v, cs1[j]? = some v → c[i0 + off + j]? = some v := by
                  intro j v hv
                  have := hcell1 j v hv
                  rw [ha1, Addr.add_lit, cell_of_row w k _ c e' (0, 0) hk1] at this
                  exact this
                obtain ⟨r', tr⟩ := grow_room (x := xx) (lv := lv) r hφ hf hb hg htip hk1 hk2 hr1 hl1 hoc hr2 (by omega) ⟨hxx.1, by rw [hl2]; have := hxx.2; rw [Nat.add_mul] at this; omega⟩ hlv
                refine wp_of_run (by rw [hexec, hx, hy, ha1, hrun]; rfl) (hk _ _ _ tr r' ?_)
                exact .slc _ 0 _ s' false _ c1 hroom hcm (fun h => by cases h) (.inr ⟨_, _, _, Emb.upd_same _ _ _, by simp, by omega⟩)
            · have hrun := run_append_grow (P := P) w t o.type e i zv hu hi hzv a1 n' c1 cs1 (by rw [hsi]; exact hl1) hcell1 a2 m c2 cs2 (by rw [hsi]; exact hl2) hcell2 (by omega) (by omega) (growslice_fits (by omega) h47)
              have hge := grownCap_ge w (n' + m) c1 e
              have hle := grownCap_le_maxLen w (n' + m) c1 e (by unfold maxLen; omega)
              generalize grownCap w (n' + m) c1 e = cap at hrun hge hle
              have hrel := hr1.append hr2
              have hzvs : zv.cells.size = s' := by
                obtain ⟨i2, z2, hi2, hz2, hrz⟩ := zeroA_info hz
                rw [hi] at hi2; cases hi2
                rw [hzv] at hz2; cases hz2
                have := ((hrz φ).cells hzs).1.1
                rw [← Array.length_toList, ← this]; exact hzl
              have hsize : (cs1.toArray ++ cs2.toArray ++ Builtin.zeroCells zv.cells (cap - (n' + m))).size = cap * s' := by
                simp only [Array.size_append, List.size_toArray, size_zeroCells, hzvs, hl1, hl2, ← Nat.add_mul]
                congr 1; omega
              have hcells : CellsAt φ (olds ++ news) (cs1.toArray ++ cs2.toArray ++ Builtin.zeroCells zv.cells (cap - (n' + m))) 0 := by
                intro j q hq
                have hlt : j < (cs1 ++ cs2).length := by rw [← hrel.1]; exact (List.getElem?_eq_some_iff.1 hq).1
                refine ⟨(cs1 ++ cs2)[j], ?_, hrel.2 j q _ hq (List.getElem?_eq_getElem hlt)⟩
                rw [Nat.zero_add, ← Array.getElem?_toList]
                simp only [Array.toList_append]
                rw [List.getElem?_append_left hlt, List.getElem?_eq_getElem hlt]
              have hlen0 : (olds ++ news).length = (n' + m) * s' := by rw [hrel.1, List.length_append, hl1, hl2, ← Nat.add_mul]
              have hlen : (olds ++ news).length ≤ (cs1.toArray ++ cs2.toArray ++ Builtin.zeroCells zv.cells (cap - (n' + m))).size := by
                rw [hlen0, hsize]
                exact Nat.mul_le_mul_right _ (by omega)
              obtain ⟨r', tr⟩ := grow_new (e := e) (q := p + off) (x := xx) (lv := lv) (r.drew) hφ hf hcells hlen ⟨hxx.1, by rw [hlen0]; exact hxx.2⟩ hlv
              refine wp_of_run (by rw [hexec, hx, hy, hrun]; rfl) (hk _ _ _ tr.drew r' ?_)
              exact .slc _ 0 _ s' false _ cap hge hle (fun h => by cases h) (.inr ⟨_, 0, _, Emb.upd_same _ _ _, by simp, by rw [hsize]; omega⟩)
          split at hs
          · rename_i htip
            cases hs
            refine hfam _ _ (.inl htip) ⟨by omega, by rw [Nat.add_mul]; omega⟩ ?_
            intro b' hb' hsee
            cases hl : f.live with
            | none => simp [Fam.sees, hl]
            | some l =>
              simp only [Fam.sees, hl, Option.map_some, List.contains_cons, Bool.or_eq_true, beq_iff_eq] at hsee ⊢
              exact hsee.resolve_left hb'
          · split at hs
            · cases hs
              refine hfam _ _ (.inr rfl) ⟨Nat.le_max_left _ _, Nat.le_max_right _ _⟩ ?_
              intro b' hb' hsee
              simp only [Fam.sees, List.contains_cons, List.contains_nil, Bool.or_false, beq_iff_eq] at hsee
              exact absurd hsee hb'
            · cases hs
        · cases hs
      · cases hs
    · cases hs

end Go.Am
