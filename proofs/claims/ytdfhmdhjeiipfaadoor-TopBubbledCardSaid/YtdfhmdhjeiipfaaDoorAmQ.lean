/-
  The abstract machine: ranges over maps, in whatever order.
  Conditions: none.
-/
import Derived.Test.YtdfhmdhjeiipfaaDoorAmK
import Derived.Maps.RangeRun
namespace Go.Am

/-- A walk through a map begins. -/
theorem mrange_step {P : Program} {ρ : Operand → AV} {o : Oper} {h : AHeap} {t : TypeId} {p : TypeId × TypeId} {x : Operand} {bm F : Nat} {es : List (AV × AV)} (ho : o.op = .range t x) (hm : mapA P t = some p) (hs : ρ x = .mp bm) (hg : h.get bm = some (.obj F (.map es))) :
    StepS P ρ o h (.it h.next) (h.allocT (.mwalk bm es.length [])) := by
  refine ⟨HGrow.allocT _ _, ?_⟩
  intro φ a w K Q hfr r hops hk
  have hx := hops x (by simp [ho, Op.operands])
  have hu := mapA_und hm
  rw [hs] at hx
  generalize hq : a.eval x = q at hx
  cases hx
  rename_i km i z hφm
  have hφ : φ h.next = none := hfr h.next (Nat.le_refl _) (by rw [AHeap.next_allocT]; omega)
  obtain ⟨ms, h1, h2, h3⟩ := r.blk bm km i z _ hφm hg (by unfold AHeap.valid; rw [hg])
  obtain ⟨r', tr⟩ := r.allocT hφ (.mwalk bm es.length []) (.mapIter (some km) ms.size #[] ms.size) (fun φ' w' hle hw => ⟨km, i, z, hle _ _ hφm, by rw [hw, h2]⟩)
  have hrun : (execOp a.eval o).run P w = .ok (.value (.pointer (some ⟨w.heap.size, 0, none⟩))) (w.alloc (.mapIter (some km) ms.size #[] ms.size)) := by
    simp [execOp, ho, Instr.range, run_underlying hu, hq, MapKept.run_getObj_map h1]
  exact wp_of_run hrun (hk _ _ _ tr r' (.it _ _ _ (Emb.upd_same _ _ _)))

theorem born_nodup {ms : Array MapEntry} (hb : ∀ (j : Nat) m, ms[j]? = some m → m.born = j) : (ms.toList.map (·.born)).Nodup := by
  have : ms.toList.map (·.born) = List.range ms.size := by
    apply List.ext_getElem
    · simp
    · intro i h1 h2
      simp only [List.length_map, Array.length_toList] at h1
      simp only [List.getElem_map, Array.getElem_toList, List.getElem_range]
      exact hb i _ (Array.getElem?_eq_getElem h1)
  rw [this]; exact List.nodup_range
theorem left_mem {ms : Array MapEntry} {seen : List Nat} (hb : ∀ (j : Nat) m, ms[j]? = some m → m.born = j) {e : MapEntry} (he : e ∈ (leftOf ms seen.toArray).toList) : ∃ j, ms[j]? = some e ∧ j ∉ seen ∧ e.born = j := by
  simp only [leftOf, Array.toList_filter, List.mem_filter, Array.mem_toList_iff, Bool.not_eq_true', List.contains_toArray] at he
  obtain ⟨h1, h2⟩ := he
  obtain ⟨j, hj, rfl⟩ := Array.getElem_of_mem h1
  have h3 := hb j _ (Array.getElem?_eq_getElem hj)
  refine ⟨j, Array.getElem?_eq_getElem hj, ?_, h3⟩
  rw [h3] at h2
  intro hm
  have := List.contains_iff_mem.2 hm
  rw [this] at h2; cases h2
theorem left_size {ms : Array MapEntry} {seen : List Nat} (hb : ∀ (j : Nat) m, ms[j]? = some m → m.born = j) : (leftOf ms seen.toArray).size = 0 ↔ ∀ j, j < ms.size → j ∈ seen := by
  constructor
  · intro h j hj
    by_cases hm : j ∈ seen
    · exact hm
    · exfalso
      have h3 := hb j _ (Array.getElem?_eq_getElem hj)
      have : ms[j] ∈ (leftOf ms seen.toArray).toList := by
        simp only [leftOf, Array.toList_filter, List.mem_filter, Array.mem_toList_iff, Bool.not_eq_true', List.contains_toArray]
        refine ⟨Array.getElem_mem hj, ?_⟩
        rw [h3]
        cases hc : seen.contains j with
        | false => rfl
        | true => exact absurd (List.contains_iff_mem.1 hc) hm
      have h4 : (leftOf ms seen.toArray).toList = [] := by rw [← List.length_eq_zero_iff, Array.length_toList]; exact h
      rw [h4] at this; cases this
  · intro h
    rw [← Array.length_toList, List.length_eq_zero_iff]
    cases hl : (leftOf ms seen.toArray).toList with
    | nil => rfl
    | cons e l =>
      obtain ⟨j, h1, h2, _⟩ := left_mem (seen := seen) hb (e := e) (by rw [hl]; simp)
      exact absurd (h j (Array.getElem?_eq_some_iff.1 h1).1) h2

/-- What a walk stands for. -/
theorem HRel.mwalk {φ : Emb} {h : AHeap} {w : World} (r : HRel φ h w) {b k i z bm F Fm : Nat} {es : List (AV × AV)} {seen : List Nat} (hb : φ b = some (k, i, z)) (hg : h.get b = some (.obj F (.mwalk bm es.length seen))) (hm : h.get bm = some (.obj Fm (.map es))) :
    ∃ km im zm ms, φ bm = some (km, im, zm) ∧ w.heap[k]? = some (.mapIter (some km) ms.size seen.toArray ms.size) ∧ w.heap[km]? = some (.map ms ms.size) ∧ es.length = ms.size ∧ (∀ (j : Nat) (x : AV × AV) (m : MapEntry), es[j]? = some x → ms[j]? = some m → m.born = j ∧ VRel φ x.1 m.key ∧ VRel φ x.2 m.val) ∧ (∀ (j : Nat) m, ms[j]? = some m → m.born = j) := by
  obtain ⟨km, im, zm, h1, h2⟩ := r.blk b k i z _ hb hg (by unfold AHeap.valid; rw [hg])
  obtain ⟨ms, h3, h4, h5⟩ := r.blk bm km im zm _ h1 hm (by unfold AHeap.valid; rw [hm])
  refine ⟨km, im, zm, ms, h1, by rw [← h4]; exact h2, h3, h4, h5, ?_⟩
  intro j m hj
  have hlt := (Array.getElem?_eq_some_iff.1 hj).1
  exact (h5 j (es[j]'(by omega)) m (List.getElem?_eq_getElem _) hj).1

/-- Nothing is left. -/
theorem mnext_over {P : Program} {ρ : Operand → AV} {o : Oper} {h : AHeap} {x : Operand} {b bm F Fm : Nat} {es : List (AV × AV)} {seen : List Nat} (ho : o.op = .next x false) (hx : ρ x = .it b) (hg : h.get b = some (.obj F (.mwalk bm es.length seen))) (hm : h.get bm = some (.obj Fm (.map es))) (hall : ∀ j, j < es.length → j ∈ seen) :
    StepS P ρ o h (.tup [.bool false]) h := by
  refine ⟨HGrow.refl _, ?_⟩
  intro φ a w K Q hfr r hops hk
  have hv := hops x (by simp [ho, Op.operands])
  rw [hx] at hv
  generalize hq : a.eval x = q at hv
  cases hv
  rename_i k z hφ
  obtain ⟨km, im, zm, ms, h1, h2, h3, h4, h5, h6⟩ := r.mwalk hφ hg hm
  have hold : ∀ y ∈ ms.toList, y.born < ms.size := by
    intro y hy
    obtain ⟨j, hj, rfl⟩ := Array.getElem_of_mem (Array.mem_toList_iff.1 hy)
    rw [h6 j _ (Array.getElem?_eq_getElem hj)]; exact hj
  rcases run_next_at (P := P) w o.type k km ms.size ms.size seen.toArray ms ms.size h2 h3 hold (Nat.le_refl _) with ⟨_, hrun⟩ | ⟨e, he, _⟩
  · have hop : (execOp a.eval o).run P w = .ok (.value (.tuple #[.bool false])) w := by
      simp only [execOp, ho, hq, Sem.run_bind, hrun, Result.andThen_ok, Sem.run_pure]
    refine wp_of_run hop (hk φ _ w (Trans.refl _ _ _) r ?_)
    refine .tup _ [.bool false] rfl ?_
    intro j y u hy hu
    match j, hy, hu with
    | 0, hy, hu => cases hy; cases hu; exact .bool _
  · obtain ⟨j, hj1, hj2, _⟩ := left_mem h6 he
    exact absurd (hall j (by have := (Array.getElem?_eq_some_iff.1 hj1).1; omega)) hj2

/-- One comes out: whichever. -/
theorem mnext_more {P : Program} {o : Oper} {h : AHeap} {x : Operand} {b bm F Fm : Nat} {es : List (AV × AV)} {seen : List Nat} (ho : o.op = .next x false) (hg : h.get b = some (.obj F (.mwalk bm es.length seen))) (hm : h.get bm = some (.obj Fm (.map es))) {j0 : Nat} (hj0 : j0 < es.length) (hj1 : j0 ∉ seen)
    {φ : Emb} {a : Act} {w : World} {K : Act → World → Prop} {Q : Exit → Act → World → Prop} (r : HRel φ h w) (hv : VRel φ (.it b) (a.eval x))
    (hk : ∀ j k v, j ∉ seen → es[j]? = some (k, v) → ∀ c w', Trans φ h w φ (h.set b (.obj F (.mwalk bm es.length (seen ++ [j])))) w' → HRel φ (h.set b (.obj F (.mwalk bm es.length (seen ++ [j])))) w' → VRel φ (.tup [.bool true, k, v]) c → K (a.put o.dst c) w') : o.wp P a w K Q := by
  generalize hq : a.eval x = q at hv
  cases hv
  rename_i k z hφ
  obtain ⟨km, im, zm, ms, h1, h2, h3, h4, h5, h6⟩ := r.mwalk hφ hg hm
  have hold : ∀ y ∈ ms.toList, y.born < ms.size := by
    intro y hy
    obtain ⟨j, hj, rfl⟩ := Array.getElem_of_mem (Array.mem_toList_iff.1 hy)
    rw [h6 j _ (Array.getElem?_eq_getElem hj)]; exact hj
  rcases run_next_at (P := P) w o.type k km ms.size ms.size seen.toArray ms ms.size h2 h3 hold (Nat.le_refl _) with ⟨h0, _⟩ | ⟨e, he, w1, hw1, hrun⟩
  · exact absurd ((left_size h6).1 h0 j0 (by omega)) hj1
  · obtain ⟨j, hj2, hj3, hj4⟩ := left_mem h6 he
    have hlt := (Array.getElem?_eq_some_iff.1 hj2).1
    have hes : es[j]? = some (es[j]'(by omega)) := List.getElem?_eq_getElem _
    obtain ⟨_, hk1, hk2⟩ := h5 j _ e hes hj2
    have hop : (execOp a.eval o).run P w = .ok (.value (.tuple #[.bool true, e.key, e.val])) (setW w1 k (.mapIter (some km) ms.size (seen.toArray.push e.born) ms.size)) := by
      simp only [execOp, ho, hq, Sem.run_bind, hrun, Result.andThen_ok, Sem.run_pure]
      rfl
    have hBR : ∀ w', w'.heap[k]? = some (.mapIter (some km) ms.size (seen.toArray.push e.born) ms.size) → BRel φ w' k 0 z (.obj F (.mwalk bm es.length (seen ++ [j]))) := by
      intro w' hw'
      refine ⟨km, im, zm, h1, ?_⟩
      rw [hw', hj4, h4]
      simp
    have hr1 : HRel φ h w1 := by
      rcases hw1 with rfl | rfl
      · exact r
      · exact r.drew
    obtain ⟨r', tr⟩ := hr1.setT hφ hg (.mwalk bm es.length (seen ++ [j])) _ hBR
    have tr' : Trans φ h w φ (h.set b (.obj F (.mwalk bm es.length (seen ++ [j])))) (setW w1 k (.mapIter (some km) ms.size (seen.toArray.push e.born) ms.size)) := by
      rcases hw1 with rfl | rfl
      · exact tr
      · exact tr.drew
    refine wp_of_run hop (hk j _ _ hj3 hes _ _ tr' r' ?_)
    refine .tup _ [.bool true, e.key, e.val] rfl ?_
    intro j' y u hy hu
    match j', hy, hu with
    | 0, hy, hu => cases hy; cases hu; exact .bool _
    | 1, hy, hu => cases hy; cases hu; exact hk1
    | 2, hy, hu => cases hy; cases hu; exact hk2

/-- The one that came out. -/
theorem mentry_step {P : Program} {ρ : Operand → AV} {o : Oper} {h : AHeap} {x : Operand} {b bm F Fm j : Nat} {es : List (AV × AV)} {seen : List Nat} {k v : AV} (ho : o.op = .entry x) (hx : ρ x = .it b) (hg : h.get b = some (.obj F (.mwalk bm es.length (seen ++ [j])))) (hm : h.get bm = some (.obj Fm (.map es))) (hj : es[j]? = some (k, v)) :
    StepS P ρ o h (.tup [k, v]) h := by
  refine ⟨HGrow.refl _, ?_⟩
  intro φ a w K Q hfr r hops hk
  have hv := hops x (by simp [ho, Op.operands])
  rw [hx] at hv
  generalize hq : a.eval x = q at hv
  cases hv
  rename_i kk z hφ
  obtain ⟨km, im, zm, ms, h1, h2, h3, h4, h5, h6⟩ := r.mwalk hφ hg hm
  have hlt : j < ms.size := by have := (List.getElem?_eq_some_iff.1 hj).1; omega
  obtain ⟨hb, hk1, hk2⟩ := h5 j _ _ hj (Array.getElem?_eq_getElem hlt)
  have h2' : w.heap[kk]? = some (.mapIter (some km) ms.size (seen.toArray.push ms[j].born) ms.size) := by rw [h2, hb]; simp
  have hrun := run_entry_at (P := P) w kk km ms.size seen.toArray ms ms.size ms[j] h2' h3 (Array.mem_toList_iff.2 (Array.getElem_mem hlt)) (born_nodup h6)
  have hop : (execOp a.eval o).run P w = .ok (.value (.tuple #[ms[j].key, ms[j].val])) w := by
    simp only [execOp, ho, hq, Sem.run_bind, hrun, Result.andThen_ok, Sem.run_pure]
  refine wp_of_run hop (hk φ _ w (Trans.refl _ _ _) r ?_)
  refine .tup _ [ms[j].key, ms[j].val] rfl ?_
  intro j' y u hy hu
  match j', hy, hu with
  | 0, hy, hu => cases hy; cases hu; exact hk1
  | 1, hy, hu => cases hy; cases hu; exact hk2

/-- A frame of which less is known. -/
def Weak (f g : List AV) : Prop := f.length = g.length ∧ ∀ t : Nat, g[t]? = f[t]? ∨ g[t]? = some AV.bot
theorem Weak.rel {f g : List AV} (hw : Weak f g) {φ : Emb} {a : Act} (h : FRel φ f a) : FRel φ g a := by
  refine ⟨h.1, by rw [← hw.1]; exact h.2.1, ?_⟩
  intro t x v hx hv
  rcases hw.2 t with h1 | h1
  · exact h.2.2 t x v (by rw [← h1]; exact hx) hv
  · rw [h1] at hx; cases hx; exact .bot v

/-- A walk is of no interest any more. -/
theorem HRel.gone {φ : Emb} {h : AHeap} {w : World} (r : HRel φ h w) {b F : Nat} {x : Thing} (hg : h.get b = some (.obj F x)) : HRel φ (h.set b (.obj F .gone)) w ∧ Trans φ h w φ (h.set b (.obj F .gone)) w := by
  have hblt := AHeap.get_lt hg
  have hget : ∀ b', (h.set b (.obj F .gone)).get b' = if b' = b then some (.obj F .gone) else h.get b' := by
    intro b'
    rw [AHeap.get_set]
    by_cases hbb : b' = b
    · subst hbb; rw [if_pos ⟨rfl, hblt⟩, if_pos rfl]
    · rw [if_neg (by simp [hbb]), if_neg hbb]
  have hvalid : ∀ b', b' ≠ b → (h.set b (.obj F .gone)).valid b' = h.valid b' := by
    intro b' hne
    simp only [AHeap.valid, hget, if_neg hne]
    rfl
  have hcell : ∀ {b' G p cs}, (h.set b (.obj F .gone)).get b' = some (.cells G p cs) → b' ≠ b ∧ h.get b' = some (.cells G p cs) := by
    intro b' G p cs hB
    rw [hget] at hB
    by_cases hbb : b' = b
    · rw [if_pos hbb] at hB; cases hB
    · rw [if_neg hbb] at hB; exact ⟨hbb, hB⟩
  refine ⟨⟨r.glob, r.lt, ?_, ?_, ?_, ?_, ?_, ?_⟩, Emb.le_refl φ, ?_, ?_, ?_, fun _ _ _ => rfl, rfl, rfl, rfl, Nat.le_refl _⟩
  · intro b' k i z B hb' hB hv
    rw [hget] at hB
    by_cases hbb : b' = b
    · rw [if_pos hbb] at hB; cases hB; trivial
    · rw [if_neg hbb] at hB
      rw [hvalid b' hbb] at hv
      exact r.blk b' k i z B hb' hB hv
  · intro b' k i z G p cs hb' hB
    exact r.arr b' k i z G p cs hb' (hcell hB).2
  · intro b1 b2 k i1 i2 z1 z2 F1 F2 p1 p2 cs1 cs2 hb1 hb2 hg1 hg2
    exact r.one b1 b2 k i1 i2 z1 z2 F1 F2 p1 p2 cs1 cs2 hb1 hb2 (hcell hg1).2 (hcell hg2).2
  · intro b1 b2 k i1 i2 z1 z2 F1 p1 p2 cs1 cs2 hb1 hb2 hg1 hg2
    exact r.sep b1 b2 k i1 i2 z1 z2 F1 p1 p2 cs1 cs2 hb1 hb2 (hcell hg1).2 (hcell hg2).2
  · intro b1 b2 k i1 i2 z1 z2 F1 x1 B hb1 hb2 hg1 hg2
    rw [hget] at hg1 hg2
    by_cases e1 : b1 = b
    · subst e1
      by_cases e2 : b2 = b1
      · exact e2.symm
      · rw [if_neg e2] at hg2
        exact r.map b1 b2 k i1 i2 z1 z2 F x B hb1 hb2 hg hg2
    · rw [if_neg e1] at hg1
      by_cases e2 : b2 = b
      · subst e2
        exact r.map b1 b2 k i1 i2 z1 z2 F1 x1 _ hb1 hb2 hg1 hg
      · rw [if_neg e2] at hg2
        exact r.map b1 b2 k i1 i2 z1 z2 F1 x1 B hb1 hb2 hg1 hg2
  · intro b' G p cs hB
    exact r.ext b' G p cs (hcell hB).2
  · intro b' h1 h2
    have : (h.set b (.obj F .gone)).next = h.next := by simp [AHeap.set, AHeap.next]
    omega
  · intro b' p h1 h2; rw [h1] at h2; cases h2
  · intro b' k' i' z' h1 h2; rw [h1] at h2; cases h2

def OkD (n : Nat) (D : List Nat) : Prop := D.Nodup ∧ ∀ j ∈ D, j < n
theorem OkD.snoc {n : Nat} {D : List Nat} (h : OkD n D) {j : Nat} (hj : j ∉ D) (hn : j < n) : OkD n (D ++ [j]) := by
  refine ⟨List.nodup_append.2 ⟨h.1, by simp, ?_⟩, ?_⟩
  · rintro a ha b hb rfl
    rw [List.mem_singleton] at hb
    subst hb
    exact hj ha
  · intro i hi
    rw [List.mem_append, List.mem_singleton] at hi
    rcases hi with hi | rfl
    · exact h.2 i hi
    · exact hn
theorem nodup_sub_le : ∀ {l m : List Nat}, l.Nodup → (∀ x ∈ l, x ∈ m) → l.length ≤ m.length := by
  intro l
  induction l with
  | nil => intro m _ _; exact Nat.zero_le _
  | cons a l ih =>
    intro m hn hs
    have hn' := List.nodup_cons.1 hn
    have ha := hs a (by simp)
    have h1 := ih (m := m.erase a) hn'.2 (fun x hx => (List.mem_erase_of_ne (by rintro rfl; exact hn'.1 hx)).2 (hs x (by simp [hx])))
    rw [List.length_erase_of_mem ha] at h1
    have := List.length_pos_of_mem ha
    rw [List.length_cons]
    omega
theorem OkD.full {n : Nat} {D : List Nat} (h : OkD n D) (hl : D.length = n) : ∀ j, j < n → j ∈ D := by
  intro j hj
  apply Classical.byContradiction
  intro hm
  have := nodup_sub_le (l := j :: D) (m := List.range n) (List.nodup_cons.2 ⟨hm, h.1⟩) (by
    intro x hx
    rcases List.mem_cons.1 hx with rfl | hx
    · exact List.mem_range.2 hj
    · exact List.mem_range.2 (h.2 x hx))
  rw [List.length_cons, List.length_range] at this
  omega
theorem OkD.more {n : Nat} {D : List Nat} (h : OkD n D) (hl : D.length < n) : ∃ j, j < n ∧ j ∉ D := by
  apply Classical.byContradiction
  intro hno
  have hall : ∀ j ∈ List.range n, j ∈ D := fun j hj => Classical.byContradiction fun hm => hno ⟨j, List.mem_range.1 hj, hm⟩
  have := nodup_sub_le List.nodup_range hall
  rw [List.length_range] at this
  omega

/-- A loop through a map: each round does its entry, whichever comes; what is there at the end is the same in all orders. -/
theorem AW.mapLoop {P : Program} {r1 id : Nat} {ops1 : Array Oper} {onx : Oper} {os1 : List Oper} {X : Code} {x : Operand} {b F bm Fm : Nat} {es : List (AV × AV)} {FZ : List Nat → List AV} {HS : List Nat → AHeap} {FE : List AV} {HE : AHeap} {Q : Ex → List AV → AHeap → Prop}
    (hl : ops1.toList = onx :: os1) (ho : onx.op = .next x false) (hgd : onx.guard = none)
    (hx : ∀ D, OkD es.length D → evalA (HS D).globs (FZ D) x = .it b) (hI : ∀ D, OkD es.length D → (HS D).get b = some (.obj F (.mwalk bm es.length D))) (hM : ∀ D, OkD es.length D → (HS D).get bm = some (.obj Fm (.map es)))
    (round : ∀ D j k v, OkD es.length D → j ∉ D → es[j]? = some (k, v) → AOps P ops1 TXT (fun fr h => AW P X (fun e fr' h' => e = .normal ∧ Weak fr' (FZ (D ++ [j])) ∧ h' = HS (D ++ [j])) fr h) 1 os1 (setF (FZ D) onx.dst (.tup [.bool true, k, v])) ((HS D).set b (.obj F (.mwalk bm es.length (D ++ [j])))))
    (last : ∀ D, OkD es.length D → (∀ j, j < es.length → j ∈ D) → AOps P ops1 TXT (fun fr h => AW P X (fun e fr' h' => e = .exit id ∧ Weak fr' FE ∧ (∃ y, h'.get b = some (.obj F y)) ∧ h'.set b (.obj F .gone) = HE) fr h) 1 os1 (setF (FZ D) onx.dst (.tup [.bool false])) (HS D))
    (hQ : Q (.exit id) FE HE) : AW P (.loop (.seq (.region r1 ops1 false) X)) Q (FZ []) (HS []) := by
  have ho0 : ops1[0]? = some onx := by rw [← Array.getElem?_toList, hl]; rfl
  have hrest : ∀ i, os1[i]? = ops1[1 + i]? := by intro i; rw [← Array.getElem?_toList, hl, Nat.add_comm]; rfl
  have hsz : ops1.size = os1.length + 1 := by rw [← Array.length_toList, hl]; rfl
  have key : ∀ k D, OkD es.length D → D.length + k = es.length → HGrow (HS D) HE ∧ ∀ (φ : Emb) (a : Act) (w : World), Fresh φ (HS D) HE → Sim φ (FZ D) (HS D) a w →
      Code.rounds P (.seq (.region r1 ops1 false) X) (fun e' a' w' => e' = .exit id ∧ ∃ φ', Trans φ (HS D) w φ' HE w' ∧ Sim φ' FE HE a' w') (k + 1) a w := by
    intro k
    induction k with
    | zero =>
      intro D hD hlen
      have hfull := hD.full (by omega)
      have hB : AW P (.seq (.region r1 ops1 false) X) (fun e fr' h' => e = .exit id ∧ Weak fr' FE ∧ (∃ y, h'.get b = some (.obj F y)) ∧ h'.set b (.obj F .gone) = HE) (FZ D) (HS D) := by
        refine AW.seq (AW.region (ex := TXT) hl ?_)
        unfold AOps
        simp only [hgd]
        exact ⟨_, _, .inr ⟨trivial, mnext_over ho (hx D hD) (hI D hD) (hM D hD) hfull⟩, fun hc => absurd hc (by decide), last D hD hfull⟩
      obtain ⟨e, fr', h', ⟨g, hrun⟩, rfl, hw, ⟨y, hy⟩, rfl⟩ := hB
      have g2 : HGrow h' (h'.set b (.obj F .gone)) := HGrow.setT hy
      refine ⟨g.trans g2, ?_⟩
      intro φ a w hfr s
      rw [rounds_succ]
      refine wp_mono (hrun φ a w (hfr.left g2) s) ?_
      rintro e' a' w' ⟨rfl, φ', t, s'⟩
      obtain ⟨r2, t2⟩ := s'.heap.gone hy
      exact ⟨rfl, φ', t.trans hfr g g2 t2, r2, hw.rel s'.fr⟩
    | succ k ih =>
      intro D hD hlen
      obtain ⟨j0, hj0, hj1⟩ := hD.more (by omega)
      have step : ∀ j kk v, j ∉ D → es[j]? = some (kk, v) → HGrow (HS D) ((HS D).set b (.obj F (.mwalk bm es.length (D ++ [j])))) := fun j kk v _ _ => HGrow.setT (hI D hD)
      have hgr : HGrow (HS D) HE := by
        obtain ⟨fr1, h1, ⟨e, fr2, h2, ⟨g2, _⟩, _, _, rfl⟩, g1, _⟩ := aops_run os1 1 _ _ hrest (round D j0 _ _ hD hj1 (List.getElem?_eq_getElem hj0))
        exact ((step j0 _ _ hj1 (List.getElem?_eq_getElem hj0)).trans g1).trans (g2.trans (ih _ (hD.snoc hj1 hj0) (by rw [List.length_append, List.length_singleton]; omega)).1)
      refine ⟨hgr, ?_⟩
      intro φ a w hfr s
      rw [rounds_succ]
      refine wp_seq (wp_region ?_)
      rw [List.range_eq_range', hsz, List.range'_succ]
      simp only [wpOps, ho0, Region.wanted, hgd, if_true]
      refine .inl (mnext_more ho (hI D hD) (hM D hD) hj0 hj1 s.heap (by rw [← hx D hD]; exact evalA_rel s.heap s.fr x) ?_)
      intro j kk v hj2 hj3 c w1 t1 r1' hc
      have hjl := (List.getElem?_eq_some_iff.1 hj3).1
      obtain ⟨fr1, h1, ⟨e, fr2, h2, ⟨g2, hrun2⟩, rfl, hw2, rfl⟩, g1, hrun1⟩ := aops_run os1 1 _ _ hrest (round D j kk v hD hj2 hj3)
      obtain ⟨g3, hrun3⟩ := ih _ (hD.snoc hj2 hjl) (by rw [List.length_append, List.length_singleton]; omega)
      have g0 := step j kk v hj2 hj3
      have f1 : Fresh φ ((HS D).set b (.obj F (.mwalk bm es.length (D ++ [j])))) HE := hfr.right g0 t1
      refine hrun1 φ _ w1 _ (f1.left (g2.trans g3)) ⟨r1', (s.fr).put onx.dst hc⟩ ?_
      intro φ2 a2 w2 t2 s2
      show X.wp P _ a2 w2
      have f2 : Fresh φ2 h1 HE := f1.right g1 t2
      refine wp_mono (hrun2 φ2 a2 w2 (f2.left g3) s2) ?_
      rintro e' a3 w3 ⟨rfl, φ3, t3, s3⟩
      show Code.rounds P _ _ (k + 1) a3 w3
      have f3 : Fresh φ3 (HS (D ++ [j])) HE := f2.right g2 t3
      refine rounds_mono ?_ _ _ _ (hrun3 φ3 a3 w3 f3 ⟨s3.heap, hw2.rel s3.fr⟩)
      rintro e'' a4 w4 ⟨rfl, φ4, t4, s4⟩
      exact ⟨rfl, φ4, t1.trans hfr g0 ((g1.trans g2).trans g3) (t2.trans f1 g1 (g2.trans g3) (t3.trans f2 g2 g3 t4)), s4⟩
  have hok : OkD es.length [] := ⟨List.nodup_nil, by simp⟩
  obtain ⟨g, hrun⟩ := key es.length [] hok (by simp)
  exact ⟨.exit id, FE, HE, ⟨g, fun φ a w hfr s => wp_loop_rounds _ (hrun φ a w hfr s)⟩, hQ⟩

theorem Weak.sub {n : Nat} {K K' : KF} (hs : Sub K' K) : Weak (toFr n K) (toFr n K') := by
  refine ⟨by rw [toFr_length, toFr_length], ?_⟩
  intro t
  simp only [toFr, List.getElem?_map]
  by_cases ht : t < n
  · rw [List.getElem?_range ht]
    simp only [Option.map_some, Option.some.injEq]
    rcases Sub.look hs t with h | h
    · exact .inr h
    · exact .inl h
  · rw [List.getElem?_eq_none (by simpa using ht)]
    exact .inl rfl
/-- A loop through a map, in whatever order. -/
theorem KA.mapLoop {P : Program} {n r1 id : Nat} {ops1 : Array Oper} {os1 : List Oper} {X : Code} {x : Operand} {a : Nat} {ty : TypeId} {pos : String} {after : Array Edge} {b F bm Fm : Nat} {es : List (AV × AV)} (KS : List Nat → KF) (HS : List Nat → AHeap) {KE K : KF} {HE h : AHeap} {Q : Ex → KF → AHeap → Prop}
    (hl : ops1.toList = ⟨some a, .next x false, ty, pos, after, none⟩ :: os1)
    (hx : ∀ D, OkD es.length D → evalK (HS D).globs n (KS D) x = .it b) (hI : ∀ D, OkD es.length D → (HS D).get b = some (.obj F (.mwalk bm es.length D))) (hM : ∀ D, OkD es.length D → (HS D).get bm = some (.obj Fm (.map es)))
    (round : ∀ D j k v, OkD es.length D → j ∉ D → es[j]? = some (k, v) → KOps P n ops1 TXT (fun K h => KA P n X (fun e K' h' => e = .normal ∧ Sub (KS (D ++ [j])) K' ∧ h' = HS (D ++ [j])) K h) 1 os1 ((a, .tup [.bool true, k, v]) :: KS D) ((HS D).set b (.obj F (.mwalk bm es.length (D ++ [j])))))
    (last : ∀ D, OkD es.length D → (∀ j, j < es.length → j ∈ D) → KOps P n ops1 TXT (fun K h => KA P n X (fun e K' h' => e = .exit id ∧ Sub KE K' ∧ (∃ y, h'.get b = some (.obj F y)) ∧ h'.set b (.obj F .gone) = HE) K h) 1 os1 ((a, .tup [.bool false]) :: KS D) (HS D))
    (hs : Sub (KS []) K) (hh : h = HS []) (hQ : Q (.exit id) KE HE) : KA P n (.loop (.seq (.region r1 ops1 false) X)) Q K h := by
  subst hh
  refine KA.sub hs ?_
  refine AW.mapLoop (FZ := fun D => toFr n (KS D)) (HS := HS) (FE := toFr n KE) (HE := HE) (id := id) hl rfl rfl (fun D hD => by rw [evalA_toFr]; exact hx D hD) hI hM ?_ ?_ ⟨KE, rfl, hQ⟩
  · intro D j k v hD hj hjk
    have := round D j k v hD hj hjk
    unfold KOps at this
    rw [← toFr_set] at this
    refine aops_mono ?_ _ _ _ _ this
    rintro fr h' ⟨K', rfl, hk⟩
    refine AW.mono hk ?_
    rintro e fr' h'' ⟨K'', rfl, he, hs', rfl⟩
    exact ⟨he, Weak.sub hs', rfl⟩
  · intro D hD hf
    have := last D hD hf
    unfold KOps at this
    rw [← toFr_set] at this
    refine aops_mono ?_ _ _ _ _ this
    rintro fr h' ⟨K', rfl, hk⟩
    refine AW.mono hk ?_
    rintro e fr' h'' ⟨K'', rfl, he, hs', hy, hg⟩
    exact ⟨he, Weak.sub hs', hy, hg⟩
end Go.Am

namespace Go.Am

/-- One entry is done: one more, or one less. -/
def bump (E : List (Int × Bool)) (l : List Int) (j : Nat) : List Int := match E[j]? with
  | some (w, m) => l.set w.toNat (l.getD w.toNat 0 + if m then 1 else -1)
  | none => l
def bumps (E : List (Int × Bool)) (l : List Int) (D : List Nat) : List Int := D.foldl (bump E) l
theorem bumps_snoc (E : List (Int × Bool)) (l : List Int) (D : List Nat) (j : Nat) : bumps E l (D ++ [j]) = bump E (bumps E l D) j := by simp [bumps]
theorem bump_len (E : List (Int × Bool)) (l : List Int) (j : Nat) : (bump E l j).length = l.length := by unfold bump; split <;> simp
theorem bumps_len (E : List (Int × Bool)) (D : List Nat) : ∀ l : List Int, (bumps E l D).length = l.length := by
  induction D with
  | nil => intro l; rfl
  | cons j D ih => intro l; show (bumps E (bump E l j) D).length = _; rw [ih, bump_len]
theorem getD_setJ (e : List Int) (x i : Nat) (c : Int) : (e.set x c).getD i 0 = if i = x ∧ x < e.length then c else e.getD i 0 := by
  simp only [List.getD_eq_getElem?_getD, List.getElem?_set]
  by_cases h : x = i
  · subst h
    by_cases h2 : x < e.length
    · simp [h2]
    · simp [h2]
  · simp [h, Ne.symm h]
theorem bump_getD (E : List (Int × Bool)) (l : List Int) (j i : Nat) : (bump E l j).getD i 0 = l.getD i 0 + match E[j]? with
    | some (w, m) => if w.toNat = i ∧ i < l.length then (if m then 1 else -1) else 0
    | none => 0 := by
  unfold bump
  cases E[j]? with
  | none => simp
  | some p =>
    obtain ⟨w, m⟩ := p
    simp only
    rw [getD_setJ]
    by_cases h : w.toNat = i ∧ i < l.length
    · obtain ⟨rfl, h2⟩ := h
      simp [h2]
    · have h2 : ¬ (i = w.toNat ∧ w.toNat < l.length) := fun h3 => h ⟨h3.1.symm, by rw [h3.1]; exact h3.2⟩
      simp only [if_neg h, if_neg h2, Int.add_zero]
theorem extJ {a b : List Int} (hl : a.length = b.length) (h : ∀ i, a.getD i 0 = b.getD i 0) : a = b := by
  apply List.ext_getElem hl
  intro i h1 h2
  have := h i
  rwa [List.getD_eq_getElem?_getD, List.getD_eq_getElem?_getD, List.getElem?_eq_getElem h1, List.getElem?_eq_getElem h2] at this
theorem bump_comm (E : List (Int × Bool)) (l : List Int) (i j : Nat) : bump E (bump E l i) j = bump E (bump E l j) i := by
  refine extJ (by simp only [bump_len]) ?_
  intro k
  rw [bump_getD, bump_getD, bump_getD, bump_getD, bump_len, bump_len]
  omega
theorem bumps_perm {E : List (Int × Bool)} {D D' : List Nat} (h : D.Perm D') (l : List Int) : bumps E l D = bumps E l D' :=
  h.foldl_eq' (fun x _ y _ z => bump_comm E z x y) l

/-- The heap while a walk has met D, and a row holds xs. -/
def hpush (h1 : AHeap) (bI FI bm n bn Fn pn : Nat) (cs : List AV) (off : Nat) (f : Fam) (D : List Nat) (xs : List AV) : AHeap :=
  ((h1.set bI (.obj FI (.mwalk bm n D))).set bn (.cells (some Fn) pn (putL cs off xs))).setFam Fn (if D = [] then f else { f with live := some [bn] })
section
variable {h1 : AHeap} {bI FI bm n bn Fn pn : Nat} {cs : List AV} {off : Nat} {f : Fam}
theorem hpush_get {D : List Nat} {xs : List AV} (b : Nat) (hI : bI < h1.next) (hn : bn < h1.next) : (hpush h1 bI FI bm n bn Fn pn cs off f D xs).get b = if b = bn then some (.cells (some Fn) pn (putL cs off xs)) else if b = bI then some (.obj FI (.mwalk bm n D)) else h1.get b := by
  unfold AHeap.next at hI hn
  simp only [hpush, AHeap.setFam, AHeap.set, AHeap.get, List.getElem?_set, List.length_set]
  by_cases e1 : bn = b
  · subst e1; simp [hn]
  · by_cases e2 : bI = b
    · subst e2; simp [e1, Ne.symm e1, hI]
    · simp [e1, e2, Ne.symm e1, Ne.symm e2]
theorem hpush_fam {D : List Nat} {xs : List AV} (hF : Fn < h1.nfam) : (hpush h1 bI FI bm n bn Fn pn cs off f D xs).fam Fn = some (if D = [] then f else { f with live := some [bn] }) := by
  unfold AHeap.nfam at hF
  simp [hpush, AHeap.setFam, AHeap.set, AHeap.fam, hF]
theorem set_same {α : Type} {l : List α} {i : Nat} {a : α} (h : l[i]? = some a) : l.set i a = l := by
  obtain ⟨hi, rfl⟩ := List.getElem?_eq_some_iff.1 h
  exact List.set_getElem_self hi
theorem putL_same {cs xs : List AV} {off : Nat} (h : (cs.drop off).take xs.length = xs) : putL cs off xs = cs := by
  unfold putL
  have h2 : cs.drop off = xs ++ cs.drop (off + xs.length) := by
    have := List.take_append_drop xs.length (cs.drop off)
    rw [h, List.drop_drop] at this
    exact this.symm
  rw [List.append_assoc, ← h2, List.take_append_drop]
theorem hpush_nil {xs : List AV} (hI : h1.get bI = some (.obj FI (.mwalk bm n []))) (hn : h1.get bn = some (.cells (some Fn) pn cs)) (hF : h1.fam Fn = some f) (hx : (cs.drop off).take xs.length = xs) : hpush h1 bI FI bm n bn Fn pn cs off f [] xs = h1 := by
  unfold hpush
  rw [putL_same hx, if_pos rfl]
  unfold AHeap.get at hI hn
  unfold AHeap.fam at hF
  unfold AHeap.setFam AHeap.set
  simp only [set_same hI, set_same hn, set_same hF]
theorem hpush_step {D D' : List Nat} {xs xs' : List AV} {c' : List AV} {f' : Fam} (hne : bI ≠ bn) (hD : D' ≠ []) (hc : c' = putL cs off xs') (hf : f' = { f with live := some [bn] }) :
    (((hpush h1 bI FI bm n bn Fn pn cs off f D xs).set bI (.obj FI (.mwalk bm n D'))).set bn (.cells (some Fn) pn c')).setFam Fn f' = hpush h1 bI FI bm n bn Fn pn cs off f D' xs' := by
  subst hc hf
  unfold hpush
  rw [if_neg hD]
  unfold AHeap.setFam AHeap.set
  simp only [AHeap.mk.injEq, and_true]
  refine ⟨?_, ?_⟩
  · rw [List.set_comm _ _ hne.symm, List.set_set, List.set_set]
  · rw [List.set_set]
theorem hpush_gone {D D' : List Nat} {xs : List AV} (hne : bI ≠ bn) (hD : D = [] ↔ D' = []) : (hpush h1 bI FI bm n bn Fn pn cs off f D xs).set bI (.obj FI .gone) = (hpush h1 bI FI bm n bn Fn pn cs off f D' xs).set bI (.obj FI .gone) := by
  unfold hpush
  have : (if D = [] then f else { f with live := some [bn] } : Fam) = if D' = [] then f else { f with live := some [bn] } := by
    by_cases h : D = []
    · rw [if_pos h, if_pos (hD.1 h)]
    · rw [if_neg h, if_neg (fun h2 => h (hD.2 h2))]
  rw [this]
  unfold AHeap.setFam AHeap.set
  simp only [AHeap.mk.injEq, and_true]
  rw [List.set_comm _ _ hne.symm, List.set_set, List.set_comm _ _ hne.symm, List.set_set]
end

/-- An entry of a map that is written out. -/
theorem insert_step {P : Program} {ρ : Operand → AV} {o : Oper} {h h' : AHeap} {t : TypeId} {x ix y : Operand} (ho : o.op = .insert t x ix y) (hs : aput P h t (ρ x) (ρ ix) (ρ y) = some h') : StepS P ρ o h (.tup []) h' := by
  obtain ⟨g, hrun⟩ := mapUpdate_step (o := { o with op := .mapUpdate t x ix y }) rfl hs
  refine ⟨g, ?_⟩
  intro φ a w K Q hfr r hops hk
  have := hrun φ a w K Q hfr r (fun z hz => hops z (by rw [ho]; exact hz)) hk
  have he : execOp a.eval o = execOp a.eval { o with op := .mapUpdate t x ix y } := by simp only [execOp, ho]
  unfold Oper.wp at this ⊢
  rw [he]
  exact this
section maps
variable {κ ν : Type} [DecidableEq κ]
variable {P : Program} {n : Nat} {ops : Array Oper} {ex : List Nat} {Q : KF → AHeap → Prop} {k : Nat} {os : List Oper} {K : KF} {h h0 : AHeap} {d : Nat} {ty : TypeId} {pos : String} {after : Array Edge} {objs : List Obj}
theorem KOps.insertK {t kt : TypeId} {z : AV} {kf : κ → AV} {vf : ν → AV} {l : List (κ × ν)} {v u : AV} {x ix y : Operand} {a : κ} {b : ν} {i : Nat} [hx : EvK h.globs n K x v] (hi : evalK h.globs n K ix = kf a) [hy : EvK h.globs n K y u] (hu : u = vf b) [ht : MpT P t kt z] [hkt : KeyT P kt kf]
    (st : St h0 h objs) (hv : IsMp v) (hk' : objs[i]? = some (mapO v (entL kf vf l))) (hex : ex.contains k = false)
    (hk : ∀ h', St h0 h' (objs.set i (mapO v (entL kf vf (mput l a b)))) → KOps P n ops ex Q (k + 1) os K h') : KOps P n ops ex Q k (⟨none, .insert t x ix y, ty, pos, after, none⟩ :: os) K h := by
  obtain ⟨bb, G, rfl, hg⟩ := St.rdM st i hk' hv
  obtain ⟨et, h1, h2⟩ := ht.mp
  obtain ⟨r, h3, -, h4⟩ := afind_ent (P := P) (kt := kt) (kf := kf) (vf := vf) l a
  have hput : aput P h t (.mp bb) (kf a) (vf b) = some (h.set bb (.obj G (.map (entL kf vf (mput l a b))))) := by
    simp only [aput, h1, hg, hkt.ok, if_true, h3, Option.map_some]
    rw [← h4 b]
  refine KOps.chainS0 (v := .tup []) (h' := h.set bb (.obj G (.map (entL kf vf (mput l a b))))) rfl hex (insert_step rfl ?_) (hk _ ?_)
  · rw [hx.eq, hi, hy.eq, hu]; exact hput
  · refine St.setT (x := .map (entL kf vf l)) (x' := .map (entL kf vf (mput l a b))) st hk' (fun _ => rfl) rfl hg ?_
    intro F hm
    obtain ⟨b', G', f, hF, hlo, hb', hg', hf⟩ := hm.map hv
    cases hb'
    rw [hg] at hg'; cases hg'
    exact ⟨hF, hlo, f, hf⟩
end maps
section drawS
variable {P : Program} {n : Nat} {Q : Ex → KF → AHeap → Prop} {K : KF} {h : AHeap}
/-- A region whose order is open, in which a load may come behind a store of other places. -/
theorem KA.drawS {id c r t a d : Nat} {ops : Array Oper} {l1 l2 : List Oper} {o : Oper} (ex : List Nat) (hm : P.follows .mixedOrders = true) (hl1 : ops.toList.take (c + 1) = l1) (hl2 : ops.toList.drop (c + 1) = l2) (hc : l1.length = c + 1) (hok : rgOk n ops.toList ex [(c, r)] = true) (ho : ops[r]? = some o) (hop : o.op = .load t (.tmp a)) (hod : o.dst = some d) (hdz : d < n) (hrc : r < c)
    (hno : ((List.range' r (c + 1 - r)).all fun j => match ops[j]? with | some oj => oj.dst != some a && (j == r || oj.dst != some d) | none => true) = true)
    (hw : KOps P n ops ex (fun K1 h1 => aload P h1 t ((toFr n K1).getD a .bot) = some ((toFr n K1).getD d .bot) ∧ KOps P n ops ex (Q .normal) (c + 1) l2 K1 h1) 0 l1 K h) : KA P n (.region id ops true) Q K h := by
  refine AW.region_drawS (c := c) (r := r) (t := t) (a := a) (d := d) (l1 := l1) (l2 := l2) hm (by rw [← hl1, ← hl2, List.take_append_drop]) hc (rgOk_sound rfl hok) (toFr_length n K) hrc ho hop hod hdz ?_ ?_
  · intro j oj h1 h2 hj
    have := List.all_eq_true.1 hno j (List.mem_range'_1.2 ⟨h1, by omega⟩)
    simp only [hj, Bool.and_eq_true, bne_iff_ne, Bool.or_eq_true, beq_iff_eq] at this
    exact ⟨this.1, fun h3 => this.2.resolve_left (by omega)⟩
  · refine aops_mono ?_ _ _ _ _ hw
    rintro fr1 h1 ⟨K1, rfl, hchk, hrest⟩
    exact ⟨hchk, hrest⟩
end drawS
section drawS2
variable {P : Program} {n : Nat} {ops : Array Oper} {ex : List Nat} {Q : KF → AHeap → Prop} {k : Nat} {K : KF} {h : AHeap}
theorem KOps.doneS {t a d s j : Nat} {l2 : List Oper} {p v y : AV} {xs : List AV} [hla : Look K a p] [hld : Look K d y] [ht : ScT P t] (hna : Nat.ble n a = false) (hnd : Nat.ble n d = false) (ha : AddrOf p v s j) (hr : Rd h v s xs) (hy : xs[j]? = some y) (hrest : KOps P n ops ex Q k l2 K h) :
    KOps P n ops ex (fun K1 h1 => aload P h1 t ((toFr n K1).getD a .bot) = some ((toFr n K1).getD d .bot) ∧ KOps P n ops ex Q k l2 K1 h1) k [] K h := by
  refine KOps.done ⟨?_, hrest⟩
  rw [toFr_getD, toFr_getD, hna, hnd, cond_false, cond_false, hla.eq, hld.eq]
  exact hr.load ha hy
end drawS2
section calls
variable {P : Program} {n : Nat} {ops : Array Oper} {ex : List Nat} {Q : KF → AHeap → Prop} {k : Nat} {os : List Oper} {K : KF} {h : AHeap} {d : Nat} {ty : TypeId} {pos : String} {after : Array Edge}
/-- A call that keeps all that is known: in a region whose order is open. -/
theorem KOps.callK {f : FuncId} {g : Operand} {caps : List AV} {l : List Operand} {vs : List AV} {tys : Array TypeId} {R : AV → AHeap → Prop} [hg : EvK h.globs n K g (.fn f caps)] [hl : EvKs h.globs n K l vs] (hR : ∀ r h', R r h' → Keeps h h')
    (hc : ACalls P f (vs ++ caps) h R) (hk : ∀ r h', R r h' → KOps P n ops ex Q (k + 1) os ((d, r) :: K) h') : KOps P n ops ex Q k (⟨some d, .call { callee := .value g, args := List.toArray l, argTypes := tys }, ty, pos, after, none⟩ :: os) K h := by
  obtain ⟨r, h', hev, hr⟩ := hc
  refine KOps.step (v := r) (h' := h') ?_ (fun _ hw => (hR r h' hr).hext hw) (hk r h' hr)
  refine Ev.step (g := g) (args := List.toArray l) (tys := tys) rfl hg.eq ?_
  rw [List.toList_toArray, hl.eq]
  exact hev
end calls
section rules
variable {P : Program} {n : Nat} {ops : Array Oper} {ex : List Nat} {Q : KF → AHeap → Prop} {k : Nat} {os : List Oper} {K : KF} {h h' : AHeap} {ty : TypeId} {pos : String} {after : Array Edge}
/-- A store, its heap in full. -/
theorem KOps.storeE {t : TypeId} {x y : Operand} {p v : AV} [hx : EvK h.globs n K x p] [hy : EvK h.globs n K y v] (hex : ex.contains k = false) (hs : astore P h t p v = some (.tup [], h')) (hk : KOps P n ops ex Q (k + 1) os K h') :
    KOps P n ops ex Q k (⟨none, .store t x y, ty, pos, after, none⟩ :: os) K h := by
  refine KOps.chain0 (kill := true) (v := .tup []) rfl ?_ (fun hc => by rw [hex] at hc; cases hc) hk
  simp only [achain, hx.eq, hy.eq]
  exact hs
end rules
end Go.Am

namespace Go.Am
theorem eqIn_nilm {P : Program} {t kt et : TypeId} (d : Nat) (h : P.underlying t = some (.map kt et)) (b : Option Nat) (w : World) : (Op.equalIn (d + 1) t (.map b) (.map none)).run P w = .ok b.isNone w := by
  cases b <;> simp [Op.equalIn, run_underlying h]
theorem eq_nilm {P : Program} {t kt et : TypeId} (h : P.underlying t = some (.map kt et)) (b : Option Nat) (w : World) : (Op.equal t (.map b) (.map none)).run P w = .ok b.isNone w := eqIn_nilm 9999 h b w
theorem bin_nilm_eql {P : Program} {t kt et : TypeId} (h : P.underlying t = some (.map kt et)) (b : Option Nat) (w : World) : (binOp .eql t (.map b) (.map none)).run P w = .ok (.bool b.isNone) w := by
  have : binOp .eql t (.map b) (.map none) = (do pure (Value.bool (← Op.equal t (.map b) (.map none))) : Sem Value) := by cases b <;> rfl
  rw [this]; simp [eq_nilm h]
theorem bin_nilm_neq {P : Program} {t kt et : TypeId} (h : P.underlying t = some (.map kt et)) (b : Option Nat) (w : World) : (binOp .neq t (.map b) (.map none)).run P w = .ok (.bool !b.isNone) w := by
  have : binOp .neq t (.map b) (.map none) = (do pure (Value.bool (!(← Op.equal t (.map b) (.map none)))) : Sem Value) := by cases b <;> rfl
  rw [this]; simp [eq_nilm h]
theorem PartOf.one {r v : AV} {s lo hi : Nat} (h : PartOf r v s lo hi) : r.one = true := by
  rcases h with ⟨rfl, _⟩ | ⟨b, off, n, full, full', _, rfl, _⟩ <;> rfl
/-- Whether a map is nil. -/
def AV.mapNil : AV → Option Bool
  | .nilm => some true
  | .mp _ => some false
  | _ => none
theorem AV.mapNil_mp {q : AV} (h : q.mapNil = some false) : IsMp q := by
  cases q <;> simp [AV.mapNil] at h
  exact ⟨_, rfl⟩
theorem nilm_step {P : Program} {ρ : Operand → AV} {o : Oper} {h : AHeap} {t t' : TypeId} {p : TypeId × TypeId} {x y : Operand} {b : Bool} {op : BinOp} (ho : o.op = .binOp op t x y t') (hop : op = .eql ∨ op = .neq) (hm : mapA P t = some p) (hx : (ρ x).mapNil = some b) (hy : ρ y = .nilm) :
    StepS P ρ o h (.bool (if op = .eql then b else !b)) h := by
  refine ⟨HGrow.refl _, ?_⟩
  intro φ a w K Q hfr r hops hk
  have hvx := hops x (by simp [ho, Op.operands])
  have hvy := hops y (by simp [ho, Op.operands])
  have hu := mapA_und hm
  rw [hy] at hvy
  generalize hqx : a.eval x = qx at hvx
  generalize hqy : a.eval y = qy at hvy
  cases hvy
  have hex : ∃ q, qx = .map q ∧ q.isNone = b := by
    generalize ρ x = vx at hx hvx
    cases vx <;> simp only [AV.mapNil, Option.some.injEq, reduceCtorEq] at hx
    · cases hvx; subst hx; exact ⟨_, rfl, rfl⟩
    · cases hvx; subst hx; exact ⟨_, rfl, rfl⟩
  obtain ⟨q, rfl, hb⟩ := hex
  have hrun : (execOp a.eval o).run P w = .ok (.value (.bool (if op = .eql then b else !b))) w := by
    rcases hop with rfl | rfl
    · simp [execOp, ho, hqx, hqy, eqGuard_at_map, bin_nilm_eql hu, hb]
    · simp [execOp, ho, hqx, hqy, eqGuard_at_map, bin_nilm_neq hu, hb]
  exact wp_of_run hrun (hk φ _ w (Trans.refl _ _ _) r (.bool _))
theorem build_s1 {P : Program} {t : TypeId} {z0 z1 z2 x : AV} (hz : zeroA P t = some (.agg [z0, z1, z2])) (hz1 : [z0, z1, z2].all AV.one = true) (hok : abuildOk P t = true) (hp0 : aplaces P t 0 = some (0, 1)) (hx : x.one = true) : abuild P t [(0, x)] = some (.agg [x, z1, z2]) := by
  have h0 : (AV.agg [z0, z1, z2]).cells? = some [z0, z1, z2] := by simp only [AV.cells?]; rw [if_pos hz1]
  simp only [abuild, hz, h0, hok, if_true, Option.bind_eq_bind, Option.bind_some, afill, hp0, AV.cells_one hx]
  simp [putL, afill]
theorem build_s3 {P : Program} {t : TypeId} {z0 z1 z2 x y u : AV} (hz : zeroA P t = some (.agg [z0, z1, z2])) (hz1 : [z0, z1, z2].all AV.one = true) (hok : abuildOk P t = true) (hp0 : aplaces P t 0 = some (0, 1)) (hp1 : aplaces P t 1 = some (1, 1)) (hp2 : aplaces P t 2 = some (2, 1)) (hx : x.one = true) (hy : y.one = true) (hu : u.one = true) : abuild P t [(0, x), (1, y), (2, u)] = some (.agg [x, y, u]) := by
  have h0 : (AV.agg [z0, z1, z2]).cells? = some [z0, z1, z2] := by simp only [AV.cells?]; rw [if_pos hz1]
  simp only [abuild, hz, h0, hok, if_true, Option.bind_eq_bind, Option.bind_some, afill, hp0, hp1, hp2, AV.cells_one hx, AV.cells_one hy, AV.cells_one hu]
  simp [putL, afill]
theorem build_a1 {P : Program} {t : TypeId} {z0 z1 z2 x y : AV} (hz : zeroA P t = some (.agg [z0, z1, z2])) (hz1 : [z0, z1, z2].all AV.one = true) (hok : abuildOk P t = true) (hp0 : aplaces P t 0 = some (0, 2)) (hx : x.one = true) (hy : y.one = true) : abuild P t [(0, .agg [x, y])] = some (.agg [x, y, z2]) := by
  have h0 : (AV.agg [z0, z1, z2]).cells? = some [z0, z1, z2] := by simp only [AV.cells?]; rw [if_pos hz1]
  have h1 : (AV.agg [x, y]).cells? = some [x, y] := by simp only [AV.cells?]; rw [if_pos (by simp [hx, hy])]
  simp only [abuild, hz, h0, hok, if_true, Option.bind_eq_bind, Option.bind_some, afill, hp0, h1]
  simp [putL, afill]
/-- A method's value. -/
theorem makeMeth_step {P : Program} {ρ : Operand → AV} {o : Oper} {h : AHeap} {f : FuncId} {first cap : Array Operand} (ho : o.op = .makeFunc (.func f) first cap) : StepS P ρ o h (.fnm f (first.toList.map ρ) (cap.toList.map ρ)) h := by
  refine ⟨HGrow.refl _, ?_⟩
  intro φ a w K Q hfr r hops hk
  have hrun : (execOp a.eval o).run P w = .ok (.value (.func (.func f) (first.toList.map a.eval).toArray (cap.toList.map a.eval).toArray)) w := by
    simp only [execOp, ho, Instr.makeFunc]
    simp
    exact ⟨by apply Array.ext'; simp, by apply Array.ext'; simp⟩
  have hin : ∀ q, q ∈ first.toList ∨ q ∈ cap.toList → VRel φ (ρ q) (a.eval q) := by
    intro q hq
    refine hops q ?_
    simp only [ho, Op.operands]
    rcases hq with hq | hq
    · exact Array.mem_append_left _ (by simpa using hq)
    · exact Array.mem_append_right _ (by simpa using hq)
  refine wp_of_run hrun (hk φ _ w (Trans.refl _ _ _) r (.fnm _ _ _ _ _ (by simp) ?_ (by simp) ?_))
  · intro j x y hx hy
    rw [List.getElem?_map, Option.map_eq_some_iff] at hx hy
    obtain ⟨q, hq, rfl⟩ := hx
    obtain ⟨q', hq', rfl⟩ := hy
    rw [hq] at hq'; cases hq'
    exact hin q (.inl (List.mem_of_getElem? hq))
  · intro j x y hx hy
    rw [List.getElem?_map, Option.map_eq_some_iff] at hx hy
    obtain ⟨q, hq, rfl⟩ := hx
    obtain ⟨q', hq', rfl⟩ := hy
    rw [hq] at hq'; cases hq'
    exact hin q (.inr (List.mem_of_getElem? hq))
theorem Ev.stepM {P : Program} {ρ : Operand → AV} {o : Oper} {h h' : AHeap} {f : FuncId} {first caps : List AV} {r : AV} {g : Operand} {args : Array Operand} {tys : Array TypeId}
    (ho : o.op = .call { callee := .value g, args := args, argTypes := tys }) (hg : ρ g = .fnm f first caps) (hev : Ev P f (first ++ args.toList.map ρ ++ caps) h r h') : SemStep P ρ o h r h' := by
  have hc : clsOf o.op = .chain := by rw [ho]; rfl
  unfold SemStep
  rw [hc]
  obtain ⟨⟨fn, hf, hn, hb⟩, hgrow, hcalls⟩ := hev
  refine ⟨hgrow, ?_⟩
  intro φ a w K Q hfr rr hops hk
  have hgv := hops g (by simp [ho, Op.operands, Call.operands])
  rw [hg] at hgv
  generalize hgc : a.eval g = cg at hgv
  cases hgv with | fnm _ _ _ fs cs hl hh hl' hh' =>
  have hrun : (execOp a.eval o).run P w = .ok (.enter f ((fs ++ args.toList.map a.eval ++ cs).toArray)) w := by
    simp only [execOp, ho, resolve, hgc, Deferred.ofValue, Sem.run_bind, Sem.run_pure, Result.andThen_ok, invoke, callFunc, run_program, hf, hn, hb, Bool.false_eq_true, if_false]
    simp
  unfold Oper.wp
  rw [hrun]
  refine (hcalls φ w _ hfr rr ?_).mono ?_
  · refine VRels.append (VRels.append ⟨hl, hh⟩ ⟨by simp, ?_⟩) ⟨hl', hh'⟩
    intro j x y hx hy
    rw [List.getElem?_map, Option.map_eq_some_iff] at hx hy
    obtain ⟨q, hq, rfl⟩ := hx
    obtain ⟨q', hq', rfl⟩ := hy
    rw [hq] at hq'; cases hq'
    refine hops q ?_
    simp [ho, Op.operands, Call.operands]
    exact .inr (Array.mem_of_getElem? (by simpa using hq))
  · rintro e w' ⟨v, φ', rfl, t, r', hv⟩
    exact hk φ' v w' t r' hv
section
variable {P : Program} {n : Nat} {ops : Array Oper} {ex : List Nat} {Q : KF → AHeap → Prop} {k : Nat} {os : List Oper} {K : KF} {h : AHeap} {d : Nat} {ty : TypeId} {pos : String} {after : Array Edge}
end
section
variable {P : Program} {n : Nat} {ops : Array Oper} {Q : KF → AHeap → Prop} {k : Nat} {os : List Oper} {K : KF} {h : AHeap} {d : Nat} {ty : TypeId} {pos : String} {after : Array Edge}
theorem KOps.eqNilm {t t' : TypeId} {x : Operand} {v : AV} {b : Bool} {p : TypeId × TypeId} [hx : EvK h.globs n K x v] (hm : mapA P t = some p) (hv : v.mapNil = some b) (hk : KOps P n ops TXT Q (k + 1) os ((d, .bool b) :: K) h) (hlt : Nat.beq k 1000000 = false := by rfl) :
    KOps P n ops TXT Q k (⟨some d, .binOp .eql t x (.const (.map none)) t', ty, pos, after, none⟩ :: os) K h :=
  KOps.stepT (nilm_step (op := .eql) rfl (.inl rfl) hm (by rw [hx.eq]; exact hv) rfl) hk hlt
theorem KOps.neqNilm {t t' : TypeId} {x : Operand} {v : AV} {b : Bool} {p : TypeId × TypeId} [hx : EvK h.globs n K x v] (hm : mapA P t = some p) (hv : v.mapNil = some b) (hk : KOps P n ops TXT Q (k + 1) os ((d, .bool !b) :: K) h) (hlt : Nat.beq k 1000000 = false := by rfl) :
    KOps P n ops TXT Q k (⟨some d, .binOp .neq t x (.const (.map none)) t', ty, pos, after, none⟩ :: os) K h :=
  KOps.stepT (nilm_step (op := .neq) rfl (.inr rfl) hm (by rw [hx.eq]; exact hv) rfl) hk hlt
end
section
variable {P : Program} {n : Nat} {ops : Array Oper} {ex : List Nat} {Q : KF → AHeap → Prop} {k : Nat} {os : List Oper} {K : KF} {h : AHeap} {d : Nat} {ty : TypeId} {pos : String} {after : Array Edge}
theorem KOps.slcEq {t t' e : TypeId} {s z : Nat} {xs zs : List AV} {v : AV} {x y : Operand} [hx : EvK h.globs n K x v] [hy : EvK h.globs n K y .nils] [ht : SlT P t e s zs] (hr : Rd h v z xs) (hz : 0 < z) (hne : xs ≠ []) (hk : KOps P n ops ex Q (k + 1) os ((d, .bool false) :: K) h) : KOps P n ops ex Q k (⟨some d, .binOp .eql t x y t', ty, pos, after, none⟩ :: os) K h := by
  have hv : ∃ b o m full, v = .slc b o m z full := by
    rcases hr with ⟨_, h2⟩ | ⟨b, o, F, p, cs, h1, _⟩ | ⟨_, _, _, _, h0, _⟩
    · exact absurd h2 hne
    rotate_left
    · omega
    · rcases h1 with ⟨m, full, h1, _⟩ | ⟨h1, _⟩
      · exact ⟨b, o, m, full, h1⟩
      · omega
  obtain ⟨b, o, m, full, rfl⟩ := hv
  exact KOps.pure rfl (by simp only [apure, hx.eq, hy.eq, abin, ht.sl, if_true]) hk
theorem KOps.indexAt {x ix : Operand} {p v : AV} {t : TypeId} {m s c : Nat} {kd : IntKind} {i : Int} {j : Nat} [hx : EvK h.globs n K x p] [hi : EvK h.globs n K ix (.int kd i)] [ht : ArT P t m] (ha : AddrOf p v s c) (hj : i = (j : Int)) (hlt : j < m)
    (hk : ∀ q, AddrOf q v s (c + j) → KOps P n ops ex Q (k + 1) os ((d, q) :: K) h) : KOps P n ops ex Q k (⟨some d, .indexAddr t x ix, ty, pos, after, none⟩ :: os) K h := by
  subst hj
  obtain ⟨b, o, h1, rfl⟩ := ha
  obtain ⟨e, he, hs⟩ := ht.arr
  refine KOps.pure rfl (v := .ptr b (o + c + j)) ?_ (hk _ ⟨b, o, h1, by rw [Nat.add_assoc]⟩)
  simp only [apure, hx.eq, hi.eq, aindexAddr, he, hs, Option.bind_eq_bind, Option.bind_some]
  rw [if_pos ⟨by omega, by omega⟩]
  simp
theorem KOps.buildS1 {t : TypeId} {x0 : Operand} {v0 : AV} [hx0 : EvK h.globs n K x0 v0] {z0 z1 z2 : AV} (hz : zeroA P t = some (.agg [z0, z1, z2])) (hz1 : [z0, z1, z2].all AV.one = true) (hok : abuildOk P t = true) (hp0 : aplaces P t 0 = some (0, 1)) (hov0 : v0.one = true) (hk : KOps P n ops ex Q (k + 1) os ((d, .agg [v0, z1, z2]) :: K) h) :
    KOps P n ops ex Q k (⟨some d, .build t (List.toArray [(0, x0)]), ty, pos, after, none⟩ :: os) K h :=
  KOps.build (vs := [v0]) (build_s1 hz hz1 hok hp0 hov0) hk
theorem KOps.buildS3 {t : TypeId} {x0 x1 x2 : Operand} {v0 v1 v2 : AV} [hx0 : EvK h.globs n K x0 v0] [hx1 : EvK h.globs n K x1 v1] [hx2 : EvK h.globs n K x2 v2] {z0 z1 z2 : AV} (hz : zeroA P t = some (.agg [z0, z1, z2])) (hz1 : [z0, z1, z2].all AV.one = true) (hok : abuildOk P t = true) (hp0 : aplaces P t 0 = some (0, 1)) (hp1 : aplaces P t 1 = some (1, 1)) (hp2 : aplaces P t 2 = some (2, 1)) (hov0 : v0.one = true) (hov1 : v1.one = true) (hov2 : v2.one = true) (hk : KOps P n ops ex Q (k + 1) os ((d, .agg [v0, v1, v2]) :: K) h) :
    KOps P n ops ex Q k (⟨some d, .build t (List.toArray [(0, x0), (1, x1), (2, x2)]), ty, pos, after, none⟩ :: os) K h :=
  KOps.build (vs := [v0, v1, v2]) (build_s3 hz hz1 hok hp0 hp1 hp2 hov0 hov1 hov2) hk
theorem KOps.buildA1 {t : TypeId} {x0 : Operand} {v00 v01 : AV} [hx0 : EvK h.globs n K x0 (.agg [v00, v01])] {z0 z1 z2 : AV} (hz : zeroA P t = some (.agg [z0, z1, z2])) (hz1 : [z0, z1, z2].all AV.one = true) (hok : abuildOk P t = true) (hp0 : aplaces P t 0 = some (0, 2)) (hov00 : v00.one = true) (hov01 : v01.one = true) (hk : KOps P n ops ex Q (k + 1) os ((d, .agg [v00, v01, z2]) :: K) h) :
    KOps P n ops ex Q k (⟨some d, .build t (List.toArray [(0, x0)]), ty, pos, after, none⟩ :: os) K h :=
  KOps.build (vs := [.agg [v00, v01]]) (build_a1 hz hz1 hok hp0 hov00 hov01) hk
end
end Go.Am

namespace Go.Am
theorem AW.region_drawS2 {P : Program} {id c r t a d : Nat} {ops : Array Oper} {l1 l2 : List Oper} {oc : Oper} {ex : List Nat} {sz : Nat} {o : Oper} {Q : Ex → List AV → AHeap → Prop} {fr : List AV} {h : AHeap} (hm : P.follows .mixedOrders = true) (hl : ops.toList = l1 ++ oc :: l2) (hc : l1.length = c + 1)
    (hok : RgOk sz ops ex [(c, r), (c + 1, r)]) (hsz : fr.length = sz) (hrc : r < c) (ho : ops[r]? = some o) (hop : o.op = .load t (.tmp a)) (hod : o.dst = some d) (hdz : d < sz) (hno : ∀ j (oj : Oper), r ≤ j → j ≤ c + 1 → ops[j]? = some oj → oj.dst ≠ some a ∧ (r < j → oj.dst ≠ some d))
    (hw : AOps P ops ex (fun fr1 h1 => aload P h1 t (fr1.getD a .bot) = some (fr1.getD d .bot) ∧ AOps P ops ex (fun fr2 h2 => aload P h2 t (fr2.getD a .bot) = some (fr2.getD d .bot) ∧ AOps P ops ex (Q .normal) (c + 2) l2 fr2 h2) (c + 1) [oc] fr1 h1) 0 l1 fr h) : AW P (.region id ops true) Q fr h := by
  have hsize : ops.size = l1.length + (l2.length + 1) := by rw [← Array.length_toList, hl, List.length_append, List.length_cons]
  have g1 : ∀ i, i < l1.length → l1[i]? = ops[0 + i]? := by
    intro i hi
    rw [Nat.zero_add, ← Array.getElem?_toList, hl, List.getElem?_append_left hi]
  have g3 : ∀ i, i < [oc].length → [oc][i]? = ops[c + 1 + i]? := by
    intro i hi
    simp only [List.length_singleton] at hi
    rw [← Array.getElem?_toList, hl, List.getElem?_append_right (by omega), hc, Nat.add_sub_cancel_left, show i = 0 by omega]
    rfl
  have g2 : ∀ i, l2[i]? = ops[c + 2 + i]? := by
    intro i
    rw [← Array.getElem?_toList, hl, List.getElem?_append_right (by omega), hc, show c + 2 + i - (c + 1) = i + 1 by omega]
    rfl
  obtain ⟨ws1, fs1, ks1, a1, a2, ⟨hchkA, hKA⟩, hallA⟩ := aops_textP hok.ntx l1 0 fr h g1 hw
  simp only [Nat.zero_add, hc] at hchkA hKA hallA
  obtain ⟨ws2, fs2, ks2, b1, b2, ⟨hchkB, hKB⟩, hallB⟩ := aops_textP hok.ntx [oc] (c + 1) _ _ g3 hKA
  simp only [List.length_singleton] at hchkB hKB hallB
  obtain ⟨vs1, frs1, hs1, e1, e2, hchk1, hchk, hK1, hall1⟩ : ∃ (vs : Nat → AV) (frs : Nat → List AV) (hs : Nat → AHeap), frs 0 = fr ∧ hs 0 = h ∧ aload P (hs (c + 1)) t ((frs (c + 1)).getD a .bot) = some ((frs (c + 1)).getD d .bot) ∧ aload P (hs (c + 2)) t ((frs (c + 2)).getD a .bot) = some ((frs (c + 2)).getD d .bot) ∧ AOps P ops ex (Q .normal) (c + 2) l2 (frs (c + 2)) (hs (c + 2)) ∧ ∀ i o, 0 ≤ i → i < c + 2 → ops[i]? = some o → TS P ops ex i o (frs i) (hs i) (vs i) (frs (i + 1)) (hs (i + 1)) := by
    refine ⟨fun i => if i ≤ c then ws1 i else ws2 i, fun i => if i ≤ c then fs1 i else fs2 i, fun i => if i ≤ c then ks1 i else ks2 i, by simp [a1], by simp [a2], ?_, ?_, ?_, ?_⟩
    · simp only [if_neg (show ¬ c + 1 ≤ c by omega), b1, b2]; exact hchkA
    · simp only [if_neg (show ¬ c + 2 ≤ c by omega)]; exact hchkB
    · simp only [if_neg (show ¬ c + 2 ≤ c by omega)]; exact hKB
    · intro i oi _ hi hoi
      by_cases h1 : i ≤ c
      · have ht := hallA i oi (Nat.zero_le _) (by omega) hoi
        by_cases h2 : i + 1 ≤ c
        · simp only [if_pos h1, if_pos h2]; exact ht
        · have h3 : i = c := by omega
          subst h3
          simp only [if_pos h1, if_neg h2, b1, b2]
          exact ht
      · simp only [if_neg h1, if_neg (show ¬ i + 1 ≤ c by omega)]
        exact hallB i oi (by omega) (by omega) hoi
  obtain ⟨vs2, frs2, hs2, e3, e4, hK2, hall2⟩ := aops_text hok.ntx l2 (c + 2) _ _ g2 hK1
  have hlen : ∀ i, i ≤ c + 2 → (frs1 i).length = sz := by
    intro i
    induction i with
    | zero => intro _; rw [e1]; exact hsz
    | succ i ih =>
      intro hi
      have ht := hall1 i _ (Nat.zero_le _) (by omega) (Array.getElem?_eq_getElem (by omega))
      rw [ht.1]
      unfold setF
      split
      · rw [List.length_set]; exact ih (by omega)
      · exact ih (by omega)
  have hget : ∀ (l : List AV) (dst : Option Tmp) (v : AV) (x : Nat), dst ≠ some x → (setF l dst v).getD x .bot = l.getD x .bot := by
    intro l dst v x hx
    unfold setF
    split
    · rename_i y
      rw [List.getD_eq_getElem?_getD, List.getD_eq_getElem?_getD, List.getElem?_set_ne (by rintro rfl; exact hx rfl)]
    · rfl
  have ha : ∀ j, r ≤ j → j ≤ c + 2 → (frs1 j).getD a .bot = (frs1 r).getD a .bot := by
    intro j h1
    induction j with
    | zero => intro _; rw [show r = 0 by omega]
    | succ j ih =>
      intro h2
      rcases Nat.lt_or_eq_of_le h1 with h3 | h3
      · have ho2 := Array.getElem?_eq_getElem (xs := ops) (i := j) (by omega)
        have ht := hall1 j _ (Nat.zero_le _) (by omega) ho2
        rw [ht.1, hget _ _ _ _ (hno j _ (by omega) (by omega) ho2).1, ih (by omega) (by omega)]
      · rw [← h3]
  have hd : ∀ j, r < j → j ≤ c + 2 → (frs1 j).getD d .bot = vs1 r := by
    intro j h1
    induction j with
    | zero => omega
    | succ j ih =>
      intro h2
      have ho2 := Array.getElem?_eq_getElem (xs := ops) (i := j) (by omega)
      have ht := hall1 j _ (Nat.zero_le _) (by omega) ho2
      rw [ht.1]
      by_cases hj : j = r
      · subst hj
        rw [ho2] at ho
        cases ho
        rw [hod]
        simp only [setF]
        rw [List.getD_eq_getElem?_getD, List.getElem?_set_self (by rw [hlen j (by omega)]; exact hdz)]
        rfl
      · rw [hget _ _ _ _ ((hno j _ (by omega) (by omega) ho2).2 (by omega))]
        exact ih (by omega) (by omega)
  refine AW.region_run hm hok hsz (vs := fun i => if i ≤ c + 1 then vs1 i else vs2 i) (frs := fun i => if i ≤ c + 1 then frs1 i else frs2 i) (hs := fun i => if i ≤ c + 1 then hs1 i else hs2 i) (by simp [e1]) (by simp [e2]) ?_ ?_ ?_
  · simp only [if_neg (show ¬ ops.size ≤ c + 1 by omega)]
    rw [show ops.size = c + 2 + l2.length by omega]
    exact hK2
  · intro i oi hi hoi
    by_cases h1 : i ≤ c + 1
    · have ht := hall1 i oi (Nat.zero_le _) (by omega) hoi
      by_cases h2 : i + 1 ≤ c + 1
      · simp only [if_pos h1, if_pos h2]; exact ht
      · have h3 : i = c + 1 := by omega
        subst h3
        simp only [if_pos h1, if_neg h2, e3, e4]
        exact ht
    · simp only [if_neg h1, if_neg (show ¬ i + 1 ≤ c + 1 by omega)]
      exact hall2 i oi (by omega) (by omega) hoi
  · intro c' r' o' hcr _ ho'
    have hcr' : (c' = c ∧ r' = r) ∨ (c' = c + 1 ∧ r' = r) := by simpa using hcr
    rcases hcr' with ⟨rfl, rfl⟩ | ⟨rfl, rfl⟩
    · rw [ho] at ho'
      cases ho'
      simp only [if_pos (show c' + 1 ≤ c' + 1 by omega), if_pos (show r' ≤ c' + 1 by omega)]
      rw [hop]
      show aload P _ t ((frs1 r').getD a .bot) = _
      rw [← ha (c' + 1) (by omega) (by omega), ← hd (c' + 1) (by omega) (by omega)]
      exact hchk1
    · rw [ho] at ho'
      cases ho'
      simp only [if_neg (show ¬ c + 1 + 1 ≤ c + 1 by omega), if_pos (show r' ≤ c + 1 by omega), e4]
      rw [hop]
      show aload P _ t ((frs1 r').getD a .bot) = _
      rw [← ha (c + 2) (by omega) (Nat.le_refl _), ← hd (c + 2) (by omega) (Nat.le_refl _)]
      exact hchk

section drawS
variable {P : Program} {n : Nat} {Q : Ex → KF → AHeap → Prop} {K : KF} {h : AHeap}
theorem KA.drawS2 {id c r t a d : Nat} {ops : Array Oper} {l1 l2 : List Oper} {oc o : Oper} (ex : List Nat) (hm : P.follows .mixedOrders = true) (hl1 : ops.toList.take (c + 1) = l1) (hl2 : ops.toList.drop (c + 1) = oc :: l2) (hc : l1.length = c + 1) (hok : rgOk n ops.toList ex [(c, r), (c + 1, r)] = true) (ho : ops[r]? = some o) (hop : o.op = .load t (.tmp a)) (hod : o.dst = some d) (hdz : d < n) (hrc : r < c)
    (hno : ((List.range' r (c + 2 - r)).all fun j => match ops[j]? with | some oj => oj.dst != some a && (j == r || oj.dst != some d) | none => true) = true)
    (hw : KOps P n ops ex (fun K1 h1 => aload P h1 t ((toFr n K1).getD a .bot) = some ((toFr n K1).getD d .bot) ∧ KOps P n ops ex (fun K2 h2 => aload P h2 t ((toFr n K2).getD a .bot) = some ((toFr n K2).getD d .bot) ∧ KOps P n ops ex (Q .normal) (c + 2) l2 K2 h2) (c + 1) [oc] K1 h1) 0 l1 K h) : KA P n (.region id ops true) Q K h := by
  refine AW.region_drawS2 (c := c) (r := r) (t := t) (a := a) (d := d) (l1 := l1) (oc := oc) (l2 := l2) hm (by rw [← hl1, ← hl2, List.take_append_drop]) hc (rgOk_sound rfl hok) (toFr_length n K) hrc ho hop hod hdz ?_ ?_
  · intro j oj h1 h2 hj
    have := List.all_eq_true.1 hno j (List.mem_range'_1.2 ⟨h1, by omega⟩)
    simp only [hj, Bool.and_eq_true, bne_iff_ne, Bool.or_eq_true, beq_iff_eq] at this
    exact ⟨this.1, fun h3 => this.2.resolve_left (by omega)⟩
  · refine aops_mono ?_ _ _ _ _ hw
    rintro fr1 h1 ⟨K1, rfl, hchk, hrest⟩
    refine ⟨hchk, aops_mono ?_ _ _ _ _ hrest⟩
    rintro fr2 h2 ⟨K2, rfl, hchk2, hrest2⟩
    exact ⟨hchk2, hrest2⟩
end drawS
section drawS2
variable {P : Program} {n : Nat} {ops : Array Oper} {ex : List Nat} {k : Nat} {K : KF} {h : AHeap}
end drawS2
end Go.Am

namespace Go.Am
open Go.RowKit
def Fr (φ : Emb) (h : AHeap) : Prop := ∀ b, h.next ≤ b → φ b = none
theorem Fr.fresh {φ : Emb} {h h' : AHeap} (hf : Fr φ h) : Fresh φ h h' := fun b h1 _ => hf b h1
theorem Fr.right {φ φ' : Emb} {h h' : AHeap} {w w' : World} (hf : Fr φ h) (g : HGrow h h') (t : Trans φ h w φ' h' w') : Fr φ' h' := by
  intro b hb
  cases hq : φ' b with
  | none => rfl
  | some p =>
    have := (t.new b p (hf b (Nat.le_trans g.next hb)) hq).2
    omega
/-- Whichever way it goes, at its end Q holds. -/
def NW (P : Program) (c : Code) (Q : Ex → List AV → AHeap → Prop) (fr : List AV) (h : AHeap) : Prop :=
  ∀ (φ : Emb) (a : Act) (w : World), Fr φ h → Sim φ fr h a w → c.wp P (fun e' a' w' => ∃ e fr' h' φ', e' = e.toExit ∧ HGrow h h' ∧ Trans φ h w φ' h' w' ∧ Sim φ' fr' h' a' w' ∧ Q e fr' h') a w
theorem NW.of {P : Program} {c : Code} {Q : Ex → List AV → AHeap → Prop} {fr : List AV} {h : AHeap} (hw : AW P c Q fr h) : NW P c Q fr h := by
  obtain ⟨e, fr', h', ⟨g, hx⟩, q⟩ := hw
  intro φ a w hf s
  refine wp_mono (hx φ a w hf.fresh s) ?_
  rintro e' a' w' ⟨rfl, φ', t, s'⟩
  exact ⟨e, fr', h', φ', rfl, g, t, s', q⟩
theorem NW.mono {P : Program} {c : Code} {Q Q' : Ex → List AV → AHeap → Prop} {fr : List AV} {h : AHeap} (hw : NW P c Q fr h) (hq : ∀ e fr h, Q e fr h → Q' e fr h) : NW P c Q' fr h := by
  intro φ a w hf s
  refine wp_mono (hw φ a w hf s) ?_
  rintro e' a' w' ⟨e, fr', h', φ', h1, h2, h3, h4, q⟩
  exact ⟨e, fr', h', φ', h1, h2, h3, h4, hq _ _ _ q⟩
theorem NW.seq {P : Program} {c d : Code} {Q : Ex → List AV → AHeap → Prop} {fr : List AV} {h : AHeap} (hw : NW P c (fun e fr h => match e with | .normal => NW P d Q fr h | e => Q e fr h) fr h) : NW P (.seq c d) Q fr h := by
  intro φ a w hf s
  refine wp_seq (wp_mono (hw φ a w hf s) ?_)
  rintro e' a' w' ⟨e, fr1, h1, φ1, rfl, g1, t1, s1, q⟩
  cases e with
  | normal =>
    show d.wp P _ a' w'
    refine wp_mono (q φ1 a' w' (hf.right g1 t1) s1) ?_
    rintro e'' a'' w'' ⟨e2, fr2, h2, φ2, rfl, g2, t2, s2, q2⟩
    exact ⟨e2, fr2, h2, φ2, rfl, g1.trans g2, t1.trans hf.fresh g1 g2 t2, s2, q2⟩
  | ret => exact ⟨.ret, fr1, h1, φ1, rfl, g1, t1, s1, q⟩
  | exit id => exact ⟨.exit id, fr1, h1, φ1, rfl, g1, t1, s1, q⟩
theorem NW.cond {P : Program} {c : Operand} {x y : Code} {Q : Ex → List AV → AHeap → Prop} {fr : List AV} {h : AHeap} {t : Bool} (hc : evalA h.globs fr c = .bool t) (hw : NW P (if t then x else y) Q fr h) : NW P (.cond c x y) Q fr h := by
  intro φ a w hf s
  have hv := evalA_rel s.heap s.fr c
  rw [hc] at hv
  generalize hcv : a.eval c = cv at hv
  cases hv
  exact wp_cond hcv (hw φ a w hf s)
theorem NW.block {P : Program} {id : Nat} {c : Code} {Q : Ex → List AV → AHeap → Prop} {fr : List AV} {h : AHeap} (hw : NW P c (fun e fr h => if e = .exit id then Q .normal fr h else Q e fr h) fr h) : NW P (.block id c) Q fr h := by
  intro φ a w hf s
  refine wp_block (wp_mono (hw φ a w hf s) ?_)
  rintro e' a' w' ⟨e, fr1, h1, φ1, rfl, g1, t1, s1, q⟩
  by_cases he : e = .exit id
  · subst he
    rw [if_pos rfl] at q
    simp only [Ex.toExit, Exit.inBlock, if_true]
    exact ⟨.normal, fr1, h1, φ1, rfl, g1, t1, s1, q⟩
  · rw [if_neg he] at q
    cases e with
    | normal => exact ⟨.normal, fr1, h1, φ1, rfl, g1, t1, s1, q⟩
    | ret => exact ⟨.ret, fr1, h1, φ1, rfl, g1, t1, s1, q⟩
    | exit id' =>
      have : id' ≠ id := fun h => he (by rw [h])
      simp only [Ex.toExit, Exit.inBlock, if_neg this]
      exact ⟨.exit id', fr1, h1, φ1, rfl, g1, t1, s1, q⟩
theorem NW.scope {P : Program} {c : Code} {Q : Ex → List AV → AHeap → Prop} {fr : List AV} {h : AHeap} (hw : NW P c Q fr h) : NW P (.scope c) Q fr h := by
  intro φ a w hf s
  refine wp_scope_straight (wp_mono (hw φ a w hf s) ?_)
  rintro e' a' w' ⟨e, fr1, h1, φ1, rfl, r⟩
  cases e <;> exact ⟨_, fr1, h1, φ1, rfl, r⟩
theorem NW.loop {P : Program} {c : Code} {Q : Ex → List AV → AHeap → Prop} (I : Nat → List AV → AHeap → Prop)
    (round : ∀ n fr h, I n fr h → NW P c (fun e fr' h' => match e with | .normal => ∃ m, m < n ∧ I m fr' h' | e => Q e fr' h') fr h) :
    ∀ n fr h, I n fr h → NW P (.loop c) Q fr h := by
  have key : ∀ N n fr h, n < N → I n fr h → ∀ (φ : Emb) (a : Act) (w : World), Fr φ h → Sim φ fr h a w →
      Code.rounds P c (fun e' a' w' => ∃ e fr' h' φ', e' = e.toExit ∧ HGrow h h' ∧ Trans φ h w φ' h' w' ∧ Sim φ' fr' h' a' w' ∧ Q e fr' h') N a w := by
    intro N
    induction N with
    | zero => intro n fr h hn; exact absurd hn (Nat.not_lt_zero _)
    | succ N ih =>
      intro n fr h hn hI φ a w hf s
      rw [rounds_succ]
      refine wp_mono (round n fr h hI φ a w hf s) ?_
      rintro e' a' w' ⟨e, fr1, h1, φ1, rfl, g1, t1, s1, q⟩
      cases e with
      | normal =>
        obtain ⟨m, hm, hIm⟩ := q
        show Code.rounds P c _ N a' w'
        refine rounds_mono ?_ N a' w' (ih m fr1 h1 (by omega) hIm φ1 a' w' (hf.right g1 t1) s1)
        rintro e'' a'' w'' ⟨e2, fr2, h2, φ2, rfl, g2, t2, s2, q2⟩
        exact ⟨e2, fr2, h2, φ2, rfl, g1.trans g2, t1.trans hf.fresh g1 g2 t2, s2, q2⟩
      | ret => exact ⟨.ret, fr1, h1, φ1, rfl, g1, t1, s1, q⟩
      | exit id => exact ⟨.exit id, fr1, h1, φ1, rfl, g1, t1, s1, q⟩
  intro n fr h hI φ a w hf s
  exact wp_loop_rounds (n + 1) (key (n + 1) n fr h (Nat.lt_succ_self n) hI φ a w hf s)
theorem NW.sub {P : Program} {c : Code} {Q : Ex → List AV → AHeap → Prop} {n : Nat} {K K' : KF} {h : AHeap} (hs : Sub K' K) (hw : NW P c Q (toFr n K') h) : NW P c Q (toFr n K) h :=
  fun φ a w hf s => hw φ a w hf ⟨s.heap, s.fr.sub hs⟩
/-! Over frames of which some slots are known. -/
def NA (P : Program) (n : Nat) (c : Code) (Q : Ex → KF → AHeap → Prop) (K : KF) (h : AHeap) : Prop := NW P c (fun e fr h => ∃ K', fr = toFr n K' ∧ Q e K' h) (toFr n K) h
def sqN (P : Program) (n : Nat) (d : Code) (Q : Ex → KF → AHeap → Prop) (e : Ex) (K : KF) (h : AHeap) : Prop := match e with | .normal => NA P n d Q K h | e => Q e K h
theorem NA.mono {P : Program} {n : Nat} {c : Code} {Q Q' : Ex → KF → AHeap → Prop} {K : KF} {h : AHeap} (hw : NA P n c Q K h) (hq : ∀ e K h, Q e K h → Q' e K h) : NA P n c Q' K h :=
  NW.mono hw fun e _ h ⟨K, hf, q⟩ => ⟨K, hf, hq e K h q⟩
theorem NA.sub {P : Program} {n : Nat} {c : Code} {Q : Ex → KF → AHeap → Prop} {K K' : KF} {h : AHeap} (hs : Sub K' K) (hw : NA P n c Q K' h) : NA P n c Q K h := NW.sub hs hw
section
variable {P : Program} {n : Nat} {Q : Ex → KF → AHeap → Prop} {K : KF} {h : AHeap}
theorem NA.of {c : Code} (hw : KA P n c Q K h) : NA P n c Q K h := NW.of hw
theorem NA.skip (hq : Q .normal K h) : NA P n .skip Q K h := NA.of (KA.skip hq)
theorem NA.label {l : Nat} (hq : Q .normal K h) : NA P n (.label l) Q K h := NA.of (KA.label hq)
theorem NA.ret (hq : Q .ret K h) : NA P n .ret Q K h := NA.of (KA.ret hq)
theorem NA.exit {id : Nat} (hq : Q (.exit id) K h) : NA P n (.exit id) Q K h := NA.of (KA.exit hq)
theorem NA.seq {c d : Code} (hw : NA P n c (sqN P n d Q) K h) : NA P n (.seq c d) Q K h := by
  refine NW.seq (NW.mono hw ?_)
  rintro e fr h ⟨K, rfl, q⟩
  cases e with
  | normal => exact q
  | ret => exact ⟨K, rfl, q⟩
  | exit id => exact ⟨K, rfl, q⟩
theorem NA.block {id : Nat} {c : Code} (hw : NA P n c (blQ id Q) K h) : NA P n (.block id c) Q K h := by
  refine NW.block (NW.mono hw ?_)
  rintro e fr h ⟨K, rfl, q⟩
  unfold blQ at q
  split
  · rename_i he; rw [if_pos he] at q; exact ⟨K, rfl, q⟩
  · rename_i he; rw [if_neg he] at q; exact ⟨K, rfl, q⟩
theorem NA.scope {c : Code} (hw : NA P n c Q K h) : NA P n (.scope c) Q K h := NW.scope hw
theorem NA.cond {x : Operand} {c d : Code} {t : Bool} (hc : evalK h.globs n K x = .bool t) (h1 : t = true → NA P n c Q K h) (h2 : t = false → NA P n d Q K h) : NA P n (.cond x c d) Q K h := by
  refine NW.cond (t := t) (by rw [evalA_toFr]; exact hc) ?_
  cases t with
  | true => exact h1 rfl
  | false => exact h2 rfl
theorem NA.condT {x : Operand} {c d : Code} [hc : EvK h.globs n K x (.bool true)] (h1 : NA P n c Q K h) : NA P n (.cond x c d) Q K h := NA.cond hc.eq (fun _ => h1) nofun
theorem NA.condF {x : Operand} {c d : Code} [hc : EvK h.globs n K x (.bool false)] (h1 : NA P n d Q K h) : NA P n (.cond x c d) Q K h := NA.cond hc.eq nofun (fun _ => h1)
theorem NA.condB {x : Operand} {c d : Code} {t : Bool} [hc : EvK h.globs n K x (.bool t)] (h1 : t = true → NA P n c Q K h) (h2 : t = false → NA P n d Q K h) : NA P n (.cond x c d) Q K h := NA.cond hc.eq h1 h2
theorem NA.condD {x : Operand} {c d : Code} {p : Prop} [Decidable p] [hc : EvK h.globs n K x (.bool (decide p))] (h1 : p → NA P n c Q K h) (h2 : ¬ p → NA P n d Q K h) : NA P n (.cond x c d) Q K h :=
  NA.cond hc.eq (fun he => h1 (of_decide_eq_true he)) (fun he => h2 (of_decide_eq_false he))
theorem NA.condN {x : Operand} {c d : Code} {p : Prop} [Decidable p] [hc : EvK h.globs n K x (.bool (!decide p))] (h1 : ¬ p → NA P n c Q K h) (h2 : p → NA P n d Q K h) : NA P n (.cond x c d) Q K h :=
  NA.cond hc.eq (fun he => h1 (not_of_not_decide he)) (fun he => h2 (of_not_decide he))
theorem NA.region {id : Nat} {ops : Array Oper} {l : List Oper} (hl : ops.toList = l) (hw : KOps P n ops TXT (Q .normal) 0 l K h) : NA P n (.region id ops false) Q K h := NA.of (KA.region hl hw)
theorem NA.draw {id : Nat} {ops : Array Oper} {l : List Oper} (ex : List Nat) (hm : P.follows .mixedOrders = true) (hl : ops.toList = l) (hok : rgOk n l ex = true) (hw : KOps P n ops ex (Q .normal) 0 l K h) : NA P n (.region id ops true) Q K h := NA.of (KA.draw ex hm hl hok hw)
theorem sqN.normal {d : Code} (hq : NA P n d Q K h) : sqN P n d Q .normal K h := hq
theorem sqN.ret {d : Code} (hq : Q .ret K h) : sqN P n d Q .ret K h := hq
theorem sqN.exit {d : Code} {id : Nat} (hq : Q (.exit id) K h) : sqN P n d Q (.exit id) K h := hq
theorem NA.meet {c d : Code} {X : Type} (pat : X → KF) (I : X → AHeap → Prop) (hc : NA P n c (mtQ pat I Q) K h) (hd : ∀ x h, I x h → NA P n d Q (pat x) h) : NA P n (.seq c d) Q K h := by
  refine NA.seq (hc.mono ?_)
  intro e K h q
  cases e with
  | normal => obtain ⟨x, hs, hI⟩ := q; exact NA.sub hs (hd x h hI)
  | ret => exact q
  | exit id => exact q
end
theorem NA.loop {P : Program} {n : Nat} {c : Code} {Q : Ex → KF → AHeap → Prop} {K : KF} {h : AHeap} {X : Type} (pat : X → KF) (I : X → AHeap → Prop) (m : X → Nat) (x : X) (hs : Sub (pat x) K) (hI : I x h)
    (round : ∀ x h, I x h → NA P n c (lpQ pat I m x Q) (pat x) h) : NA P n (.loop c) Q K h := by
  refine NW.loop (fun k fr h => ∃ x K, fr = toFr n K ∧ Sub (pat x) K ∧ I x h ∧ m x = k) ?_ (m x) (toFr n K) h ⟨x, K, rfl, hs, hI, rfl⟩
  rintro k fr h ⟨x, K, rfl, hs, hI, rfl⟩
  refine NW.sub hs (NW.mono (round x h hI) ?_)
  rintro e fr' h' ⟨K', rfl, q⟩
  cases e with
  | normal =>
    obtain ⟨y, hy, hIy, hm⟩ := q
    exact ⟨m y, hm, y, K', rfl, hy, hIy, rfl⟩
  | ret => exact ⟨K', rfl, q⟩
  | exit id => exact ⟨K', rfl, q⟩
/-- A walk through a map, owned. -/
abbrev mwalkO (v : AV) (bm n : Nat) (D : List Nat) : Obj := ⟨v, 0, Thing.enc (.mwalk bm n D), false⟩
theorem Mu.mwalk {lo : Nat} {h : AHeap} {F : Option Nat} {v : AV} {bm n : Nat} {D : List Nat} (hv : IsIt v) (hm : Mu lo h F (mwalkO v bm n D)) : ∃ b G f, F = some G ∧ lo ≤ b ∧ v = .it b ∧ h.get b = some (.obj G (.mwalk bm n D)) ∧ h.fam G = some f := by
  obtain ⟨b0, rfl⟩ := hv
  cases F with
  | none => cases hm.1
  | some G =>
    rcases hm with ⟨b, off, p, cs, f, _, hw, _⟩ | ⟨b, x, f, h1, h2, h3, h4, h5, h6⟩
    · rcases hw with ⟨_, _, hw, _⟩ | ⟨_, hw⟩ <;> cases hw
    · cases x with
      | map es' => cases h2
      | walk _ _ => simp [Thing.enc] at h6
      | gone => simp [Thing.enc] at h6
      | mwalk bm' n' D' =>
        simp only [Thing.at, AV.it.injEq] at h2
        subst h2
        simp only [Thing.enc, List.cons.injEq, AV.mp.injEq, AV.int.injEq, AV.tup.injEq, and_true, true_and] at h6
        obtain ⟨e1, e2, e3⟩ := h6
        have e3 : D' = D := by
          refine (List.map_inj_right (f := fun i : Nat => AV.int .i64 (i : Int)) ?_).1 ?_
          · intro x y hxy; simp only [AV.int.injEq, true_and] at hxy; omega
          · first | exact e3 | exact e3.symm
        have e2 : n' = n := by omega
        subst e1 e2 e3
        exact ⟨b0, G, f, rfl, h1, rfl, h4, h5⟩
section
variable {P : Program} {n : Nat} {ops : Array Oper} {ex : List Nat} {Q : KF → AHeap → Prop} {k : Nat} {os : List Oper} {K : KF} {h h0 : AHeap} {d : Nat} {ty : TypeId} {pos : String} {after : Array Edge} {objs : List Obj}
end
/-! Calls. -/
def NCalls (P : Program) (f : FuncId) (args : List AV) (h : AHeap) (R : AV → AHeap → Prop) : Prop :=
  ∀ (φ : Emb) (w : World) (cs : List Value), Fr φ h → HRel φ h w → VRels φ args cs → Calls P f cs.toArray w fun e w' => ∃ v φ' r h', e = .returned v ∧ HGrow h h' ∧ Trans φ h w φ' h' w' ∧ HRel φ' h' w' ∧ VRel φ' r v ∧ R r h'
theorem NCalls.of_body {P : Program} {f : FuncId} {fn : Func} {c : Code} {args : List AV} {h : AHeap} {R : AV → AHeap → Prop} (hf : P.funcs[f]? = some fn) (hb : fn.body = some c)
    (hw : NW P c (fun e fr' h' => (e = .normal ∨ e = .ret) ∧ ∃ x, resultA fr' fn.results.toList = some x ∧ R x h') (mkFr args fn.ntmps) h) : NCalls P f args h R := by
  intro φ w cs hfr r hargs
  refine calls_of_wp hf hb ?_
  have hs : Sim φ (mkFr args fn.ntmps) h { tmps := cs.toArray ++ Array.replicate (fn.ntmps - cs.toArray.size) undef, defers := [] } w := by
    refine ⟨r, rfl, ?_, ?_⟩
    · simp [mkFr, hargs.1]
    · intro t y v hy hv
      simp only [mkFr] at hy
      rw [← Array.getElem?_toList] at hv
      simp only [Array.toList_append, Array.toList_replicate] at hv
      rw [List.getElem?_append] at hy hv
      rw [hargs.1] at hy
      split at hy
      · rename_i hlt
        rw [if_pos hlt] at hv
        exact hargs.2 t y v hy hv
      · rename_i hlt
        rw [if_neg hlt] at hv
        rw [List.getElem?_replicate] at hy hv
        split at hy
        · cases hy
          split at hv
          · cases hv; exact VRel.undef φ
          · cases hv
        · cases hy
  refine wp_mono (hw φ _ w hfr hs) ?_
  rintro e' a' w' ⟨e, fr', h', φ', rfl, g, t, s', he, x, hr, hR⟩
  obtain ⟨v, hv, hrel⟩ := result_run (P := P) s'.fr w' hr
  rcases he with rfl | rfl
  · exact ⟨s'.fr.1, v, hv, v, φ', x, h', rfl, g, t, s'.heap, hrel, hR⟩
  · exact ⟨s'.fr.1, v, hv, v, φ', x, h', rfl, g, t, s'.heap, hrel, hR⟩
theorem NA.fn {P : Program} {f : FuncId} {fn : Func} {c : Code} {args : List AV} {h : AHeap} {R : AV → AHeap → Prop} (n : Nat) (rs : List ResultVar) (hf : P.funcs[f]? = some fn) (hb : fn.body = some c)
    (h1 : fn.ntmps = n) (h2 : fn.results.toList = rs) (hle : args.length ≤ n) (hw : NA P n c (fnQ n rs R) (argK 0 args) h) : NCalls P f args h R := by
  subst h1 h2
  refine NCalls.of_body hf hb ?_
  intro φ a w hfr s
  have := hw φ a w hfr ⟨s.heap, s.fr.args hle⟩
  refine wp_mono this ?_
  rintro e' a' w' ⟨e, fr', h', φ', rfl, g, t, s', K, rfl, he, l, hl, hR⟩
  refine ⟨e, _, h', φ', rfl, g, t, s', he, resV l, ?_, hR⟩
  rw [resultA, resA_toFr, hl]
  rfl
theorem NCalls.law {P : Program} {f : FuncId} {args : List AV} {h : AHeap} {R : AV → AHeap → Prop} (hc : NCalls P f args h R) (hR : ∀ r h', R r h' → r = .bool true) {W : World} {φ : Emb} (im : Imp W φ h) {cs : List Value} (ha : VRels φ args cs) :
    Calls P f cs.toArray W fun e w' => e = .returned (.bool true) ∧ Below W.heap.size W w' := by
  refine (hc φ W cs (fun b h1 => im.out b h1) im.rel ha).mono ?_
  rintro e w' ⟨v, φ', r, h', rfl, _, t, _, hv, hr⟩
  have := hR r h' hr
  subst this
  cases hv
  exact ⟨rfl, im.below t⟩
end Go.Am
