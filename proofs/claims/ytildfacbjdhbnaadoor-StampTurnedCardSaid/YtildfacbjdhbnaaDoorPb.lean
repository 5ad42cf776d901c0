/-
  The abstract machine: ranges over maps, in whatever order.
  Conditions: none.
-/
import Derived.Test.YtildfacbjdhbnaaDoorAmK
import Derived.Maps.RangeRun
namespace Go.Am

/-- A walk through a map begins. -/
theorem mrange_step {P : Program} {ρ : Operand → AV} {o : Oper} {h : AHeap} {t : TypeId} {p : TypeId × TypeId} {x : Operand} {bm F : Nat} {es : List (AV × AV)} (ho : o.op = .range t x) (hm : mapA P t = some p) (hs : ρ x = .mp bm) (hg : h.get bm = some (.obj F (.map es))) :
    StepS P ρ o h (.it h.next) (h.allocT (.mwalk bm es.length [])) := by
  refine ⟨HGrow.allocT _ _, ?_⟩
  intro φ a w K Q hfr r hops hk
  have hx := hops x (by simp [ho, Op.operands])
  have hu := mapA_und hm
  rw [hs] at hx
  generalize hq : a.eval x = q at hx
  cases hx
  rename_i km i z hφm
  have hφ : φ h.next = none := hfr h.next (Nat.le_refl _) (by rw [AHeap.next_allocT]; omega)
  obtain ⟨ms, h1, h2, h3⟩ := r.blk bm km i z _ hφm hg (by unfold AHeap.valid; rw [hg])
  obtain ⟨r', tr⟩ := r.allocT hφ (.mwalk bm es.length []) (.mapIter (some km) ms.size #[] ms.size) (fun φ' w' hle hw => ⟨km, i, z, hle _ _ hφm, by rw [hw, h2]⟩)
  have hrun : (execOp a.eval o).run P w = .ok (.value (.pointer (some ⟨w.heap.size, 0, none⟩))) (w.alloc (.mapIter (some km) ms.size #[] ms.size)) := by
    simp [execOp, ho, Instr.range, run_underlying hu, hq, MapKept.run_getObj_map h1]
  exact wp_of_run hrun (hk _ _ _ tr r' (.it _ _ _ (Emb.upd_same _ _ _)))

theorem born_nodup {ms : Array MapEntry} (hb : ∀ (j : Nat) m, ms[j]? = some m → m.born = j) : (ms.toList.map (·.born)).Nodup := by
  have : ms.toList.map (·.born) = List.range ms.size := by
    apply List.ext_getElem
    · simp
    · intro i h1 h2
      simp only [List.length_map, Array.length_toList] at h1
      simp only [List.getElem_map, Array.getElem_toList, List.getElem_range]
      exact hb i _ (Array.getElem?_eq_getElem h1)
  rw [this]; exact List.nodup_range
theorem left_mem {ms : Array MapEntry} {seen : List Nat} (hb : ∀ (j : Nat) m, ms[j]? = some m → m.born = j) {e : MapEntry} (he : e ∈ (leftOf ms seen.toArray).toList) : ∃ j, ms[j]? = some e ∧ j ∉ seen ∧ e.born = j := by
  simp only [leftOf, Array.toList_filter, List.mem_filter, Array.mem_toList_iff, Bool.not_eq_true', List.contains_toArray] at he
  obtain ⟨h1, h2⟩ := he
  obtain ⟨j, hj, rfl⟩ := Array.getElem_of_mem h1
  have h3 := hb j _ (Array.getElem?_eq_getElem hj)
  refine ⟨j, Array.getElem?_eq_getElem hj, ?_, h3⟩
  rw [h3] at h2
  intro hm
  have := List.contains_iff_mem.2 hm
  rw [this] at h2; cases h2
theorem left_size {ms : Array MapEntry} {seen : List Nat} (hb : ∀ (j : Nat) m, ms[j]? = some m → m.born = j) : (leftOf ms seen.toArray).size = 0 ↔ ∀ j, j < ms.size → j ∈ seen := by
  constructor
  · intro h j hj
    by_cases hm : j ∈ seen
    · exact hm
    · exfalso
      have h3 := hb j _ (Array.getElem?_eq_getElem hj)
      have : ms[j] ∈ (leftOf ms seen.toArray).toList := by
        simp only [leftOf, Array.toList_filter, List.mem_filter, Array.mem_toList_iff, Bool.not_eq_true', List.contains_toArray]
        refine ⟨Array.getElem_mem hj, ?_⟩
        rw [h3]
        cases hc : seen.contains j with
        | false => rfl
        | true => exact absurd (List.contains_iff_mem.1 hc) hm
      have h4 : (leftOf ms seen.toArray).toList = [] := by rw [← List.length_eq_zero_iff, Array.length_toList]; exact h
      rw [h4] at this; cases this
  · intro h
    rw [← Array.length_toList, List.length_eq_zero_iff]
    cases hl : (leftOf ms seen.toArray).toList with
    | nil => rfl
    | cons e l =>
      obtain ⟨j, h1, h2, _⟩ := left_mem (seen := seen) hb (e := e) (by rw [hl]; simp)
      exact absurd (h j (Array.getElem?_eq_some_iff.1 h1).1) h2

/-- What a walk stands for. -/
theorem HRel.mwalk {φ : Emb} {h : AHeap} {w : World} (r : HRel φ h w) {b k i z bm F Fm : Nat} {es : List (AV × AV)} {seen : List Nat} (hb : φ b = some (k, i, z)) (hg : h.get b = some (.obj F (.mwalk bm es.length seen))) (hm : h.get bm = some (.obj Fm (.map es))) :
    ∃ km im zm ms, φ bm = some (km, im, zm) ∧ w.heap[k]? = some (.mapIter (some km) ms.size seen.toArray ms.size) ∧ w.heap[km]? = some (.map ms ms.size) ∧ es.length = ms.size ∧ (∀ (j : Nat) (x : AV × AV) (m : MapEntry), es[j]? = some x → ms[j]? = some m → m.born = j ∧ VRel φ x.1 m.key ∧ VRel φ x.2 m.val) ∧ (∀ (j : Nat) m, ms[j]? = some m → m.born = j) := by
  obtain ⟨km, im, zm, h1, h2⟩ := r.blk b k i z _ hb hg (by unfold AHeap.valid; rw [hg])
  obtain ⟨ms, h3, h4, h5⟩ := r.blk bm km im zm _ h1 hm (by unfold AHeap.valid; rw [hm])
  refine ⟨km, im, zm, ms, h1, by rw [← h4]; exact h2, h3, h4, h5, ?_⟩
  intro j m hj
  have hlt := (Array.getElem?_eq_some_iff.1 hj).1
  exact (h5 j (es[j]'(by omega)) m (List.getElem?_eq_getElem _) hj).1

/-- Nothing is left. -/
theorem mnext_over {P : Program} {ρ : Operand → AV} {o : Oper} {h : AHeap} {x : Operand} {b bm F Fm : Nat} {es : List (AV × AV)} {seen : List Nat} (ho : o.op = .next x false) (hx : ρ x = .it b) (hg : h.get b = some (.obj F (.mwalk bm es.length seen))) (hm : h.get bm = some (.obj Fm (.map es))) (hall : ∀ j, j < es.length → j ∈ seen) :
    StepS P ρ o h (.tup [.bool false]) h := by
  refine ⟨HGrow.refl _, ?_⟩
  intro φ a w K Q hfr r hops hk
  have hv := hops x (by simp [ho, Op.operands])
  rw [hx] at hv
  generalize hq : a.eval x = q at hv
  cases hv
  rename_i k z hφ
  obtain ⟨km, im, zm, ms, h1, h2, h3, h4, h5, h6⟩ := r.mwalk hφ hg hm
  have hold : ∀ y ∈ ms.toList, y.born < ms.size := by
    intro y hy
    obtain ⟨j, hj, rfl⟩ := Array.getElem_of_mem (Array.mem_toList_iff.1 hy)
    rw [h6 j _ (Array.getElem?_eq_getElem hj)]; exact hj
  rcases run_next_at (P := P) w o.type k km ms.size ms.size seen.toArray ms ms.size h2 h3 hold (Nat.le_refl _) with ⟨_, hrun⟩ | ⟨e, he, _⟩
  · have hop : (execOp a.eval o).run P w = .ok (.value (.tuple #[.bool false])) w := by
      simp only [execOp, ho, hq, Sem.run_bind, hrun, Result.andThen_ok, Sem.run_pure]
    refine wp_of_run hop (hk φ _ w (Trans.refl _ _ _) r ?_)
    refine .tup _ [.bool false] rfl ?_
    intro j y u hy hu
    match j, hy, hu with
    | 0, hy, hu => cases hy; cases hu; exact .bool _
  · obtain ⟨j, hj1, hj2, _⟩ := left_mem h6 he
    exact absurd (hall j (by have := (Array.getElem?_eq_some_iff.1 hj1).1; omega)) hj2

/-- One comes out: whichever. -/
theorem mnext_more {P : Program} {o : Oper} {h : AHeap} {x : Operand} {b bm F Fm : Nat} {es : List (AV × AV)} {seen : List Nat} (ho : o.op = .next x false) (hg : h.get b = some (.obj F (.mwalk bm es.length seen))) (hm : h.get bm = some (.obj Fm (.map es))) {j0 : Nat} (hj0 : j0 < es.length) (hj1 : j0 ∉ seen)
    {φ : Emb} {a : Act} {w : World} {K : Act → World → Prop} {Q : Exit → Act → World → Prop} (r : HRel φ h w) (hv : VRel φ (.it b) (a.eval x))
    (hk : ∀ j k v, j ∉ seen → es[j]? = some (k, v) → ∀ c w', Trans φ h w φ (h.set b (.obj F (.mwalk bm es.length (seen ++ [j])))) w' → HRel φ (h.set b (.obj F (.mwalk bm es.length (seen ++ [j])))) w' → VRel φ (.tup [.bool true, k, v]) c → K (a.put o.dst c) w') : o.wp P a w K Q := by
  generalize hq : a.eval x = q at hv
  cases hv
  rename_i k z hφ
  obtain ⟨km, im, zm, ms, h1, h2, h3, h4, h5, h6⟩ := r.mwalk hφ hg hm
  have hold : ∀ y ∈ ms.toList, y.born < ms.size := by
    intro y hy
    obtain ⟨j, hj, rfl⟩ := Array.getElem_of_mem (Array.mem_toList_iff.1 hy)
    rw [h6 j _ (Array.getElem?_eq_getElem hj)]; exact hj
  rcases run_next_at (P := P) w o.type k km ms.size ms.size seen.toArray ms ms.size h2 h3 hold (Nat.le_refl _) with ⟨h0, _⟩ | ⟨e, he, w1, hw1, hrun⟩
  · exact absurd ((left_size h6).1 h0 j0 (by omega)) hj1
  · obtain ⟨j, hj2, hj3, hj4⟩ := left_mem h6 he
    have hlt := (Array.getElem?_eq_some_iff.1 hj2).1
    have hes : es[j]? = some (es[j]'(by omega)) := List.getElem?_eq_getElem _
    obtain ⟨_, hk1, hk2⟩ := h5 j _ e hes hj2
    have hop : (execOp a.eval o).run P w = .ok (.value (.tuple #[.bool true, e.key, e.val])) (setW w1 k (.mapIter (some km) ms.size (seen.toArray.push e.born) ms.size)) := by
      simp only [execOp, ho, hq, Sem.run_bind, hrun, Result.andThen_ok, Sem.run_pure]
      rfl
    have hBR : ∀ w', w'.heap[k]? = some (.mapIter (some km) ms.size (seen.toArray.push e.born) ms.size) → BRel φ w' k 0 z (.obj F (.mwalk bm es.length (seen ++ [j]))) := by
      intro w' hw'
      refine ⟨km, im, zm, h1, ?_⟩
      rw [hw', hj4, h4]
      simp
    have hr1 : HRel φ h w1 := by
      rcases hw1 with rfl | rfl
      · exact r
      · exact r.drew
    obtain ⟨r', tr⟩ := hr1.setT hφ hg (.mwalk bm es.length (seen ++ [j])) _ hBR
    have tr' : Trans φ h w φ (h.set b (.obj F (.mwalk bm es.length (seen ++ [j])))) (setW w1 k (.mapIter (some km) ms.size (seen.toArray.push e.born) ms.size)) := by
      rcases hw1 with rfl | rfl
      · exact tr
      · exact tr.drew
    refine wp_of_run hop (hk j _ _ hj3 hes _ _ tr' r' ?_)
    refine .tup _ [.bool true, e.key, e.val] rfl ?_
    intro j' y u hy hu
    match j', hy, hu with
    | 0, hy, hu => cases hy; cases hu; exact .bool _
    | 1, hy, hu => cases hy; cases hu; exact hk1
    | 2, hy, hu => cases hy; cases hu; exact hk2

/-- The one that came out. -/
theorem mentry_step {P : Program} {ρ : Operand → AV} {o : Oper} {h : AHeap} {x : Operand} {b bm F Fm j : Nat} {es : List (AV × AV)} {seen : List Nat} {k v : AV} (ho : o.op = .entry x) (hx : ρ x = .it b) (hg : h.get b = some (.obj F (.mwalk bm es.length (seen ++ [j])))) (hm : h.get bm = some (.obj Fm (.map es))) (hj : es[j]? = some (k, v)) :
    StepS P ρ o h (.tup [k, v]) h := by
  refine ⟨HGrow.refl _, ?_⟩
  intro φ a w K Q hfr r hops hk
  have hv := hops x (by simp [ho, Op.operands])
  rw [hx] at hv
  generalize hq : a.eval x = q at hv
  cases hv
  rename_i kk z hφ
  obtain ⟨km, im, zm, ms, h1, h2, h3, h4, h5, h6⟩ := r.mwalk hφ hg hm
  have hlt : j < ms.size := by have := (List.getElem?_eq_some_iff.1 hj).1; omega
  obtain ⟨hb, hk1, hk2⟩ := h5 j _ _ hj (Array.getElem?_eq_getElem hlt)
  have h2' : w.heap[kk]? = some (.mapIter (some km) ms.size (seen.toArray.push ms[j].born) ms.size) := by rw [h2, hb]; simp
  have hrun := run_entry_at (P := P) w kk km ms.size seen.toArray ms ms.size ms[j] h2' h3 (Array.mem_toList_iff.2 (Array.getElem_mem hlt)) (born_nodup h6)
  have hop : (execOp a.eval o).run P w = .ok (.value (.tuple #[ms[j].key, ms[j].val])) w := by
    simp only [execOp, ho, hq, Sem.run_bind, hrun, Result.andThen_ok, Sem.run_pure]
  refine wp_of_run hop (hk φ _ w (Trans.refl _ _ _) r ?_)
  refine .tup _ [ms[j].key, ms[j].val] rfl ?_
  intro j' y u hy hu
  match j', hy, hu with
  | 0, hy, hu => cases hy; cases hu; exact hk1
  | 1, hy, hu => cases hy; cases hu; exact hk2

/-- A frame of which less is known. -/
def Weak (f g : List AV) : Prop := f.length = g.length ∧ ∀ t : Nat, g[t]? = f[t]? ∨ g[t]? = some AV.bot
theorem Weak.rel {f g : List AV} (hw : Weak f g) {φ : Emb} {a : Act} (h : FRel φ f a) : FRel φ g a := by
  refine ⟨h.1, by rw [← hw.1]; exact h.2.1, ?_⟩
  intro t x v hx hv
  rcases hw.2 t with h1 | h1
  · exact h.2.2 t x v (by rw [← h1]; exact hx) hv
  · rw [h1] at hx; cases hx; exact .bot v

/-- A walk is of no interest any more. -/
theorem HRel.gone {φ : Emb} {h : AHeap} {w : World} (r : HRel φ h w) {b F : Nat} {x : Thing} (hg : h.get b = some (.obj F x)) : HRel φ (h.set b (.obj F .gone)) w ∧ Trans φ h w φ (h.set b (.obj F .gone)) w := by
  have hblt := AHeap.get_lt hg
  have hget : ∀ b', (h.set b (.obj F .gone)).get b' = if b' = b then some (.obj F .gone) else h.get b' := by
    intro b'
    rw [AHeap.get_set]
    by_cases hbb : b' = b
    · subst hbb; rw [if_pos ⟨rfl, hblt⟩, if_pos rfl]
    · rw [if_neg (by simp [hbb]), if_neg hbb]
  have hvalid : ∀ b', b' ≠ b → (h.set b (.obj F .gone)).valid b' = h.valid b' := by
    intro b' hne
    simp only [AHeap.valid, hget, if_neg hne]
    rfl
  have hcell : ∀ {b' G p cs}, (h.set b (.obj F .gone)).get b' = some (.cells G p cs) → b' ≠ b ∧ h.get b' = some (.cells G p cs) := by
    intro b' G p cs hB
    rw [hget] at hB
    by_cases hbb : b' = b
    · rw [if_pos hbb] at hB; cases hB
    · rw [if_neg hbb] at hB; exact ⟨hbb, hB⟩
  refine ⟨⟨r.glob, r.lt, ?_, ?_, ?_, ?_, ?_, ?_⟩, Emb.le_refl φ, ?_, ?_, ?_, fun _ _ _ => rfl, rfl, rfl, rfl, Nat.le_refl _⟩
  · intro b' k i z B hb' hB hv
    rw [hget] at hB
    by_cases hbb : b' = b
    · rw [if_pos hbb] at hB; cases hB; trivial
    · rw [if_neg hbb] at hB
      rw [hvalid b' hbb] at hv
      exact r.blk b' k i z B hb' hB hv
  · intro b' k i z G p cs hb' hB
    exact r.arr b' k i z G p cs hb' (hcell hB).2
  · intro b1 b2 k i1 i2 z1 z2 F1 F2 p1 p2 cs1 cs2 hb1 hb2 hg1 hg2
    exact r.one b1 b2 k i1 i2 z1 z2 F1 F2 p1 p2 cs1 cs2 hb1 hb2 (hcell hg1).2 (hcell hg2).2
  · intro b1 b2 k i1 i2 z1 z2 F1 p1 p2 cs1 cs2 hb1 hb2 hg1 hg2
    exact r.sep b1 b2 k i1 i2 z1 z2 F1 p1 p2 cs1 cs2 hb1 hb2 (hcell hg1).2 (hcell hg2).2
  · intro b1 b2 k i1 i2 z1 z2 F1 x1 B hb1 hb2 hg1 hg2
    rw [hget] at hg1 hg2
    by_cases e1 : b1 = b
    · subst e1
      by_cases e2 : b2 = b1
      · exact e2.symm
      · rw [if_neg e2] at hg2
        exact r.map b1 b2 k i1 i2 z1 z2 F x B hb1 hb2 hg hg2
    · rw [if_neg e1] at hg1
      by_cases e2 : b2 = b
      · subst e2
        exact r.map b1 b2 k i1 i2 z1 z2 F1 x1 _ hb1 hb2 hg1 hg
      · rw [if_neg e2] at hg2
        exact r.map b1 b2 k i1 i2 z1 z2 F1 x1 B hb1 hb2 hg1 hg2
  · intro b' G p cs hB
    exact r.ext b' G p cs (hcell hB).2
  · intro b' h1 h2
    have : (h.set b (.obj F .gone)).next = h.next := by simp [AHeap.set, AHeap.next]
    omega
  · intro b' p h1 h2; rw [h1] at h2; cases h2
  · intro b' k' i' z' h1 h2; rw [h1] at h2; cases h2

def OkD (n : Nat) (D : List Nat) : Prop := D.Nodup ∧ ∀ j ∈ D, j < n
theorem OkD.snoc {n : Nat} {D : List Nat} (h : OkD n D) {j : Nat} (hj : j ∉ D) (hn : j < n) : OkD n (D ++ [j]) := by
  refine ⟨List.nodup_append.2 ⟨h.1, by simp, ?_⟩, ?_⟩
  · rintro a ha b hb rfl
    rw [List.mem_singleton] at hb
    subst hb
    exact hj ha
  · intro i hi
    rw [List.mem_append, List.mem_singleton] at hi
    rcases hi with hi | rfl
    · exact h.2 i hi
    · exact hn
theorem nodup_sub_le : ∀ {l m : List Nat}, l.Nodup → (∀ x ∈ l, x ∈ m) → l.length ≤ m.length := by
  intro l
  induction l with
  | nil => intro m _ _; exact Nat.zero_le _
  | cons a l ih =>
    intro m hn hs
    have hn' := List.nodup_cons.1 hn
    have ha := hs a (by simp)
    have h1 := ih (m := m.erase a) hn'.2 (fun x hx => (List.mem_erase_of_ne (by rintro rfl; exact hn'.1 hx)).2 (hs x (by simp [hx])))
    rw [List.length_erase_of_mem ha] at h1
    have := List.length_pos_of_mem ha
    rw [List.length_cons]
    omega
theorem OkD.full {n : Nat} {D : List Nat} (h : OkD n D) (hl : D.length = n) : ∀ j, j < n → j ∈ D := by
  intro j hj
  apply Classical.byContradiction
  intro hm
  have := nodup_sub_le (l := j :: D) (m := List.range n) (List.nodup_cons.2 ⟨hm, h.1⟩) (by
    intro x hx
    rcases List.mem_cons.1 hx with rfl | hx
    · exact List.mem_range.2 hj
    · exact List.mem_range.2 (h.2 x hx))
  rw [List.length_cons, List.length_range] at this
  omega
theorem OkD.more {n : Nat} {D : List Nat} (h : OkD n D) (hl : D.length < n) : ∃ j, j < n ∧ j ∉ D := by
  apply Classical.byContradiction
  intro hno
  have hall : ∀ j ∈ List.range n, j ∈ D := fun j hj => Classical.byContradiction fun hm => hno ⟨j, List.mem_range.1 hj, hm⟩
  have := nodup_sub_le List.nodup_range hall
  rw [List.length_range] at this
  omega

/-- A loop through a map: each round does its entry, whichever comes; what is there at the end is the same in all orders. -/
theorem AW.mapLoop {P : Program} {r1 id : Nat} {ops1 : Array Oper} {onx : Oper} {os1 : List Oper} {X : Code} {x : Operand} {b F bm Fm : Nat} {es : List (AV × AV)} {FZ : List Nat → List AV} {HS : List Nat → AHeap} {FE : List AV} {HE : AHeap} {Q : Ex → List AV → AHeap → Prop}
    (hl : ops1.toList = onx :: os1) (ho : onx.op = .next x false) (hgd : onx.guard = none)
    (hx : ∀ D, OkD es.length D → evalA (HS D).globs (FZ D) x = .it b) (hI : ∀ D, OkD es.length D → (HS D).get b = some (.obj F (.mwalk bm es.length D))) (hM : ∀ D, OkD es.length D → (HS D).get bm = some (.obj Fm (.map es)))
    (round : ∀ D j k v, OkD es.length D → j ∉ D → es[j]? = some (k, v) → AOps P ops1 TXT (fun fr h => AW P X (fun e fr' h' => e = .normal ∧ Weak fr' (FZ (D ++ [j])) ∧ h' = HS (D ++ [j])) fr h) 1 os1 (setF (FZ D) onx.dst (.tup [.bool true, k, v])) ((HS D).set b (.obj F (.mwalk bm es.length (D ++ [j])))))
    (last : ∀ D, OkD es.length D → (∀ j, j < es.length → j ∈ D) → AOps P ops1 TXT (fun fr h => AW P X (fun e fr' h' => e = .exit id ∧ Weak fr' FE ∧ (∃ y, h'.get b = some (.obj F y)) ∧ h'.set b (.obj F .gone) = HE) fr h) 1 os1 (setF (FZ D) onx.dst (.tup [.bool false])) (HS D))
    (hQ : Q (.exit id) FE HE) : AW P (.loop (.seq (.region r1 ops1 false) X)) Q (FZ []) (HS []) := by
  have ho0 : ops1[0]? = some onx := by rw [← Array.getElem?_toList, hl]; rfl
  have hrest : ∀ i, os1[i]? = ops1[1 + i]? := by intro i; rw [← Array.getElem?_toList, hl, Nat.add_comm]; rfl
  have hsz : ops1.size = os1.length + 1 := by rw [← Array.length_toList, hl]; rfl
  have key : ∀ k D, OkD es.length D → D.length + k = es.length → HGrow (HS D) HE ∧ ∀ (φ : Emb) (a : Act) (w : World), Fresh φ (HS D) HE → Sim φ (FZ D) (HS D) a w →
      Code.rounds P (.seq (.region r1 ops1 false) X) (fun e' a' w' => e' = .exit id ∧ ∃ φ', Trans φ (HS D) w φ' HE w' ∧ Sim φ' FE HE a' w') (k + 1) a w := by
    intro k
    induction k with
    | zero =>
      intro D hD hlen
      have hfull := hD.full (by omega)
      have hB : AW P (.seq (.region r1 ops1 false) X) (fun e fr' h' => e = .exit id ∧ Weak fr' FE ∧ (∃ y, h'.get b = some (.obj F y)) ∧ h'.set b (.obj F .gone) = HE) (FZ D) (HS D) := by
        refine AW.seq (AW.region (ex := TXT) hl ?_)
        unfold AOps
        simp only [hgd]
        exact ⟨_, _, .inr ⟨trivial, mnext_over ho (hx D hD) (hI D hD) (hM D hD) hfull⟩, fun hc => absurd hc (by decide), last D hD hfull⟩
      obtain ⟨e, fr', h', ⟨g, hrun⟩, rfl, hw, ⟨y, hy⟩, rfl⟩ := hB
      have g2 : HGrow h' (h'.set b (.obj F .gone)) := HGrow.setT hy
      refine ⟨g.trans g2, ?_⟩
      intro φ a w hfr s
      rw [rounds_succ]
      refine wp_mono (hrun φ a w (hfr.left g2) s) ?_
      rintro e' a' w' ⟨rfl, φ', t, s'⟩
      obtain ⟨r2, t2⟩ := s'.heap.gone hy
      exact ⟨rfl, φ', t.trans hfr g g2 t2, r2, hw.rel s'.fr⟩
    | succ k ih =>
      intro D hD hlen
      obtain ⟨j0, hj0, hj1⟩ := hD.more (by omega)
      have step : ∀ j kk v, j ∉ D → es[j]? = some (kk, v) → HGrow (HS D) ((HS D).set b (.obj F (.mwalk bm es.length (D ++ [j])))) := fun j kk v _ _ => HGrow.setT (hI D hD)
      have hgr : HGrow (HS D) HE := by
        obtain ⟨fr1, h1, ⟨e, fr2, h2, ⟨g2, _⟩, _, _, rfl⟩, g1, _⟩ := aops_run os1 1 _ _ hrest (round D j0 _ _ hD hj1 (List.getElem?_eq_getElem hj0))
        exact ((step j0 _ _ hj1 (List.getElem?_eq_getElem hj0)).trans g1).trans (g2.trans (ih _ (hD.snoc hj1 hj0) (by rw [List.length_append, List.length_singleton]; omega)).1)
      refine ⟨hgr, ?_⟩
      intro φ a w hfr s
      rw [rounds_succ]
      refine wp_seq (wp_region ?_)
      rw [List.range_eq_range', hsz, List.range'_succ]
      simp only [wpOps, ho0, Region.wanted, hgd, if_true]
      refine .inl (mnext_more ho (hI D hD) (hM D hD) hj0 hj1 s.heap (by rw [← hx D hD]; exact evalA_rel s.heap s.fr x) ?_)
      intro j kk v hj2 hj3 c w1 t1 r1' hc
      have hjl := (List.getElem?_eq_some_iff.1 hj3).1
      obtain ⟨fr1, h1, ⟨e, fr2, h2, ⟨g2, hrun2⟩, rfl, hw2, rfl⟩, g1, hrun1⟩ := aops_run os1 1 _ _ hrest (round D j kk v hD hj2 hj3)
      obtain ⟨g3, hrun3⟩ := ih _ (hD.snoc hj2 hjl) (by rw [List.length_append, List.length_singleton]; omega)
      have g0 := step j kk v hj2 hj3
      have f1 : Fresh φ ((HS D).set b (.obj F (.mwalk bm es.length (D ++ [j])))) HE := hfr.right g0 t1
      refine hrun1 φ _ w1 _ (f1.left (g2.trans g3)) ⟨r1', (s.fr).put onx.dst hc⟩ ?_
      intro φ2 a2 w2 t2 s2
      show X.wp P _ a2 w2
      have f2 : Fresh φ2 h1 HE := f1.right g1 t2
      refine wp_mono (hrun2 φ2 a2 w2 (f2.left g3) s2) ?_
      rintro e' a3 w3 ⟨rfl, φ3, t3, s3⟩
      show Code.rounds P _ _ (k + 1) a3 w3
      have f3 : Fresh φ3 (HS (D ++ [j])) HE := f2.right g2 t3
      refine rounds_mono ?_ _ _ _ (hrun3 φ3 a3 w3 f3 ⟨s3.heap, hw2.rel s3.fr⟩)
      rintro e'' a4 w4 ⟨rfl, φ4, t4, s4⟩
      exact ⟨rfl, φ4, t1.trans hfr g0 ((g1.trans g2).trans g3) (t2.trans f1 g1 (g2.trans g3) (t3.trans f2 g2 g3 t4)), s4⟩
  have hok : OkD es.length [] := ⟨List.nodup_nil, by simp⟩
  obtain ⟨g, hrun⟩ := key es.length [] hok (by simp)
  exact ⟨.exit id, FE, HE, ⟨g, fun φ a w hfr s => wp_loop_rounds _ (hrun φ a w hfr s)⟩, hQ⟩

theorem Weak.sub {n : Nat} {K K' : KF} (hs : Sub K' K) : Weak (toFr n K) (toFr n K') := by
  refine ⟨by rw [toFr_length, toFr_length], ?_⟩
  intro t
  simp only [toFr, List.getElem?_map]
  by_cases ht : t < n
  · rw [List.getElem?_range ht]
    simp only [Option.map_some, Option.some.injEq]
    rcases Sub.look hs t with h | h
    · exact .inr h
    · exact .inl h
  · rw [List.getElem?_eq_none (by simpa using ht)]
    exact .inl rfl
/-- A loop through a map, in whatever order. -/
theorem KA.mapLoop {P : Program} {n r1 id : Nat} {ops1 : Array Oper} {os1 : List Oper} {X : Code} {x : Operand} {a : Nat} {ty : TypeId} {pos : String} {after : Array Edge} {b F bm Fm : Nat} {es : List (AV × AV)} (KS : List Nat → KF) (HS : List Nat → AHeap) {KE K : KF} {HE h : AHeap} {Q : Ex → KF → AHeap → Prop}
    (hl : ops1.toList = ⟨some a, .next x false, ty, pos, after, none⟩ :: os1)
    (hx : ∀ D, OkD es.length D → evalK (HS D).globs n (KS D) x = .it b) (hI : ∀ D, OkD es.length D → (HS D).get b = some (.obj F (.mwalk bm es.length D))) (hM : ∀ D, OkD es.length D → (HS D).get bm = some (.obj Fm (.map es)))
    (round : ∀ D j k v, OkD es.length D → j ∉ D → es[j]? = some (k, v) → KOps P n ops1 TXT (fun K h => KA P n X (fun e K' h' => e = .normal ∧ Sub (KS (D ++ [j])) K' ∧ h' = HS (D ++ [j])) K h) 1 os1 ((a, .tup [.bool true, k, v]) :: KS D) ((HS D).set b (.obj F (.mwalk bm es.length (D ++ [j])))))
    (last : ∀ D, OkD es.length D → (∀ j, j < es.length → j ∈ D) → KOps P n ops1 TXT (fun K h => KA P n X (fun e K' h' => e = .exit id ∧ Sub KE K' ∧ (∃ y, h'.get b = some (.obj F y)) ∧ h'.set b (.obj F .gone) = HE) K h) 1 os1 ((a, .tup [.bool false]) :: KS D) (HS D))
    (hs : Sub (KS []) K) (hh : h = HS []) (hQ : Q (.exit id) KE HE) : KA P n (.loop (.seq (.region r1 ops1 false) X)) Q K h := by
  subst hh
  refine KA.sub hs ?_
  refine AW.mapLoop (FZ := fun D => toFr n (KS D)) (HS := HS) (FE := toFr n KE) (HE := HE) (id := id) hl rfl rfl (fun D hD => by rw [evalA_toFr]; exact hx D hD) hI hM ?_ ?_ ⟨KE, rfl, hQ⟩
  · intro D j k v hD hj hjk
    have := round D j k v hD hj hjk
    unfold KOps at this
    rw [← toFr_set] at this
    refine aops_mono ?_ _ _ _ _ this
    rintro fr h' ⟨K', rfl, hk⟩
    refine AW.mono hk ?_
    rintro e fr' h'' ⟨K'', rfl, he, hs', rfl⟩
    exact ⟨he, Weak.sub hs', rfl⟩
  · intro D hD hf
    have := last D hD hf
    unfold KOps at this
    rw [← toFr_set] at this
    refine aops_mono ?_ _ _ _ _ this
    rintro fr h' ⟨K', rfl, hk⟩
    refine AW.mono hk ?_
    rintro e fr' h'' ⟨K'', rfl, he, hs', hy, hg⟩
    exact ⟨he, Weak.sub hs', hy, hg⟩
end Go.Am

namespace Go.Am

/-- One entry is done: one more, or one less. -/
def bump (E : List (Int × Bool)) (l : List Int) (j : Nat) : List Int := match E[j]? with
  | some (w, m) => l.set w.toNat (l.getD w.toNat 0 + if m then 1 else -1)
  | none => l
def bumps (E : List (Int × Bool)) (l : List Int) (D : List Nat) : List Int := D.foldl (bump E) l
theorem bumps_snoc (E : List (Int × Bool)) (l : List Int) (D : List Nat) (j : Nat) : bumps E l (D ++ [j]) = bump E (bumps E l D) j := by simp [bumps]
theorem bump_len (E : List (Int × Bool)) (l : List Int) (j : Nat) : (bump E l j).length = l.length := by unfold bump; split <;> simp
theorem bumps_len (E : List (Int × Bool)) (D : List Nat) : ∀ l : List Int, (bumps E l D).length = l.length := by
  induction D with
  | nil => intro l; rfl
  | cons j D ih => intro l; show (bumps E (bump E l j) D).length = _; rw [ih, bump_len]
theorem getD_setJ (e : List Int) (x i : Nat) (c : Int) : (e.set x c).getD i 0 = if i = x ∧ x < e.length then c else e.getD i 0 := by
  simp only [List.getD_eq_getElem?_getD, List.getElem?_set]
  by_cases h : x = i
  · subst h
    by_cases h2 : x < e.length
    · simp [h2]
    · simp [h2]
  · simp [h, Ne.symm h]
theorem bump_getD (E : List (Int × Bool)) (l : List Int) (j i : Nat) : (bump E l j).getD i 0 = l.getD i 0 + match E[j]? with
    | some (w, m) => if w.toNat = i ∧ i < l.length then (if m then 1 else -1) else 0
    | none => 0 := by
  unfold bump
  cases E[j]? with
  | none => simp
  | some p =>
    obtain ⟨w, m⟩ := p
    simp only
    rw [getD_setJ]
    by_cases h : w.toNat = i ∧ i < l.length
    · obtain ⟨rfl, h2⟩ := h
      simp [h2]
    · have h2 : ¬ (i = w.toNat ∧ w.toNat < l.length) := fun h3 => h ⟨h3.1.symm, by rw [h3.1]; exact h3.2⟩
      simp only [if_neg h, if_neg h2, Int.add_zero]
theorem extJ {a b : List Int} (hl : a.length = b.length) (h : ∀ i, a.getD i 0 = b.getD i 0) : a = b := by
  apply List.ext_getElem hl
  intro i h1 h2
  have := h i
  rwa [List.getD_eq_getElem?_getD, List.getD_eq_getElem?_getD, List.getElem?_eq_getElem h1, List.getElem?_eq_getElem h2] at this
theorem bump_comm (E : List (Int × Bool)) (l : List Int) (i j : Nat) : bump E (bump E l i) j = bump E (bump E l j) i := by
  refine extJ (by simp only [bump_len]) ?_
  intro k
  rw [bump_getD, bump_getD, bump_getD, bump_getD, bump_len, bump_len]
  omega
theorem bumps_perm {E : List (Int × Bool)} {D D' : List Nat} (h : D.Perm D') (l : List Int) : bumps E l D = bumps E l D' :=
  h.foldl_eq' (fun x _ y _ z => bump_comm E z x y) l

/-- The heap while a walk has met D, and a row holds xs. -/
def hpush (h1 : AHeap) (bI FI bm n bn Fn pn : Nat) (cs : List AV) (off : Nat) (f : Fam) (D : List Nat) (xs : List AV) : AHeap :=
  ((h1.set bI (.obj FI (.mwalk bm n D))).set bn (.cells (some Fn) pn (putL cs off xs))).setFam Fn (if D = [] then f else { f with live := some [bn] })
section
variable {h1 : AHeap} {bI FI bm n bn Fn pn : Nat} {cs : List AV} {off : Nat} {f : Fam}
theorem hpush_get {D : List Nat} {xs : List AV} (b : Nat) (hI : bI < h1.next) (hn : bn < h1.next) : (hpush h1 bI FI bm n bn Fn pn cs off f D xs).get b = if b = bn then some (.cells (some Fn) pn (putL cs off xs)) else if b = bI then some (.obj FI (.mwalk bm n D)) else h1.get b := by
  unfold AHeap.next at hI hn
  simp only [hpush, AHeap.setFam, AHeap.set, AHeap.get, List.getElem?_set, List.length_set]
  by_cases e1 : bn = b
  · subst e1; simp [hn]
  · by_cases e2 : bI = b
    · subst e2; simp [e1, Ne.symm e1, hI]
    · simp [e1, e2, Ne.symm e1, Ne.symm e2]
theorem hpush_fam {D : List Nat} {xs : List AV} (hF : Fn < h1.nfam) : (hpush h1 bI FI bm n bn Fn pn cs off f D xs).fam Fn = some (if D = [] then f else { f with live := some [bn] }) := by
  unfold AHeap.nfam at hF
  simp [hpush, AHeap.setFam, AHeap.set, AHeap.fam, hF]
theorem set_same {α : Type} {l : List α} {i : Nat} {a : α} (h : l[i]? = some a) : l.set i a = l := by
  obtain ⟨hi, rfl⟩ := List.getElem?_eq_some_iff.1 h
  exact List.set_getElem_self hi
theorem putL_same {cs xs : List AV} {off : Nat} (h : (cs.drop off).take xs.length = xs) : putL cs off xs = cs := by
  unfold putL
  have h2 : cs.drop off = xs ++ cs.drop (off + xs.length) := by
    have := List.take_append_drop xs.length (cs.drop off)
    rw [h, List.drop_drop] at this
    exact this.symm
  rw [List.append_assoc, ← h2, List.take_append_drop]
theorem hpush_nil {xs : List AV} (hI : h1.get bI = some (.obj FI (.mwalk bm n []))) (hn : h1.get bn = some (.cells (some Fn) pn cs)) (hF : h1.fam Fn = some f) (hx : (cs.drop off).take xs.length = xs) : hpush h1 bI FI bm n bn Fn pn cs off f [] xs = h1 := by
  unfold hpush
  rw [putL_same hx, if_pos rfl]
  unfold AHeap.get at hI hn
  unfold AHeap.fam at hF
  unfold AHeap.setFam AHeap.set
  simp only [set_same hI, set_same hn, set_same hF]
theorem hpush_step {D D' : List Nat} {xs xs' : List AV} {c' : List AV} {f' : Fam} (hne : bI ≠ bn) (hD : D' ≠ []) (hc : c' = putL cs off xs') (hf : f' = { f with live := some [bn] }) :
    (((hpush h1 bI FI bm n bn Fn pn cs off f D xs).set bI (.obj FI (.mwalk bm n D'))).set bn (.cells (some Fn) pn c')).setFam Fn f' = hpush h1 bI FI bm n bn Fn pn cs off f D' xs' := by
  subst hc hf
  unfold hpush
  rw [if_neg hD]
  unfold AHeap.setFam AHeap.set
  simp only [AHeap.mk.injEq, and_true]
  refine ⟨?_, ?_⟩
  · rw [List.set_comm _ _ hne.symm, List.set_set, List.set_set]
  · rw [List.set_set]
theorem hpush_gone {D D' : List Nat} {xs : List AV} (hne : bI ≠ bn) (hD : D = [] ↔ D' = []) : (hpush h1 bI FI bm n bn Fn pn cs off f D xs).set bI (.obj FI .gone) = (hpush h1 bI FI bm n bn Fn pn cs off f D' xs).set bI (.obj FI .gone) := by
  unfold hpush
  have : (if D = [] then f else { f with live := some [bn] } : Fam) = if D' = [] then f else { f with live := some [bn] } := by
    by_cases h : D = []
    · rw [if_pos h, if_pos (hD.1 h)]
    · rw [if_neg h, if_neg (fun h2 => h (hD.2 h2))]
  rw [this]
  unfold AHeap.setFam AHeap.set
  simp only [AHeap.mk.injEq, and_true]
  rw [List.set_comm _ _ hne.symm, List.set_set, List.set_comm _ _ hne.symm, List.set_set]
end

/-- An entry of a map that is written out. -/
theorem insert_step {P : Program} {ρ : Operand → AV} {o : Oper} {h h' : AHeap} {t : TypeId} {x ix y : Operand} (ho : o.op = .insert t x ix y) (hs : aput P h t (ρ x) (ρ ix) (ρ y) = some h') : StepS P ρ o h (.tup []) h' := by
  obtain ⟨g, hrun⟩ := mapUpdate_step (o := { o with op := .mapUpdate t x ix y }) rfl hs
  refine ⟨g, ?_⟩
  intro φ a w K Q hfr r hops hk
  have := hrun φ a w K Q hfr r (fun z hz => hops z (by rw [ho]; exact hz)) hk
  have he : execOp a.eval o = execOp a.eval { o with op := .mapUpdate t x ix y } := by simp only [execOp, ho]
  unfold Oper.wp at this ⊢
  rw [he]
  exact this
section maps
variable {κ ν : Type} [DecidableEq κ]
variable {P : Program} {n : Nat} {ops : Array Oper} {ex : List Nat} {Q : KF → AHeap → Prop} {k : Nat} {os : List Oper} {K : KF} {h h0 : AHeap} {d : Nat} {ty : TypeId} {pos : String} {after : Array Edge} {objs : List Obj}
theorem KOps.insertK {t kt : TypeId} {z : AV} {kf : κ → AV} {vf : ν → AV} {l : List (κ × ν)} {v u : AV} {x ix y : Operand} {a : κ} {b : ν} {i : Nat} [hx : EvK h.globs n K x v] (hi : evalK h.globs n K ix = kf a) [hy : EvK h.globs n K y u] (hu : u = vf b) [ht : MpT P t kt z] [hkt : KeyT P kt kf]
    (st : St h0 h objs) (hv : IsMp v) (hk' : objs[i]? = some (mapO v (entL kf vf l))) (hex : ex.contains k = false)
    (hk : ∀ h', St h0 h' (objs.set i (mapO v (entL kf vf (mput l a b)))) → KOps P n ops ex Q (k + 1) os K h') : KOps P n ops ex Q k (⟨none, .insert t x ix y, ty, pos, after, none⟩ :: os) K h := by
  obtain ⟨bb, G, rfl, hg⟩ := St.rdM st i hk' hv
  obtain ⟨et, h1, h2⟩ := ht.mp
  obtain ⟨r, h3, -, h4⟩ := afind_ent (P := P) (kt := kt) (kf := kf) (vf := vf) l a
  have hput : aput P h t (.mp bb) (kf a) (vf b) = some (h.set bb (.obj G (.map (entL kf vf (mput l a b))))) := by
    simp only [aput, h1, hg, hkt.ok, if_true, h3, Option.map_some]
    rw [← h4 b]
  refine KOps.chainS0 (v := .tup []) (h' := h.set bb (.obj G (.map (entL kf vf (mput l a b))))) rfl hex (insert_step rfl ?_) (hk _ ?_)
  · rw [hx.eq, hi, hy.eq, hu]; exact hput
  · refine St.setT (x := .map (entL kf vf l)) (x' := .map (entL kf vf (mput l a b))) st hk' (fun _ => rfl) rfl hg ?_
    intro F hm
    obtain ⟨b', G', f, hF, hlo, hb', hg', hf⟩ := hm.map hv
    cases hb'
    rw [hg] at hg'; cases hg'
    exact ⟨hF, hlo, f, hf⟩
end maps
section drawS
variable {P : Program} {n : Nat} {Q : Ex → KF → AHeap → Prop} {K : KF} {h : AHeap}
/-- A region whose order is open, in which a load may come behind a store of other places. -/
theorem KA.drawS {id c r t a d : Nat} {ops : Array Oper} {l1 l2 : List Oper} {o : Oper} (ex : List Nat) (hm : P.follows .mixedOrders = true) (hl1 : ops.toList.take (c + 1) = l1) (hl2 : ops.toList.drop (c + 1) = l2) (hc : l1.length = c + 1) (hok : rgOk n ops.toList ex [(c, r)] = true) (ho : ops[r]? = some o) (hop : o.op = .load t (.tmp a)) (hod : o.dst = some d) (hdz : d < n) (hrc : r < c)
    (hno : ((List.range' r (c + 1 - r)).all fun j => match ops[j]? with | some oj => oj.dst != some a && (j == r || oj.dst != some d) | none => true) = true)
    (hw : KOps P n ops ex (fun K1 h1 => aload P h1 t ((toFr n K1).getD a .bot) = some ((toFr n K1).getD d .bot) ∧ KOps P n ops ex (Q .normal) (c + 1) l2 K1 h1) 0 l1 K h) : KA P n (.region id ops true) Q K h := by
  refine AW.region_drawS (c := c) (r := r) (t := t) (a := a) (d := d) (l1 := l1) (l2 := l2) hm (by rw [← hl1, ← hl2, List.take_append_drop]) hc (rgOk_sound rfl hok) (toFr_length n K) hrc ho hop hod hdz ?_ ?_
  · intro j oj h1 h2 hj
    have := List.all_eq_true.1 hno j (List.mem_range'_1.2 ⟨h1, by omega⟩)
    simp only [hj, Bool.and_eq_true, bne_iff_ne, Bool.or_eq_true, beq_iff_eq] at this
    exact ⟨this.1, fun h3 => this.2.resolve_left (by omega)⟩
  · refine aops_mono ?_ _ _ _ _ hw
    rintro fr1 h1 ⟨K1, rfl, hchk, hrest⟩
    exact ⟨hchk, hrest⟩
end drawS
section drawS2
variable {P : Program} {n : Nat} {ops : Array Oper} {ex : List Nat} {Q : KF → AHeap → Prop} {k : Nat} {K : KF} {h : AHeap}
end drawS2
section calls
variable {P : Program} {n : Nat} {ops : Array Oper} {ex : List Nat} {Q : KF → AHeap → Prop} {k : Nat} {os : List Oper} {K : KF} {h : AHeap} {d : Nat} {ty : TypeId} {pos : String} {after : Array Edge}
/-- A call that keeps all that is known: in a region whose order is open. -/
theorem KOps.callK {f : FuncId} {g : Operand} {caps : List AV} {l : List Operand} {vs : List AV} {tys : Array TypeId} {R : AV → AHeap → Prop} [hg : EvK h.globs n K g (.fn f caps)] [hl : EvKs h.globs n K l vs] (hR : ∀ r h', R r h' → Keeps h h')
    (hc : ACalls P f (vs ++ caps) h R) (hk : ∀ r h', R r h' → KOps P n ops ex Q (k + 1) os ((d, r) :: K) h') : KOps P n ops ex Q k (⟨some d, .call { callee := .value g, args := List.toArray l, argTypes := tys }, ty, pos, after, none⟩ :: os) K h := by
  obtain ⟨r, h', hev, hr⟩ := hc
  refine KOps.step (v := r) (h' := h') ?_ (fun _ hw => (hR r h' hr).hext hw) (hk r h' hr)
  refine Ev.step (g := g) (args := List.toArray l) (tys := tys) rfl hg.eq ?_
  rw [List.toList_toArray, hl.eq]
  exact hev
end calls
section rules
variable {P : Program} {n : Nat} {ops : Array Oper} {ex : List Nat} {Q : KF → AHeap → Prop} {k : Nat} {os : List Oper} {K : KF} {h h' : AHeap} {ty : TypeId} {pos : String} {after : Array Edge}
/-- A store, its heap in full. -/
theorem KOps.storeE {t : TypeId} {x y : Operand} {p v : AV} [hx : EvK h.globs n K x p] [hy : EvK h.globs n K y v] (hex : ex.contains k = false) (hs : astore P h t p v = some (.tup [], h')) (hk : KOps P n ops ex Q (k + 1) os K h') :
    KOps P n ops ex Q k (⟨none, .store t x y, ty, pos, after, none⟩ :: os) K h := by
  refine KOps.chain0 (kill := true) (v := .tup []) rfl ?_ (fun hc => by rw [hex] at hc; cases hc) hk
  simp only [achain, hx.eq, hy.eq]
  exact hs
end rules
end Go.Am

namespace Go.Am
instance ky3 : KeyT Go.Proofs.Tryd.prog 3 (AV.int .i64) := KeyT.int (by kernel_rfl)
instance fd24_0 : FdT Go.Proofs.Tryd.prog 24 0 0 := FdT.of (by kernel_rfl)
instance fd24_1 : FdT Go.Proofs.Tryd.prog 24 1 1 := FdT.of (by kernel_rfl)
instance fd30_0 : FdT Go.Proofs.Tryd.prog 30 0 0 := FdT.of (by kernel_rfl)
instance fd30_1 : FdT Go.Proofs.Tryd.prog 30 1 1 := FdT.of (by kernel_rfl)
instance fd63_0 : FdT Go.Proofs.Tryd.prog 63 0 0 := FdT.of (by kernel_rfl)
instance fd63_1 : FdT Go.Proofs.Tryd.prog 63 1 1 := FdT.of (by kernel_rfl)
instance ar72 : ArT Go.Proofs.Tryd.prog 72 2 := ArT.of (by kernel_rfl)
instance fd74_0 : FdT Go.Proofs.Tryd.prog 74 0 0 := FdT.of (by kernel_rfl)
instance fd74_1 : FdT Go.Proofs.Tryd.prog 74 1 1 := FdT.of (by kernel_rfl)
instance fd74_2 : FdT Go.Proofs.Tryd.prog 74 2 2 := FdT.of (by kernel_rfl)
instance fd74_3 : FdT Go.Proofs.Tryd.prog 74 3 3 := FdT.of (by kernel_rfl)
instance ar76 : ArT Go.Proofs.Tryd.prog 76 4 := ArT.of (by kernel_rfl)
instance fd83_0 : FdT Go.Proofs.Tryd.prog 83 0 0 := FdT.of (by kernel_rfl)
instance fd83_1 : FdT Go.Proofs.Tryd.prog 83 1 1 := FdT.of (by kernel_rfl)
instance fd83_2 : FdT Go.Proofs.Tryd.prog 83 2 2 := FdT.of (by kernel_rfl)
instance fd83_3 : FdT Go.Proofs.Tryd.prog 83 3 3 := FdT.of (by kernel_rfl)
instance fd90_0 : FdT Go.Proofs.Tryd.prog 90 0 0 := FdT.of (by kernel_rfl)
instance fd90_1 : FdT Go.Proofs.Tryd.prog 90 1 2 := FdT.of (by kernel_rfl)
instance mp97 : MpT Go.Proofs.Tryd.prog 97 3 (.bool false) := MpT.of (by kernel_rfl)
instance fd121_0 : FdT Go.Proofs.Tryd.prog 121 0 0 := FdT.of (by kernel_rfl)
instance fd121_1 : FdT Go.Proofs.Tryd.prog 121 1 1 := FdT.of (by kernel_rfl)
instance fd121_2 : FdT Go.Proofs.Tryd.prog 121 2 2 := FdT.of (by kernel_rfl)
instance mp122 : MpT Go.Proofs.Tryd.prog 122 3 (.agg [.int .i64 0, .int .i64 0, .bool false]) := MpT.of (by kernel_rfl)
instance ar126 : ArT Go.Proofs.Tryd.prog 126 64 := ArT.of (by kernel_rfl)
theorem mixed : Go.Proofs.Tryd.prog.follows .mixedOrders = true := by kernel_rfl
end Go.Am

namespace Go.Am
/-- A way: from, to, least, most. -/
structure W where
  f : Int
  t : Int
  l : Int
  m : Int
  deriving DecidableEq, Inhabited
abbrev wc (w : W) : List AV := [.int .i64 w.f, .int .i64 w.t, .int .i64 w.l, .int .i64 w.m]
theorem wc_len (w : W) : (wc w).length = 4 := rfl
/-- The error of a way, or 0. -/
def wayE (r : Int) (w : W) : Int :=
  if ¬ (0 ≤ w.f ∧ w.f < r ∧ 0 ≤ w.t ∧ w.t < r) then 2 else if w.f = w.t then 13 else if ¬ (0 ≤ w.l ∧ w.l ≤ w.m ∧ w.m ≤ 99) then 1 else 0
def waysE (r : Int) (ws : List W) : Nat → Int
  | 0 => 0
  | i + 1 => if waysE r ws i = 0 then wayE r (ws.getD i default) else waysE r ws i
/-- The error of books. -/
def chkB (r : Int) (ws : List W) : Int := if ¬ (2 ≤ r ∧ r ≤ 6) then 1 else if 12 < ws.length then 3 else waysE r ws ws.length
theorem waysE_zero {r : Int} {ws : List W} : ∀ {n i : Nat}, i ≤ n → waysE r ws n = 0 → waysE r ws i = 0 := by
  intro n
  induction n with
  | zero => intro i hi h; obtain rfl : i = 0 := by omega
            exact h
  | succ n ih =>
    intro i hi h
    have h1 : waysE r ws n = 0 := by
      rw [waysE] at h
      by_cases h2 : waysE r ws n = 0
      · exact h2
      · rw [if_neg h2] at h; exact h
    rcases Nat.lt_or_eq_of_le hi with h3 | rfl
    · exact ih (by omega) h1
    · exact h
theorem waysE_stop {r : Int} {ws : List W} {i : Nat} (h0 : waysE r ws i = 0) (he : wayE r (ws.getD i default) ≠ 0) : ∀ {n : Nat}, i < n → waysE r ws n = wayE r (ws.getD i default) := by
  intro n
  induction n with
  | zero => intro h; omega
  | succ n ih =>
    intro h
    rcases Nat.lt_succ_iff_lt_or_eq.1 h with h1 | rfl
    · rw [waysE, ih h1, if_neg he]
    · rw [waysE, if_pos h0]
theorem waysE_all {r : Int} {ws : List W} {n : Nat} (h : waysE r ws n = 0) {i : Nat} (hi : i < n) : wayE r (ws.getD i default) = 0 := by
  have h1 := waysE_zero (show i ≤ n by omega) h
  by_cases h2 : wayE r (ws.getD i default) = 0
  · exact h2
  · rw [waysE_stop h1 h2 hi] at h; exact absurd h h2
/-- A way that is well told. -/
structure WOk (r : Int) (w : W) : Prop where
  f0 : 0 ≤ w.f
  f1 : w.f < r
  t0 : 0 ≤ w.t
  t1 : w.t < r
  ne : w.f ≠ w.t
  l0 : 0 ≤ w.l
  lm : w.l ≤ w.m
  m1 : w.m ≤ 99
theorem WOk.of {r : Int} {w : W} (h : wayE r w = 0) : WOk r w := by
  unfold wayE at h
  by_cases h1 : ¬ (0 ≤ w.f ∧ w.f < r ∧ 0 ≤ w.t ∧ w.t < r)
  · rw [if_pos h1] at h; cases h
  · rw [if_neg h1] at h
    by_cases h2 : w.f = w.t
    · rw [if_pos h2] at h; cases h
    · rw [if_neg h2] at h
      by_cases h3 : ¬ (0 ≤ w.l ∧ w.l ≤ w.m ∧ w.m ≤ 99)
      · rw [if_pos h3] at h; cases h
      · have h1 := Decidable.not_not.1 h1
        have h3 := Decidable.not_not.1 h3
        exact ⟨h1.1, h1.2.1, h1.2.2.1, h1.2.2.2, h2, h3.1, h3.2.1, h3.2.2⟩
/-- Books that are well told. -/
structure BOk (r : Int) (ws : List W) : Prop where
  r2 : 2 ≤ r
  r6 : r ≤ 6
  len : ws.length ≤ 12
  way : ∀ i, i < ws.length → WOk r (ws.getD i default)
theorem BOk.of {r : Int} {ws : List W} (h : chkB r ws = 0) : BOk r ws := by
  unfold chkB at h
  by_cases h1 : ¬ (2 ≤ r ∧ r ≤ 6)
  · rw [if_pos h1] at h; cases h
  · rw [if_neg h1] at h
    by_cases h2 : 12 < ws.length
    · rw [if_pos h2] at h; cases h
    · rw [if_neg h2] at h
      have h1 := Decidable.not_not.1 h1
      exact ⟨h1.1, h1.2, by omega, fun i hi => WOk.of (waysE_all h hi)⟩
end Go.Am

namespace Go.Am
theorem chk_at {r e : Int} {ws : List W} {i : Nat} (h1 : 2 ≤ r ∧ r ≤ 6) (h2 : ws.length ≤ 12) (h0 : waysE r ws i = 0) (hi : i < ws.length) (he : wayE r (ws.getD i default) = e) (hne : e ≠ 0) : chkB r ws = e := by
  unfold chkB
  rw [if_neg (Decidable.not_not.2 h1), if_neg (by omega), waysE_stop h0 (by rw [he]; exact hne) hi, he]
theorem chk_end {r : Int} {ws : List W} (h1 : 2 ≤ r ∧ r ≤ 6) (h2 : ws.length ≤ 12) (h0 : waysE r ws ws.length = 0) : chkB r ws = 0 := by
  unfold chkB
  rw [if_neg (Decidable.not_not.2 h1), if_neg (by omega), h0]

theorem between_c {h : AHeap} {a b c : Int} : ACalls Go.Proofs.Tryd.prog 59 [.int .i64 a, .int .i64 b, .int .i64 c] h (fun q h' => q = .bool (decide (a ≤ b ∧ b ≤ c)) ∧ h = h') := by
  refine KA.fn 15 [.tmp 6] Go.Proofs.Tryd.func59 rfl (by decide) rfl rfl (Nat.le_of_ble_eq_true rfl) ?_
  show KA _ 15 _ _ [(0, .int .i64 a), (1, .int .i64 b), (2, .int .i64 c)] _
  refine KA.seq ?_
  refine KA.region rfl ?_
  refine KOps.assign ?_
  refine KOps.done ?_
  refine sqQ.normal ?_
  refine KA.sub (Sub.cons (t := 0) Look.eq (Sub.cons (t := 1) Look.eq (Sub.cons (t := 2) Look.eq (Sub.nil _)))) ?_
  refine KA.seq ?_
  refine KA.region rfl ?_
  refine KOps.move ?_
  refine KOps.move ?_
  refine KOps.leq ?_
  refine KOps.move ?_
  refine KOps.guardB (dj := 10) rfl rfl true false rfl ?_ ?_
  · intro g10
    have g10 := of_decide_eq_true g10
    refine KOps.move ?_
    refine KOps.guardYes (dj := 10) rfl rfl ?_
    refine KOps.move ?_
    refine KOps.guardYes (dj := 10) rfl rfl ?_
    refine KOps.leq ?_
    refine KOps.pickT ?_
    refine KOps.assign ?_
    refine KOps.done ?_
    refine sqQ.normal ?_
    refine KA.sub (Sub.cons (t := 6) Look.eq (Sub.nil _)) ?_
    refine KA.ret ?_
    refine fnQ.ret1 ?_
    exact ⟨congrArg AV.bool (decide_eq_decide.2 (by omega)), rfl⟩
  · intro g10
    have g10 := of_decide_eq_false g10
    refine KOps.guardNo (dj := 10) rfl rfl rfl ?_
    refine KOps.guardNo (dj := 10) rfl rfl rfl ?_
    refine KOps.pickF ?_
    refine KOps.assign ?_
    refine KOps.done ?_
    refine sqQ.normal ?_
    refine KA.sub (Sub.cons (t := 6) Look.eq (Sub.nil _)) ?_
    refine KA.ret ?_
    refine fnQ.ret1 ?_
    exact ⟨congrArg AV.bool (decide_eq_false (by omega)).symm, rfl⟩

theorem in_c {h : AHeap} {a b c : Int} : ACalls Go.Proofs.Tryd.prog 60 [.int .i64 b, .int .i64 a, .int .i64 c] h (fun q h' => q = .bool (decide (a ≤ b ∧ b ≤ c)) ∧ h = h') := by
  refine KA.fn 15 [.tmp 6] Go.Proofs.Tryd.func60 rfl (by decide) rfl rfl (Nat.le_of_ble_eq_true rfl) ?_
  show KA _ 15 _ _ [(0, .int .i64 b), (1, .int .i64 a), (2, .int .i64 c)] _
  refine KA.seq ?_
  refine KA.region rfl ?_
  refine KOps.assign ?_
  refine KOps.done ?_
  refine sqQ.normal ?_
  refine KA.sub (Sub.cons (t := 0) Look.eq (Sub.cons (t := 1) Look.eq (Sub.cons (t := 2) Look.eq (Sub.nil _)))) ?_
  refine KA.seq ?_
  refine KA.region rfl ?_
  refine KOps.move ?_
  refine KOps.move ?_
  refine KOps.geq ?_
  refine KOps.move ?_
  refine KOps.guardB (dj := 10) rfl rfl true false rfl ?_ ?_
  · intro g10
    have g10 := of_decide_eq_true g10
    refine KOps.move ?_
    refine KOps.guardYes (dj := 10) rfl rfl ?_
    refine KOps.move ?_
    refine KOps.guardYes (dj := 10) rfl rfl ?_
    refine KOps.leq ?_
    refine KOps.pickT ?_
    refine KOps.assign ?_
    refine KOps.done ?_
    refine sqQ.normal ?_
    refine KA.sub (Sub.cons (t := 6) Look.eq (Sub.nil _)) ?_
    refine KA.ret ?_
    refine fnQ.ret1 ?_
    exact ⟨congrArg AV.bool (decide_eq_decide.2 (by omega)), rfl⟩
  · intro g10
    have g10 := of_decide_eq_false g10
    refine KOps.guardNo (dj := 10) rfl rfl rfl ?_
    refine KOps.guardNo (dj := 10) rfl rfl rfl ?_
    refine KOps.pickF ?_
    refine KOps.assign ?_
    refine KOps.done ?_
    refine sqQ.normal ?_
    refine KA.sub (Sub.cons (t := 6) Look.eq (Sub.nil _)) ?_
    refine KA.ret ?_
    refine fnQ.ret1 ?_
    exact ⟨congrArg AV.bool (decide_eq_false (by omega)).symm, rfl⟩

theorem refCheck_c {h : AHeap} {rm : Int} {vW : AV} {ws : List W} (hv : Rd h vW 4 (flr wc ws)) : ACalls Go.Proofs.Tryd.prog 24 [.agg [.int .i64 rm, vW]] h (fun q h' => q = .int .i64 (chkB rm ws) ∧ Keeps h h') := by
  refine KA.fn 63 [.tmp 2] Go.Proofs.Tryd.func24 rfl (by decide) rfl rfl (Nat.le_of_ble_eq_true rfl) ?_
  have hS := St.refl h
  have hvo : vW.one = true := hv.one
  show KA _ 63 _ _ [(0, .agg [.int .i64 rm, vW])] _
  refine KA.seq ?_
  refine KA.region rfl ?_
  refine KOps.boxAll hS (by first | rfl | (simp [AV.one]; done) | (simp [AV.one]; assumption) | (simp [AV.one, *]; done)) ?_
  intro p1 h' hp1 hS
  refine KOps.assign ?_
  refine KOps.done ?_
  refine sqQ.normal ?_
  refine KA.sub (Sub.cons (t := 1) Look.eq (Sub.nil _)) ?_
  refine KA.seq ?_
  refine KA.seq ?_
  refine KA.region rfl ?_
  refine KOps.fieldAddr hp1 ?_
  intro p5 hp5
  refine KOps.load hp5 (hS.rd 0 rfl) rfl ?_
  refine KOps.call rfl (in_c) ?_
  rintro _ _ ⟨rfl, rfl⟩
  refine KOps.not ?_
  refine KOps.done ?_
  refine sqQ.normal ?_
  refine KA.sub (Sub.cons (t := 1) Look.eq (Sub.cons (t := 8) Look.eq (Sub.nil _))) ?_
  refine KA.condN ?_ ?_
  · intro c8
    refine KA.seq ?_
    refine KA.region rfl ?_
    refine KOps.assign ?_
    refine KOps.done ?_
    refine sqQ.normal ?_
    refine KA.sub (Sub.cons (t := 2) Look.eq (Sub.nil _)) ?_
    refine KA.ret ?_
    refine sqQ.ret ?_
    refine fnQ.ret1 ?_
    first | exact ⟨congrArg (AV.int .i64) (by rw [chkB, if_pos (by omega)]), hS.keeps⟩ | exact ⟨congrArg (AV.int .i64) (by rw [chkB, if_neg (by omega), if_pos (by omega)]), hS.keeps⟩ | exact ⟨congrArg (AV.int .i64) (chk_at (e := 2) (by omega) (by omega) hw (by omega) (by unfold wayE; rw [if_pos (by omega)]) (by decide)).symm, hS.keeps⟩ | exact ⟨congrArg (AV.int .i64) (chk_at (e := 13) (by omega) (by omega) hw (by omega) (by unfold wayE; rw [if_neg (by omega), if_pos (by omega)]) (by decide)).symm, hS.keeps⟩ | exact ⟨congrArg (AV.int .i64) (chk_at (e := 1) (by omega) (by omega) hw (by omega) (by unfold wayE; rw [if_neg (by omega), if_neg (by omega), if_pos (by omega)]) (by decide)).symm, hS.keeps⟩ | exact ⟨congrArg (AV.int .i64) (chk_end (by omega) (by omega) (by rw [show ws.length = i by omega]; exact hw)).symm, hS.keeps⟩
  · intro c8
    refine KA.skip ?_
    refine sqQ.normal ?_
    refine KA.sub (Sub.cons (t := 1) Look.eq (Sub.nil _)) ?_
    refine KA.seq ?_
    refine KA.seq ?_
    refine KA.region rfl ?_
    refine KOps.fieldAddr hp1 ?_
    intro p9 hp9
    refine KOps.load hp9 (hS.rd 0 rfl) rfl ?_
    refine KOps.lenF wc_len (Rd.ext hS.keeps hv) ?_
    refine KOps.gtr ?_
    refine KOps.done ?_
    refine sqQ.normal ?_
    refine KA.sub (Sub.cons (t := 1) Look.eq (Sub.cons (t := 12) Look.eq (Sub.nil _))) ?_
    refine KA.condD ?_ ?_
    · intro c12
      refine KA.seq ?_
      refine KA.region rfl ?_
      refine KOps.assign ?_
      refine KOps.done ?_
      refine sqQ.normal ?_
      refine KA.sub (Sub.cons (t := 2) Look.eq (Sub.nil _)) ?_
      refine KA.ret ?_
      refine sqQ.ret ?_
      refine fnQ.ret1 ?_
      first | exact ⟨congrArg (AV.int .i64) (by rw [chkB, if_pos (by omega)]), hS.keeps⟩ | exact ⟨congrArg (AV.int .i64) (by rw [chkB, if_neg (by omega), if_pos (by omega)]), hS.keeps⟩ | exact ⟨congrArg (AV.int .i64) (chk_at (e := 2) (by omega) (by omega) hw (by omega) (by unfold wayE; rw [if_pos (by omega)]) (by decide)).symm, hS.keeps⟩ | exact ⟨congrArg (AV.int .i64) (chk_at (e := 13) (by omega) (by omega) hw (by omega) (by unfold wayE; rw [if_neg (by omega), if_pos (by omega)]) (by decide)).symm, hS.keeps⟩ | exact ⟨congrArg (AV.int .i64) (chk_at (e := 1) (by omega) (by omega) hw (by omega) (by unfold wayE; rw [if_neg (by omega), if_neg (by omega), if_pos (by omega)]) (by decide)).symm, hS.keeps⟩ | exact ⟨congrArg (AV.int .i64) (chk_end (by omega) (by omega) (by rw [show ws.length = i by omega]; exact hw)).symm, hS.keeps⟩
    · intro c12
      refine KA.skip ?_
      refine sqQ.normal ?_
      refine KA.sub (Sub.cons (t := 1) Look.eq (Sub.nil _)) ?_
      refine KA.seq ?_
      refine KA.seq ?_
      refine KA.region rfl ?_
      refine KOps.assign ?_
      refine KOps.done ?_
      refine sqQ.normal ?_
      refine KA.block ?_
      refine KA.loop (X := Nat) (fun i => [(1, p1), (3, .int .i64 (i : Int))]) (fun i h' => i ≤ ws.length ∧ waysE rm ws i = 0 ∧ St h h' [⟨p1, 0, [.int .i64 rm, vW], true⟩]) (fun i => ws.length - i) 0 (by repeat (first | exact Sub.nil _ | refine Sub.cons Look.eq ?_ | refine Sub.cons (Eq.trans Look.eq (congrArg (AV.int _) (by first | omega | (dsimp only; omega)))) ?_)) ?_ ?_
      · exact ⟨Nat.zero_le _, rfl, hS⟩
      rintro i h2 ⟨hi, hw, hS⟩
      refine KA.seq ?_
      refine KA.seq ?_
      refine KA.region rfl ?_
      refine KOps.move ?_
      refine KOps.fieldAddr hp1 ?_
      intro p14 hp14
      refine KOps.load hp14 (hS.rd 0 rfl) rfl ?_
      refine KOps.lenF wc_len (Rd.ext hS.keeps hv) ?_
      refine KOps.lss ?_
      refine KOps.done ?_
      refine sqQ.normal ?_
      refine KA.sub (Sub.cons (t := 1) Look.eq (Sub.cons (t := 3) Look.eq (Sub.cons (t := 17) Look.eq (Sub.nil _)))) ?_
      refine KA.condD ?_ ?_
      · intro c17
        refine KA.skip ?_
        refine sqQ.normal ?_
        refine KA.sub (Sub.cons (t := 1) Look.eq (Sub.cons (t := 3) Look.eq (Sub.nil _))) ?_
        refine KA.seq ?_
        refine KA.block ?_
        refine KA.seq ?_
        refine KA.region rfl ?_
        refine KOps.fieldAddr hp1 ?_
        intro p20 hp20
        refine KOps.load hp20 (hS.rd 0 rfl) rfl ?_
        refine KOps.move ?_
        refine KOps.indexF wc_len (Rd.ext hS.keeps hv) (j := i) rfl (by first | omega | (simp; omega)) ?_
        intro p23 hp23
        refine KOps.loadFl wc_len (by decide) hp23 (Rd.ext hS.keeps hv) (by first | omega | (simp; omega)) ?_
        refine KOps.alloc hS ?_
        intro p4 h' hp4 hS
        refine KOps.storeAll hS rfl (i := 0) rfl hp4 (by first | rfl | (simp [AV.one]; done) | (simp [AV.one]; assumption) | (simp [AV.one, *]; done)) (by rfl) (by rfl) (by decide) ?_
        intro h' hS
        simp only [List.set_cons_zero, List.set_cons_succ, Nat.zero_add] at hS
        refine KOps.done ?_
        refine sqQ.normal ?_
        refine KA.sub (Sub.cons (t := 1) Look.eq (Sub.cons (t := 3) Look.eq (Sub.cons (t := 4) Look.eq (Sub.nil _)))) ?_
        refine KA.seq ?_
        refine KA.seq ?_
        refine KA.region rfl ?_
        refine KOps.fieldAddr hp4 ?_
        intro p25 hp25
        refine KOps.load hp25 (hS.rd 0 rfl) rfl ?_
        refine KOps.fieldAddr hp1 ?_
        intro p27 hp27
        refine KOps.load hp27 (hS.rd 1 rfl) rfl ?_
        refine KOps.sub (by first | omega | (simp; omega)) (by first | omega | (simp; omega)) ?_
        refine KOps.call rfl (in_c) ?_
        rintro _ _ ⟨rfl, rfl⟩
        refine KOps.not ?_
        refine KOps.move ?_
        refine KOps.guardB (dj := 32) rfl rfl false true rfl ?_ ?_
        · intro g32
          have g32 := of_not_decide g32
          refine KOps.fieldAddr hp4 ?_
          intro p33 hp33
          refine KOps.guardYes (dj := 32) rfl rfl ?_
          refine KOps.load hp33 (hS.rd 0 rfl) rfl ?_
          refine KOps.guardYes (dj := 32) rfl rfl ?_
          refine KOps.fieldAddr hp1 ?_
          intro p35 hp35
          refine KOps.guardYes (dj := 32) rfl rfl ?_
          refine KOps.load hp35 (hS.rd 1 rfl) rfl ?_
          refine KOps.guardYes (dj := 32) rfl rfl ?_
          refine KOps.sub (by first | omega | (simp; omega)) (by first | omega | (simp; omega)) ?_
          refine KOps.guardYes (dj := 32) rfl rfl ?_
          refine KOps.call rfl (in_c) ?_
          rintro _ _ ⟨rfl, rfl⟩
          refine KOps.guardYes (dj := 32) rfl rfl ?_
          refine KOps.not ?_
          refine KOps.pickF ?_
          refine KOps.done ?_
          refine sqQ.normal ?_
          refine KA.sub (Sub.cons (t := 1) Look.eq (Sub.cons (t := 3) Look.eq (Sub.cons (t := 4) Look.eq (Sub.cons (t := 33) Look.eq (Sub.cons (t := 34) Look.eq (Sub.cons (t := 35) Look.eq (Sub.cons (t := 36) Look.eq (Sub.cons (t := 37) Look.eq (Sub.cons (t := 38) Look.eq (Sub.cons (t := 39) Look.eq (Sub.cons (t := 40) Look.eq (Sub.nil _)))))))))))) ?_
          refine KA.condN ?_ ?_
          · intro c40
            refine KA.seq ?_
            refine KA.region rfl ?_
            refine KOps.assign ?_
            refine KOps.done ?_
            refine sqQ.normal ?_
            refine KA.sub (Sub.cons (t := 2) Look.eq (Sub.nil _)) ?_
            refine KA.ret ?_
            refine sqQ.ret ?_
            refine blQ.ret ?_
            refine sqQ.ret ?_
            refine lpQ.ret ?_
            refine blQ.ret ?_
            refine sqQ.ret ?_
            refine fnQ.ret1 ?_
            first | exact ⟨congrArg (AV.int .i64) (by rw [chkB, if_pos (by omega)]), hS.keeps⟩ | exact ⟨congrArg (AV.int .i64) (by rw [chkB, if_neg (by omega), if_pos (by omega)]), hS.keeps⟩ | exact ⟨congrArg (AV.int .i64) (chk_at (e := 2) (by omega) (by omega) hw (by omega) (by unfold wayE; rw [if_pos (by omega)]) (by decide)).symm, hS.keeps⟩ | exact ⟨congrArg (AV.int .i64) (chk_at (e := 13) (by omega) (by omega) hw (by omega) (by unfold wayE; rw [if_neg (by omega), if_pos (by omega)]) (by decide)).symm, hS.keeps⟩ | exact ⟨congrArg (AV.int .i64) (chk_at (e := 1) (by omega) (by omega) hw (by omega) (by unfold wayE; rw [if_neg (by omega), if_neg (by omega), if_pos (by omega)]) (by decide)).symm, hS.keeps⟩ | exact ⟨congrArg (AV.int .i64) (chk_end (by omega) (by omega) (by rw [show ws.length = i by omega]; exact hw)).symm, hS.keeps⟩
          · intro c40
            refine KA.skip ?_
            refine sqQ.normal ?_
            refine KA.sub (Sub.cons (t := 1) Look.eq (Sub.cons (t := 3) Look.eq (Sub.cons (t := 4) Look.eq (Sub.cons (t := 33) Look.eq (Sub.cons (t := 34) Look.eq (Sub.cons (t := 35) Look.eq (Sub.cons (t := 36) Look.eq (Sub.cons (t := 37) Look.eq (Sub.cons (t := 38) Look.eq (Sub.cons (t := 39) Look.eq (Sub.nil _))))))))))) ?_
            refine KA.seq ?_
            refine KA.seq ?_
            refine KA.region rfl ?_
            refine KOps.fieldAddr hp4 ?_
            intro p41 hp41
            refine KOps.load hp41 (hS.rd 0 rfl) rfl ?_
            refine KOps.fieldAddr hp4 ?_
            intro p43 hp43
            refine KOps.load hp43 (hS.rd 0 rfl) rfl ?_
            refine KOps.eql ?_
            refine KOps.done ?_
            refine sqQ.normal ?_
            refine KA.sub (Sub.cons (t := 1) Look.eq (Sub.cons (t := 3) Look.eq (Sub.cons (t := 4) Look.eq (Sub.cons (t := 33) Look.eq (Sub.cons (t := 34) Look.eq (Sub.cons (t := 35) Look.eq (Sub.cons (t := 36) Look.eq (Sub.cons (t := 37) Look.eq (Sub.cons (t := 38) Look.eq (Sub.cons (t := 39) Look.eq (Sub.cons (t := 45) Look.eq (Sub.nil _)))))))))))) ?_
            refine KA.condD ?_ ?_
            · intro c45
              refine KA.seq ?_
              refine KA.region rfl ?_
              refine KOps.assign ?_
              refine KOps.done ?_
              refine sqQ.normal ?_
              refine KA.sub (Sub.cons (t := 2) Look.eq (Sub.nil _)) ?_
              refine KA.ret ?_
              refine sqQ.ret ?_
              refine blQ.ret ?_
              refine sqQ.ret ?_
              refine lpQ.ret ?_
              refine blQ.ret ?_
              refine sqQ.ret ?_
              refine fnQ.ret1 ?_
              first | exact ⟨congrArg (AV.int .i64) (by rw [chkB, if_pos (by omega)]), hS.keeps⟩ | exact ⟨congrArg (AV.int .i64) (by rw [chkB, if_neg (by omega), if_pos (by omega)]), hS.keeps⟩ | exact ⟨congrArg (AV.int .i64) (chk_at (e := 2) (by omega) (by omega) hw (by omega) (by unfold wayE; rw [if_pos (by omega)]) (by decide)).symm, hS.keeps⟩ | exact ⟨congrArg (AV.int .i64) (chk_at (e := 13) (by omega) (by omega) hw (by omega) (by unfold wayE; rw [if_neg (by omega), if_pos (by omega)]) (by decide)).symm, hS.keeps⟩ | exact ⟨congrArg (AV.int .i64) (chk_at (e := 1) (by omega) (by omega) hw (by omega) (by unfold wayE; rw [if_neg (by omega), if_neg (by omega), if_pos (by omega)]) (by decide)).symm, hS.keeps⟩ | exact ⟨congrArg (AV.int .i64) (chk_end (by omega) (by omega) (by rw [show ws.length = i by omega]; exact hw)).symm, hS.keeps⟩
            · intro c45
              refine KA.skip ?_
              refine sqQ.normal ?_
              refine KA.sub (Sub.cons (t := 1) Look.eq (Sub.cons (t := 3) Look.eq (Sub.cons (t := 4) Look.eq (Sub.cons (t := 33) Look.eq (Sub.cons (t := 34) Look.eq (Sub.cons (t := 35) Look.eq (Sub.cons (t := 36) Look.eq (Sub.cons (t := 37) Look.eq (Sub.cons (t := 38) Look.eq (Sub.cons (t := 39) Look.eq (Sub.nil _))))))))))) ?_
              refine KA.seq ?_
              refine KA.region rfl ?_
              refine KOps.fieldAddr hp4 ?_
              intro p46 hp46
              refine KOps.load hp46 (hS.rd 0 rfl) rfl ?_
              refine KOps.call rfl (in_c) ?_
              rintro _ _ ⟨rfl, rfl⟩
              refine KOps.not ?_
              refine KOps.move ?_
              refine KOps.guardB (dj := 50) rfl rfl false true rfl ?_ ?_
              · intro g50
                have g50 := of_not_decide g50
                refine KOps.fieldAddr hp4 ?_
                intro p51 hp51
                refine KOps.guardYes (dj := 50) rfl rfl ?_
                refine KOps.load hp51 (hS.rd 0 rfl) rfl ?_
                refine KOps.guardYes (dj := 50) rfl rfl ?_
                refine KOps.call rfl (in_c) ?_
                rintro _ _ ⟨rfl, rfl⟩
                refine KOps.guardYes (dj := 50) rfl rfl ?_
                refine KOps.not ?_
                refine KOps.pickF ?_
                refine KOps.move ?_
                refine KOps.guardB (dj := 56) rfl rfl false true rfl ?_ ?_
                · intro g56
                  have g56 := of_not_decide g56
                  refine KOps.fieldAddr hp4 ?_
                  intro p57 hp57
                  refine KOps.guardYes (dj := 56) rfl rfl ?_
                  refine KOps.load hp57 (hS.rd 0 rfl) rfl ?_
                  refine KOps.guardYes (dj := 56) rfl rfl ?_
                  refine KOps.fieldAddr hp4 ?_
                  intro p59 hp59
                  refine KOps.guardYes (dj := 56) rfl rfl ?_
                  refine KOps.load hp59 (hS.rd 0 rfl) rfl ?_
                  refine KOps.guardYes (dj := 56) rfl rfl ?_
                  refine KOps.gtr ?_
                  refine KOps.pickF ?_
                  refine KOps.done ?_
                  refine sqQ.normal ?_
                  refine KA.sub (Sub.cons (t := 1) Look.eq (Sub.cons (t := 3) Look.eq (Sub.cons (t := 33) Look.eq (Sub.cons (t := 34) Look.eq (Sub.cons (t := 35) Look.eq (Sub.cons (t := 36) Look.eq (Sub.cons (t := 37) Look.eq (Sub.cons (t := 38) Look.eq (Sub.cons (t := 39) Look.eq (Sub.cons (t := 51) Look.eq (Sub.cons (t := 52) Look.eq (Sub.cons (t := 53) Look.eq (Sub.cons (t := 54) Look.eq (Sub.cons (t := 57) Look.eq (Sub.cons (t := 58) Look.eq (Sub.cons (t := 59) Look.eq (Sub.cons (t := 60) Look.eq (Sub.cons (t := 61) Look.eq (Sub.cons (t := 62) Look.eq (Sub.nil _)))))))))))))))))))) ?_
                  refine KA.condD ?_ ?_
                  · intro c62
                    refine KA.seq ?_
                    refine KA.region rfl ?_
                    refine KOps.assign ?_
                    refine KOps.done ?_
                    refine sqQ.normal ?_
                    refine KA.sub (Sub.cons (t := 2) Look.eq (Sub.nil _)) ?_
                    refine KA.ret ?_
                    refine blQ.ret ?_
                    refine sqQ.ret ?_
                    refine lpQ.ret ?_
                    refine blQ.ret ?_
                    refine sqQ.ret ?_
                    refine fnQ.ret1 ?_
                    first | exact ⟨congrArg (AV.int .i64) (by rw [chkB, if_pos (by omega)]), hS.keeps⟩ | exact ⟨congrArg (AV.int .i64) (by rw [chkB, if_neg (by omega), if_pos (by omega)]), hS.keeps⟩ | exact ⟨congrArg (AV.int .i64) (chk_at (e := 2) (by omega) (by omega) hw (by omega) (by unfold wayE; rw [if_pos (by omega)]) (by decide)).symm, hS.keeps⟩ | exact ⟨congrArg (AV.int .i64) (chk_at (e := 13) (by omega) (by omega) hw (by omega) (by unfold wayE; rw [if_neg (by omega), if_pos (by omega)]) (by decide)).symm, hS.keeps⟩ | exact ⟨congrArg (AV.int .i64) (chk_at (e := 1) (by omega) (by omega) hw (by omega) (by unfold wayE; rw [if_neg (by omega), if_neg (by omega), if_pos (by omega)]) (by decide)).symm, hS.keeps⟩ | exact ⟨congrArg (AV.int .i64) (chk_end (by omega) (by omega) (by rw [show ws.length = i by omega]; exact hw)).symm, hS.keeps⟩
                  · intro c62
                    refine KA.skip ?_
                    refine blQ.normal ?_
                    refine sqQ.normal ?_
                    refine KA.sub (Sub.cons (t := 1) Look.eq (Sub.cons (t := 3) Look.eq (Sub.cons (t := 33) Look.eq (Sub.cons (t := 34) Look.eq (Sub.cons (t := 35) Look.eq (Sub.cons (t := 36) Look.eq (Sub.cons (t := 37) Look.eq (Sub.cons (t := 38) Look.eq (Sub.cons (t := 39) Look.eq (Sub.cons (t := 51) Look.eq (Sub.cons (t := 52) Look.eq (Sub.cons (t := 53) Look.eq (Sub.cons (t := 54) Look.eq (Sub.cons (t := 57) Look.eq (Sub.cons (t := 58) Look.eq (Sub.cons (t := 59) Look.eq (Sub.cons (t := 60) Look.eq (Sub.cons (t := 61) Look.eq (Sub.nil _))))))))))))))))))) ?_
                    refine KA.region rfl ?_
                    refine KOps.move ?_
                    refine KOps.add (by first | omega | (simp; omega)) (by first | omega | (simp; omega)) ?_
                    refine KOps.assign ?_
                    refine KOps.done ?_
                    refine lpQ.normal (i + 1) (by repeat (first | exact Sub.nil _ | refine Sub.cons Look.eq ?_ | refine Sub.cons (Eq.trans Look.eq (congrArg (AV.int _) (by first | omega | (dsimp only; omega)))) ?_)) ⟨by omega, ?_, St.tail hS⟩ (by omega)
                    rw [waysE, if_pos hw]
                    unfold wayE
                    rw [if_neg (by omega), if_neg (by omega), if_neg (by omega)]
                · intro g56
                  have g56 := not_of_not_decide g56
                  refine KOps.guardNo (dj := 56) rfl rfl rfl ?_
                  refine KOps.guardNo (dj := 56) rfl rfl rfl ?_
                  refine KOps.guardNo (dj := 56) rfl rfl rfl ?_
                  refine KOps.guardNo (dj := 56) rfl rfl rfl ?_
                  refine KOps.pickT ?_
                  refine KOps.done ?_
                  refine sqQ.normal ?_
                  refine KA.sub (Sub.cons (t := 1) Look.eq (Sub.cons (t := 3) Look.eq (Sub.cons (t := 33) Look.eq (Sub.cons (t := 34) Look.eq (Sub.cons (t := 35) Look.eq (Sub.cons (t := 36) Look.eq (Sub.cons (t := 37) Look.eq (Sub.cons (t := 38) Look.eq (Sub.cons (t := 39) Look.eq (Sub.cons (t := 51) Look.eq (Sub.cons (t := 52) Look.eq (Sub.cons (t := 53) Look.eq (Sub.cons (t := 54) Look.eq (Sub.cons (t := 57) Look.eq (Sub.cons (t := 58) Look.eq (Sub.cons (t := 59) Look.eq (Sub.cons (t := 60) Look.eq (Sub.cons (t := 61) Look.eq (Sub.cons (t := 62) Look.eq (Sub.nil _)))))))))))))))))))) ?_
                  refine KA.condT ?_
                  refine KA.seq ?_
                  refine KA.region rfl ?_
                  refine KOps.assign ?_
                  refine KOps.done ?_
                  refine sqQ.normal ?_
                  refine KA.sub (Sub.cons (t := 2) Look.eq (Sub.nil _)) ?_
                  refine KA.ret ?_
                  refine blQ.ret ?_
                  refine sqQ.ret ?_
                  refine lpQ.ret ?_
                  refine blQ.ret ?_
                  refine sqQ.ret ?_
                  refine fnQ.ret1 ?_
                  first | exact ⟨congrArg (AV.int .i64) (by rw [chkB, if_pos (by omega)]), hS.keeps⟩ | exact ⟨congrArg (AV.int .i64) (by rw [chkB, if_neg (by omega), if_pos (by omega)]), hS.keeps⟩ | exact ⟨congrArg (AV.int .i64) (chk_at (e := 2) (by omega) (by omega) hw (by omega) (by unfold wayE; rw [if_pos (by omega)]) (by decide)).symm, hS.keeps⟩ | exact ⟨congrArg (AV.int .i64) (chk_at (e := 13) (by omega) (by omega) hw (by omega) (by unfold wayE; rw [if_neg (by omega), if_pos (by omega)]) (by decide)).symm, hS.keeps⟩ | exact ⟨congrArg (AV.int .i64) (chk_at (e := 1) (by omega) (by omega) hw (by omega) (by unfold wayE; rw [if_neg (by omega), if_neg (by omega), if_pos (by omega)]) (by decide)).symm, hS.keeps⟩ | exact ⟨congrArg (AV.int .i64) (chk_end (by omega) (by omega) (by rw [show ws.length = i by omega]; exact hw)).symm, hS.keeps⟩
              · intro g50
                have g50 := not_of_not_decide g50
                refine KOps.guardNo (dj := 50) rfl rfl rfl ?_
                refine KOps.guardNo (dj := 50) rfl rfl rfl ?_
                refine KOps.guardNo (dj := 50) rfl rfl rfl ?_
                refine KOps.pickT ?_
                refine KOps.move ?_
                refine KOps.guardNo (dj := 56) rfl rfl rfl ?_
                refine KOps.guardNo (dj := 56) rfl rfl rfl ?_
                refine KOps.guardNo (dj := 56) rfl rfl rfl ?_
                refine KOps.guardNo (dj := 56) rfl rfl rfl ?_
                refine KOps.guardNo (dj := 56) rfl rfl rfl ?_
                refine KOps.pickT ?_
                refine KOps.done ?_
                refine sqQ.normal ?_
                refine KA.sub (Sub.cons (t := 1) Look.eq (Sub.cons (t := 3) Look.eq (Sub.cons (t := 33) Look.eq (Sub.cons (t := 34) Look.eq (Sub.cons (t := 35) Look.eq (Sub.cons (t := 36) Look.eq (Sub.cons (t := 37) Look.eq (Sub.cons (t := 38) Look.eq (Sub.cons (t := 39) Look.eq (Sub.cons (t := 51) Look.eq (Sub.cons (t := 52) Look.eq (Sub.cons (t := 53) Look.eq (Sub.cons (t := 54) Look.eq (Sub.cons (t := 57) Look.eq (Sub.cons (t := 58) Look.eq (Sub.cons (t := 59) Look.eq (Sub.cons (t := 60) Look.eq (Sub.cons (t := 61) Look.eq (Sub.cons (t := 62) Look.eq (Sub.nil _)))))))))))))))))))) ?_
                refine KA.condT ?_
                refine KA.seq ?_
                refine KA.region rfl ?_
                refine KOps.assign ?_
                refine KOps.done ?_
                refine sqQ.normal ?_
                refine KA.sub (Sub.cons (t := 2) Look.eq (Sub.nil _)) ?_
                refine KA.ret ?_
                refine blQ.ret ?_
                refine sqQ.ret ?_
                refine lpQ.ret ?_
                refine blQ.ret ?_
                refine sqQ.ret ?_
                refine fnQ.ret1 ?_
                first | exact ⟨congrArg (AV.int .i64) (by rw [chkB, if_pos (by omega)]), hS.keeps⟩ | exact ⟨congrArg (AV.int .i64) (by rw [chkB, if_neg (by omega), if_pos (by omega)]), hS.keeps⟩ | exact ⟨congrArg (AV.int .i64) (chk_at (e := 2) (by omega) (by omega) hw (by omega) (by unfold wayE; rw [if_pos (by omega)]) (by decide)).symm, hS.keeps⟩ | exact ⟨congrArg (AV.int .i64) (chk_at (e := 13) (by omega) (by omega) hw (by omega) (by unfold wayE; rw [if_neg (by omega), if_pos (by omega)]) (by decide)).symm, hS.keeps⟩ | exact ⟨congrArg (AV.int .i64) (chk_at (e := 1) (by omega) (by omega) hw (by omega) (by unfold wayE; rw [if_neg (by omega), if_neg (by omega), if_pos (by omega)]) (by decide)).symm, hS.keeps⟩ | exact ⟨congrArg (AV.int .i64) (chk_end (by omega) (by omega) (by rw [show ws.length = i by omega]; exact hw)).symm, hS.keeps⟩
        · intro g32
          have g32 := not_of_not_decide g32
          refine KOps.guardNo (dj := 32) rfl rfl rfl ?_
          refine KOps.guardNo (dj := 32) rfl rfl rfl ?_
          refine KOps.guardNo (dj := 32) rfl rfl rfl ?_
          refine KOps.guardNo (dj := 32) rfl rfl rfl ?_
          refine KOps.guardNo (dj := 32) rfl rfl rfl ?_
          refine KOps.guardNo (dj := 32) rfl rfl rfl ?_
          refine KOps.pickT ?_
          refine KOps.done ?_
          refine sqQ.normal ?_
          refine KA.sub (Sub.cons (t := 1) Look.eq (Sub.cons (t := 3) Look.eq (Sub.cons (t := 4) Look.eq (Sub.cons (t := 33) Look.eq (Sub.cons (t := 34) Look.eq (Sub.cons (t := 35) Look.eq (Sub.cons (t := 36) Look.eq (Sub.cons (t := 37) Look.eq (Sub.cons (t := 38) Look.eq (Sub.cons (t := 39) Look.eq (Sub.cons (t := 40) Look.eq (Sub.nil _)))))))))))) ?_
          refine KA.condT ?_
          refine KA.seq ?_
          refine KA.region rfl ?_
          refine KOps.assign ?_
          refine KOps.done ?_
          refine sqQ.normal ?_
          refine KA.sub (Sub.cons (t := 2) Look.eq (Sub.nil _)) ?_
          refine KA.ret ?_
          refine sqQ.ret ?_
          refine blQ.ret ?_
          refine sqQ.ret ?_
          refine lpQ.ret ?_
          refine blQ.ret ?_
          refine sqQ.ret ?_
          refine fnQ.ret1 ?_
          first | exact ⟨congrArg (AV.int .i64) (by rw [chkB, if_pos (by omega)]), hS.keeps⟩ | exact ⟨congrArg (AV.int .i64) (by rw [chkB, if_neg (by omega), if_pos (by omega)]), hS.keeps⟩ | exact ⟨congrArg (AV.int .i64) (chk_at (e := 2) (by omega) (by omega) hw (by omega) (by unfold wayE; rw [if_pos (by omega)]) (by decide)).symm, hS.keeps⟩ | exact ⟨congrArg (AV.int .i64) (chk_at (e := 13) (by omega) (by omega) hw (by omega) (by unfold wayE; rw [if_neg (by omega), if_pos (by omega)]) (by decide)).symm, hS.keeps⟩ | exact ⟨congrArg (AV.int .i64) (chk_at (e := 1) (by omega) (by omega) hw (by omega) (by unfold wayE; rw [if_neg (by omega), if_neg (by omega), if_pos (by omega)]) (by decide)).symm, hS.keeps⟩ | exact ⟨congrArg (AV.int .i64) (chk_end (by omega) (by omega) (by rw [show ws.length = i by omega]; exact hw)).symm, hS.keeps⟩
      · intro c17
        refine KA.exit ?_
        refine sqQ.exit ?_
        refine lpQ.exit ?_
        refine blQ.here ?_
        refine sqQ.normal ?_
        refine KA.sub (Sub.nil _) ?_
        refine KA.seq ?_
        refine KA.region rfl ?_
        refine KOps.assign ?_
        refine KOps.done ?_
        refine sqQ.normal ?_
        refine KA.ret ?_
        refine fnQ.ret1 ?_
        first | exact ⟨congrArg (AV.int .i64) (by rw [chkB, if_pos (by omega)]), hS.keeps⟩ | exact ⟨congrArg (AV.int .i64) (by rw [chkB, if_neg (by omega), if_pos (by omega)]), hS.keeps⟩ | exact ⟨congrArg (AV.int .i64) (chk_at (e := 2) (by omega) (by omega) hw (by omega) (by unfold wayE; rw [if_pos (by omega)]) (by decide)).symm, hS.keeps⟩ | exact ⟨congrArg (AV.int .i64) (chk_at (e := 13) (by omega) (by omega) hw (by omega) (by unfold wayE; rw [if_neg (by omega), if_pos (by omega)]) (by decide)).symm, hS.keeps⟩ | exact ⟨congrArg (AV.int .i64) (chk_at (e := 1) (by omega) (by omega) hw (by omega) (by unfold wayE; rw [if_neg (by omega), if_neg (by omega), if_pos (by omega)]) (by decide)).symm, hS.keeps⟩ | exact ⟨congrArg (AV.int .i64) (chk_end (by omega) (by omega) (by rw [show ws.length = i by omega]; exact hw)).symm, hS.keeps⟩

theorem check_c {h : AHeap} {rm : Int} {vW : AV} {ws : List W} (hv : Rd h vW 4 (flr wc ws)) : ACalls Go.Proofs.Tryd.prog 23 [.agg [.int .i64 rm, vW]] h (fun q h' => q = .int .i64 (chkB rm ws) ∧ Keeps h h') := by
  refine KA.fn 62 [.tmp 2] Go.Proofs.Tryd.func23 rfl (by decide) rfl rfl (Nat.le_of_ble_eq_true rfl) ?_
  have hS := St.refl h
  have hvo : vW.one = true := hv.one
  show KA _ 62 _ _ [(0, .agg [.int .i64 rm, vW])] _
  refine KA.seq ?_
  refine KA.region rfl ?_
  refine KOps.boxAll hS (by first | rfl | (simp [AV.one]; done) | (simp [AV.one]; assumption) | (simp [AV.one, *]; done)) ?_
  intro p1 h' hp1 hS
  refine KOps.assign ?_
  refine KOps.done ?_
  refine sqQ.normal ?_
  refine KA.sub (Sub.cons (t := 1) Look.eq (Sub.nil _)) ?_
  refine KA.seq ?_
  refine KA.block ?_
  refine KA.seq ?_
  refine KA.region rfl ?_
  refine KOps.fieldAddr hp1 ?_
  intro p6 hp6
  refine KOps.load hp6 (hS.rd 0 rfl) rfl ?_
  refine KOps.call rfl (between_c) ?_
  rintro _ _ ⟨rfl, rfl⟩
  refine KOps.not ?_
  refine KOps.assign ?_
  refine KOps.done ?_
  refine sqQ.normal ?_
  refine KA.sub (Sub.cons (t := 1) Look.eq (Sub.cons (t := 5) Look.eq (Sub.nil _))) ?_
  refine KA.condN ?_ ?_
  · intro c5
    refine KA.seq ?_
    refine KA.region rfl ?_
    refine KOps.assign ?_
    refine KOps.done ?_
    refine sqQ.normal ?_
    refine KA.sub (Sub.cons (t := 2) Look.eq (Sub.nil _)) ?_
    refine KA.ret ?_
    refine blQ.ret ?_
    refine sqQ.ret ?_
    refine fnQ.ret1 ?_
    first | exact ⟨congrArg (AV.int .i64) (by rw [chkB, if_pos (by omega)]), hS.keeps⟩ | exact ⟨congrArg (AV.int .i64) (by rw [chkB, if_neg (by omega), if_pos (by omega)]), hS.keeps⟩ | exact ⟨congrArg (AV.int .i64) (chk_at (e := 2) (by omega) (by omega) hw (by omega) (by unfold wayE; rw [if_pos (by omega)]) (by decide)).symm, hS.keeps⟩ | exact ⟨congrArg (AV.int .i64) (chk_at (e := 13) (by omega) (by omega) hw (by omega) (by unfold wayE; rw [if_neg (by omega), if_pos (by omega)]) (by decide)).symm, hS.keeps⟩ | exact ⟨congrArg (AV.int .i64) (chk_at (e := 1) (by omega) (by omega) hw (by omega) (by unfold wayE; rw [if_neg (by omega), if_neg (by omega), if_pos (by omega)]) (by decide)).symm, hS.keeps⟩ | exact ⟨congrArg (AV.int .i64) (chk_end (by omega) (by omega) (by rw [show ws.length = i by omega]; exact hw)).symm, hS.keeps⟩
  · intro c5
    refine KA.seq ?_
    refine KA.region rfl ?_
    refine KOps.fieldAddr hp1 ?_
    intro p11 hp11
    refine KOps.load hp11 (hS.rd 0 rfl) rfl ?_
    refine KOps.lenF wc_len (Rd.ext hS.keeps hv) ?_
    refine KOps.gtr ?_
    refine KOps.assign ?_
    refine KOps.done ?_
    refine sqQ.normal ?_
    refine KA.sub (Sub.cons (t := 1) Look.eq (Sub.cons (t := 10) Look.eq (Sub.nil _))) ?_
    refine KA.condD ?_ ?_
    · intro c10
      refine KA.seq ?_
      refine KA.region rfl ?_
      refine KOps.assign ?_
      refine KOps.done ?_
      refine sqQ.normal ?_
      refine KA.sub (Sub.cons (t := 2) Look.eq (Sub.nil _)) ?_
      refine KA.ret ?_
      refine blQ.ret ?_
      refine sqQ.ret ?_
      refine fnQ.ret1 ?_
      first | exact ⟨congrArg (AV.int .i64) (by rw [chkB, if_pos (by omega)]), hS.keeps⟩ | exact ⟨congrArg (AV.int .i64) (by rw [chkB, if_neg (by omega), if_pos (by omega)]), hS.keeps⟩ | exact ⟨congrArg (AV.int .i64) (chk_at (e := 2) (by omega) (by omega) hw (by omega) (by unfold wayE; rw [if_pos (by omega)]) (by decide)).symm, hS.keeps⟩ | exact ⟨congrArg (AV.int .i64) (chk_at (e := 13) (by omega) (by omega) hw (by omega) (by unfold wayE; rw [if_neg (by omega), if_pos (by omega)]) (by decide)).symm, hS.keeps⟩ | exact ⟨congrArg (AV.int .i64) (chk_at (e := 1) (by omega) (by omega) hw (by omega) (by unfold wayE; rw [if_neg (by omega), if_neg (by omega), if_pos (by omega)]) (by decide)).symm, hS.keeps⟩ | exact ⟨congrArg (AV.int .i64) (chk_end (by omega) (by omega) (by rw [show ws.length = i by omega]; exact hw)).symm, hS.keeps⟩
    · intro c10
      refine KA.skip ?_
      refine blQ.normal ?_
      refine sqQ.normal ?_
      refine KA.sub (Sub.cons (t := 1) Look.eq (Sub.nil _)) ?_
      refine KA.seq ?_
      refine KA.seq ?_
      refine KA.region rfl ?_
      refine KOps.fieldAddr hp1 ?_
      intro p15 hp15
      refine KOps.load hp15 (hS.rd 0 rfl) rfl ?_
      refine KOps.lenF wc_len (Rd.ext hS.keeps hv) ?_
      refine KOps.move ?_
      refine KOps.done ?_
      refine sqQ.normal ?_
      refine KA.sub (Sub.cons (t := 1) Look.eq (Sub.cons (t := 16) Look.eq (Sub.cons (t := 17) Look.eq (Sub.cons (t := 18) Look.eq (Sub.nil _))))) ?_
      refine KA.block ?_
      refine KA.loop (X := Nat) (fun i => [(1, p1), (16, vW), (17, .int .i64 (ws.length : Int)), (18, .int .i64 (i : Int))]) (fun i h' => i ≤ ws.length ∧ waysE rm ws i = 0 ∧ St h h' [⟨p1, 0, [.int .i64 rm, vW], true⟩]) (fun i => ws.length - i) 0 (by repeat (first | exact Sub.nil _ | refine Sub.cons Look.eq ?_ | refine Sub.cons (Eq.trans Look.eq (congrArg (AV.int _) (by first | omega | (dsimp only; omega)))) ?_)) ?_ ?_
      · exact ⟨Nat.zero_le _, rfl, hS⟩
      rintro i h2 ⟨hi, hw, hS⟩
      refine KA.seq ?_
      refine KA.region rfl ?_
      refine KOps.lss ?_
      refine KOps.done ?_
      refine sqQ.normal ?_
      refine KA.seq ?_
      refine KA.condD ?_ ?_
      · intro c19
        refine KA.skip ?_
        refine sqQ.normal ?_
        refine KA.sub (Sub.cons (t := 1) Look.eq (Sub.cons (t := 16) Look.eq (Sub.cons (t := 17) Look.eq (Sub.cons (t := 18) Look.eq (Sub.nil _))))) ?_
        refine KA.seq ?_
        refine KA.block ?_
        refine KA.seq ?_
        refine KA.region rfl ?_
        refine KOps.indexF wc_len (Rd.ext hS.keeps hv) (j := i) rfl (by first | omega | (simp; omega)) ?_
        intro p20 hp20
        refine KOps.loadFl wc_len (by decide) hp20 (Rd.ext hS.keeps hv) (by first | omega | (simp; omega)) ?_
        refine KOps.alloc hS ?_
        intro p4 h' hp4 hS
        refine KOps.storeAll hS rfl (i := 0) rfl hp4 (by first | rfl | (simp [AV.one]; done) | (simp [AV.one]; assumption) | (simp [AV.one, *]; done)) (by rfl) (by rfl) (by decide) ?_
        intro h' hS
        simp only [List.set_cons_zero, List.set_cons_succ, Nat.zero_add] at hS
        refine KOps.done ?_
        refine sqQ.normal ?_
        refine KA.sub (Sub.cons (t := 1) Look.eq (Sub.cons (t := 4) Look.eq (Sub.cons (t := 16) Look.eq (Sub.cons (t := 17) Look.eq (Sub.cons (t := 18) Look.eq (Sub.nil _)))))) ?_
        refine KA.block ?_
        refine KA.seq ?_
        refine KA.region rfl ?_
        refine KOps.fieldAddr hp4 ?_
        intro p23 hp23
        refine KOps.load hp23 (hS.rd 0 rfl) rfl ?_
        refine KOps.fieldAddr hp4 ?_
        intro p25 hp25
        refine KOps.load hp25 (hS.rd 0 rfl) rfl ?_
        refine KOps.min ?_
        refine KOps.lss ?_
        refine KOps.move ?_
        refine KOps.guardB (dj := 29) rfl rfl false true rfl ?_ ?_
        · intro g29
          have g29 := of_decide_eq_false g29
          refine KOps.fieldAddr hp4 ?_
          intro p30 hp30
          refine KOps.guardYes (dj := 29) rfl rfl ?_
          refine KOps.load hp30 (hS.rd 0 rfl) rfl ?_
          refine KOps.guardYes (dj := 29) rfl rfl ?_
          refine KOps.fieldAddr hp4 ?_
          intro p32 hp32
          refine KOps.guardYes (dj := 29) rfl rfl ?_
          refine KOps.load hp32 (hS.rd 0 rfl) rfl ?_
          refine KOps.guardYes (dj := 29) rfl rfl ?_
          refine KOps.max ?_
          refine KOps.guardYes (dj := 29) rfl rfl ?_
          refine KOps.fieldAddr hp1 ?_
          intro p35 hp35
          refine KOps.guardYes (dj := 29) rfl rfl ?_
          refine KOps.load hp35 (hS.rd 1 rfl) rfl ?_
          refine KOps.guardYes (dj := 29) rfl rfl ?_
          refine KOps.geq ?_
          refine KOps.pickF ?_
          refine KOps.assign ?_
          refine KOps.done ?_
          refine sqQ.normal ?_
          refine KA.sub (Sub.cons (t := 1) Look.eq (Sub.cons (t := 4) Look.eq (Sub.cons (t := 16) Look.eq (Sub.cons (t := 17) Look.eq (Sub.cons (t := 18) Look.eq (Sub.cons (t := 22) Look.eq (Sub.cons (t := 30) Look.eq (Sub.cons (t := 31) Look.eq (Sub.cons (t := 32) Look.eq (Sub.cons (t := 33) Look.eq (Sub.cons (t := 34) Look.eq (Sub.cons (t := 35) Look.eq (Sub.cons (t := 36) Look.eq (Sub.cons (t := 37) Look.eq (Sub.nil _))))))))))))))) ?_
          refine KA.condD ?_ ?_
          · intro c22
            refine KA.seq ?_
            refine KA.region rfl ?_
            refine KOps.assign ?_
            refine KOps.done ?_
            refine sqQ.normal ?_
            refine KA.sub (Sub.cons (t := 2) Look.eq (Sub.nil _)) ?_
            refine KA.ret ?_
            refine blQ.ret ?_
            refine blQ.ret ?_
            refine sqQ.ret ?_
            refine lpQ.ret ?_
            refine blQ.ret ?_
            refine sqQ.ret ?_
            refine fnQ.ret1 ?_
            first | exact ⟨congrArg (AV.int .i64) (by rw [chkB, if_pos (by omega)]), hS.keeps⟩ | exact ⟨congrArg (AV.int .i64) (by rw [chkB, if_neg (by omega), if_pos (by omega)]), hS.keeps⟩ | exact ⟨congrArg (AV.int .i64) (chk_at (e := 2) (by omega) (by omega) hw (by omega) (by unfold wayE; rw [if_pos (by omega)]) (by decide)).symm, hS.keeps⟩ | exact ⟨congrArg (AV.int .i64) (chk_at (e := 13) (by omega) (by omega) hw (by omega) (by unfold wayE; rw [if_neg (by omega), if_pos (by omega)]) (by decide)).symm, hS.keeps⟩ | exact ⟨congrArg (AV.int .i64) (chk_at (e := 1) (by omega) (by omega) hw (by omega) (by unfold wayE; rw [if_neg (by omega), if_neg (by omega), if_pos (by omega)]) (by decide)).symm, hS.keeps⟩ | exact ⟨congrArg (AV.int .i64) (chk_end (by omega) (by omega) (by rw [show ws.length = i by omega]; exact hw)).symm, hS.keeps⟩
          · intro c22
            refine KA.seq ?_
            refine KA.region rfl ?_
            refine KOps.fieldAddr hp4 ?_
            intro p40 hp40
            refine KOps.load hp40 (hS.rd 0 rfl) rfl ?_
            refine KOps.fieldAddr hp4 ?_
            intro p42 hp42
            refine KOps.load hp42 (hS.rd 0 rfl) rfl ?_
            refine KOps.eql ?_
            refine KOps.assign ?_
            refine KOps.done ?_
            refine sqQ.normal ?_
            refine KA.sub (Sub.cons (t := 1) Look.eq (Sub.cons (t := 4) Look.eq (Sub.cons (t := 16) Look.eq (Sub.cons (t := 17) Look.eq (Sub.cons (t := 18) Look.eq (Sub.cons (t := 30) Look.eq (Sub.cons (t := 31) Look.eq (Sub.cons (t := 32) Look.eq (Sub.cons (t := 33) Look.eq (Sub.cons (t := 34) Look.eq (Sub.cons (t := 35) Look.eq (Sub.cons (t := 36) Look.eq (Sub.cons (t := 37) Look.eq (Sub.cons (t := 39) Look.eq (Sub.nil _))))))))))))))) ?_
            refine KA.condD ?_ ?_
            · intro c39
              refine KA.seq ?_
              refine KA.region rfl ?_
              refine KOps.assign ?_
              refine KOps.done ?_
              refine sqQ.normal ?_
              refine KA.sub (Sub.cons (t := 2) Look.eq (Sub.nil _)) ?_
              refine KA.ret ?_
              refine blQ.ret ?_
              refine blQ.ret ?_
              refine sqQ.ret ?_
              refine lpQ.ret ?_
              refine blQ.ret ?_
              refine sqQ.ret ?_
              refine fnQ.ret1 ?_
              first | exact ⟨congrArg (AV.int .i64) (by rw [chkB, if_pos (by omega)]), hS.keeps⟩ | exact ⟨congrArg (AV.int .i64) (by rw [chkB, if_neg (by omega), if_pos (by omega)]), hS.keeps⟩ | exact ⟨congrArg (AV.int .i64) (chk_at (e := 2) (by omega) (by omega) hw (by omega) (by unfold wayE; rw [if_pos (by omega)]) (by decide)).symm, hS.keeps⟩ | exact ⟨congrArg (AV.int .i64) (chk_at (e := 13) (by omega) (by omega) hw (by omega) (by unfold wayE; rw [if_neg (by omega), if_pos (by omega)]) (by decide)).symm, hS.keeps⟩ | exact ⟨congrArg (AV.int .i64) (chk_at (e := 1) (by omega) (by omega) hw (by omega) (by unfold wayE; rw [if_neg (by omega), if_neg (by omega), if_pos (by omega)]) (by decide)).symm, hS.keeps⟩ | exact ⟨congrArg (AV.int .i64) (chk_end (by omega) (by omega) (by rw [show ws.length = i by omega]; exact hw)).symm, hS.keeps⟩
            · intro c39
              refine KA.seq ?_
              refine KA.region rfl ?_
              refine KOps.fieldAddr hp4 ?_
              intro p46 hp46
              refine KOps.load hp46 (hS.rd 0 rfl) rfl ?_
              refine KOps.lss ?_
              refine KOps.move ?_
              refine KOps.guardB (dj := 49) rfl rfl false true rfl ?_ ?_
              · intro g49
                have g49 := of_decide_eq_false g49
                refine KOps.fieldAddr hp4 ?_
                intro p50 hp50
                refine KOps.guardYes (dj := 49) rfl rfl ?_
                refine KOps.load hp50 (hS.rd 0 rfl) rfl ?_
                refine KOps.guardYes (dj := 49) rfl rfl ?_
                refine KOps.gtr ?_
                refine KOps.pickF ?_
                refine KOps.move ?_
                refine KOps.guardB (dj := 54) rfl rfl false true rfl ?_ ?_
                · intro g54
                  have g54 := of_decide_eq_false g54
                  refine KOps.fieldAddr hp4 ?_
                  intro p55 hp55
                  refine KOps.guardYes (dj := 54) rfl rfl ?_
                  refine KOps.load hp55 (hS.rd 0 rfl) rfl ?_
                  refine KOps.guardYes (dj := 54) rfl rfl ?_
                  refine KOps.fieldAddr hp4 ?_
                  intro p57 hp57
                  refine KOps.guardYes (dj := 54) rfl rfl ?_
                  refine KOps.load hp57 (hS.rd 0 rfl) rfl ?_
                  refine KOps.guardYes (dj := 54) rfl rfl ?_
                  refine KOps.gtr ?_
                  refine KOps.pickF ?_
                  refine KOps.assign ?_
                  refine KOps.done ?_
                  refine sqQ.normal ?_
                  refine KA.sub (Sub.cons (t := 1) Look.eq (Sub.cons (t := 16) Look.eq (Sub.cons (t := 17) Look.eq (Sub.cons (t := 18) Look.eq (Sub.cons (t := 30) Look.eq (Sub.cons (t := 31) Look.eq (Sub.cons (t := 32) Look.eq (Sub.cons (t := 33) Look.eq (Sub.cons (t := 34) Look.eq (Sub.cons (t := 35) Look.eq (Sub.cons (t := 36) Look.eq (Sub.cons (t := 37) Look.eq (Sub.cons (t := 45) Look.eq (Sub.cons (t := 50) Look.eq (Sub.cons (t := 51) Look.eq (Sub.cons (t := 52) Look.eq (Sub.cons (t := 55) Look.eq (Sub.cons (t := 56) Look.eq (Sub.cons (t := 57) Look.eq (Sub.cons (t := 58) Look.eq (Sub.cons (t := 59) Look.eq (Sub.nil _)))))))))))))))))))))) ?_
                  refine KA.condD ?_ ?_
                  · intro c45
                    refine KA.seq ?_
                    refine KA.region rfl ?_
                    refine KOps.assign ?_
                    refine KOps.done ?_
                    refine sqQ.normal ?_
                    refine KA.sub (Sub.cons (t := 2) Look.eq (Sub.nil _)) ?_
                    refine KA.ret ?_
                    refine blQ.ret ?_
                    refine blQ.ret ?_
                    refine sqQ.ret ?_
                    refine lpQ.ret ?_
                    refine blQ.ret ?_
                    refine sqQ.ret ?_
                    refine fnQ.ret1 ?_
                    first | exact ⟨congrArg (AV.int .i64) (by rw [chkB, if_pos (by omega)]), hS.keeps⟩ | exact ⟨congrArg (AV.int .i64) (by rw [chkB, if_neg (by omega), if_pos (by omega)]), hS.keeps⟩ | exact ⟨congrArg (AV.int .i64) (chk_at (e := 2) (by omega) (by omega) hw (by omega) (by unfold wayE; rw [if_pos (by omega)]) (by decide)).symm, hS.keeps⟩ | exact ⟨congrArg (AV.int .i64) (chk_at (e := 13) (by omega) (by omega) hw (by omega) (by unfold wayE; rw [if_neg (by omega), if_pos (by omega)]) (by decide)).symm, hS.keeps⟩ | exact ⟨congrArg (AV.int .i64) (chk_at (e := 1) (by omega) (by omega) hw (by omega) (by unfold wayE; rw [if_neg (by omega), if_neg (by omega), if_pos (by omega)]) (by decide)).symm, hS.keeps⟩ | exact ⟨congrArg (AV.int .i64) (chk_end (by omega) (by omega) (by rw [show ws.length = i by omega]; exact hw)).symm, hS.keeps⟩
                  · intro c45
                    refine KA.skip ?_
                    refine blQ.normal ?_
                    refine blQ.normal ?_
                    refine sqQ.normal ?_
                    refine KA.sub (Sub.cons (t := 1) Look.eq (Sub.cons (t := 16) Look.eq (Sub.cons (t := 17) Look.eq (Sub.cons (t := 18) Look.eq (Sub.cons (t := 30) Look.eq (Sub.cons (t := 31) Look.eq (Sub.cons (t := 32) Look.eq (Sub.cons (t := 33) Look.eq (Sub.cons (t := 34) Look.eq (Sub.cons (t := 35) Look.eq (Sub.cons (t := 36) Look.eq (Sub.cons (t := 37) Look.eq (Sub.cons (t := 50) Look.eq (Sub.cons (t := 51) Look.eq (Sub.cons (t := 52) Look.eq (Sub.cons (t := 55) Look.eq (Sub.cons (t := 56) Look.eq (Sub.cons (t := 57) Look.eq (Sub.cons (t := 58) Look.eq (Sub.cons (t := 59) Look.eq (Sub.nil _))))))))))))))))))))) ?_
                    refine KA.region rfl ?_
                    refine KOps.add (by first | omega | (simp; omega)) (by first | omega | (simp; omega)) ?_
                    refine KOps.move ?_
                    refine KOps.done ?_
                    refine lpQ.normal (i + 1) (by repeat (first | exact Sub.nil _ | refine Sub.cons Look.eq ?_ | refine Sub.cons (Eq.trans Look.eq (congrArg (AV.int _) (by first | omega | (dsimp only; omega)))) ?_)) ⟨by omega, ?_, St.tail hS⟩ (by omega)
                    rw [waysE, if_pos hw]
                    unfold wayE
                    rw [if_neg (by omega), if_neg (by omega), if_neg (by omega)]
                · intro g54
                  have g54 := of_decide_eq_true g54
                  refine KOps.guardNo (dj := 54) rfl rfl rfl ?_
                  refine KOps.guardNo (dj := 54) rfl rfl rfl ?_
                  refine KOps.guardNo (dj := 54) rfl rfl rfl ?_
                  refine KOps.guardNo (dj := 54) rfl rfl rfl ?_
                  refine KOps.pickT ?_
                  refine KOps.assign ?_
                  refine KOps.done ?_
                  refine sqQ.normal ?_
                  refine KA.sub (Sub.cons (t := 1) Look.eq (Sub.cons (t := 16) Look.eq (Sub.cons (t := 17) Look.eq (Sub.cons (t := 18) Look.eq (Sub.cons (t := 30) Look.eq (Sub.cons (t := 31) Look.eq (Sub.cons (t := 32) Look.eq (Sub.cons (t := 33) Look.eq (Sub.cons (t := 34) Look.eq (Sub.cons (t := 35) Look.eq (Sub.cons (t := 36) Look.eq (Sub.cons (t := 37) Look.eq (Sub.cons (t := 45) Look.eq (Sub.cons (t := 50) Look.eq (Sub.cons (t := 51) Look.eq (Sub.cons (t := 52) Look.eq (Sub.cons (t := 55) Look.eq (Sub.cons (t := 56) Look.eq (Sub.cons (t := 57) Look.eq (Sub.cons (t := 58) Look.eq (Sub.cons (t := 59) Look.eq (Sub.nil _)))))))))))))))))))))) ?_
                  refine KA.condT ?_
                  refine KA.seq ?_
                  refine KA.region rfl ?_
                  refine KOps.assign ?_
                  refine KOps.done ?_
                  refine sqQ.normal ?_
                  refine KA.sub (Sub.cons (t := 2) Look.eq (Sub.nil _)) ?_
                  refine KA.ret ?_
                  refine blQ.ret ?_
                  refine blQ.ret ?_
                  refine sqQ.ret ?_
                  refine lpQ.ret ?_
                  refine blQ.ret ?_
                  refine sqQ.ret ?_
                  refine fnQ.ret1 ?_
                  first | exact ⟨congrArg (AV.int .i64) (by rw [chkB, if_pos (by omega)]), hS.keeps⟩ | exact ⟨congrArg (AV.int .i64) (by rw [chkB, if_neg (by omega), if_pos (by omega)]), hS.keeps⟩ | exact ⟨congrArg (AV.int .i64) (chk_at (e := 2) (by omega) (by omega) hw (by omega) (by unfold wayE; rw [if_pos (by omega)]) (by decide)).symm, hS.keeps⟩ | exact ⟨congrArg (AV.int .i64) (chk_at (e := 13) (by omega) (by omega) hw (by omega) (by unfold wayE; rw [if_neg (by omega), if_pos (by omega)]) (by decide)).symm, hS.keeps⟩ | exact ⟨congrArg (AV.int .i64) (chk_at (e := 1) (by omega) (by omega) hw (by omega) (by unfold wayE; rw [if_neg (by omega), if_neg (by omega), if_pos (by omega)]) (by decide)).symm, hS.keeps⟩ | exact ⟨congrArg (AV.int .i64) (chk_end (by omega) (by omega) (by rw [show ws.length = i by omega]; exact hw)).symm, hS.keeps⟩
              · intro g49
                have g49 := of_decide_eq_true g49
                refine KOps.guardNo (dj := 49) rfl rfl rfl ?_
                refine KOps.guardNo (dj := 49) rfl rfl rfl ?_
                refine KOps.pickT ?_
                refine KOps.move ?_
                refine KOps.guardNo (dj := 54) rfl rfl rfl ?_
                refine KOps.guardNo (dj := 54) rfl rfl rfl ?_
                refine KOps.guardNo (dj := 54) rfl rfl rfl ?_
                refine KOps.guardNo (dj := 54) rfl rfl rfl ?_
                refine KOps.guardNo (dj := 54) rfl rfl rfl ?_
                refine KOps.pickT ?_
                refine KOps.assign ?_
                refine KOps.done ?_
                refine sqQ.normal ?_
                refine KA.sub (Sub.cons (t := 1) Look.eq (Sub.cons (t := 16) Look.eq (Sub.cons (t := 17) Look.eq (Sub.cons (t := 18) Look.eq (Sub.cons (t := 30) Look.eq (Sub.cons (t := 31) Look.eq (Sub.cons (t := 32) Look.eq (Sub.cons (t := 33) Look.eq (Sub.cons (t := 34) Look.eq (Sub.cons (t := 35) Look.eq (Sub.cons (t := 36) Look.eq (Sub.cons (t := 37) Look.eq (Sub.cons (t := 45) Look.eq (Sub.cons (t := 50) Look.eq (Sub.cons (t := 51) Look.eq (Sub.cons (t := 52) Look.eq (Sub.cons (t := 55) Look.eq (Sub.cons (t := 56) Look.eq (Sub.cons (t := 57) Look.eq (Sub.cons (t := 58) Look.eq (Sub.cons (t := 59) Look.eq (Sub.nil _)))))))))))))))))))))) ?_
                refine KA.condT ?_
                refine KA.seq ?_
                refine KA.region rfl ?_
                refine KOps.assign ?_
                refine KOps.done ?_
                refine sqQ.normal ?_
                refine KA.sub (Sub.cons (t := 2) Look.eq (Sub.nil _)) ?_
                refine KA.ret ?_
                refine blQ.ret ?_
                refine blQ.ret ?_
                refine sqQ.ret ?_
                refine lpQ.ret ?_
                refine blQ.ret ?_
                refine sqQ.ret ?_
                refine fnQ.ret1 ?_
                first | exact ⟨congrArg (AV.int .i64) (by rw [chkB, if_pos (by omega)]), hS.keeps⟩ | exact ⟨congrArg (AV.int .i64) (by rw [chkB, if_neg (by omega), if_pos (by omega)]), hS.keeps⟩ | exact ⟨congrArg (AV.int .i64) (chk_at (e := 2) (by omega) (by omega) hw (by omega) (by unfold wayE; rw [if_pos (by omega)]) (by decide)).symm, hS.keeps⟩ | exact ⟨congrArg (AV.int .i64) (chk_at (e := 13) (by omega) (by omega) hw (by omega) (by unfold wayE; rw [if_neg (by omega), if_pos (by omega)]) (by decide)).symm, hS.keeps⟩ | exact ⟨congrArg (AV.int .i64) (chk_at (e := 1) (by omega) (by omega) hw (by omega) (by unfold wayE; rw [if_neg (by omega), if_neg (by omega), if_pos (by omega)]) (by decide)).symm, hS.keeps⟩ | exact ⟨congrArg (AV.int .i64) (chk_end (by omega) (by omega) (by rw [show ws.length = i by omega]; exact hw)).symm, hS.keeps⟩
        · intro g29
          have g29 := of_decide_eq_true g29
          refine KOps.guardNo (dj := 29) rfl rfl rfl ?_
          refine KOps.guardNo (dj := 29) rfl rfl rfl ?_
          refine KOps.guardNo (dj := 29) rfl rfl rfl ?_
          refine KOps.guardNo (dj := 29) rfl rfl rfl ?_
          refine KOps.guardNo (dj := 29) rfl rfl rfl ?_
          refine KOps.guardNo (dj := 29) rfl rfl rfl ?_
          refine KOps.guardNo (dj := 29) rfl rfl rfl ?_
          refine KOps.pickT ?_
          refine KOps.assign ?_
          refine KOps.done ?_
          refine sqQ.normal ?_
          refine KA.sub (Sub.cons (t := 1) Look.eq (Sub.cons (t := 4) Look.eq (Sub.cons (t := 16) Look.eq (Sub.cons (t := 17) Look.eq (Sub.cons (t := 18) Look.eq (Sub.cons (t := 22) Look.eq (Sub.cons (t := 30) Look.eq (Sub.cons (t := 31) Look.eq (Sub.cons (t := 32) Look.eq (Sub.cons (t := 33) Look.eq (Sub.cons (t := 34) Look.eq (Sub.cons (t := 35) Look.eq (Sub.cons (t := 36) Look.eq (Sub.cons (t := 37) Look.eq (Sub.nil _))))))))))))))) ?_
          refine KA.condT ?_
          refine KA.seq ?_
          refine KA.region rfl ?_
          refine KOps.assign ?_
          refine KOps.done ?_
          refine sqQ.normal ?_
          refine KA.sub (Sub.cons (t := 2) Look.eq (Sub.nil _)) ?_
          refine KA.ret ?_
          refine blQ.ret ?_
          refine blQ.ret ?_
          refine sqQ.ret ?_
          refine lpQ.ret ?_
          refine blQ.ret ?_
          refine sqQ.ret ?_
          refine fnQ.ret1 ?_
          first | exact ⟨congrArg (AV.int .i64) (by rw [chkB, if_pos (by omega)]), hS.keeps⟩ | exact ⟨congrArg (AV.int .i64) (by rw [chkB, if_neg (by omega), if_pos (by omega)]), hS.keeps⟩ | exact ⟨congrArg (AV.int .i64) (chk_at (e := 2) (by omega) (by omega) hw (by omega) (by unfold wayE; rw [if_pos (by omega)]) (by decide)).symm, hS.keeps⟩ | exact ⟨congrArg (AV.int .i64) (chk_at (e := 13) (by omega) (by omega) hw (by omega) (by unfold wayE; rw [if_neg (by omega), if_pos (by omega)]) (by decide)).symm, hS.keeps⟩ | exact ⟨congrArg (AV.int .i64) (chk_at (e := 1) (by omega) (by omega) hw (by omega) (by unfold wayE; rw [if_neg (by omega), if_neg (by omega), if_pos (by omega)]) (by decide)).symm, hS.keeps⟩ | exact ⟨congrArg (AV.int .i64) (chk_end (by omega) (by omega) (by rw [show ws.length = i by omega]; exact hw)).symm, hS.keeps⟩
      · intro c19
        refine KA.exit ?_
        refine sqQ.exit ?_
        refine lpQ.exit ?_
        refine blQ.here ?_
        refine sqQ.normal ?_
        refine KA.sub (Sub.nil _) ?_
        refine KA.seq ?_
        refine KA.region rfl ?_
        refine KOps.assign ?_
        refine KOps.done ?_
        refine sqQ.normal ?_
        refine KA.ret ?_
        refine fnQ.ret1 ?_
        first | exact ⟨congrArg (AV.int .i64) (by rw [chkB, if_pos (by omega)]), hS.keeps⟩ | exact ⟨congrArg (AV.int .i64) (by rw [chkB, if_neg (by omega), if_pos (by omega)]), hS.keeps⟩ | exact ⟨congrArg (AV.int .i64) (chk_at (e := 2) (by omega) (by omega) hw (by omega) (by unfold wayE; rw [if_pos (by omega)]) (by decide)).symm, hS.keeps⟩ | exact ⟨congrArg (AV.int .i64) (chk_at (e := 13) (by omega) (by omega) hw (by omega) (by unfold wayE; rw [if_neg (by omega), if_pos (by omega)]) (by decide)).symm, hS.keeps⟩ | exact ⟨congrArg (AV.int .i64) (chk_at (e := 1) (by omega) (by omega) hw (by omega) (by unfold wayE; rw [if_neg (by omega), if_neg (by omega), if_pos (by omega)]) (by decide)).symm, hS.keeps⟩ | exact ⟨congrArg (AV.int .i64) (chk_end (by omega) (by omega) (by rw [show ws.length = i by omega]; exact hw)).symm, hS.keeps⟩

end Go.Am

namespace Go.Am

def dl (a b : Int) : Int := if a = b then 1 else 0
/-- How many more come into a room than go out of it, by the first ways. -/
def keptTo (ws : List W) (n : List Int) (x : Int) : Nat → Int
  | 0 => 0
  | i + 1 => keptTo ws n x i + n.getD i 0 * (dl (ws.getD i default).t x - dl (ws.getD i default).f x)
abbrev kept (ws : List W) (n : List Int) (x : Int) : Int := keptTo ws n x ws.length
structure Within (ws : List W) (n : List Int) : Prop where
  len : n.length = ws.length
  lo : ∀ i, i < ws.length → (ws.getD i default).l ≤ n.getD i 0
  hi : ∀ i, i < ws.length → n.getD i 0 ≤ (ws.getD i default).m
structure Flow (ws : List W) (n : List Int) : Prop extends Within ws n where
  kp : ∀ x, kept ws n x = 0
/-- Rooms of all ways are rooms. -/
def InR (r : Int) (ws : List W) : Prop := ∀ i, i < ws.length → 0 ≤ (ws.getD i default).f ∧ (ws.getD i default).f < r ∧ 0 ≤ (ws.getD i default).t ∧ (ws.getD i default).t < r

theorem keptTo_set {ws : List W} {n : List Int} {x : Int} {i : Nat} {c : Int} (hi : i < n.length) : ∀ k, keptTo ws (n.set i c) x k = keptTo ws n x k + if i < k then (c - n.getD i 0) * (dl (ws.getD i default).t x - dl (ws.getD i default).f x) else 0 := by
  intro k
  induction k with
  | zero => simp [keptTo]
  | succ k ih =>
    by_cases h : i = k
    · subst h
      have e1 : (n.set i c).getD i 0 = c := by rw [getD_setJ, if_pos ⟨rfl, hi⟩]
      rw [keptTo, keptTo, ih, e1, if_neg (Nat.lt_irrefl i), if_pos (Nat.lt_succ_self i), Int.sub_mul]
      omega
    · have e1 : (n.set i c).getD k 0 = n.getD k 0 := by rw [getD_setJ, if_neg (fun h2 => h h2.1.symm)]
      rw [keptTo, keptTo, ih, e1]
      by_cases h3 : i < k
      · rw [if_pos h3, if_pos (show i < k + 1 by omega)]; omega
      · rw [if_neg h3, if_neg (show ¬ i < k + 1 by omega)]; omega
theorem kept_set {ws : List W} {n : List Int} {x : Int} {i : Nat} {c : Int} (hi : i < n.length) (hw : i < ws.length) : kept ws (n.set i c) x = kept ws n x + (c - n.getD i 0) * (dl (ws.getD i default).t x - dl (ws.getD i default).f x) := by
  rw [kept, keptTo_set hi, if_pos hw]

/-- One step: one stamp more, or one less. -/
def StepOK (ws : List W) (n : List Int) (A : Nat → Bool) (u v : Int) (i : Nat) (more : Bool) : Prop :=
  i < ws.length ∧ A i = true ∧ if more then (ws.getD i default).f = u ∧ (ws.getD i default).t = v ∧ n.getD i 0 < (ws.getD i default).m else (ws.getD i default).t = u ∧ (ws.getD i default).f = v ∧ (ws.getD i default).l < n.getD i 0
/-- A path by rooms of which no two are the same. -/
inductive Path (ws : List W) (n : List Int) (A : Nat → Bool) (u : Int) : List Int → Int → List (Int × Bool) → Prop where
  | nil : Path ws n A u [u] u []
  | snoc {vs : List Int} {v x : Int} {E : List (Int × Bool)} {i : Nat} {more : Bool} (p : Path ws n A u vs v E) (s : StepOK ws n A v x i more) (hx : x ∉ vs) : Path ws n A u (x :: vs) x (((i : Int), more) :: E)
section
variable {ws : List W} {n : List Int} {A : Nat → Bool} {u v : Int} {vs : List Int} {E : List (Int × Bool)}
theorem Path.last (p : Path ws n A u vs v E) : v ∈ vs := by cases p <;> simp
theorem Path.ends (p : Path ws n A u vs v E) : ∀ q ∈ E, ∃ i : Nat, q.1 = (i : Int) ∧ i < ws.length ∧ A i = true ∧ (ws.getD i default).f ∈ vs ∧ (ws.getD i default).t ∈ vs ∧ (if q.2 then n.getD i 0 < (ws.getD i default).m else (ws.getD i default).l < n.getD i 0) := by
  induction p with
  | nil => intro q hq; cases hq
  | @snoc vs v x E i more p s hx ih =>
    intro q hq
    rcases List.mem_cons.1 hq with rfl | hq
    · refine ⟨i, rfl, s.1, s.2.1, ?_⟩
      have hv := p.last
      have hs := s.2.2
      cases more with
      | true =>
        simp only [if_true] at hs ⊢
        exact ⟨by rw [hs.1]; simp [hv], by rw [hs.2.1]; simp, hs.2.2⟩
      | false =>
        simp only [Bool.false_eq_true, if_false] at hs ⊢
        exact ⟨by rw [hs.2.1]; simp, by rw [hs.1]; simp [hv], hs.2.2⟩
    · obtain ⟨j, h1, h2, h3, h4, h5, h6⟩ := ih q hq
      exact ⟨j, h1, h2, h3, List.mem_cons_of_mem _ h4, List.mem_cons_of_mem _ h5, h6⟩
theorem Path.keys (p : Path ws n A u vs v E) : (E.map (·.1)).Nodup := by
  induction p with
  | nil => exact List.nodup_nil
  | @snoc vs v x E i more p s hx ih =>
    rw [List.map_cons, List.nodup_cons]
    refine ⟨?_, ih⟩
    intro hm
    obtain ⟨q, hq, he⟩ := List.mem_map.1 hm
    obtain ⟨j, h1, _, _, h4, h5, _⟩ := p.ends q hq
    have hij : j = i := by
      have : (j : Int) = (i : Int) := by rw [← h1]; exact he
      omega
    subst hij
    have hs := s.2.2
    cases more with
    | true => simp only [if_true] at hs; rw [hs.2.1] at h5; exact hx h5
    | false => simp only [Bool.false_eq_true, if_false] at hs; rw [hs.2.1] at h4; exact hx h4
/-- What is pushed along a path. -/
def bump1 (l : List Int) (q : Int × Bool) : List Int := l.set q.1.toNat (l.getD q.1.toNat 0 + if q.2 then 1 else -1)
def pushE (E : List (Int × Bool)) (n : List Int) : List Int := E.foldr (fun q l => bump1 l q) n
theorem bump1_len (l : List Int) (q : Int × Bool) : (bump1 l q).length = l.length := by simp [bump1]
theorem pushE_len (E : List (Int × Bool)) (n : List Int) : (pushE E n).length = n.length := by
  induction E with
  | nil => rfl
  | cons q E ih => show (bump1 (pushE E n) q).length = _; rw [bump1_len, ih]
theorem bump_at {E : List (Int × Bool)} {l : List Int} {j : Nat} {q : Int × Bool} (h : E[j]? = some q) : bump E l j = bump1 l q := by
  unfold bump bump1
  rw [h]
theorem bump1_comm (l : List Int) (p q : Int × Bool) : bump1 (bump1 l p) q = bump1 (bump1 l q) p := by
  have h := bump_comm [p, q] l 0 1
  rw [bump_at (E := [p, q]) (j := 0) rfl, bump_at (E := [p, q]) (j := 1) rfl, bump_at (E := [p, q]) (j := 1) rfl, bump_at (E := [p, q]) (j := 0) rfl] at h
  exact h
theorem bumps_foldl (E : List (Int × Bool)) (n : List Int) : ∀ k, k ≤ E.length → bumps E n (List.range k) = (E.take k).foldl bump1 n := by
  intro k
  induction k with
  | zero => intro _; rfl
  | succ k ih =>
    intro hk
    have hg : E[k]? = some (E[k]'(by omega)) := List.getElem?_eq_getElem _
    rw [List.range_succ, bumps_snoc, ih (by omega), bump_at hg, List.take_add_one, hg, List.foldl_append]
    rfl
theorem foldl_one (E : List (Int × Bool)) : ∀ (n : List Int) (q : Int × Bool), E.foldl bump1 (bump1 n q) = bump1 (E.foldl bump1 n) q := by
  induction E with
  | nil => intro n q; rfl
  | cons p E ih => intro n q; rw [List.foldl_cons, List.foldl_cons, bump1_comm, ih]
theorem bumps_push (E : List (Int × Bool)) (n : List Int) : bumps E n (List.range E.length) = pushE E n := by
  rw [bumps_foldl E n _ (Nat.le_refl _), List.take_length]
  induction E with
  | nil => rfl
  | cons q E ih => rw [List.foldl_cons, foldl_one, ih]; rfl
theorem pushE_other {E : List (Int × Bool)} {n : List Int} {i : Nat} (h : ∀ q ∈ E, q.1.toNat ≠ i) : (pushE E n).getD i 0 = n.getD i 0 := by
  induction E with
  | nil => rfl
  | cons q E ih =>
    show (bump1 (pushE E n) q).getD i 0 = _
    rw [bump1, getD_setJ, if_neg (fun h2 => h q (by simp) h2.1.symm), ih (fun p hp => h p (by simp [hp]))]
theorem pushE_at {E : List (Int × Bool)} {n : List Int} (hk : (E.map (·.1)).Nodup) (h0 : ∀ q ∈ E, 0 ≤ q.1) {q : Int × Bool} (hq : q ∈ E) (hl : q.1.toNat < n.length) : (pushE E n).getD q.1.toNat 0 = n.getD q.1.toNat 0 + if q.2 then 1 else -1 := by
  induction E with
  | nil => cases hq
  | cons p E ih =>
    rw [List.map_cons, List.nodup_cons] at hk
    show (bump1 (pushE E n) p).getD _ 0 = _
    rw [bump1, getD_setJ, pushE_len]
    rcases List.mem_cons.1 hq with rfl | hq
    · rw [if_pos ⟨rfl, hl⟩, pushE_other]
      intro p' hp' he
      have h1 := h0 p' (by simp [hp'])
      have h2 := h0 q (by simp)
      exact hk.1 (List.mem_map.2 ⟨p', hp', by omega⟩)
    · have hne : ¬ q.1.toNat = p.1.toNat := by
        intro he
        have h1 := h0 q (by simp [hq])
        have h2 := h0 p (by simp)
        exact hk.1 (List.mem_map.2 ⟨q, hq, by omega⟩)
      rw [if_neg (fun h => hne h.1)]
      exact ih hk.2 (fun p' hp' => h0 p' (by simp [hp'])) hq
/-- One stamp goes the whole way. -/
theorem Path.kept (p : Path ws n A u vs v E) (hl : n.length = ws.length) (x : Int) : kept ws (pushE E n) x = Go.Am.kept ws n x + dl v x - dl u x := by
  induction p with
  | nil => show Go.Am.kept ws n x = _; omega
  | @snoc vs v y E i more p s hy ih =>
    have hk := (Path.snoc p s hy).keys
    rw [List.map_cons, List.nodup_cons] at hk
    have hot : (pushE E n).getD i 0 = n.getD i 0 := by
      refine pushE_other ?_
      intro q hq he
      obtain ⟨j, h1, _⟩ := p.ends q hq
      refine hk.1 (List.mem_map.2 ⟨q, hq, ?_⟩)
      rw [h1] at he ⊢
      simp only [Int.toNat_natCast] at he
      rw [he]
    show Go.Am.kept ws (bump1 (pushE E n) ((i : Int), more)) x = _
    unfold bump1
    simp only [Int.toNat_natCast]
    rw [kept_set (by rw [pushE_len, hl]; exact s.1) s.1, ih, hot]
    have hs := s.2.2
    cases more with
    | true =>
      simp only [if_true] at hs ⊢
      rw [hs.1, hs.2.1]
      have : n.getD i 0 + 1 - n.getD i 0 = 1 := by omega
      rw [this, Int.one_mul]; omega
    | false =>
      simp only [Bool.false_eq_true, if_false] at hs ⊢
      rw [hs.1, hs.2.1]
      have : n.getD i 0 + -1 - n.getD i 0 = -1 := by omega
      rw [this]; omega
theorem Path.within (p : Path ws n A u vs v E) (h : Within ws n) : Within ws (pushE E n) := by
  have hk := p.keys
  have h0 : ∀ q ∈ E, 0 ≤ q.1 := fun q hq => by obtain ⟨j, h1, _⟩ := p.ends q hq; omega
  have key : ∀ i, i < ws.length → (ws.getD i default).l ≤ (pushE E n).getD i 0 ∧ (pushE E n).getD i 0 ≤ (ws.getD i default).m := by
    intro i hi
    have h1 := h.lo i hi
    have h2 := h.hi i hi
    by_cases hm : ∃ q ∈ E, q.1.toNat = i
    · obtain ⟨q, hq, rfl⟩ := hm
      have h3 := pushE_at hk h0 hq (n := n) (by rw [h.len]; exact hi)
      obtain ⟨j, h4, h5, _, _, _, h6⟩ := p.ends q hq
      have hj : q.1.toNat = j := by omega
      rw [hj] at h1 h2 h3 ⊢
      rw [h3]
      split at h6
      · rename_i hm; rw [if_pos hm]; omega
      · rename_i hm; rw [if_neg hm]; omega
    · rw [pushE_other (fun q hq he => hm ⟨q, hq, he⟩)]
      exact ⟨h1, h2⟩
  exact ⟨by rw [pushE_len, h.len], fun i hi => (key i hi).1, fun i hi => (key i hi).2⟩
theorem Path.same (p : Path ws n A u vs v E) {i : Nat} (hA : A i = false) : (pushE E n).getD i 0 = n.getD i 0 := by
  refine pushE_other ?_
  intro q hq he
  obtain ⟨j, h4, _, h5, _⟩ := p.ends q hq
  have : j = i := by omega
  subst this
  rw [hA] at h5; cases h5
end

/-- Rooms out of which no step leads. -/
def Closed (ws : List W) (n : List Int) (A : Nat → Bool) (R : Int → Prop) : Prop := ∀ i, i < ws.length → A i = true → (R (ws.getD i default).f → n.getD i 0 < (ws.getD i default).m → R (ws.getD i default).t) ∧ (R (ws.getD i default).t → (ws.getD i default).l < n.getD i 0 → R (ws.getD i default).f)
theorem path_or {ws : List W} {n : List Int} {A : Nat → Bool} (u : Int) : Closed ws n A (fun x => ∃ vs E, Path ws n A u vs x E) := by
  have short : ∀ {vs v E}, Path ws n A u vs v E → ∀ x, x ∈ vs → ∃ vs' E', Path ws n A u vs' x E' := by
    intro vs v E p
    induction p with
    | nil => intro x hx; rw [List.mem_singleton] at hx; subst hx; exact ⟨_, _, .nil⟩
    | @snoc vs v y E i more p s hy ih =>
      intro x hx
      rcases List.mem_cons.1 hx with rfl | hx
      · exact ⟨_, _, .snoc p s hy⟩
      · exact ih x hx
  intro i hi hA
  constructor
  · rintro ⟨vs, E, p⟩ hlt
    by_cases hm : (ws.getD i default).t ∈ vs
    · exact short p _ hm
    · exact ⟨_, _, .snoc p (i := i) (more := true) ⟨hi, hA, by simp only [if_true]; exact ⟨trivial, trivial, hlt⟩⟩ hm⟩
  · rintro ⟨vs, E, p⟩ hlt
    by_cases hm : (ws.getD i default).f ∈ vs
    · exact short p _ hm
    · exact ⟨_, _, .snoc p (i := i) (more := false) ⟨hi, hA, by simp only [Bool.false_eq_true, if_false]; exact ⟨trivial, trivial, hlt⟩⟩ hm⟩
end Go.Am
