/-
  The abstract machine: stores and new blocks of a family: what they do to heap and world.
  Conditions: none.
-/
import Derived.Test.YtenkokebdgekbaaAm5
namespace Go.Am

/-- A block that may be looked at: a cell. -/
theorem BRel.cell {φ : Emb} {w : World} {k i z : Nat} {F : Option Nat} {p : Nat} {cs : List AV} (h : BRel φ w k i z (.cells F p cs)) {j : Nat} {x : AV} (hx : cs[j]? = some x) :
    ∃ v, w.cell? ⟨k, i + j, none⟩ = some v ∧ VRel φ x v := by
  cases F with
  | none => exact h j x hx
  | some F =>
    obtain ⟨c, e, h1, _, h3⟩ := h
    obtain ⟨v, hv, hr⟩ := h3 j x hx
    exact ⟨v, by rw [cell_of_row w k _ c e (0, 0) h1]; exact hv, hr⟩

theorem VRel.one {φ : Emb} {x : AV} {v : Value} (h : VRel φ x v) (h1 : x.one = true) : v.oneCell' = true := by
  cases h <;> simp_all [AV.one, Value.oneCell']

theorem VRel.cells {φ : Emb} {x : AV} {v : Value} {l : List AV} (h : VRel φ x v) (hl : x.cells? = some l) : VRels φ l v.cells.toList ∧ ∀ u ∈ v.cells.toList, u.oneCell' = true := by
  have key : ∀ (x : AV) (v : Value), VRel φ x v → x.one = true → v.cells = #[v] := by
    intro x v h h1
    cases h <;> simp_all [AV.one, Value.cells]
  by_cases hx1 : x.one = true
  · have hl' : l = [x] := by
      cases h <;> simp_all [AV.one, AV.cells?]
    subst hl'
    rw [key x v h hx1]
    refine ⟨⟨rfl, ?_⟩, ?_⟩
    · intro j a b ha hb
      match j, ha, hb with
      | 0, ha, hb => simp at ha hb; subst ha hb; exact h
    · intro u hu; simp at hu; subst hu; exact h.one hx1
  · cases h <;> simp only [AV.one, AV.cells?, Bool.false_eq_true, if_false, not_true_eq_false, reduceCtorEq] at hx1 hl
    case agg l' cs hl1 hh =>
      split at hl
      · rename_i hall
        cases hl
        refine ⟨⟨by simpa [Value.cells] using hl1, fun j a b ha hb => hh j a b ha (by simpa [Value.cells] using hb)⟩, ?_⟩
        intro u hu
        simp only [Value.cells, List.mem_iff_getElem?] at hu
        obtain ⟨j, hj⟩ := hu
        have hlt : j < l.length := by rw [hl1]; exact (List.getElem?_eq_some_iff.1 hj).1
        exact (hh j _ u (List.getElem?_eq_getElem hlt) (by simpa using hj)).one (List.all_eq_true.1 hall _ (List.getElem_mem hlt))
      · cases hl

/-- List surgery: what stands where behind a store of a part. -/
def putL {α : Type} (cs : List α) (o : Nat) (l : List α) : List α := cs.take o ++ l ++ cs.drop (o + l.length)

theorem putL_length {α : Type} (cs l : List α) (o : Nat) (h : o + l.length ≤ cs.length) : (putL cs o l).length = cs.length := by
  simp [putL]; omega

theorem putL_get {α : Type} (cs l : List α) (o : Nat) (h : o + l.length ≤ cs.length) (j : Nat) : (putL cs o l)[j]? = if o ≤ j ∧ j < o + l.length then l[j - o]? else cs[j]? := by
  have hto : (cs.take o).length = o := by simp; omega
  simp only [putL]
  by_cases h1 : j < o
  · rw [if_neg (by omega), List.append_assoc, List.getElem?_append_left (by omega), List.getElem?_take, if_pos h1]
  · by_cases h2 : j < o + l.length
    · rw [if_pos ⟨by omega, h2⟩, List.append_assoc, List.getElem?_append_right (by omega), List.getElem?_append_left (by omega), hto]
    · rw [if_neg (by omega), List.getElem?_append_right (by simp; omega), List.getElem?_drop]
      congr 1
      simp; omega

/-- A store into a block. -/
theorem HRel.store {φ : Emb} {h : AHeap} {w : World} (r : HRel φ h w) {b k i z F p : Nat} {cs : List AV} {f : Fam} (hb : φ b = some (k, i, z)) (hg : h.get b = some (.cells (some F) p cs)) (hv : h.valid b = true)
    (hF : h.fam F = some f) {o : Nat} {l : List AV} {vs : List Value} (ho : o + l.length ≤ cs.length) (hl : VRels φ l vs) :
    ∃ c e, w.heap[k]? = some (.cells c e (0, 0)) ∧ i + o + vs.length ≤ c.size ∧
      HRel φ ((h.set b (.cells (some F) p (putL cs o l))).setFam F { f with live := some [b] }) (w.setRow k (putL c.toList (i + o) vs).toArray) ∧
      Trans φ h w φ ((h.set b (.cells (some F) p (putL cs o l))).setFam F { f with live := some [b] }) (w.setRow k (putL c.toList (i + o) vs).toArray) := by
  obtain ⟨c, e, h1, h2, h3⟩ := r.blk b k i z _ hb hg hv
  obtain ⟨c', e', h1', h2', h3'⟩ := r.arr b k i z F p cs hb hg
  rw [h1] at h1'
  cases h1'
  have hvl : vs.length = l.length := hl.1.symm
  have hfit : i + o + vs.length ≤ c.size := by omega
  have hblt := AHeap.get_lt hg
  have hFlt := AHeap.fam_lt hF
  refine ⟨c, e, h1, hfit, ?_⟩
  have hsz : (putL c.toList (i + o) vs).length = c.size := by rw [putL_length _ _ _ (by simpa using hfit)]; simp
  have hnew : (w.setRow k (putL c.toList (i + o) vs).toArray).heap[k]? = some (.cells (putL c.toList (i + o) vs).toArray e (0, 0)) := setRow_heap w k c _ e (0, 0) h1
  have hold : ∀ k', k' ≠ k → (w.setRow k (putL c.toList (i + o) vs).toArray).heap[k']? = w.heap[k']? := fun k' hk' => setRow_other w k k' _ hk'
  have hget : ∀ b', ((h.set b (.cells (some F) p (putL cs o l))).setFam F { f with live := some [b] }).get b' = if b' = b then some (.cells (some F) p (putL cs o l)) else h.get b' := by
    intro b'
    rw [AHeap.get_setFam, AHeap.get_set]
    by_cases hbb : b' = b
    · rw [if_pos ⟨hbb, hblt⟩, if_pos hbb]
    · rw [if_neg (by simp [hbb]), if_neg hbb]
  have hfam : ∀ G, ((h.set b (.cells (some F) p (putL cs o l))).setFam F { f with live := some [b] }).fam G = if G = F then some { f with live := some [b] } else h.fam G := by
    intro G
    rw [AHeap.fam_setFam, AHeap.fam_set]
    by_cases hGF : G = F
    · rw [if_pos ⟨hGF, hFlt⟩, if_pos hGF]
    · rw [if_neg (by simp [hGF]), if_neg hGF]
  have hback : ∀ b' B, ((h.set b (.cells (some F) p (putL cs o l))).setFam F { f with live := some [b] }).get b' = some B → (b' = b ∧ B = .cells (some F) p (putL cs o l)) ∨ (b' ≠ b ∧ h.get b' = some B) := by
    intro b' B hB
    rw [hget] at hB
    split at hB
    · rename_i hbb; cases hB; exact .inl ⟨hbb, rfl⟩
    · rename_i hbb; exact .inr ⟨hbb, hB⟩
  have hcellsB : ∀ b' F' p' cs', ((h.set b (.cells (some F) p (putL cs o l))).setFam F { f with live := some [b] }).get b' = some (.cells F' p' cs') → ∃ cs'', h.get b' = some (.cells F' p' cs'') ∧ cs''.length = cs'.length := by
    intro b' F' p' cs' hB
    rcases hback b' _ hB with ⟨hbb, hE⟩ | ⟨_, hE⟩
    · cases hE; subst hbb; exact ⟨cs, hg, (putL_length _ _ _ ho).symm⟩
    · exact ⟨cs', hE, rfl⟩
  refine ⟨⟨r.glob, ?_, ?_, ?_, ?_, ?_, ?_, ?_⟩, Emb.le_refl φ, ?_, ?_, ?_, ?_, rfl, rfl, rfl, by simp⟩
  · intro b' k' i' z' hb'
    simpa using r.lt b' k' i' z' hb'
  · intro b' k' i' z' B hb' hB hv'
    rcases hback b' B hB with ⟨rfl, rfl⟩ | ⟨hne, hB'⟩
    · rw [hb] at hb'; cases hb'
      refine ⟨_, e, hnew, by simpa [hsz] using h2, ?_⟩
      intro j x hx
      rw [putL_get _ _ _ ho] at hx
      have hpg := putL_get c.toList vs (i + o) (by simpa using hfit) (i + j)
      simp only [List.getElem?_toArray]
      split at hx
      · rename_i hj
        have hjl : j - o < vs.length := by omega
        rw [hpg, if_pos (by omega), show i + j - (i + o) = j - o by omega]
        exact ⟨vs[j - o], List.getElem?_eq_getElem hjl, hl.2 _ _ _ hx (List.getElem?_eq_getElem hjl)⟩
      · rename_i hj
        obtain ⟨v, hv1, hv2⟩ := h3 j x hx
        rw [hpg, if_neg (by omega)]
        exact ⟨v, by simpa using hv1, hv2⟩
    · -- another block: not of the family, or not to be looked at
      have hvold : ∀ F' p' cs', B = .cells (some F') p' cs' → F' ≠ F ∧ h.valid b' = true := by
        intro F' p' cs' hBe
        subst hBe
        simp only [AHeap.valid, hB] at hv'
        by_cases hFF : F' = F
        · subst hFF
          rw [hfam, if_pos rfl] at hv'
          simp [Fam.sees, List.contains_cons] at hv'
          exact absurd hv' hne
        · refine ⟨hFF, ?_⟩
          rw [hfam, if_neg hFF] at hv'
          simp only [AHeap.valid, hB']
          exact hv'
      have hk : k' ≠ k := by
        intro hkk
        subst hkk
        cases B with
        | map es => exact hne (r.map b' b k' i' i z' z es _ hb' hb hB' hg)
        | cells F' p' cs' =>
          cases F' with
          | none => exact r.sep b b' k' i i' z z' F p p' cs cs' hb hb' hg hB'
          | some F' =>
            have := r.one b b' k' i i' z z' F F' p p' cs cs' hb hb' hg hB'
            exact (hvold F' p' cs' rfl).1 this.1.symm
      have hv0 : h.valid b' = true := by
        cases B with
        | map es => simp only [AHeap.valid, hB']
        | cells F' p' cs' =>
          cases F' with
          | none => simp only [AHeap.valid, hB']
          | some F' => exact (hvold F' p' cs' rfl).2
      exact (r.blk b' k' i' z' B hb' hB' hv0).world (hold k' hk)
  · intro b' k' i' z' F' p' cs' hb' hB
    obtain ⟨cs'', hB', hl'⟩ := hcellsB b' _ p' cs' hB
    obtain ⟨c1, e1, q1, q2, q3⟩ := r.arr b' k' i' z' F' p' cs'' hb' hB'
    by_cases hkk : k' = k
    · subst hkk
      rw [h1] at q1; cases q1
      exact ⟨_, e, hnew, by simpa [hsz] using q2, by omega⟩
    · exact ⟨c1, e1, (hold k' hkk).trans q1, q2, by omega⟩
  · intro b1 b2 k' i1 i2 z1 z2 F1 F2 p1 p2 c1 c2 q1 q2 g1 g2
    obtain ⟨d1, g1', _⟩ := hcellsB _ _ _ _ g1
    obtain ⟨d2, g2', _⟩ := hcellsB _ _ _ _ g2
    exact r.one b1 b2 k' i1 i2 z1 z2 F1 F2 p1 p2 d1 d2 q1 q2 g1' g2'
  · intro b1 b2 k' i1 i2 z1 z2 F1 p1 p2 c1 c2 q1 q2 g1 g2
    obtain ⟨d1, g1', _⟩ := hcellsB _ _ _ _ g1
    obtain ⟨d2, g2', _⟩ := hcellsB _ _ _ _ g2
    exact r.sep b1 b2 k' i1 i2 z1 z2 F1 p1 p2 d1 d2 q1 q2 g1' g2'
  · intro b1 b2 k' i1 i2 z1 z2 es B q1 q2 g1 g2
    rcases hback b1 _ g1 with ⟨_, hB1⟩ | ⟨hne1, hB1⟩
    · cases hB1
    · rcases hback b2 _ g2 with ⟨rfl, rfl⟩ | ⟨hne2, hB2⟩
      · exact r.map b1 b2 k' i1 i2 z1 z2 es _ q1 q2 hB1 hg
      · exact r.map b1 b2 k' i1 i2 z1 z2 es B q1 q2 hB1 hB2
  · intro b' F' p' cs' hB
    obtain ⟨cs'', hB', hl'⟩ := hcellsB b' _ p' cs' hB
    obtain ⟨f', hf', hle⟩ := r.ext b' F' p' cs'' hB'
    rw [hfam]
    by_cases hFF : F' = F
    · subst hFF
      rw [hF] at hf'; cases hf'
      exact ⟨_, if_pos rfl, by simpa [← hl'] using hle⟩
    · exact ⟨f', by rw [if_neg hFF]; exact hf', by omega⟩
  · intro b' q1 q2
    rw [AHeap.next_setFam, AHeap.next_set] at q2; omega
  · intro b' q q1 q2; rw [q1] at q2; cases q2
  · intro b' k' i' z' q1 q2; rw [q1] at q2; cases q2
  · intro k' hk' hm
    refine hold k' ?_
    rintro rfl
    exact hm ⟨b, i, z, hb, .inl ⟨F, p, cs, hg⟩⟩

theorem HGrow.store {h : AHeap} {b F p o : Nat} {cs l : List AV} {f' : Fam} (hg : h.get b = some (.cells (some F) p cs)) (ho : o + l.length ≤ cs.length) : HGrow h ((h.set b (.cells (some F) p (putL cs o l))).setFam F f') := by
  refine ⟨(by rw [AHeap.next_setFam, AHeap.next_set]; exact Nat.le_refl _), by simp [AHeap.nfam, AHeap.setFam, AHeap.set], rfl, ?_⟩
  intro b' hb'
  rw [AHeap.get_setFam, AHeap.get_set]
  split
  · rename_i hbb
    obtain ⟨rfl, _⟩ := hbb
    rw [hg]
    simp [Blk.shape, putL_length _ _ _ ho]
  · rfl

/-- A further block of a family. -/
theorem HRel.grow {φ : Emb} {h : AHeap} {w w' : World} (r : HRel φ h w) (hφ : φ h.next = none) {F q k i z : Nat} {cs : List AV} {f : Fam} {x : Nat} {lv : Option (List Nat)} {c : Array Value} {e : TypeId} (hF : h.fam F = some f)
    (hw : w'.heap[k]? = some (.cells c e (0, 0))) (hz : c.size = z) (hc : CellsAt φ cs c i) (hi : i + cs.length ≤ z) (hkl : k < w'.heap.size) (hsz : w.heap.size ≤ w'.heap.size)
    (hold : ∀ b k' i' z' B, φ b = some (k', i', z') → h.get b = some B → h.valid b = true → (∀ p' cs', B = .cells (some F) p' cs' → Fam.sees ⟨x, lv⟩ b = true) → BRel φ w' k' i' z' B)
    (hlv : ∀ b, b ≠ h.next → Fam.sees ⟨x, lv⟩ b = true → f.sees b = true)
    (harr : ∀ b k' i' z' F' p' cs', φ b = some (k', i', z') → h.get b = some (.cells (some F') p' cs') → ∃ c e, w'.heap[k']? = some (.cells c e (0, 0)) ∧ c.size = z')
    (hone : ∀ b' i' z' F' p' cs', φ b' = some (k, i', z') → h.get b' = some (.cells (some F') p' cs') → F' = F ∧ p' + i = q + i')
    (hsep : ∀ b' i' z' p' cs', φ b' = some (k, i', z') → h.get b' = some (.cells none p' cs') → False) (hmap : ∀ b' i' z' es, φ b' = some (k, i', z') → h.get b' = some (.map es) → False)
    (hx : f.ext ≤ x ∧ q + cs.length ≤ x) :
    HRel (φ.upd h.next (k, i, z)) ((h.push (.cells (some F) q cs)).setFam F ⟨x, lv⟩) w' := by
  have hle := Emb.le_upd (φ := φ) (k, i, z) hφ
  have hFlt := AHeap.fam_lt hF
  have hget : ∀ b', ((h.push (.cells (some F) q cs)).setFam F ⟨x, lv⟩).get b' = if b' = h.next then some (.cells (some F) q cs) else h.get b' := by
    intro b'; rw [AHeap.get_setFam, AHeap.get_push]
  have hfam : ∀ G, ((h.push (.cells (some F) q cs)).setFam F ⟨x, lv⟩).fam G = if G = F then some ⟨x, lv⟩ else h.fam G := by
    intro G
    rw [AHeap.fam_setFam, AHeap.fam_push]
    by_cases hGF : G = F
    · rw [if_pos ⟨hGF, hFlt⟩, if_pos hGF]
    · rw [if_neg (by simp [hGF]), if_neg hGF]
  have hcase : ∀ b k' i' z', φ.upd h.next (k, i, z) b = some (k', i', z') → (b = h.next ∧ k' = k ∧ i' = i ∧ z' = z) ∨ (b ≠ h.next ∧ φ b = some (k', i', z')) := by
    intro b k' i' z' hb
    by_cases hbn : b = h.next
    · subst hbn; rw [Emb.upd_same] at hb; cases hb; exact .inl ⟨rfl, rfl, rfl, rfl⟩
    · rw [Emb.upd_other φ _ hbn] at hb; exact .inr ⟨hbn, hb⟩
  refine ⟨?_, ?_, ?_, ?_, ?_, ?_, ?_, ?_⟩
  · intro g hg
    obtain ⟨z', hz'⟩ := r.glob g hg
    exact ⟨z', hle _ _ hz'⟩
  · intro b k' i' z' hb
    rcases hcase b k' i' z' hb with ⟨_, rfl, _⟩ | ⟨hne, hb'⟩
    · exact hkl
    · have := r.lt b k' i' z' hb'; omega
  · intro b k' i' z' B hb hg hv
    rw [hget] at hg
    rcases hcase b k' i' z' hb with ⟨rfl, rfl, rfl, rfl⟩ | ⟨hne, hb'⟩
    · rw [if_pos rfl] at hg
      cases hg
      exact ⟨c, e, hw, hz, fun j y hy => let ⟨v, h1, h2⟩ := hc j y hy; ⟨v, h1, h2.mono hle⟩⟩
    · rw [if_neg hne] at hg
      have hsee : ∀ p' cs', B = .cells (some F) p' cs' → Fam.sees ⟨x, lv⟩ b = true := by
        rintro p' cs' rfl
        simp only [AHeap.valid, hget, if_neg hne, hg, hfam, if_true] at hv
        exact hv
      refine (hold b k' i' z' B hb' hg ?_ hsee).mono hle
      simp only [AHeap.valid, hget, if_neg hne, hg] at hv ⊢
      cases B with
      | map es => rfl
      | cells F' p' cs' =>
        cases F' with
        | none => rfl
        | some F' =>
          simp only at hv ⊢
          rw [hfam] at hv
          by_cases hFF : F' = F
          · subst hFF
            rw [if_pos rfl] at hv
            rw [hF]
            simp only at hv ⊢
            exact hlv b hne hv
          · rw [if_neg hFF] at hv; exact hv
  · intro b k' i' z' F' p' cs' hb hg
    rw [hget] at hg
    rcases hcase b k' i' z' hb with ⟨rfl, rfl, rfl, rfl⟩ | ⟨hne, hb'⟩
    · rw [if_pos rfl] at hg
      cases hg
      exact ⟨c, e, hw, hz, hi⟩
    · rw [if_neg hne] at hg
      obtain ⟨c1, e1, q1, q2⟩ := harr b k' i' z' F' p' cs' hb' hg
      obtain ⟨c2, e2, _, _, q3⟩ := r.arr b k' i' z' F' p' cs' hb' hg
      exact ⟨c1, e1, q1, q2, q3⟩
  · intro b b' k' i1 i2 z1 z2 F1 F2 p1 p2 cs1 cs2 hb hb' hg hg'
    rw [hget] at hg hg'
    rcases hcase b k' i1 z1 hb with ⟨rfl, rfl, rfl, rfl⟩ | ⟨hne, h1⟩ <;> rcases hcase b' _ i2 z2 hb' with ⟨rfl, hk, rfl, rfl⟩ | ⟨hne', h1'⟩
    · rw [hg] at hg'; cases hg'; exact ⟨rfl, rfl⟩
    · rw [if_pos rfl] at hg; cases hg
      rw [if_neg hne'] at hg'
      obtain ⟨rfl, h2⟩ := hone b' i2 z2 F2 p2 cs2 h1' hg'
      exact ⟨rfl, h2.symm⟩
    · subst hk
      rw [if_pos rfl] at hg'; cases hg'
      rw [if_neg hne] at hg
      exact hone b i1 z1 F1 p1 cs1 h1 hg
    · rw [if_neg hne] at hg
      rw [if_neg hne'] at hg'
      exact r.one b b' k' i1 i2 z1 z2 F1 F2 p1 p2 cs1 cs2 h1 h1' hg hg'
  · intro b b' k' i1 i2 z1 z2 F1 p1 p2 cs1 cs2 hb hb' hg hg'
    rw [hget] at hg hg'
    rcases hcase b k' i1 z1 hb with ⟨rfl, rfl, rfl, rfl⟩ | ⟨hne, h1⟩ <;> rcases hcase b' _ i2 z2 hb' with ⟨rfl, hk, rfl, rfl⟩ | ⟨hne', h1'⟩
    · rw [hg] at hg'; cases hg'
    · rw [if_neg hne'] at hg'
      exact hsep b' i2 z2 p2 cs2 h1' hg'
    · rw [if_pos rfl] at hg'; cases hg'
    · rw [if_neg hne] at hg
      rw [if_neg hne'] at hg'
      exact r.sep b b' k' i1 i2 z1 z2 F1 p1 p2 cs1 cs2 h1 h1' hg hg'
  · intro b b' k' i1 i2 z1 z2 es B hb hb' hg hg'
    rw [hget] at hg hg'
    rcases hcase b k' i1 z1 hb with ⟨rfl, rfl, rfl, rfl⟩ | ⟨hne, h1⟩ <;> rcases hcase b' _ i2 z2 hb' with ⟨rfl, hk, rfl, rfl⟩ | ⟨hne', h1'⟩
    · rfl
    · rw [if_pos rfl] at hg; cases hg
    · subst hk
      rw [if_neg hne] at hg
      exact (hmap b i1 z1 es h1 hg).elim
    · rw [if_neg hne] at hg
      rw [if_neg hne'] at hg'
      exact r.map b b' k' i1 i2 z1 z2 es B h1 h1' hg hg'
  · intro b F' p' cs' hg
    rw [hget] at hg
    rw [hfam]
    split at hg
    · cases hg
      exact ⟨_, if_pos rfl, hx.2⟩
    · obtain ⟨f', hf', hl⟩ := r.ext b F' p' cs' hg
      by_cases hFF : F' = F
      · subst hFF
        rw [hF] at hf'; cases hf'
        exact ⟨_, if_pos rfl, Nat.le_trans hl hx.1⟩
      · exact ⟨f', by rw [if_neg hFF]; exact hf', hl⟩

theorem HGrow.grow {h : AHeap} {F q : Nat} {cs : List AV} {f' : Fam} : HGrow h ((h.push (.cells (some F) q cs)).setFam F f') := by
  refine ⟨by rw [AHeap.next_setFam, AHeap.next_push]; omega, by simp [AHeap.nfam, AHeap.setFam, AHeap.push], rfl, ?_⟩
  intro b' hb'
  rw [AHeap.get_setFam, AHeap.get_push, if_neg (by omega)]

end Go.Am
