/-
  The abstract machine: what holds of one heap holds of its neighbours in a region whose order is open.
  Conditions: none.
-/
import Derived.Test.YtenkokebdgekbaaAm10
namespace Go.Am

/-- The heap before, from the heap behind. -/
theorem HRel.down {φ : Emb} {h h' : AHeap} {w : World} (e : HExt h h') (g : HGrow h h') (wf : WFH h) (r : HRel φ h' w) : HRel φ h w := by
  have up : ∀ {b : Nat} {B : Blk}, h.get b = some B → h'.get b = some B := fun {b B} hB => by rw [e.get b (AHeap.get_lt hB)]; exact hB
  refine ⟨?_, ?_, ?_, ?_, ?_, ?_, ?_, wf⟩
  · intro x hx; exact r.glob x (by rw [g.globs]; exact hx)
  · exact r.lt
  · intro b k i z B hb hB hv
    exact r.blk b k i z B hb (up hB) (by rw [e.valid b (AHeap.get_lt hB)]; exact hv)
  · intro b k i z F p cs hb hB; exact r.arr b k i z F p cs hb (up hB)
  · intro b b' k i i' z z' F F' p p' cs cs' h1 h2 h3 h4; exact r.one b b' k i i' z z' F F' p p' cs cs' h1 h2 (up h3) (up h4)
  · intro b b' k i i' z z' F p p' cs cs' h1 h2 h3 h4; exact r.sep b b' k i i' z z' F p p' cs cs' h1 h2 (up h3) (up h4)
  · intro b b' k i i' z z' es B h1 h2 h3 h4; exact r.map b b' k i i' z z' es B h1 h2 (up h3) (up h4)

/-- The heap behind, from the heap before, where nothing of the new blocks is there yet. -/
theorem HRel.up {φ : Emb} {h h' : AHeap} {w : World} (e : HExt h h') (g : HGrow h h') (wf : WFH h') (hno : ∀ b, h.next ≤ b → b < h'.next → φ b = none) (r : HRel φ h w) : HRel φ h' w := by
  have down : ∀ {b k i z : Nat} {B : Blk}, φ b = some (k, i, z) → h'.get b = some B → h.get b = some B ∧ b < h.next := by
    intro b k i z B hb hB
    have hlt : b < h.next := by
      apply Nat.lt_of_not_le
      intro hle
      rw [hno b hle (AHeap.get_lt hB)] at hb; cases hb
    exact ⟨by rw [← e.get b hlt]; exact hB, hlt⟩
  refine ⟨?_, ?_, ?_, ?_, ?_, ?_, ?_, wf⟩
  · intro x hx; exact r.glob x (by rw [g.globs] at hx; exact hx)
  · exact r.lt
  · intro b k i z B hb hB hv
    obtain ⟨h1, h2⟩ := down hb hB
    exact r.blk b k i z B hb h1 (by rw [← e.valid b h2]; exact hv)
  · intro b k i z F p cs hb hB; exact r.arr b k i z F p cs hb (down hb hB).1
  · intro b b' k i i' z z' F F' p p' cs cs' h1 h2 h3 h4; exact r.one b b' k i i' z z' F F' p p' cs cs' h1 h2 (down h1 h3).1 (down h2 h4).1
  · intro b b' k i i' z z' F p p' cs cs' h1 h2 h3 h4; exact r.sep b b' k i i' z z' F p p' cs cs' h1 h2 (down h1 h3).1 (down h2 h4).1
  · intro b b' k i i' z z' es B h1 h2 h3 h4; exact r.map b b' k i i' z z' es B h1 h2 (down h1 h3).1 (down h2 h4).1

/-- A block of its own array, as it was made. -/
structure Own (φ : Emb) (w : World) (b : Nat) (cs : List AV) : Prop where
  lies : ∃ k z c e, φ b = some (k, 0, z) ∧ w.heap[k]? = some (.cells c e (0, 0)) ∧ c.size = z ∧ cs.length ≤ z ∧ CellsAt φ cs c 0 ∧ ∀ b' i' z', φ b' = some (k, i', z') → b' = b

/-- A block that was made, seen in the heap behind its making. -/
theorem HRel.add {φ : Emb} {h : AHeap} {w : World} {cs : List AV} (ho : Own φ w h.next cs) (r : HRel φ h w) : HRel φ (h.alloc cs) w := by
  obtain ⟨k, z, c, e, hφ, hk, hz, hlen, hc, hown⟩ := ho.lies
  have hcase : ∀ b, b = h.next ∨ (b ≠ h.next ∧ ∀ k' i z', φ b = some (k', i, z') → k' ≠ k) := by
    intro b
    by_cases hb : b = h.next
    · exact .inl hb
    · refine .inr ⟨hb, ?_⟩
      rintro k' i z' h1 rfl
      exact hb (hown b i z' h1)
  refine ⟨?_, ?_, ?_, ?_, ?_, ?_, ?_, ?_⟩
  · intro g hg; exact r.glob g hg
  · intro b k' i z' hb
    rcases hcase b with rfl | ⟨hne, _⟩
    · rw [hφ] at hb; cases hb; exact (Array.getElem?_eq_some_iff.1 hk).1
    · exact r.lt b k' i z' hb
  · intro b k' i z' B hb hB hv
    rw [AHeap.get_alloc] at hB
    rcases hcase b with rfl | ⟨hne, _⟩
    · rw [if_pos rfl] at hB; cases hB
      rw [hφ] at hb; cases hb
      exact ⟨c, e, hk, hz, hc⟩
    · rw [if_neg hne] at hB
      rw [AHeap.valid_alloc_old h cs (AHeap.get_lt hB) r] at hv
      exact r.blk b k' i z' B hb hB hv
  · intro b k' i z' F p cs' hb hB
    rw [AHeap.get_alloc] at hB
    rcases hcase b with rfl | ⟨hne, _⟩
    · rw [if_pos rfl] at hB; cases hB
      rw [hφ] at hb; cases hb
      exact ⟨c, e, hk, hz, by omega⟩
    · rw [if_neg hne] at hB; exact r.arr b k' i z' F p cs' hb hB
  · intro b b' k' i i' z1 z2 F F' p p' cs1 cs2 h1 h2 h3 h4
    rw [AHeap.get_alloc] at h3 h4
    rcases hcase b with rfl | ⟨hne, hk1⟩ <;> rcases hcase b' with rfl | ⟨hne', hk2⟩
    · rw [if_pos rfl] at h3 h4; cases h3; cases h4; rw [h1] at h2; cases h2; exact ⟨rfl, rfl⟩
    · rw [hφ] at h1; cases h1; exact absurd rfl (hk2 _ _ _ h2)
    · rw [hφ] at h2; cases h2; exact absurd rfl (hk1 _ _ _ h1)
    · rw [if_neg hne] at h3; rw [if_neg hne'] at h4
      exact r.one b b' k' i i' z1 z2 F F' p p' cs1 cs2 h1 h2 h3 h4
  · intro b b' k' i i' z1 z2 F p p' cs1 cs2 h1 h2 h3 h4
    rw [AHeap.get_alloc] at h3 h4
    rcases hcase b with rfl | ⟨hne, hk1⟩ <;> rcases hcase b' with rfl | ⟨hne', hk2⟩
    · rw [if_pos rfl] at h4; cases h4
    · rw [hφ] at h1; cases h1; exact absurd rfl (hk2 _ _ _ h2)
    · rw [if_pos rfl] at h4; cases h4
    · rw [if_neg hne] at h3; rw [if_neg hne'] at h4
      exact r.sep b b' k' i i' z1 z2 F p p' cs1 cs2 h1 h2 h3 h4
  · intro b b' k' i i' z1 z2 es B h1 h2 h3 h4
    rw [AHeap.get_alloc] at h3 h4
    rcases hcase b with rfl | ⟨hne, hk1⟩ <;> rcases hcase b' with rfl | ⟨hne', hk2⟩
    · rfl
    · rw [if_pos rfl] at h3; cases h3
    · rw [hφ] at h2; cases h2; exact absurd rfl (hk1 _ _ _ h1)
    · rw [if_neg hne] at h3; rw [if_neg hne'] at h4
      exact r.map b b' k' i i' z1 z2 es B h1 h2 h3 h4
  · intro b F p cs' hg
    rw [AHeap.get_alloc] at hg
    rw [AHeap.fam_alloc]
    split at hg
    · cases hg; exact ⟨_, if_pos rfl, by simp⟩
    · obtain ⟨f, hf, hl⟩ := r.ext b F p cs' hg
      have := AHeap.fam_lt hf
      exact ⟨f, by rw [if_neg (by omega)]; exact hf, hl⟩

theorem HExt.alloc {φ : Emb} {h : AHeap} {w : World} (r : HRel φ h w) (cs : List AV) : HExt h (h.alloc cs) :=
  ⟨by rw [AHeap.next_alloc]; omega, fun b hb => by rw [AHeap.get_alloc, if_neg (by omega)], fun _ hb => AHeap.valid_alloc_old h cs hb r⟩

theorem HExt.alloc' {h : AHeap} (wf : WFH h) (cs : List AV) : HExt h (h.alloc cs) := by
  refine ⟨by rw [AHeap.next_alloc]; omega, fun b hb => by rw [AHeap.get_alloc, if_neg (by omega)], ?_⟩
  intro b hb
  simp only [AHeap.valid, AHeap.get_alloc, if_neg (show ¬ b = h.next by omega)]
  cases hg : h.get b with
  | none => rfl
  | some B =>
    cases B with
    | map es => rfl
    | cells F p cs' =>
      cases F with
      | none => rfl
      | some F =>
        obtain ⟨f, hf, _⟩ := wf b F p cs' hg
        have := AHeap.fam_lt hf
        simp only [AHeap.fam_alloc, if_neg (show ¬ F = h.nfam by omega)]

/-- A new array for a block that the heap has or has not yet. -/
theorem HRel.define {φ : Emb} {h : AHeap} {w : World} {b : Nat} {cs : List AV} {c : Array Value} {e : TypeId} (r : HRel φ h w) (hφ : φ b = none)
    (hget : h.next ≤ b ∨ ∃ F, h.get b = some (.cells (some F) 0 cs)) (hlen : cs.length ≤ c.size) (hc : CellsAt φ cs c 0) :
    HRel (φ.upd b (w.heap.size, 0, c.size)) h (w.alloc (.cells c e)) := by
  have hle := Emb.le_upd (φ := φ) (w.heap.size, 0, c.size) hφ
  have hold : ∀ k, k < w.heap.size → (w.alloc (.cells c e)).heap[k]? = w.heap[k]? := fun k hk => heap_alloc_old w _ hk
  have hnew : (w.alloc (.cells c e)).heap[w.heap.size]? = some (.cells c e (0, 0)) := heap_alloc_new w _
  have hcase : ∀ b' k i z, φ.upd b (w.heap.size, 0, c.size) b' = some (k, i, z) → (b' = b ∧ k = w.heap.size ∧ i = 0 ∧ z = c.size) ∨ (b' ≠ b ∧ φ b' = some (k, i, z)) := by
    intro b' k i z hb
    by_cases hbn : b' = b
    · subst hbn; rw [Emb.upd_same] at hb; cases hb; exact .inl ⟨rfl, rfl, rfl, rfl⟩
    · rw [Emb.upd_other φ _ hbn] at hb; exact .inr ⟨hbn, hb⟩
  have hthe : ∀ B, h.get b = some B → ∃ F, B = .cells (some F) 0 cs := by
    intro B hB
    rcases hget with hg | ⟨F, hg⟩
    · have := AHeap.get_lt hB; omega
    · rw [hB] at hg; cases hg; exact ⟨F, rfl⟩
  refine ⟨?_, ?_, ?_, ?_, ?_, ?_, ?_, r.ext⟩
  · intro g hg
    obtain ⟨z, hz⟩ := r.glob g hg
    exact ⟨z, hle _ _ hz⟩
  · intro b' k i z hb
    simp only [World.size_alloc]
    rcases hcase b' k i z hb with ⟨_, rfl, _⟩ | ⟨hne, hb'⟩
    · omega
    · have := r.lt b' k i z hb'; omega
  · intro b' k i z B hb hg hv
    rcases hcase b' k i z hb with ⟨rfl, rfl, rfl, rfl⟩ | ⟨hne, hb'⟩
    · obtain ⟨F, rfl⟩ := hthe B hg
      exact ⟨c, e, hnew, rfl, fun j x hx => let ⟨v, h1, h2⟩ := hc j x hx; ⟨v, h1, h2.mono hle⟩⟩
    · exact ((r.blk b' k i z B hb' hg hv).world (hold k (r.lt b' k i z hb'))).mono hle
  · intro b' k i z F p cs' hb hg
    rcases hcase b' k i z hb with ⟨rfl, rfl, rfl, rfl⟩ | ⟨hne, hb'⟩
    · obtain ⟨F', hF⟩ := hthe _ hg
      cases hF
      exact ⟨c, e, hnew, rfl, by omega⟩
    · obtain ⟨c', e', h1, h2⟩ := r.arr b' k i z F p cs' hb' hg
      exact ⟨c', e', (hold k (r.lt b' k i z hb')).trans h1, h2⟩
  · intro b1 b2 k i1 i2 z1 z2 F1 F2 p1 p2 cs1 cs2 q1 q2 g1 g2
    rcases hcase b1 k i1 z1 q1 with ⟨rfl, rfl, rfl, rfl⟩ | ⟨hne, h1⟩ <;> rcases hcase b2 _ i2 z2 q2 with ⟨rfl, hk, rfl, rfl⟩ | ⟨hne', h1'⟩
    · rw [g1] at g2; cases g2; exact ⟨rfl, rfl⟩
    · have := r.lt b2 _ i2 z2 h1'; omega
    · have := r.lt b1 _ i1 z1 h1; omega
    · exact r.one b1 b2 k i1 i2 z1 z2 F1 F2 p1 p2 cs1 cs2 h1 h1' g1 g2
  · intro b1 b2 k i1 i2 z1 z2 F1 p1 p2 cs1 cs2 q1 q2 g1 g2
    rcases hcase b1 k i1 z1 q1 with ⟨rfl, rfl, rfl, rfl⟩ | ⟨hne, h1⟩ <;> rcases hcase b2 _ i2 z2 q2 with ⟨rfl, hk, rfl, rfl⟩ | ⟨hne', h1'⟩
    · rw [g1] at g2; cases g2
    · have := r.lt b2 _ i2 z2 h1'; omega
    · have := r.lt b1 _ i1 z1 h1; omega
    · exact r.sep b1 b2 k i1 i2 z1 z2 F1 p1 p2 cs1 cs2 h1 h1' g1 g2
  · intro b1 b2 k i1 i2 z1 z2 es B q1 q2 g1 g2
    rcases hcase b1 k i1 z1 q1 with ⟨rfl, rfl, rfl, rfl⟩ | ⟨hne, h1⟩ <;> rcases hcase b2 _ i2 z2 q2 with ⟨rfl, hk, rfl, rfl⟩ | ⟨hne', h1'⟩
    · rfl
    · have := r.lt b2 _ i2 z2 h1'; omega
    · have := r.lt b1 _ i1 z1 h1; omega
    · exact r.map b1 b2 k i1 i2 z1 z2 es B h1 h1' g1 g2

/-- From a step: there is a world behind it. -/
theorem wp_some {P : Program} {o : Oper} {a : Act} {w : World} {K : Act → World → Prop} (h : o.wp P a w K (fun _ _ _ => False)) : ∃ a' w', K a' w' := by
  unfold Oper.wp Oper.upon at h
  split at h
  · exact ⟨_, _, h⟩
  · exact ⟨_, _, h⟩
  · exact ⟨_, _, h⟩
  · obtain ⟨e, w', fr, hR, _⟩ := h []
    cases e with
    | returned v => exact ⟨_, _, hR⟩
    | panicked c => exact hR.elim
    | outgrown => obtain ⟨_, _, hf⟩ := hR; exact hf.elim
  · obtain ⟨v, w', hR, _⟩ := h default []
    exact ⟨_, _, hR⟩
  · exact h.elim
  · exact h.elim

end Go.Am
