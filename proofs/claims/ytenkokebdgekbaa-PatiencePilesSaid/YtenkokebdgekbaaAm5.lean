/-
  The abstract machine: how a step changes heap and world; new blocks, stores, appends.
  Conditions: none.
-/
import Derived.Test.YtenkokebdgekbaaAm4
namespace Go.Am

theorem push_get {α : Type} (l : List α) (x : α) (b : Nat) : (l ++ [x])[b]? = if b = l.length then some x else l[b]? := by
  rw [List.getElem?_append]
  split
  · rw [if_neg (by omega)]
  · split
    · rename_i he; subst he; simp
    · rw [List.getElem?_eq_none (by simp; omega), List.getElem?_eq_none (by omega)]
theorem set_get {α : Type} (l : List α) (x : α) (b c : Nat) : (l.set b x)[c]? = if c = b ∧ b < l.length then some x else l[c]? := by
  rw [List.getElem?_set]
  by_cases hbc : b = c
  · subst hbc
    by_cases hl : b < l.length
    · simp [hl]
    · simp [hl]
  · rw [if_neg hbc, if_neg (by omega)]

theorem AHeap.get_lt {h : AHeap} {b : Nat} {B : Blk} (hb : h.get b = some B) : b < h.next := (List.getElem?_eq_some_iff.1 hb).1
theorem AHeap.get_some {h : AHeap} {b : Nat} (hb : b < h.next) : ∃ B, h.get b = some B := ⟨_, List.getElem?_eq_getElem hb⟩
theorem AHeap.next_push (h : AHeap) (B : Blk) : (h.push B).next = h.next + 1 := by simp [AHeap.next, AHeap.push]
theorem AHeap.next_set (h : AHeap) (b : Nat) (B : Blk) : (h.set b B).next = h.next := by simp [AHeap.next, AHeap.set]
theorem AHeap.next_pushFam (h : AHeap) (f : Fam) : (h.pushFam f).next = h.next := rfl
theorem AHeap.next_setFam (h : AHeap) (F : Nat) (f : Fam) : (h.setFam F f).next = h.next := rfl
theorem AHeap.get_push (h : AHeap) (B : Blk) (b : Nat) : (h.push B).get b = if b = h.next then some B else h.get b := push_get h.blks B b
theorem AHeap.get_set (h : AHeap) (b : Nat) (B : Blk) (c : Nat) : (h.set b B).get c = if c = b ∧ b < h.next then some B else h.get c := set_get h.blks B b c
theorem AHeap.get_pushFam (h : AHeap) (f : Fam) (b : Nat) : (h.pushFam f).get b = h.get b := rfl
theorem AHeap.get_setFam (h : AHeap) (F : Nat) (f : Fam) (b : Nat) : (h.setFam F f).get b = h.get b := rfl
theorem AHeap.fam_push (h : AHeap) (B : Blk) (F : Nat) : (h.push B).fam F = h.fam F := rfl
theorem AHeap.fam_set (h : AHeap) (b : Nat) (B : Blk) (F : Nat) : (h.set b B).fam F = h.fam F := rfl
theorem AHeap.fam_pushFam (h : AHeap) (f : Fam) (F : Nat) : (h.pushFam f).fam F = if F = h.nfam then some f else h.fam F := push_get h.fams f F
theorem AHeap.fam_setFam (h : AHeap) (F : Nat) (f : Fam) (G : Nat) : (h.setFam F f).fam G = if G = F ∧ F < h.nfam then some f else h.fam G := set_get h.fams f F G
theorem AHeap.fam_lt {h : AHeap} {F : Nat} {f : Fam} (hf : h.fam F = some f) : F < h.nfam := (List.getElem?_eq_some_iff.1 hf).1

/-- The shape of a block: what no step changes. -/
def Blk.shape : Blk → Option (Option Nat × Nat × Nat)
  | .cells F p cs => some (F, p, cs.length)
  | .map _ => none

/-- One heap behind another: blocks stay what they are. -/
structure HGrow (h h' : AHeap) : Prop where
  next : h.next ≤ h'.next
  nfam : h.nfam ≤ h'.nfam
  globs : h'.globs = h.globs
  shape : ∀ b, b < h.next → (h'.get b).map Blk.shape = (h.get b).map Blk.shape

theorem HGrow.refl (h : AHeap) : HGrow h h := ⟨Nat.le_refl _, Nat.le_refl _, rfl, fun _ _ => rfl⟩
theorem HGrow.trans {a b c : AHeap} (h : HGrow a b) (k : HGrow b c) : HGrow a c :=
  ⟨Nat.le_trans h.next k.next, Nat.le_trans h.nfam k.nfam, k.globs.trans h.globs, fun x hx => (k.shape x (Nat.lt_of_lt_of_le hx h.next)).trans (h.shape x hx)⟩

theorem HGrow.cells {h h' : AHeap} (g : HGrow h h') {b : Nat} {F : Option Nat} {p : Nat} {cs : List AV} (hb : h.get b = some (.cells F p cs)) : ∃ cs', h'.get b = some (.cells F p cs') ∧ cs'.length = cs.length := by
  have := g.shape b (AHeap.get_lt hb)
  rw [hb] at this
  cases hh : h'.get b with
  | none => rw [hh] at this; cases this
  | some B =>
    rw [hh] at this
    cases B with
    | cells F' p' cs' => simp [Blk.shape] at this; obtain ⟨rfl, rfl, hl⟩ := this; exact ⟨cs', rfl, hl⟩
    | map es => simp [Blk.shape] at this
theorem HGrow.back {h h' : AHeap} (g : HGrow h h') {b : Nat} (hlt : b < h.next) {F : Option Nat} {p : Nat} {cs : List AV} (hb : h'.get b = some (.cells F p cs)) : ∃ cs', h.get b = some (.cells F p cs') ∧ cs'.length = cs.length := by
  have := g.shape b hlt
  rw [hb] at this
  obtain ⟨B, hB⟩ := AHeap.get_some hlt
  rw [hB] at this
  cases B with
  | cells F' p' cs' => simp [Blk.shape] at this; obtain ⟨rfl, rfl, hl⟩ := this; exact ⟨cs', hB, hl.symm⟩
  | map es => simp [Blk.shape] at this
theorem HGrow.backMap {h h' : AHeap} (g : HGrow h h') {b : Nat} (hlt : b < h.next) {es : List (AV × AV)} (hb : h'.get b = some (.map es)) : ∃ es', h.get b = some (.map es') := by
  have := g.shape b hlt
  rw [hb] at this
  obtain ⟨B, hB⟩ := AHeap.get_some hlt
  rw [hB] at this
  cases B with
  | cells F' p' cs' => simp [Blk.shape] at this
  | map es' => exact ⟨es', hB⟩

/-- The numbers of the new blocks are free. -/
def Fresh (φ : Emb) (h h' : AHeap) : Prop := ∀ b, h.next ≤ b → b < h'.next → φ b = none

/-- A step from one heap and world to others. -/
structure Trans (φ : Emb) (h : AHeap) (w : World) (φ' : Emb) (h' : AHeap) (w' : World) : Prop where
  le : φ.le φ'
  dom : ∀ b, h.next ≤ b → b < h'.next → ∃ p, φ' b = some p
  new : ∀ b p, φ b = none → φ' b = some p → h.next ≤ b ∧ b < h'.next
  img : ∀ b k i z, φ b = none → φ' b = some (k, i, z) → w.heap.size ≤ k ∨ ∃ b0 i0 z0 F p cs, φ b0 = some (k, i0, z0) ∧ h.get b0 = some (.cells (some F) p cs)
  frame : ∀ k, k < w.heap.size → ¬ h.mut φ k → w'.heap[k]? = w.heap[k]?
  os : w'.os = w.os
  tape : w'.tape = w.tape
  output : w'.output = w.output
  size : w.heap.size ≤ w'.heap.size

theorem Trans.refl (φ : Emb) (h : AHeap) (w : World) : Trans φ h w φ h w :=
  ⟨Emb.le_refl φ, fun b h1 h2 => by omega, fun b p h1 h2 => (by rw [h1] at h2; cases h2), fun b k i z h1 h2 => (by rw [h1] at h2; cases h2), fun _ _ _ => rfl, rfl, rfl, rfl, Nat.le_refl _⟩

/-- A draw changes nothing. -/
theorem Trans.drew {φ φ' : Emb} {h h' : AHeap} {w w' : World} (t : Trans φ h w.drew φ' h' w') : Trans φ h w φ' h' w' :=
  ⟨t.le, t.dom, t.new, t.img, t.frame, t.os, t.tape, t.output, t.size⟩

theorem Trans.trans {φ φ' φ'' : Emb} {h h' h'' : AHeap} {w w' w'' : World} (hf : Fresh φ h h'') (g : HGrow h h') (g' : HGrow h' h'') (t : Trans φ h w φ' h' w') (t' : Trans φ' h' w' φ'' h'' w'') : Trans φ h w φ'' h'' w'' := by
  have hmut : ∀ k, k < w.heap.size → h'.mut φ' k → h.mut φ k := by
    rintro k hk ⟨b, i, z, hb, hm⟩
    cases hφ : φ b with
    | none =>
      obtain ⟨h1, h2⟩ := t.new b _ hφ hb
      rcases t.img b k i z hφ hb with h3 | ⟨b0, i0, z0, F, p, cs, h3, h4⟩
      · omega
      · exact ⟨b0, i0, z0, h3, .inl ⟨F, p, cs, h4⟩⟩
    | some q =>
      have := t.le b q hφ
      rw [hb] at this
      cases this
      have hlt : b < h.next := by
        apply Nat.lt_of_not_le
        intro hle
        have hb' : b < h'.next := by
          rcases hm with ⟨F, p, cs, h4⟩ | ⟨es, h4⟩ <;> exact AHeap.get_lt h4
        have := hf b hle (Nat.lt_of_lt_of_le hb' g'.next)
        rw [hφ] at this; cases this
      rcases hm with ⟨F, p, cs, h4⟩ | ⟨es, h4⟩
      · obtain ⟨cs', h5, _⟩ := g.back hlt h4
        exact ⟨b, i, z, hφ, .inl ⟨F, p, cs', h5⟩⟩
      · obtain ⟨es', h5⟩ := g.backMap hlt h4
        exact ⟨b, i, z, hφ, .inr ⟨es', h5⟩⟩
  refine ⟨Emb.le_trans t.le t'.le, ?_, ?_, ?_, ?_, t'.os.trans t.os, t'.tape.trans t.tape, t'.output.trans t.output, Nat.le_trans t.size t'.size⟩
  · intro b h1 h2
    by_cases h3 : b < h'.next
    · obtain ⟨p, hp⟩ := t.dom b h1 h3
      exact ⟨p, t'.le b p hp⟩
    · exact t'.dom b (by omega) h2
  · intro b p h1 h2
    cases hφ : φ' b with
    | none =>
      have := t'.new b p hφ h2
      exact ⟨Nat.le_trans g.next this.1, this.2⟩
    | some q =>
      have := t.new b q h1 hφ
      exact ⟨this.1, Nat.lt_of_lt_of_le this.2 g'.next⟩
  · intro b k i z h1 h2
    cases hφ : φ' b with
    | none =>
      rcases t'.img b k i z hφ h2 with h3 | ⟨b0, i0, z0, F, p, cs, h3, h4⟩
      · exact .inl (Nat.le_trans t.size h3)
      · by_cases hk : w.heap.size ≤ k
        · exact .inl hk
        · refine .inr ?_
          cases hφ0 : φ b0 with
          | none =>
            rcases t.img b0 k i0 z0 hφ0 h3 with h5 | h5
            · omega
            · exact h5
          | some q =>
            have := t.le b0 q hφ0
            rw [h3] at this
            cases this
            have hlt : b0 < h.next := by
              apply Nat.lt_of_not_le
              intro hle
              have := hf b0 hle (Nat.lt_of_lt_of_le (AHeap.get_lt h4) g'.next)
              rw [hφ0] at this; cases this
            obtain ⟨cs', h5, _⟩ := g.back hlt h4
            exact ⟨b0, i0, z0, F, p, cs', hφ0, h5⟩
    | some q =>
      have := t'.le b q hφ
      rw [h2] at this
      cases this
      exact t.img b k i z h1 hφ
  · intro k hk hm
    rw [t'.frame k (Nat.lt_of_lt_of_le hk t.size) (fun hm' => hm (hmut k hk hm'))]
    exact t.frame k hk hm

/-- A relation that holds of one heap holds behind changes to model blocks that it does not speak of. -/
theorem BRel.world {φ : Emb} {w w' : World} {k i z : Nat} {B : Blk} (h : BRel φ w k i z B) (hk : w'.heap[k]? = w.heap[k]?) : BRel φ w' k i z B := by
  cases B with
  | cells F p cs =>
    cases F with
    | none =>
      intro j x hx
      obtain ⟨v, hv, hr⟩ := h j x hx
      exact ⟨v, by rw [World.cell?_of_block (w := w) hk]; exact hv, hr⟩
    | some F =>
      obtain ⟨c, e, h1, h2⟩ := h
      exact ⟨c, e, hk.trans h1, h2⟩
  | map es =>
    obtain ⟨ms, cl, h1, h2⟩ := h
    exact ⟨ms, cl, hk.trans h1, h2⟩

theorem BRel.mono {φ φ' : Emb} (hle : φ.le φ') {w : World} {k i z : Nat} {B : Blk} (h : BRel φ w k i z B) : BRel φ' w k i z B := by
  cases B with
  | cells F p cs =>
    cases F with
    | none => exact fun j x hx => let ⟨v, hv, hr⟩ := h j x hx; ⟨v, hv, hr.mono hle⟩
    | some F => exact let ⟨c, e, h1, h2, h3⟩ := h; ⟨c, e, h1, h2, fun j x hx => let ⟨v, hv, hr⟩ := h3 j x hx; ⟨v, hv, hr.mono hle⟩⟩
  | map es => exact let ⟨ms, cl, h1, h2, h3⟩ := h; ⟨ms, cl, h1, h2, fun j x m hx hm => ⟨(h3 j x m hx hm).1.mono hle, (h3 j x m hx hm).2.mono hle⟩⟩

theorem HRel.drew {φ : Emb} {h : AHeap} {w : World} (r : HRel φ h w) : HRel φ h w.drew :=
  ⟨r.glob, r.lt, fun b k i z B h1 h2 h3 => (r.blk b k i z B h1 h2 h3).world rfl, r.arr, r.one, r.sep, r.map, r.ext⟩

def Emb.upd (φ : Emb) (b : Nat) (p : Nat × Nat × Nat) : Emb := fun b' => if b' = b then some p else φ b'
theorem Emb.upd_same (φ : Emb) (b : Nat) (p : Nat × Nat × Nat) : φ.upd b p b = some p := by simp [Emb.upd]
theorem Emb.upd_other (φ : Emb) {b b' : Nat} (p : Nat × Nat × Nat) (h : b' ≠ b) : φ.upd b p b' = φ b' := by simp [Emb.upd, h]
theorem Emb.le_upd {φ : Emb} {b : Nat} (p : Nat × Nat × Nat) (h : φ b = none) : φ.le (φ.upd b p) := by
  intro b' q hq
  by_cases hb : b' = b
  · subst hb; rw [h] at hq; cases hq
  · rw [Emb.upd_other φ p hb]; exact hq

theorem AHeap.next_alloc (h : AHeap) (cs : List AV) : (h.alloc cs).next = h.next + 1 := by simp [AHeap.alloc, AHeap.next_pushFam, AHeap.next_push]
theorem AHeap.nfam_alloc (h : AHeap) (cs : List AV) : (h.alloc cs).nfam = h.nfam + 1 := by simp [AHeap.alloc, AHeap.nfam, AHeap.pushFam, AHeap.push]
theorem AHeap.get_alloc (h : AHeap) (cs : List AV) (b : Nat) : (h.alloc cs).get b = if b = h.next then some (.cells (some h.nfam) 0 cs) else h.get b := by
  simp [AHeap.alloc, AHeap.get_pushFam, AHeap.get_push]
theorem AHeap.fam_alloc (h : AHeap) (cs : List AV) (F : Nat) : (h.alloc cs).fam F = if F = h.nfam then some ⟨cs.length, none⟩ else h.fam F := by
  have : (h.push (.cells (some h.nfam) 0 cs)).nfam = h.nfam := rfl
  simp [AHeap.alloc, AHeap.fam_pushFam, AHeap.fam_push, this]
theorem HGrow.alloc (h : AHeap) (cs : List AV) : HGrow h (h.alloc cs) :=
  ⟨by rw [AHeap.next_alloc]; omega, by rw [AHeap.nfam_alloc]; omega, rfl, fun b hb => by rw [AHeap.get_alloc, if_neg (by omega)]⟩

theorem AHeap.valid_alloc_old (h : AHeap) (cs : List AV) {b : Nat} (hb : b < h.next) {φ : Emb} {w : World} (r : HRel φ h w) : (h.alloc cs).valid b = h.valid b := by
  simp only [AHeap.valid, AHeap.get_alloc, if_neg (show ¬ b = h.next by omega)]
  cases hg : h.get b with
  | none => rfl
  | some B =>
    cases B with
    | map es => rfl
    | cells F p cs' =>
      cases F with
      | none => rfl
      | some F =>
        obtain ⟨f, hf, _⟩ := r.ext b F p cs' hg
        have := AHeap.fam_lt hf
        simp only [AHeap.fam_alloc, if_neg (show ¬ F = h.nfam by omega)]

/-- A new block. -/
theorem HRel.alloc {φ : Emb} {h : AHeap} {w : World} (r : HRel φ h w) (hφ : φ h.next = none) (cs : List AV) (c : Array Value) (e : TypeId) (hlen : cs.length ≤ c.size) (hc : CellsAt φ cs c 0) :
    HRel (φ.upd h.next (w.heap.size, 0, c.size)) (h.alloc cs) (w.alloc (.cells c e)) ∧ Trans φ h w (φ.upd h.next (w.heap.size, 0, c.size)) (h.alloc cs) (w.alloc (.cells c e)) := by
  have hle := Emb.le_upd (φ := φ) (w.heap.size, 0, c.size) hφ
  have hold : ∀ k, k < w.heap.size → (w.alloc (.cells c e)).heap[k]? = w.heap[k]? := fun k hk => heap_alloc_old w _ hk
  have hnew : (w.alloc (.cells c e)).heap[w.heap.size]? = some (.cells c e (0, 0)) := heap_alloc_new w _
  have hcase : ∀ b k i z, φ.upd h.next (w.heap.size, 0, c.size) b = some (k, i, z) → (b = h.next ∧ k = w.heap.size ∧ i = 0 ∧ z = c.size) ∨ (b ≠ h.next ∧ φ b = some (k, i, z)) := by
    intro b k i z hb
    by_cases hbn : b = h.next
    · subst hbn; rw [Emb.upd_same] at hb; cases hb; exact .inl ⟨rfl, rfl, rfl, rfl⟩
    · rw [Emb.upd_other φ _ hbn] at hb; exact .inr ⟨hbn, hb⟩
  refine ⟨⟨?_, ?_, ?_, ?_, ?_, ?_, ?_, ?_⟩, hle, ?_, ?_, ?_, ?_, rfl, rfl, rfl, by simp⟩
  · intro g hg
    obtain ⟨z, hz⟩ := r.glob g hg
    exact ⟨z, hle _ _ hz⟩
  · intro b k i z hb
    simp only [World.size_alloc]
    rcases hcase b k i z hb with ⟨_, rfl, _⟩ | ⟨hne, hb'⟩
    · omega
    · have := r.lt b k i z hb'; omega
  · intro b k i z B hb hg hv
    rcases hcase b k i z hb with ⟨rfl, rfl, rfl, rfl⟩ | ⟨hne, hb'⟩
    · rw [AHeap.get_alloc, if_pos rfl] at hg
      cases hg
      exact ⟨c, e, hnew, rfl, fun j x hx => let ⟨v, h1, h2⟩ := hc j x hx; ⟨v, h1, h2.mono hle⟩⟩
    · rw [AHeap.get_alloc, if_neg hne] at hg
      rw [AHeap.valid_alloc_old h cs (AHeap.get_lt hg) r] at hv
      exact ((r.blk b k i z B hb' hg hv).world (hold k (r.lt b k i z hb'))).mono hle
  · intro b k i z F p cs' hb hg
    rcases hcase b k i z hb with ⟨rfl, rfl, rfl, rfl⟩ | ⟨hne, hb'⟩
    · rw [AHeap.get_alloc, if_pos rfl] at hg
      cases hg
      exact ⟨c, e, hnew, rfl, by omega⟩
    · rw [AHeap.get_alloc, if_neg hne] at hg
      obtain ⟨c', e', h1, h2⟩ := r.arr b k i z F p cs' hb' hg
      exact ⟨c', e', (hold k (r.lt b k i z hb')).trans h1, h2⟩
  · intro b b' k i i' z z' F F' p p' cs1 cs2 hb hb' hg hg'
    rcases hcase b k i z hb with ⟨rfl, rfl, rfl, rfl⟩ | ⟨hne, h1⟩ <;> rcases hcase b' _ i' z' hb' with ⟨rfl, hk, rfl, rfl⟩ | ⟨hne', h1'⟩
    · rw [hg] at hg'; cases hg'; exact ⟨rfl, rfl⟩
    · rw [AHeap.get_alloc, if_neg hne'] at hg'
      have := r.lt b' _ i' z' h1'; omega
    · rw [AHeap.get_alloc, if_neg hne] at hg
      have := r.lt b _ i z h1; omega
    · rw [AHeap.get_alloc, if_neg hne] at hg
      rw [AHeap.get_alloc, if_neg hne'] at hg'
      exact r.one b b' k i i' z z' F F' p p' cs1 cs2 h1 h1' hg hg'
  · intro b b' k i i' z z' F p p' cs1 cs2 hb hb' hg hg'
    rcases hcase b k i z hb with ⟨rfl, rfl, rfl, rfl⟩ | ⟨hne, h1⟩ <;> rcases hcase b' _ i' z' hb' with ⟨rfl, hk, rfl, rfl⟩ | ⟨hne', h1'⟩
    · rw [hg] at hg'; cases hg'
    · rw [AHeap.get_alloc, if_neg hne'] at hg'
      have := r.lt b' _ i' z' h1'; omega
    · rw [AHeap.get_alloc, if_pos rfl] at hg'; cases hg'
    · rw [AHeap.get_alloc, if_neg hne] at hg
      rw [AHeap.get_alloc, if_neg hne'] at hg'
      exact r.sep b b' k i i' z z' F p p' cs1 cs2 h1 h1' hg hg'
  · intro b b' k i i' z z' es B hb hb' hg hg'
    rcases hcase b k i z hb with ⟨rfl, rfl, rfl, rfl⟩ | ⟨hne, h1⟩ <;> rcases hcase b' _ i' z' hb' with ⟨rfl, hk, rfl, rfl⟩ | ⟨hne', h1'⟩
    · rfl
    · rw [AHeap.get_alloc, if_pos rfl] at hg; cases hg
    · rw [AHeap.get_alloc, if_neg hne] at hg
      have := r.lt b _ i z h1; omega
    · rw [AHeap.get_alloc, if_neg hne] at hg
      rw [AHeap.get_alloc, if_neg hne'] at hg'
      exact r.map b b' k i i' z z' es B h1 h1' hg hg'
  · intro b F p cs' hg
    rw [AHeap.get_alloc] at hg
    rw [AHeap.fam_alloc]
    split at hg
    · cases hg
      exact ⟨_, if_pos rfl, by simp⟩
    · obtain ⟨f, hf, hl⟩ := r.ext b F p cs' hg
      have := AHeap.fam_lt hf
      exact ⟨f, by rw [if_neg (by omega)]; exact hf, hl⟩
  · intro b h1 h2
    rw [AHeap.next_alloc] at h2
    have : b = h.next := by omega
    subst this
    exact ⟨_, Emb.upd_same _ _ _⟩
  · intro b p h1 h2
    by_cases hbn : b = h.next
    · subst hbn; rw [AHeap.next_alloc]; omega
    · rw [Emb.upd_other φ _ hbn, h1] at h2; cases h2
  · intro b k i z h1 h2
    rcases hcase b k i z h2 with ⟨_, rfl, _⟩ | ⟨hne, hb'⟩
    · exact .inl (Nat.le_refl _)
    · rw [h1] at hb'; cases hb'
  · intro k hk _
    exact hold k hk

end Go.Am
