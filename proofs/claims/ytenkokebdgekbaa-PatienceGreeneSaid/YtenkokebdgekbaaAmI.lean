/-
  The abstract machine: what a closed call has made, laid beside any heap, to be read.
  Conditions: none.
-/
import Derived.Test.YtenkokebdgekbaaAmH
namespace Go.Am

/-- The value with other block numbers. -/
def AV.sh (d : Nat) : Nat → AV → AV
  | _, .ptr b o => .ptr (d + b) o
  | _, .slc b o n s f => .slc (d + b) o n s f
  | _, .nilp => .nilp
  | _, .nils => .nils
  | _, .nilm => .nilm
  | _, .nilf => .nilf
  | _, .bool b => .bool b
  | _, .int k n => .int k n
  | _, .str s => .str s
  | n + 1, .fn f l => .fn f (l.map (AV.sh d n))
  | n + 1, .agg l => .agg (l.map (AV.sh d n))
  | n + 1, .tup l => .tup (l.map (AV.sh d n))
  | _, _ => .bot

theorem AV.sh_rel {φ φ' : Emb} {d : Nat} (hφ : ∀ b p, φ b = some p → φ' (d + b) = some p) : ∀ (n : Nat) (x : AV) (v : Value), VRel φ x v → VRel φ' (AV.sh d n x) v := by
  have hl : ∀ (n : Nat), (∀ (x : AV) (v : Value), VRel φ x v → VRel φ' (AV.sh d n x) v) → ∀ (l : List AV) (cs : List Value), (∀ (j : Nat) (x : AV) (y : Value), l[j]? = some x → cs[j]? = some y → VRel φ x y) → ∀ (j : Nat) (x : AV) (y : Value), (l.map (AV.sh d n))[j]? = some x → cs[j]? = some y → VRel φ' x y := by
    intro n ih l cs h j x y hx hy
    rw [List.getElem?_map, Option.map_eq_some_iff] at hx
    obtain ⟨q, hq, rfl⟩ := hx
    exact ih q y (h j q y hq hy)
  intro n
  induction n with
  | zero =>
    intro x v h
    cases h <;> simp only [AV.sh] <;> first
      | exact .bot _ | exact .bool _ | exact .int _ _ | exact .str _ | exact .nilp | exact .nils | exact .nilm | exact .nilf
      | exact .ptr _ _ _ _ _ (hφ _ _ (by assumption))
      | skip
    rename_i a c hn hc hf hadr
    refine .slc _ _ _ _ _ _ _ hn hc hf ?_
    rcases hadr with h | ⟨k, i, z, h1, h2, h3⟩
    · exact .inl h
    · exact .inr ⟨k, i, z, hφ _ _ h1, h2, h3⟩
  | succ n ih =>
    intro x v h
    cases h <;> simp only [AV.sh] <;> first
      | exact .bot _ | exact .bool _ | exact .int _ _ | exact .str _ | exact .nilp | exact .nils | exact .nilm | exact .nilf
      | exact .ptr _ _ _ _ _ (hφ _ _ (by assumption))
      | skip
    · rename_i a c hn hc hf hadr
      refine .slc _ _ _ _ _ _ _ hn hc hf ?_
      rcases hadr with h | ⟨k, i, z, h1, h2, h3⟩
      · exact .inl h
      · exact .inr ⟨k, i, z, hφ _ _ h1, h2, h3⟩
    · rename_i hl' hh
      exact .fn _ _ _ (by simpa using hl') (hl n ih _ _ hh)
    · rename_i hl' hh
      exact .agg _ _ (by simpa using hl') (hl n ih _ _ hh)
    · rename_i hl' hh
      exact .tup _ _ (by simpa using hl') (hl n ih _ _ hh)

/-- A block, only to be read. -/
def frozB (h1 : AHeap) (d : Nat) (i : Nat) : Blk → Blk
  | .cells _ _ cs => if h1.valid i then .cells none 0 (cs.map (AV.sh d 4)) else .cells none 0 []
  | .obj _ _ => .cells none 0 []
def AHeap.froz (h h1 : AHeap) : AHeap := ⟨h.blks ++ h1.blks.mapIdx (frozB h1 h.next), h.fams, h.globs⟩

theorem froz_next (h h1 : AHeap) : (h.froz h1).next = h.next + h1.next := by simp [AHeap.froz, AHeap.next]
theorem froz_old (h h1 : AHeap) {b : Nat} (hb : b < h.next) : (h.froz h1).get b = h.get b := List.getElem?_append_left hb
theorem froz_new (h h1 : AHeap) (b : Nat) : (h.froz h1).get (h.next + b) = (h1.get b).map (frozB h1 h.next b) := by
  simp only [AHeap.froz, AHeap.get, AHeap.next]
  rw [List.getElem?_append_right (by omega), Nat.add_sub_cancel_left, List.getElem?_mapIdx]
theorem froz_keeps (h h1 : AHeap) : Keeps h (h.froz h1) := ⟨by rw [froz_next]; omega, Nat.le_refl _, rfl, fun b hb => froz_old h h1 hb, fun _ _ => rfl⟩
theorem froz_ro {h h1 : AHeap} {b : Nat} {B : Blk} (hb : h.next ≤ b) (hB : (h.froz h1).get b = some B) : ∃ cs, B = .cells none 0 cs := by
  obtain ⟨q, rfl⟩ : ∃ q, b = h.next + q := ⟨b - h.next, by omega⟩
  rw [froz_new, Option.map_eq_some_iff] at hB
  obtain ⟨C, _, rfl⟩ := hB
  unfold frozB
  split
  · split
    · exact ⟨_, rfl⟩
    · exact ⟨_, rfl⟩
  · exact ⟨_, rfl⟩

/-- Is the value without addresses? -/
def AV.plain : AV → Bool
  | .bool _ | .int _ _ | .str _ | .nils | .nilp | .nilm | .nilf => true
  | _ => false

theorem VRels.plain {φ φ' : Emb} {l : List AV} {cs : List Value} (hp : l.all AV.plain = true) (h : VRels φ l cs) : VRels φ' l cs := by
  refine ⟨h.1, ?_⟩
  intro j x y hx hy
  have h1 := h.2 j x y hx hy
  have h2 := List.all_eq_true.1 hp x (List.mem_of_getElem? hx)
  cases h1 <;> simp only [AV.plain, Bool.false_eq_true] at h2 <;> first | exact .bool _ | exact .int _ _ | exact .str _ | exact .nilp | exact .nils | exact .nilm | exact .nilf

theorem Ev.frozen {P : Program} {f : FuncId} {args : List AV} {r : AV} {h1 : AHeap} (he : Ev P f args h00 r h1) (hp : args.all AV.plain = true) (h : AHeap) : Ev P f args h (AV.sh h.next 4 r) (h.froz h1) := by
  refine ⟨he.1, ⟨(froz_keeps h h1).next, Nat.le_refl _, rfl, fun b hb => by rw [froz_old h h1 hb]⟩, ?_⟩
  intro φ w cs hfr rr ha
  refine (he.2.2 φ00 w cs (fun _ _ _ => rfl) (HRel.empty w) (ha.plain hp)).mono ?_
  rintro e w' ⟨v, φ', rfl, t, r', hv⟩
  have bel := t.below
  have hk : ∀ k, k < w.heap.size → w'.heap[k]? = w.heap[k]? := fun k hk => bel.block k hk
  have himg : ∀ b k i z, φ' b = some (k, i, z) → w.heap.size ≤ k := by
    intro b k i z hb
    rcases t.img b k i z rfl hb with h2 | ⟨_, _, _, _, _, _, h2, _⟩
    · exact h2
    · cases h2
  have hdom : ∀ b p, φ' b = some p → b < h1.next := fun b p hb => (t.new b p rfl hb).2
  let ψ : Emb := fun b => if h.next ≤ b ∧ b < h.next + h1.next then φ' (b - h.next) else φ b
  have hψ : ∀ b p, ψ b = some p → (h.next ≤ b ∧ φ' (b - h.next) = some p) ∨ (¬ (h.next ≤ b ∧ b < h.next + h1.next) ∧ φ b = some p) := by
    intro b p hb
    by_cases hc : h.next ≤ b ∧ b < h.next + h1.next
    · simp only [ψ, if_pos hc] at hb; exact .inl ⟨hc.1, hb⟩
    · simp only [ψ, if_neg hc] at hb; exact .inr ⟨hc, hb⟩
  have hnew : ∀ b p, φ' b = some p → ψ (h.next + b) = some p := by
    intro b p hb
    have := hdom b p hb
    simp only [ψ]
    rw [if_pos ⟨by omega, by omega⟩, Nat.add_sub_cancel_left]; exact hb
  have hle : φ.le ψ := by
    intro b p hb
    have : ¬ (h.next ≤ b ∧ b < h.next + h1.next) := by
      rintro ⟨c1, c2⟩
      have := hfr b c1 (by rw [froz_next]; exact c2)
      rw [hb] at this; cases this
    simp only [ψ, if_neg this]; exact hb
  have hold : ∀ b B, ¬ (h.next ≤ b ∧ b < h.next + h1.next) → (h.froz h1).get b = some B → b < h.next ∧ h.get b = some B := by
    intro b B hc hB
    have h2 := AHeap.get_lt hB
    rw [froz_next] at h2
    have h3 : b < h.next := by omega
    rw [froz_old h h1 h3] at hB
    exact ⟨h3, hB⟩
  have hfm : ∀ b F p cs', (h.froz h1).get b = some (.cells (some F) p cs') → b < h.next ∧ h.get b = some (.cells (some F) p cs') := by
    intro b F p cs' hB
    by_cases hb : b < h.next
    · rw [froz_old h h1 hb] at hB; exact ⟨hb, hB⟩
    · obtain ⟨_, h2⟩ := froz_ro (by omega) hB
      cases h2
  have hom : ∀ b F x, (h.froz h1).get b = some (.obj F x) → b < h.next ∧ h.get b = some (.obj F x) := by
    intro b F x hB
    by_cases hb : b < h.next
    · rw [froz_old h h1 hb] at hB; exact ⟨hb, hB⟩
    · obtain ⟨_, h2⟩ := froz_ro (by omega) hB
      cases h2
  have hψold : ∀ b p, b < h.next → ψ b = some p → φ b = some p := by
    intro b p hb h2
    rcases hψ b p h2 with ⟨h3, _⟩ | ⟨_, h3⟩
    · omega
    · exact h3
  refine ⟨v, ψ, rfl, ⟨hle, ?_, ?_, ?_, fun k hk' _ => hk k hk', bel.os, bel.tape, bel.output, bel.size⟩, ?_, AV.sh_rel hnew 4 r v hv⟩
  · intro b h2 h3
    rw [froz_next] at h3
    obtain ⟨p, hp⟩ := t.dom (b - h.next) (Nat.zero_le _) (by omega)
    refine ⟨p, ?_⟩
    have := hnew _ _ hp
    rwa [show h.next + (b - h.next) = b by omega] at this
  · intro b p h2 h3
    rw [froz_next]
    rcases hψ b p h3 with ⟨h4, h5⟩ | ⟨_, h4⟩
    · have := hdom _ _ h5; omega
    · rw [h2] at h4; cases h4
  · intro b k i z h2 h3
    rcases hψ b _ h3 with ⟨h4, h5⟩ | ⟨_, h4⟩
    · exact .inl (himg _ _ _ _ h5)
    · rw [h2] at h4; cases h4
  refine ⟨?_, ?_, ?_, ?_, ?_, ?_, ?_, ?_⟩
  · intro g hg
    obtain ⟨z, hz⟩ := rr.glob g hg
    exact ⟨z, hle _ _ hz⟩
  · intro b k i z hb
    rcases hψ b _ hb with ⟨_, h5⟩ | ⟨_, h4⟩
    · exact r'.lt _ _ _ _ h5
    · exact Nat.lt_of_lt_of_le (rr.lt b k i z h4) bel.size
  · intro b k i z B hb hB hvd
    by_cases hlt : b < h.next
    · have hb' := hψold b _ hlt hb
      rw [froz_old h h1 hlt] at hB
      refine ((rr.blk b k i z B hb' hB ?_).world (hk k (rr.lt b k i z hb'))).mono hle
      unfold AHeap.valid at hvd ⊢
      rw [froz_old h h1 hlt] at hvd
      exact hvd
    · obtain ⟨q, rfl⟩ : ∃ q, b = h.next + q := ⟨b - h.next, by omega⟩
      rw [froz_new, Option.map_eq_some_iff] at hB
      obtain ⟨C, hC, rfl⟩ := hB
      have hbq : φ' q = some (k, i, z) := by
        rcases hψ _ _ hb with ⟨_, h5⟩ | ⟨h4, _⟩
        · rwa [Nat.add_sub_cancel_left] at h5
        · exact absurd ⟨by omega, by have := AHeap.get_lt hC; omega⟩ h4
      cases C with
      | obj F x => intro j x hx; simp at hx
      | cells F p cs' =>
        simp only [frozB]
        split
        · rename_i hval
          have hBR := r'.blk q k i z _ hbq hC hval
          intro j x hx
          rw [List.getElem?_map, Option.map_eq_some_iff] at hx
          obtain ⟨y, hy, rfl⟩ := hx
          obtain ⟨u, hu, hru⟩ := hBR.cell hy
          exact ⟨u, hu, AV.sh_rel hnew 4 y u hru⟩
        · intro j x hx; simp at hx
  · intro b k i z F p cs' hb hB
    obtain ⟨hlt, hB'⟩ := hfm b F p cs' hB
    have hb' := hψold b _ hlt hb
    obtain ⟨c, e, h2, h3⟩ := rr.arr b k i z F p cs' hb' hB'
    exact ⟨c, e, (hk k (rr.lt b k i z hb')).trans h2, h3⟩
  · intro b b' k i i' z z' F F' p p' c1 c2 hb hb' hB hB'
    obtain ⟨hlt, hB⟩ := hfm b F p c1 hB
    obtain ⟨hlt', hB'⟩ := hfm b' F' p' c2 hB'
    exact rr.one b b' k i i' z z' F F' p p' c1 c2 (hψold b _ hlt hb) (hψold b' _ hlt' hb') hB hB'
  · intro b b' k i i' z z' F p p' c1 c2 hb hb' hB hB'
    obtain ⟨hlt, hB⟩ := hfm b F p c1 hB
    have hb1 := hψold b _ hlt hb
    have hk1 := rr.lt b k i z hb1
    rcases hψ b' _ hb' with ⟨_, h5⟩ | ⟨h4, h5⟩
    · have := himg _ _ _ _ h5; omega
    · obtain ⟨_, hB2⟩ := hold b' _ h4 hB'
      exact rr.sep b b' k i i' z z' F p p' c1 c2 hb1 h5 hB hB2
  · intro b b' k i i' z z' F x B hb hb' hB hB'
    obtain ⟨hlt, hB⟩ := hom b F x hB
    have hb1 := hψold b _ hlt hb
    have hk1 := rr.lt b k i z hb1
    rcases hψ b' _ hb' with ⟨_, h5⟩ | ⟨h4, h5⟩
    · have := himg _ _ _ _ h5; omega
    · obtain ⟨_, hB2⟩ := hold b' _ h4 hB'
      exact rr.map b b' k i i' z z' F x B hb1 h5 hB hB2
  · intro b F p cs' hB
    obtain ⟨hlt, hB'⟩ := hfm b F p cs' hB
    exact rr.ext b F p cs' hB'

/-- A list of tables that may be read. -/
def Mats (h : AHeap) (v : AV) (L : List (List (List Int))) : Prop := ∃ vs : List AV, Rd h v 1 vs ∧ vs.length = L.length ∧ ∀ i, i < L.length → Mat h (vs.getD i .bot) (L.getD i [])
theorem Mats.ext {h0 h : AHeap} (k : Keeps h0 h) {v : AV} {L : List (List (List Int))} (hm : Mats h0 v L) : Mats h v L := by
  obtain ⟨vs, h1, h2, h3⟩ := hm
  exact ⟨vs, h1.ext k, h2, fun i hi => (h3 i hi).ext k⟩

end Go.Am
