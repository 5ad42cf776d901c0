/-
  The abstract machine: arguments, as they are read: a heap that is only read.
  Conditions: none.
-/
import Derived.Test.YtenkokebdgekbaaAm28
import Derived.ChangeArms
import Derived.ChangeSlices
import Derived.OpenShut
import Derived.Carry
namespace Go.Am
open Go.RowKit Go.ChangeShapes

/-- A heap of what is only read, as it lies in a world. -/
structure Imp (W : World) (φ : Emb) (h : AHeap) : Prop where
  rel : HRel φ h W
  ro : ∀ b B, h.get b = some B → ∃ p cs, B = .cells none p cs
  out : ∀ b, h.next ≤ b → φ b = none

theorem Imp.empty (W : World) : Imp W φ00 h00 := ⟨HRel.empty W, fun b B h => (by rw [h00_get] at h; cases h), fun _ _ => rfl⟩

theorem push_keeps (h : AHeap) (B : Blk) : Keeps h (h.push B) := by
  refine ⟨by simp [AHeap.push, AHeap.next], by simp [AHeap.push, AHeap.nfam], rfl, ?_, fun _ _ => rfl⟩
  intro b hb
  simp only [AHeap.push, AHeap.get]
  exact List.getElem?_append_left hb
theorem push_new (h : AHeap) (B : Blk) : (h.push B).get h.next = some B := by simp [AHeap.push, AHeap.get, AHeap.next]

theorem Imp.push {W : World} {φ : Emb} {h : AHeap} (im : Imp W φ h) (cs : List AV) (q : Option (Nat × Nat × Nat))
    (hq : ∀ k i z, q = some (k, i, z) → k < W.heap.size ∧ ∀ (j : Nat) (x : AV), cs[j]? = some x → ∃ v, W.cell? ⟨k, i + j, none⟩ = some v ∧ VRel φ x v) :
    Imp W (fun b => if b = h.next then q else φ b) (h.push (.cells none 0 cs)) ∧ φ.le (fun b => if b = h.next then q else φ b) := by
  have hle : φ.le (fun b => if b = h.next then q else φ b) := by
    intro b p hb
    have : b ≠ h.next := by rintro rfl; rw [im.out _ (Nat.le_refl _)] at hb; cases hb
    simp only [if_neg this]
    exact hb
  have hget : ∀ b B, (h.push (.cells none 0 cs)).get b = some B → (b < h.next ∧ h.get b = some B) ∨ (b = h.next ∧ B = .cells none 0 cs) := by
    intro b B hB
    rcases Nat.lt_trichotomy b h.next with hb | hb | hb
    · rw [(push_keeps h _).get b hb] at hB; exact .inl ⟨hb, hB⟩
    · subst hb; rw [push_new] at hB; cases hB; exact .inr ⟨rfl, rfl⟩
    · have := AHeap.get_lt hB
      simp [AHeap.push, AHeap.next] at this hb
      omega
  have hro : ∀ b B, (h.push (.cells none 0 cs)).get b = some B → ∃ p cs, B = .cells none p cs := by
    intro b B hB
    rcases hget b B hB with ⟨_, h1⟩ | ⟨_, h1⟩
    · exact im.ro b B h1
    · exact ⟨0, cs, h1⟩
  have hF : ∀ b F p cs', (h.push (.cells none 0 cs)).get b = some (.cells (some F) p cs') → False := by
    intro b F p cs' hB
    obtain ⟨_, _, h1⟩ := hro b _ hB
    cases h1
  have hM : ∀ b es, (h.push (.cells none 0 cs)).get b = some (.map es) → False := by
    intro b es hB
    obtain ⟨_, _, h1⟩ := hro b _ hB
    cases h1
  refine ⟨⟨⟨?_, ?_, ?_, ?_, ?_, ?_, ?_, ?_⟩, hro, ?_⟩, hle⟩
  · intro g hg
    obtain ⟨z, hz⟩ := im.rel.glob g hg
    exact ⟨z, hle _ _ hz⟩
  · intro b k i z hb
    by_cases h9 : b = h.next
    · exact (hq k i z (by simpa [h9] using hb)).1
    · exact im.rel.lt b k i z (by simpa [h9] using hb)
  · intro b k i z B hb hB hv
    rcases hget b B hB with ⟨h1, h2⟩ | ⟨rfl, rfl⟩
    · have hb : φ b = some (k, i, z) := by
        have h9 : ¬ b = h.next := by omega
        simpa [h9] using hb
      obtain ⟨p, cs', rfl⟩ := im.ro b B h2
      have h3 := im.rel.blk b k i z _ hb h2 (by unfold AHeap.valid; rw [h2])
      intro j x hx
      obtain ⟨v, h4, h5⟩ := h3 j x hx
      exact ⟨v, h4, h5.mono hle⟩
    · have hb : q = some (k, i, z) := by simpa using hb
      intro j x hx
      obtain ⟨v, h4, h5⟩ := (hq k i z hb).2 j x hx
      exact ⟨v, h4, h5.mono hle⟩
  · intro b k i z F p cs' _ hB; exact (hF _ _ _ _ hB).elim
  · intro b b' k i i' z z' F F' p p' cs1 cs2 _ _ hB; exact (hF _ _ _ _ hB).elim
  · intro b b' k i i' z z' F p p' cs1 cs2 _ _ hB; exact (hF _ _ _ _ hB).elim
  · intro b b' k i i' z z' es B _ _ hB; exact (hM _ _ hB).elim
  · intro b F p cs' hB; exact (hF _ _ _ _ hB).elim
  · intro b hb
    have h1 : (h.push (.cells none 0 cs)).next = h.next + 1 := by simp [AHeap.push, AHeap.next]
    rw [h1] at hb
    show (if b = h.next then q else φ b) = none
    rw [if_neg (by omega)]
    exact im.out b (by omega)

/-- What is read of a type: its cells, and what they mean. -/
structure IC {H : Type} (enc : TypeId × Value → H) (P : Program) (t : TypeId) {X : Type} (E : AHeap → List AV → X → Prop) : Prop where
  imp : ∀ (W : World) (φ : Emb) (h : AHeap), Imp W φ h → ∀ (fuel : Nat) (cs : List Value) (y : DataW H × List MemPlace), DataW.trod enc P W 0 (fun _ => true) true fuel t cs = some y →
    ∃ φ' h' avs x, Imp W φ' h' ∧ φ.le φ' ∧ Keeps h h' ∧ VRels φ' avs cs ∧ E h' avs x
  mono : ∀ (h h' : AHeap) (avs : List AV) (x : X), Keeps h h' → E h avs x → E h' avs x

def EInt (k : IntKind) (_ : AHeap) (avs : List AV) (x : Int) : Prop := avs = [.int k x] ∧ (Lit.int k x).wf = true
def EBool (_ : AHeap) (avs : List AV) (x : Bool) : Prop := avs = [.bool x]
def EStr (_ : AHeap) (avs : List AV) (x : ByteArray) : Prop := avs = [.str x] ∧ x.size ≤ maxLen
def ESl {X : Type} (s : Nat) (E : AHeap → List AV → X → Prop) (h : AHeap) (avs : List AV) (xs : List X) : Prop :=
  ∃ (v : AV) (rows : List (List AV)), avs = [v] ∧ Rd h v s rows.flatten ∧ rows.length = xs.length ∧ ∀ (i : Nat) (r : List AV) (x : X), rows[i]? = some r → xs[i]? = some x → r.length = s ∧ E h r x

theorem vrels_one {φ : Emb} {x : AV} {v : Value} (h : VRel φ x v) : VRels φ [x] [v] := by
  refine ⟨rfl, ?_⟩
  intro j a b ha hb
  cases j with
  | zero => simp at ha hb; subst ha hb; exact h
  | succ j => simp at ha

theorem IC.int {H : Type} {enc : TypeId × Value → H} {P : Program} {t : TypeId} {k : IntKind} (ht : P.underlying t = some (.int k)) : IC enc P t (EInt k) := by
  refine ⟨?_, fun _ _ _ _ _ h => h⟩
  intro W φ h im fuel cs y hy
  obtain ⟨n, rfl, rfl, hw⟩ := DataW.trod_int ht hy
  exact ⟨φ, h, [.int k n], n, im, Emb.le_refl φ, Keeps.refl h, vrels_one (.int k n), rfl, hw⟩
theorem IC.bool {H : Type} {enc : TypeId × Value → H} {P : Program} {t : TypeId} (ht : P.underlying t = some .bool) : IC enc P t EBool := by
  refine ⟨?_, fun _ _ _ _ _ h => h⟩
  intro W φ h im fuel cs y hy
  obtain ⟨b, rfl, rfl⟩ := DataW.trod_bool ht hy
  exact ⟨φ, h, [.bool b], b, im, Emb.le_refl φ, Keeps.refl h, vrels_one (.bool b), rfl⟩
theorem IC.str {H : Type} {enc : TypeId × Value → H} {P : Program} {t : TypeId} (ht : P.underlying t = some .string) : IC enc P t EStr := by
  refine ⟨?_, fun _ _ _ _ _ h => h⟩
  intro W φ h im fuel cs y hy
  obtain ⟨s, rfl, rfl, hs⟩ := DataW.trod_string ht hy
  exact ⟨φ, h, [.str s], s, im, Emb.le_refl φ, Keeps.refl h, vrels_one (.str s), rfl, hs⟩

theorem flat_get {α : Type} {s : Nat} (hs : 0 < s) : ∀ {rows : List (List α)}, (∀ r ∈ rows, r.length = s) → ∀ {j : Nat} {x : α}, rows.flatten[j]? = some x → ∃ i q r, j = i * s + q ∧ q < s ∧ rows[i]? = some r ∧ r[q]? = some x := by
  intro rows
  induction rows with
  | nil => intro _ j x h; simp at h
  | cons r rows ih =>
    intro hr j x h
    rw [List.flatten_cons, List.getElem?_append] at h
    have hrl := hr r (by simp)
    split at h
    · exact ⟨0, j, r, by omega, by omega, rfl, h⟩
    · obtain ⟨i, q, r', h1, h2, h3, h4⟩ := ih (fun r hr' => hr r (by simp [hr'])) h
      exact ⟨i + 1, q, r', by rw [Nat.add_mul]; omega, h2, by simpa using h3, h4⟩
theorem flat_len {α : Type} {s : Nat} : ∀ {rows : List (List α)}, (∀ r ∈ rows, r.length = s) → rows.flatten.length = rows.length * s := by
  intro rows
  induction rows with
  | nil => intro _; simp
  | cons r rows ih =>
    intro hr
    rw [List.flatten_cons, List.length_append, hr r (by simp), ih (fun r hr' => hr r (by simp [hr'])), List.length_cons, Nat.add_mul]
    omega

theorem addr_add_add (a : Addr) (i j : Nat) : (a.add i).add j = a.add (i + j) := by
  unfold Addr.add
  by_cases hi : i = 0 <;> by_cases hj : j = 0 <;> simp [hi, hj]
  omega
theorem addr_of_cell {W : World} {a : Addr} {j : Nat} {v : Value} (h0 : ∃ v, W.cell? a = some v) (h : W.cell? (a.add j) = some v) : W.cell? ⟨a.block, a.off + j, none⟩ = some v ∧ a = ⟨a.block, a.off, none⟩ ∧ a.block < W.heap.size := by
  obtain ⟨v0, h0⟩ := h0
  have hsp : a.spot = none := by
    unfold World.cell? at h0
    split at h0
    · split at h0
      · cases h0
      · rename_i hn; cases hq : a.spot with | none => rfl | some x => rw [hq] at hn; simp at hn
    · cases h0
  have ha : a = ⟨a.block, a.off, none⟩ := by cases a; simp at hsp; subst hsp; rfl
  refine ⟨?_, ha, ?_⟩
  · have : a.add j = ⟨a.block, a.off + j, none⟩ := by
      unfold Addr.add
      split
      · rename_i hj; subst hj; exact ha
      · rfl
    rw [← this]; exact h
  · unfold World.cell? at h0
    split at h0
    · rename_i c _ _ hc
      exact (Array.getElem?_eq_some_iff.1 hc).1
    · cases h0

theorem IC.slice {H : Type} {enc : TypeId × Value → H} {P : Program} {t e : TypeId} {s : Nat} {X : Type} {E : AHeap → List AV → X → Prop} (ht : P.underlying t = some (.slice e)) (hc : P.cellsOf e = s) (hs : 0 < s) (he : IC enc P e E) : IC enc P t (ESl s E) := by
  refine ⟨?_, by
    rintro h h' avs xs k ⟨v, rows, h1, h2, h3, h4⟩
    exact ⟨v, rows, h1, h2.ext k, h3, fun i r x hr hx => ⟨(h4 i r x hr hx).1, he.mono _ _ _ _ k (h4 i r x hr hx).2⟩⟩⟩
  intro W φ h im fuel cs y hy
  rcases DataW.trod_slice ht hy with ⟨rfl, rfl⟩ | ⟨a, len, cap, elems, rest, n, rfl, rfl, rfl, _, hl, hm, hlen, hel, hsp, _⟩
  · exact ⟨φ, h, [.nils], [], im, Emb.le_refl φ, Keeps.refl h, vrels_one .nils, .nils, [], rfl, .inl ⟨rfl, rfl⟩, rfl, by intro i r x hr; simp at hr⟩
  rw [hc] at hel hsp
  have key : ∀ m, m ≤ len → ∃ (φ' : Emb) (h' : AHeap) (rows : List (List AV)) (xs : List X), Imp W φ' h' ∧ φ.le φ' ∧ Keeps h h' ∧ rows.length = m ∧ xs.length = m ∧ (∀ (i : Nat) (r : List AV) (x : X), rows[i]? = some r → xs[i]? = some x → r.length = s ∧ E h' r x) ∧
      ∀ (i : Nat) (r : List AV), rows[i]? = some r → ∃ c1, W.cells? 0 (a.add (i * s)) s = some c1 ∧ VRels φ' r c1 := by
    intro m
    induction m with
    | zero => intro _; exact ⟨φ, h, [], [], im, Emb.le_refl φ, Keeps.refl h, rfl, rfl, by intro i r x hr; simp at hr, by intro i r hr; simp at hr⟩
    | succ m ih =>
      intro hml
      obtain ⟨φ1, h1, rows, xs, im1, le1, k1, hrl, hxl, hE, hV⟩ := ih (by omega)
      have hm1 := hel m (by omega)
      rw [List.getElem?_eq_getElem (by omega), Option.bind_eq_some_iff] at hm1
      obtain ⟨c1, hc1, ht1⟩ := hm1
      obtain ⟨φ2, h2, avs, x, im2, le2, k2, hv2, hE2⟩ := he.imp W φ1 h1 im1 n c1 _ ht1
      have hcl : c1.length = s := (World.cells?_some hc1).2.1
      refine ⟨φ2, h2, rows ++ [avs], xs ++ [x], im2, Emb.le_trans le1 le2, k1.trans k2, by simp [hrl], by simp [hxl], ?_, ?_⟩
      · intro i r y hr hy
        rw [List.getElem?_append] at hr hy
        rw [hrl] at hr
        rw [hxl] at hy
        split at hr
        · rename_i hi
          rw [if_pos hi] at hy
          have := hE i r y hr hy
          exact ⟨this.1, he.mono _ _ _ _ k2 this.2⟩
        · rename_i hi
          rw [if_neg hi] at hy
          cases hq : i - m with
          | zero =>
            rw [hq] at hr hy
            simp at hr hy
            subst hr hy
            exact ⟨hv2.1.trans hcl, hE2⟩
          | succ q => rw [hq] at hr; simp at hr
      · intro i r hr
        rw [List.getElem?_append] at hr
        rw [hrl] at hr
        split at hr
        · obtain ⟨c2, h3, h4⟩ := hV i r hr
          exact ⟨c2, h3, h4.mono le2⟩
        · cases hq : i - m with
          | zero =>
            rw [hq] at hr
            simp at hr
            subst hr
            have : i = m := by omega
            subst this
            exact ⟨c1, hc1, hv2⟩
          | succ q => rw [hq] at hr; simp at hr
  obtain ⟨φ1, h1, rows, xs, im1, le1, k1, hrl, hxl, hE, hV⟩ := key len (Nat.le_refl _)
  have hrs : ∀ r ∈ rows, r.length = s := by
    intro r hr
    obtain ⟨i, hi⟩ := List.getElem?_of_mem hr
    have hi' : i < xs.length := by have := (List.getElem?_eq_some_iff.1 hi).1; omega
    exact (hE i r _ hi (List.getElem?_eq_getElem hi')).1
  have hfl := flat_len hrs
  -- where the array lies
  by_cases hcap : cap = 0
  · have hl0 : len = 0 := by omega
    obtain ⟨im2, le2⟩ := im1.push rows.flatten none (by intro k i z hq; cases hq)
    refine ⟨_, _, [.slc h1.next 0 len s false], xs, im2, Emb.le_trans le1 le2, k1.trans (push_keeps h1 _), vrels_one (.slc _ _ _ _ _ a cap hl hm (by simp) (.inl hcap)), _, rows, rfl, .inr ⟨h1.next, 0, none, 0, rows.flatten, .inl ⟨len, false, rfl, by rw [hfl, hrl], hs⟩, push_new h1 _, ?_, by rw [List.drop_zero, List.take_length]⟩, by omega, ?_⟩
    · unfold AHeap.valid; rw [push_new]
    · intro i r x hr hx
      exact ⟨(hE i r x hr hx).1, he.mono _ _ _ _ (push_keeps h1 _) (hE i r x hr hx).2⟩
  · have hread : ∀ i, i < cap → ∃ c1, W.cells? 0 (a.add (i * s)) s = some c1 := by
      intro i hi
      by_cases hil : i < len
      · have := hel i hil
        rw [List.getElem?_eq_getElem (by omega), Option.bind_eq_some_iff] at this
        obtain ⟨c1, h2, _⟩ := this
        exact ⟨c1, h2⟩
      · obtain ⟨h2, h3⟩ := hsp rfl
        have := h3 (i - len) (by omega)
        rw [List.getElem?_eq_getElem (by omega), Option.bind_eq_some_iff, show len + (i - len) = i by omega] at this
        obtain ⟨c1, h2, _⟩ := this
        exact ⟨c1, h2⟩
    have hcell : ∀ i, i < cap → ∀ q, q < s → ∃ v, W.cell? (a.add (i * s + q)) = some v := by
      intro i hi q hq
      obtain ⟨c1, h2⟩ := hread i hi
      have h3 := World.cells?_some h2
      have h4 := h3.2.2 q hq
      rw [addr_add_add] at h4
      rw [h4]
      exact ⟨c1[q]'(by omega), List.getElem?_eq_getElem _⟩
    have h00 : ∃ v, W.cell? a = some v := by
      have := hcell 0 (by omega) 0 hs
      simpa [Addr.add] using this
    obtain ⟨v00, hv00⟩ := h00
    have ha := addr_of_cell (j := 0) ⟨v00, hv00⟩ (by simpa [Addr.add] using hv00)
    obtain ⟨im2, le2⟩ := im1.push rows.flatten (some (a.block, a.off, a.off + cap * s)) (by
      intro k i z hq
      cases hq
      refine ⟨ha.2.2, ?_⟩
      intro j x hx
      obtain ⟨i, q, r, rfl, hq, hr, hrq⟩ := flat_get hs hrs hx
      obtain ⟨c1, h2, h3⟩ := hV i r hr
      have h4 := World.cells?_some h2
      have h5 := h4.2.2 q hq
      rw [addr_add_add] at h5
      have h6 : c1[q]? = some (c1[q]'(by omega)) := List.getElem?_eq_getElem _
      exact ⟨_, (addr_of_cell ⟨v00, hv00⟩ (h5.trans h6)).1, h3.2 q x _ hrq h6⟩)
    refine ⟨_, _, [.slc h1.next 0 len s false], xs, im2, Emb.le_trans le1 le2, k1.trans (push_keeps h1 _), vrels_one (.slc _ _ _ _ _ a cap hl hm (by simp) (.inr ⟨a.block, a.off, a.off + cap * s, by simp, by simpa using ha.2.1, by omega⟩)), _, rows, rfl, .inr ⟨h1.next, 0, none, 0, rows.flatten, .inl ⟨len, false, rfl, by rw [hfl, hrl], hs⟩, push_new h1 _, ?_, by rw [List.drop_zero, List.take_length]⟩, by omega, ?_⟩
    · unfold AHeap.valid; rw [push_new]
    · intro i r x hr hx
      exact ⟨(hE i r x hr hx).1, he.mono _ _ _ _ (push_keeps h1 _) (hE i r x hr hx).2⟩

/-- A value of a type of one cell is that cell. -/
theorem cells_of_slice {P : Program} {w : World} {r : Reach} {b0 : Nat} {t e : TypeId} {v : Value} (ht : P.underlying t = some (.slice e)) (hv : Value.okWide P w r b0 t v) : v.cells.toList = [v] := by
  unfold Value.okWide at hv
  rw [ht] at hv
  cases v <;> simp [Value.cells] <;> simp [Cell.okWide, Cell.ok, ht] at hv
theorem cells_of_int {P : Program} {w : World} {r : Reach} {b0 : Nat} {t : TypeId} {k : IntKind} {v : Value} (ht : P.underlying t = some (.int k)) (hv : Value.okWide P w r b0 t v) : v.cells.toList = [v] := by
  unfold Value.okWide at hv
  rw [ht] at hv
  cases v <;> simp [Value.cells] <;> simp [Cell.okWide, Cell.ok, ht] at hv
theorem cells_of_bool {P : Program} {w : World} {r : Reach} {b0 : Nat} {t : TypeId} {v : Value} (ht : P.underlying t = some .bool) (hv : Value.okWide P w r b0 t v) : v.cells.toList = [v] := by
  unfold Value.okWide at hv
  rw [ht] at hv
  cases v <;> simp [Value.cells] <;> simp [Cell.okWide, Cell.ok, ht] at hv
theorem cells_of_string {P : Program} {w : World} {r : Reach} {b0 : Nat} {t : TypeId} {v : Value} (ht : P.underlying t = some .string) (hv : Value.okWide P w r b0 t v) : v.cells.toList = [v] := by
  unfold Value.okWide at hv
  rw [ht] at hv
  cases v <;> simp [Value.cells] <;> simp [Cell.okWide, Cell.ok, ht] at hv
theorem cells_of_array {P : Program} {w : World} {r : Reach} {b0 : Nat} {t e : TypeId} {n : Nat} {v : Value} (ht : P.underlying t = some (.array n e)) (hv : Value.okWide P w r b0 t v) : ∃ cs, v = .agg cs ∧ v.cells.toList = cs.toList := by
  unfold Value.okWide at hv
  rw [ht] at hv
  obtain ⟨cs, rfl, _⟩ := hv
  exact ⟨cs, rfl, rfl⟩
theorem cells_of_struct {P : Program} {w : World} {r : Reach} {b0 : Nat} {t : TypeId} {fs : Array Field} {v : Value} (ht : P.underlying t = some (.struct fs)) (hv : Value.okWide P w r b0 t v) : ∃ cs, v = .agg cs ∧ v.cells.toList = cs.toList := by
  unfold Value.okWide at hv
  rw [ht] at hv
  obtain ⟨cs, rfl, _⟩ := hv
  exact ⟨cs, rfl, rfl⟩

/-- An argument of one cell, read. -/
theorem imp_one {H : Type} {enc : TypeId × Value → H} {P : Program} {t : TypeId} {X : Type} {E : AHeap → List AV → X → Prop} (ic : IC enc P t E) {W : World} {φ : Emb} {h : AHeap} (im : Imp W φ h) {v : Value} {d : DataW H} {ps : List MemPlace} (hc : v.cells.toList = [v]) (hd : DataW.Trod enc P W 0 (fun _ => true) true t v d ps) :
    ∃ φ' h' av x, Imp W φ' h' ∧ φ.le φ' ∧ Keeps h h' ∧ VRel φ' av v ∧ E h' [av] x := by
  obtain ⟨fuel, hf⟩ := hd
  rw [hc] at hf
  obtain ⟨φ', h', avs, x, im', le', k', hv, hE⟩ := ic.imp W φ h im fuel [v] _ hf
  match avs, hv with
  | [av], hv => exact ⟨φ', h', av, x, im', le', k', hv.2 0 av v rfl rfl, hE⟩
/-- An argument of several cells, read. -/
theorem imp_agg {H : Type} {enc : TypeId × Value → H} {P : Program} {t : TypeId} {X : Type} {E : AHeap → List AV → X → Prop} (ic : IC enc P t E) {W : World} {φ : Emb} {h : AHeap} (im : Imp W φ h) {v : Value} {cs : Array Value} {d : DataW H} {ps : List MemPlace} (hv : v = .agg cs) (hd : DataW.Trod enc P W 0 (fun _ => true) true t v d ps) :
    ∃ φ' h' avs x, Imp W φ' h' ∧ φ.le φ' ∧ Keeps h h' ∧ VRel φ' (.agg avs) v ∧ E h' avs x := by
  obtain ⟨fuel, hf⟩ := hd
  subst hv
  obtain ⟨φ', h', avs, x, im', le', k', hv, hE⟩ := ic.imp W φ h im fuel cs.toList _ hf
  refine ⟨φ', h', avs, x, im', le', k', ?_, hE⟩
  have := VRel.agg (φ := φ') avs cs.toList hv.1 hv.2
  simpa using this

theorem Imp.below {φ φ' : Emb} {h h' : AHeap} {w w' : World} (im : Imp w φ h) (t : Trans φ h w φ' h' w') : Below w.heap.size w w' := by
  refine ⟨t.os, t.tape, t.output, t.size, ?_⟩
  intro k hk
  refine t.frame k hk ?_
  rintro ⟨b, i, z, hb, hm⟩
  rcases hm with ⟨F, p, cs, hg⟩ | ⟨es, hg⟩
  · obtain ⟨_, _, h1⟩ := im.ro b _ hg; cases h1
  · obtain ⟨_, _, h1⟩ := im.ro b _ hg; cases h1

/-- A call of what was read comes to an end that writes nothing that was there. -/
theorem ACalls.law {P : Program} {f : FuncId} {args : List AV} {h : AHeap} {R : AV → AHeap → Prop} (hc : ACalls P f args h R) (hR : ∀ r h', R r h' → r = .bool true) {W : World} {φ : Emb} (im : Imp W φ h) {cs : List Value} (ha : VRels φ args cs) :
    Calls P f cs.toArray W fun e w' => e = .returned (.bool true) ∧ Below W.heap.size W w' := by
  obtain ⟨r, h', he, hr⟩ := hc
  have := hR r h' hr
  subst this
  refine (he.2.2 φ W cs (fun b h1 _ => im.out b h1) im.rel ha).mono ?_
  rintro e w' ⟨v, φ', rfl, t, _, hv⟩
  cases hv
  exact ⟨rfl, im.below t⟩

theorem vrels_nil {φ : Emb} : VRels φ [] [] := ⟨rfl, by simp⟩
theorem vrels_cons {φ : Emb} {a : AV} {l : List AV} {v : Value} {cs : List Value} (h : VRel φ a v) (hs : VRels φ l cs) : VRels φ (a :: l) (v :: cs) := by
  refine ⟨by simp [hs.1], ?_⟩
  intro j x y hx hy
  cases j with
  | zero => simp at hx hy; subst hx hy; exact h
  | succ j => exact hs.2 j x y (by simpa using hx) (by simpa using hy)

theorem rows_ints {k : IntKind} : ∀ {rows : List (List AV)} {l : List Int}, rows.length = l.length → (∀ (i : Nat) (r : List AV) (x : Int), rows[i]? = some r → l[i]? = some x → r = [.int k x]) → rows.flatten = l.map (AV.int k) := by
  intro rows
  induction rows with
  | nil => intro l hl _; rw [List.length_eq_zero_iff.1 hl.symm]; rfl
  | cons r rows ih =>
    intro l hl h
    cases l with
    | nil => cases hl
    | cons x l =>
      have h0 := h 0 r x rfl rfl
      rw [List.flatten_cons, h0, ih (by simpa using hl) (fun i r y hr hy => h (i + 1) r y (by simpa using hr) (by simpa using hy))]
      rfl
/-- A slice of numbers that was read. -/
theorem ESl.row {k : IntKind} {h : AHeap} {av : AV} {l : List Int} (he : ESl 1 (EInt k) h [av] l) : Rd h av 1 (l.map (AV.int k)) ∧ ∀ x ∈ l, (Lit.int k x).wf = true := by
  obtain ⟨v, rows, h1, h2, h3, h4⟩ := he
  cases h1
  refine ⟨?_, ?_⟩
  · rw [← rows_ints h3 (fun i r x hr hx => (h4 i r x hr hx).2.1)]
    exact h2
  · intro x hx
    obtain ⟨i, hi⟩ := List.getElem?_of_mem hx
    have hi' : i < rows.length := by have := (List.getElem?_eq_some_iff.1 hi).1; omega
    exact (h4 i _ x (List.getElem?_eq_getElem hi') hi).2.2
/-- A table that was read. -/
theorem ESl.mat {h : AHeap} {av : AV} {ll : List (List Int)} (he : ESl 1 (ESl 1 (EInt .i64)) h [av] ll) : Mat h av ll ∧ ∀ l ∈ ll, ∀ x ∈ l, (Lit.int .i64 x).wf = true := by
  obtain ⟨v, rows, h1, h2, h3, h4⟩ := he
  cases h1
  have hone : ∀ i : Nat, i < rows.length → ∃ w : AV, rows[i]? = some [w] ∧ ESl 1 (EInt .i64) h [w] (ll.getD i []) := by
    intro i hi
    have h5 := List.getElem?_eq_getElem hi
    have h6 := List.getElem?_eq_getElem (show i < ll.length by omega)
    obtain ⟨h7, h8⟩ := h4 i _ _ h5 h6
    match hr : rows[i], h7 with
    | [w], _ =>
      rw [hr] at h5 h8
      refine ⟨w, h5, ?_⟩
      rw [List.getD_eq_getElem?_getD, h6]
      exact h8
  have hfl := flat_len (s := 1) (rows := rows) (by
    intro r hr
    obtain ⟨i, hi⟩ := List.getElem?_of_mem hr
    obtain ⟨w, hw, _⟩ := hone i (List.getElem?_eq_some_iff.1 hi).1
    rw [hi] at hw; cases hw; rfl)
  have hat : ∀ {rows : List (List AV)}, (∀ i : Nat, i < rows.length → ∃ w : AV, rows[i]? = some [w]) → ∀ (i : Nat) (w : AV), rows[i]? = some [w] → rows.flatten[i]? = some w := by
    intro rows
    induction rows with
    | nil => intro _ i w h; simp at h
    | cons r rows ih =>
      intro hw i w hi
      obtain ⟨w0, h0⟩ := hw 0 (by simp)
      simp only [List.getElem?_cons_zero, Option.some.injEq] at h0
      subst h0
      cases i with
      | zero => simp at hi; subst hi; simp
      | succ i =>
        simp only [List.flatten_cons, List.singleton_append, List.getElem?_cons_succ] at hi ⊢
        exact ih (fun j hj => by have := hw (j + 1) (by simpa using hj); simpa using this) i w hi
  refine ⟨⟨rows.flatten, h2, by omega, ?_⟩, ?_⟩
  · intro i hi
    obtain ⟨w, h5, h6⟩ := hone i (by omega)
    have h7 := hat (fun j hj => by obtain ⟨w, h8, _⟩ := hone j hj; exact ⟨w, h8⟩) i w h5
    rw [List.getD_eq_getElem?_getD, h7]
    exact h6.row.1
  · intro l hl
    obtain ⟨i, hi⟩ := List.getElem?_of_mem hl
    have hi' := (List.getElem?_eq_some_iff.1 hi).1
    obtain ⟨w, h5, h6⟩ := hone i (by omega)
    have := h6.row.2
    rwa [List.getD_eq_getElem?_getD, hi] at this

end Go.Am
