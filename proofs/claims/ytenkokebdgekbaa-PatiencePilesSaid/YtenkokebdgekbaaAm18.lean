/-
  The abstract machine: a call without arguments that the kernel has run: it returns what was reckoned, in whatever world, and writes nothing that was there.
  Conditions: none.
-/
import Derived.Test.YtenkokebdgekbaaAm17
namespace Go.Am
open Go.RowKit

def h00 : AHeap := ⟨[], [], []⟩
def φ00 : Emb := fun _ => none

theorem h00_get (b : Nat) : h00.get b = none := rfl

theorem HRel.empty (w : World) : HRel φ00 h00 w := by
  refine ⟨?_, ?_, ?_, ?_, ?_, ?_, ?_, ?_⟩
  · intro g hg; cases hg
  · intro b k i z h; cases h
  · intro b k i z B h; cases h
  · intro b k i z F p cs h; cases h
  · intro b b' k i i' z z' F F' p p' cs cs' h; cases h
  · intro b b' k i i' z z' F p p' cs cs' h; cases h
  · intro b b' k i i' z z' es B h; cases h
  · intro b F p cs h; rw [h00_get] at h; cases h

theorem Trans.below {φ' : Emb} {h' : AHeap} {w w' : World} (t : Trans φ00 h00 w φ' h' w') : Below w.heap.size w w' := by
  refine ⟨t.os, t.tape, t.output, t.size, ?_⟩
  intro k hk
  refine t.frame k hk ?_
  rintro ⟨b, i, z, hb, _⟩
  cases hb

/-- A call of closed values. -/
theorem Ev.closed {P : Program} {f : FuncId} {args : List AV} {cs : List Value} {b : Bool} {h1 : AHeap} (he : Ev P f args h00 (.bool b) h1) (ha : VRels φ00 args cs) (w : World) :
    Calls P f cs.toArray w fun e w' => e = .returned (.bool b) ∧ Below w.heap.size w w' := by
  refine (he.2.2 φ00 w cs (fun _ _ _ => rfl) (HRel.empty w) ha).mono ?_
  rintro e w' ⟨v, φ', rfl, t, _, hv⟩
  cases hv
  exact ⟨rfl, t.below⟩

noncomputable def okB (P : Program) (f : FuncId) : Bool := okFn P f && smallFn P f

def isB (b : Bool) : Option (AV × AHeap) → Bool
  | some (.bool c, _) => b == c
  | _ => false

/-- Whether the kernel's run returns the boolean. -/
noncomputable def runs (P : Program) (n : Nat) (f : FuncId) (args : List AV) (b : Bool) : Bool := isB b (bcall P (okB P) (brun P (okB P) n) f args h00)

theorem runs_ev {P : Program} (hm : P.follows .mixedOrders = true) {n : Nat} {f : FuncId} {args : List AV} {b : Bool} (h : runs P n f args b = true) : ∃ h1, Ev P f args h00 (.bool b) h1 := by
  unfold runs isB at h
  split at h
  · rename_i c h1 hc
    have : b = c := by simpa using h
    subst this
    refine ⟨h1, bcall_run (ok := okB P) hm ?_ ?_ n hc⟩
    · intro f hf; simp only [okB, Bool.and_eq_true] at hf; exact hf.1
    · intro f hf; simp only [okB, Bool.and_eq_true] at hf; exact hf.2
  · cases h

/-- What was reckoned holds beside whatever heap: nothing of it is kept. -/
theorem Ev.beside {P : Program} {f : FuncId} {b : Bool} {h1 : AHeap} (he : Ev P f [] h00 (.bool b) h1) (h : AHeap) : Ev P f [] h (.bool b) h := by
  refine ⟨he.1, HGrow.refl h, ?_⟩
  intro φ w cs _ r ha
  have hcs : cs = [] := List.eq_nil_of_length_eq_zero ha.1.symm
  subst hcs
  refine (he.closed (cs := []) ⟨rfl, by simp⟩ w).mono ?_
  rintro e w' ⟨rfl, bel⟩
  have hk : ∀ k, k < w.heap.size → w'.heap[k]? = w.heap[k]? := fun k hk => bel.block k hk
  refine ⟨.bool b, φ, rfl, ⟨Emb.le_refl φ, fun b h1 h2 => by omega, fun b p h1 h2 => (by rw [h1] at h2; cases h2), fun b k i z h1 h2 => (by rw [h1] at h2; cases h2), fun k hk' _ => hk k hk', bel.os, bel.tape, bel.output, bel.size⟩, ?_, .bool b⟩
  refine ⟨r.glob, fun b k i z hb => Nat.lt_of_lt_of_le (r.lt b k i z hb) bel.size, ?_, ?_, r.one, r.sep, r.map, r.ext⟩
  · intro b k i z B hb hB hv
    exact (r.blk b k i z B hb hB hv).world (hk k (r.lt b k i z hb))
  · intro b k i z F p cs hb hB
    obtain ⟨c, e, h2, h3⟩ := r.arr b k i z F p cs hb hB
    exact ⟨c, e, (hk k (r.lt b k i z hb)).trans h2, h3⟩

end Go.Am
