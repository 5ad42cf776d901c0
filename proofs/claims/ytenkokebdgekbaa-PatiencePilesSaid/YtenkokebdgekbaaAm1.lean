/-
  An abstract machine over the model: values without addresses' arithmetic and capacities, a heap of blocks by number. This text: values, heap, the relation to the model's values and worlds.
  Conditions: none.
-/
import Derived.WalkKit
namespace Go.Am

/-- Abstract values. -/
inductive AV where
  | bot
  | bool (b : Bool)
  | int (k : IntKind) (n : Int)
  | str (s : ByteArray)
  | ptr (b o : Nat)
  | nilp
  | slc (b o n s : Nat) (full : Bool)
  | nils
  | mp (b : Nat)
  | nilm
  | fn (f : FuncId) (caps : List AV)
  | nilf
  | agg (l : List AV)
  | tup (l : List AV)
  deriving Inhabited

/-- A block: its family (none: only read), its place in the family, its cells; or a map's entries. -/
inductive Blk where
  | cells (fam : Option Nat) (pos : Nat) (cs : List AV)
  | map (es : List (AV × AV))
  deriving Inhabited

/-- What is known of a family: where its blocks end at most, and which blocks may be looked at (none: all). -/
structure Fam where
  ext : Nat
  live : Option (List Nat)
  deriving Inhabited

structure AHeap where
  blks : List Blk
  fams : List Fam
  /-- the package-level variables that may be looked at: block g is variable g -/
  globs : List Nat
  deriving Inhabited

def AHeap.next (h : AHeap) : Nat := h.blks.length
def AHeap.get (h : AHeap) (b : Nat) : Option Blk := h.blks[b]?
def AHeap.fam (h : AHeap) (F : Nat) : Option Fam := h.fams[F]?
def AHeap.nfam (h : AHeap) : Nat := h.fams.length
def AHeap.push (h : AHeap) (k : Blk) : AHeap := { h with blks := h.blks ++ [k] }
def AHeap.set (h : AHeap) (b : Nat) (k : Blk) : AHeap := { h with blks := h.blks.set b k }
def AHeap.pushFam (h : AHeap) (f : Fam) : AHeap := { h with fams := h.fams ++ [f] }
def AHeap.setFam (h : AHeap) (F : Nat) (f : Fam) : AHeap := { h with fams := h.fams.set F f }

/-- A new block of cells in a family of its own. -/
def AHeap.alloc (h : AHeap) (cs : List AV) : AHeap := (h.push (.cells (some h.nfam) 0 cs)).pushFam ⟨cs.length, none⟩

/-- May the block be looked at? -/
def Fam.sees (f : Fam) (b : Nat) : Bool := match f.live with | none => true | some l => l.contains b

def AHeap.valid (h : AHeap) (b : Nat) : Bool := match h.get b with
  | some (.cells none _ _) => true
  | some (.cells (some F) _ _) => match h.fam F with | some f => f.sees b | none => false
  | some (.map _) => true
  | none => false

/-- Where a block lies: the model's block, the first cell, how many cells that block has. -/
abbrev Emb := Nat → Option (Nat × Nat × Nat)

/-- The model's value that an abstract one stands for. -/
inductive VRel (φ : Emb) : AV → Value → Prop where
  | bot (v : Value) : VRel φ .bot v
  | bool (b : Bool) : VRel φ (.bool b) (.bool b)
  | int (k : IntKind) (n : Int) : VRel φ (.int k n) (.int k n)
  | str (s : ByteArray) : VRel φ (.str s) (.string s)
  | ptr (b o k i z : Nat) (h : φ b = some (k, i, z)) : VRel φ (.ptr b o) (.pointer (some ⟨k, i + o, none⟩))
  | nilp : VRel φ .nilp (.pointer none)
  | slc (b o n s : Nat) (full : Bool) (a : Addr) (c : Nat) (hn : n ≤ c) (hc : c ≤ maxLen) (hf : full = true → c = n)
      (h : c = 0 ∨ ∃ k i z, φ b = some (k, i, z) ∧ a = ⟨k, i + o, none⟩ ∧ i + o + c * s ≤ z) : VRel φ (.slc b o n s full) (.slice (some a) n c)
  | nils : VRel φ .nils (.slice none 0 0)
  | mp (b k i z : Nat) (h : φ b = some (k, i, z)) : VRel φ (.mp b) (.map (some k))
  | nilm : VRel φ .nilm (.map none)
  | fn (f : FuncId) (caps : List AV) (cs : List Value) (hl : caps.length = cs.length) (h : ∀ (j : Nat) (x : AV) (y : Value), caps[j]? = some x → cs[j]? = some y → VRel φ x y) :
      VRel φ (.fn f caps) (.func (.func f) #[] cs.toArray)
  | nilf : VRel φ .nilf .nilFunc
  | agg (l : List AV) (cs : List Value) (hl : l.length = cs.length) (h : ∀ (j : Nat) (x : AV) (y : Value), l[j]? = some x → cs[j]? = some y → VRel φ x y) :
      VRel φ (.agg l) (.agg cs.toArray)
  | tup (l : List AV) (cs : List Value) (hl : l.length = cs.length) (h : ∀ (j : Nat) (x : AV) (y : Value), l[j]? = some x → cs[j]? = some y → VRel φ x y) :
      VRel φ (.tup l) (.tuple cs.toArray)

/-- Lists of values, one to one. -/
def VRels (φ : Emb) (l : List AV) (cs : List Value) : Prop := l.length = cs.length ∧ ∀ (j : Nat) (x : AV) (y : Value), l[j]? = some x → cs[j]? = some y → VRel φ x y

def Emb.le (φ φ' : Emb) : Prop := ∀ b p, φ b = some p → φ' b = some p

theorem Emb.le_refl (φ : Emb) : φ.le φ := fun _ _ h => h
theorem Emb.le_trans {φ φ' φ'' : Emb} (h : φ.le φ') (h' : φ'.le φ'') : φ.le φ'' := fun b p hp => h' b p (h b p hp)

theorem VRel.mono {φ φ' : Emb} (hle : φ.le φ') {x : AV} {v : Value} (h : VRel φ x v) : VRel φ' x v := by
  induction h with
  | bot v => exact .bot v
  | bool b => exact .bool b
  | int k n => exact .int k n
  | str s => exact .str s
  | ptr b o k i z h => exact .ptr b o k i z (hle _ _ h)
  | nilp => exact .nilp
  | slc b o n s full a c hn hc hf h =>
    refine .slc b o n s full a c hn hc hf ?_
    rcases h with h | ⟨k, i, z, h1, h2, h3⟩
    · exact .inl h
    · exact .inr ⟨k, i, z, hle _ _ h1, h2, h3⟩
  | nils => exact .nils
  | mp b k i z h => exact .mp b k i z (hle _ _ h)
  | nilm => exact .nilm
  | fn f caps cs hl _ ih => exact .fn f caps cs hl ih
  | nilf => exact .nilf
  | agg l cs hl _ ih => exact .agg l cs hl ih
  | tup l cs hl _ ih => exact .tup l cs hl ih

theorem VRels.mono {φ φ' : Emb} (hle : φ.le φ') {l : List AV} {cs : List Value} (h : VRels φ l cs) : VRels φ' l cs := ⟨h.1, fun j x y hx hy => (h.2 j x y hx hy).mono hle⟩

/-- A block's cells are there. -/
def CellsAt (φ : Emb) (cs : List AV) (c : Array Value) (i : Nat) : Prop := ∀ (j : Nat) (x : AV), cs[j]? = some x → ∃ v, c[i + j]? = some v ∧ VRel φ x v

/-- A block (that may be looked at) lies in the world. -/
def BRel (φ : Emb) (w : World) (k i z : Nat) : Blk → Prop
  | .cells none _ cs => ∀ (j : Nat) (x : AV), cs[j]? = some x → ∃ v, w.cell? ⟨k, i + j, none⟩ = some v ∧ VRel φ x v
  | .cells (some _) _ cs => ∃ c e, w.heap[k]? = some (.cells c e (0, 0)) ∧ c.size = z ∧ CellsAt φ cs c i
  | .map es => ∃ ms clock, w.heap[k]? = some (.map ms clock) ∧ es.length = ms.size ∧ ∀ (j : Nat) (x : AV × AV) (m : MapEntry), es[j]? = some x → ms[j]? = some m → VRel φ x.1 m.key ∧ VRel φ x.2 m.val

/-- A block that may be written to: its model block. -/
def AHeap.mut (h : AHeap) (φ : Emb) (k : Nat) : Prop := ∃ b i z, φ b = some (k, i, z) ∧ ((∃ F p cs, h.get b = some (.cells (some F) p cs)) ∨ ∃ es, h.get b = some (.map es))

structure HRel (φ : Emb) (h : AHeap) (w : World) : Prop where
  glob : ∀ g ∈ h.globs, ∃ z, φ g = some (g, 0, z)
  lt : ∀ b k i z, φ b = some (k, i, z) → k < w.heap.size
  blk : ∀ b k i z B, φ b = some (k, i, z) → h.get b = some B → h.valid b = true → BRel φ w k i z B
  /-- an array of the family's: there, not frozen, whether or not the block may be looked at -/
  arr : ∀ b k i z F p cs, φ b = some (k, i, z) → h.get b = some (.cells (some F) p cs) → ∃ c e, w.heap[k]? = some (.cells c e (0, 0)) ∧ c.size = z ∧ i + cs.length ≤ z
  /-- blocks that share an array are of one family, and in line -/
  one : ∀ b b' k i i' z z' F F' p p' cs cs', φ b = some (k, i, z) → φ b' = some (k, i', z') → h.get b = some (.cells (some F) p cs) → h.get b' = some (.cells (some F') p' cs') → F = F' ∧ p + i' = p' + i
  /-- what is only read shares nothing with what is written -/
  sep : ∀ b b' k i i' z z' F p p' cs cs', φ b = some (k, i, z) → φ b' = some (k, i', z') → h.get b = some (.cells (some F) p cs) → h.get b' = some (.cells none p' cs') → False
  /-- maps lie alone -/
  map : ∀ b b' k i i' z z' es B, φ b = some (k, i, z) → φ b' = some (k, i', z') → h.get b = some (.map es) → h.get b' = some B → b = b'
  /-- a family ends where it is said to -/
  ext : ∀ b F p cs, h.get b = some (.cells (some F) p cs) → ∃ f, h.fam F = some f ∧ p + cs.length ≤ f.ext

end Go.Am
