/-
  The abstract machine: operations that look at no memory, and that they do as the model does.
  Conditions: none.
-/
import Derived.Test.YtenkokebdgekbaaAm1
namespace Go.Am

/-- Is the value one cell? -/
def AV.one : AV → Bool
  | .bot | .agg _ | .tup _ => false
  | _ => true

/-- The cells of a value. -/
def AV.cells? : AV → Option (List AV)
  | .agg l => if l.all AV.one then some l else none
  | v => if v.one then some [v] else none

/-- A constant. -/
def AV.of : Nat → Value → AV
  | _, .bool b => .bool b
  | _, .int k n => .int k n
  | _, .string s => .str s
  | _, .pointer none => .nilp
  | _, .slice none 0 0 => .nils
  | _, .map none => .nilm
  | _, .nilFunc => .nilf
  | n + 1, .agg cs => .agg (cs.toList.map (AV.of n))
  | n + 1, .tuple cs => .tup (cs.toList.map (AV.of n))
  | _, _ => .bot

theorem AV.of_rel (φ : Emb) : ∀ (n : Nat) (v : Value), VRel φ (AV.of n v) v := by
  intro n
  induction n with
  | zero =>
    intro v
    unfold AV.of
    split <;> first | exact .bool _ | exact .int _ _ | exact .str _ | exact .nilp | exact .nils | exact .nilm | exact .nilf | exact .bot _ | (rename_i h; cases h)
  | succ n ih =>
    intro v
    unfold AV.of
    split <;> first
      | exact .bool _ | exact .int _ _ | exact .str _ | exact .nilp | exact .nils | exact .nilm | exact .nilf | exact .bot _
      | (refine .agg _ (Array.toList _) (by simp) ?_
         intro j x y hx hy
         simp only [List.getElem?_map, hy, Option.map_some, Option.some.injEq] at hx
         subst hx
         cases ‹n + 1 = _ + 1›
         exact ih y)
      | (refine .tup _ (Array.toList _) (by simp) ?_
         intro j x y hx hy
         simp only [List.getElem?_map, hy, Option.map_some, Option.some.injEq] at hx
         subst hx
         cases ‹n + 1 = _ + 1›
         exact ih y)

/-- An operand's value in a frame. -/
def evalA (globs : List Nat) (fr : List AV) : Operand → AV
  | .tmp t => fr.getD t .bot
  | .const v => AV.of 4 v
  | .global g => if globs.contains g then .ptr g 0 else .bot
  | .func f => .fn f []

def szA (P : Program) (t : TypeId) : Option Nat := (P.info? t).map (·.size)
def zeroA (P : Program) (t : TypeId) : Option AV := ((P.info? t).bind (·.zero)).map (AV.of 4)
def aggA (P : Program) (t : TypeId) : Option Bool := (P.underlying t).map fun | .struct _ => true | .array _ _ => true | _ => false
def isBoolA (P : Program) (t : TypeId) : Bool := match P.underlying t with | some .bool => true | _ => false
def isSliceA (P : Program) (t : TypeId) : Bool := match P.underlying t with | some (.slice _) => true | _ => false
def isPtrA (P : Program) (t : TypeId) : Bool := match P.underlying t with | some (.pointer _) => true | _ => false
def isMapA (P : Program) (t : TypeId) : Bool := match P.underlying t with | some (.map _ _) => true | _ => false
def elemA (P : Program) (t : TypeId) : Option TypeId := match P.underlying t with | some (.slice e) => some e | _ => none
def arrA (P : Program) (t : TypeId) : Option (Nat × TypeId) := match P.underlying t with | some (.array n e) => some (n, e) | _ => none
def intA (P : Program) (t : TypeId) : Option IntKind := match P.underlying t with | some (.int k) => some k | _ => none

/-- Integers. -/
def aint (op : BinOp) (k : IntKind) (a b : Int) : Option AV :=
  match op with
  | .add => some (.int k (k.wrap (a + b)))
  | .sub => some (.int k (k.wrap (a - b)))
  | .mul => some (.int k (k.wrap (a * b)))
  | .quo => if b = 0 then none else some (.int k (k.wrap (a.tdiv b)))
  | .rem => if b = 0 then none else some (.int k (a.tmod b))
  | .and => some (.int k (bits .and k a b))
  | .or => some (.int k (bits .or k a b))
  | .xor => some (.int k (bits .xor k a b))
  | .andNot => some (.int k (bits .andNot k a b))
  | .eql => some (.bool (a == b))
  | .neq => some (.bool (a != b))
  | .lss => some (.bool (decide (a < b)))
  | .leq => some (.bool (decide (a ≤ b)))
  | .gtr => some (.bool (decide (b < a)))
  | .geq => some (.bool (decide (b ≤ a)))
  | .shl => if 0 ≤ b then some (.int k (k.wrap (a * 2 ^ min b.toNat k.bits))) else none
  | .shr => if 0 ≤ b then some (.int k (a.fdiv (2 ^ min b.toNat k.bits))) else none

def abin (P : Program) (op : BinOp) (t : TypeId) : AV → AV → Option AV
  | .int k a, .int k' b => if op = .shl ∨ op = .shr ∨ k = k' then aint op k a b else none
  | .bool a, .bool b => if isBoolA P t then (match op with | .eql => some (.bool (a == b)) | .neq => some (.bool (!(a == b))) | _ => none) else none
  | .str a, .str b => match op with | .eql => some (.bool (a.toList == b.toList)) | .neq => some (.bool !(a.toList == b.toList)) | _ => none
  | .nils, .nils => if isSliceA P t then (match op with | .eql => some (.bool true) | .neq => some (.bool false) | _ => none) else none
  | .slc _ _ _ _ _, .nils => if isSliceA P t then (match op with | .eql => some (.bool false) | .neq => some (.bool true) | _ => none) else none
  | .nilp, .nilp => if isPtrA P t then (match op with | .eql => some (.bool true) | .neq => some (.bool false) | _ => none) else none
  | .ptr _ _, .nilp => if isPtrA P t then (match op with | .eql => some (.bool false) | .neq => some (.bool true) | _ => none) else none
  | _, _ => none

def aun (op : UnOp) : AV → Option AV
  | .bool b => match op with | .not => some (.bool !b) | _ => none
  | .int k n => match op with
    | .neg => some (.int k (k.wrap (0 - n)))
    | .xor => some (.int k (bits .xor k (if k.signed then -1 else k.max) n))
    | _ => none
  | _ => none

/-- x[lo:hi:max] of n elements, the capacity (if known) cap: the bounds. -/
def aboundsI : AV → Option Int
  | .int _ i => some i
  | _ => none

def aslice3 (n : Nat) (lo hi mx : Option AV) : Option (Nat × Nat × Option Nat) := do
  let m ← match mx with
    | some v => do let i ← aboundsI v; if 0 ≤ i ∧ i ≤ n then some (some i.toNat) else none
    | none => some none
  let h ← match hi with
    | some v => do let i ← aboundsI v; if 0 ≤ i ∧ i ≤ (m.getD n) then some i.toNat else none
    | none => if m.isSome then none else some n
  let l ← match lo with
    | some v => do let i ← aboundsI v; if 0 ≤ i ∧ i ≤ h then some i.toNat else none
    | none => some 0
  some (l, h, m)

/-- Is the capacity of the part its length? -/
def afull (n h : Nat) (full : Bool) : Option Nat → Bool
  | some m => m == h
  | none => full && n == h

def aslice (P : Program) (t : TypeId) (x : AV) (lo hi mx : Option AV) : Option AV :=
  match x with
  | .slc b o n s full => do
    let e ← elemA P t
    let s' ← szA P e
    if s' = s then
      let (l, h, m) ← aslice3 n lo hi mx
      some (.slc b (o + l * s) (h - l) s (afull n h full m))
    else none
  | .nils => do
    let e ← elemA P t
    let _ ← szA P e
    let (_, _, _) ← aslice3 0 lo hi mx
    some .nils
  | _ => none

def aindexAddr (P : Program) (t : TypeId) (x ix : AV) : Option AV :=
  match x, ix with
  | .slc b o n s _, .int _ i => do
    let e ← elemA P t
    let s' ← szA P e
    if s' = s ∧ 0 ≤ i ∧ i < n then some (.ptr b (o + i.toNat * s)) else none
  | .ptr b o, .int _ i => do
    let (n, e) ← arrA P t
    let s ← szA P e
    if 0 ≤ i ∧ i < n then some (.ptr b (o + i.toNat * s)) else none
  | _, _ => none

/-- A part of a struct's or an array's cells. -/
def apart (P : Program) (t : TypeId) (l : List AV) (off : Nat) : Option AV := do
  let g ← aggA P t
  let s ← szA P t
  if g then some (.agg ((l.drop off).take s)) else l[off]?

def aindex (P : Program) (t : TypeId) (x ix : AV) : Option AV :=
  match x, ix with
  | .agg l, .int _ i => do
    let (n, e) ← arrA P t
    let s ← szA P e
    if 0 ≤ i ∧ i < n then apart P e l (i.toNat * s) else none
  | _, _ => none

def fieldsA (P : Program) (t : TypeId) : Option (Array Field) := match P.underlying t with | some (.struct fs) => some fs | _ => none

def afield (P : Program) (t : TypeId) (x : AV) (i : Nat) : Option AV :=
  match x with
  | .agg l => do
    let fs ← fieldsA P t
    let f ← fs[i]?
    apart P f.type l f.offset
  | _ => none

def afieldAddr (P : Program) (t : TypeId) (x : AV) (i : Nat) : Option AV :=
  match x with
  | .ptr b o => do
    let fs ← fieldsA P t
    let f ← fs[i]?
    let s ← szA P f.type
    if s = 0 then none else some (.ptr b (o + f.offset))
  | _ => none

def amax2 (big : Bool) : AV → AV → Option AV
  | .int k x, .int _ y => some (.int k (if big then (if y > x then y else x) else (if y < x then y else x)))
  | _, _ => none

def alen (P : Program) (t : TypeId) : AV → Option AV
  | .slc _ _ n _ _ => if isSliceA P t then some (.int .i64 n) else none
  | .nils => if isSliceA P t then some (.int .i64 0) else none
  | .str s => match P.underlying t with | some .string => some (.int .i64 s.size) | _ => none
  | _ => none

def acap (P : Program) (t : TypeId) : AV → Option AV
  | .slc _ _ n _ true => if isSliceA P t then some (.int .i64 n) else none
  | .nils => if isSliceA P t then some (.int .i64 0) else none
  | _ => none

/-- Operations that look at no memory. -/
def apure (P : Program) (ρ : Operand → AV) (op : Op) : Option AV :=
  match op with
  | .move x | .assign x => some (ρ x)
  | .pick c a b => match ρ c with | .bool t => some (if t then ρ a else ρ b) | _ => none
  | .nilCheck x => match ρ x with | .ptr b o => some (.ptr b o) | .fn f caps => some (.fn f caps) | _ => none
  | .binOp op t x y _ => abin P op t (ρ x) (ρ y)
  | .unOp op _ x => aun op (ρ x)
  | .convert src dst x => match ρ x with
    | .int _ n => if (P.underlying src).isSome then (intA P dst).map fun k => .int k (k.wrap n) else none
    | _ => none
  | .makeFunc (.func f) first cap => if first.size = 0 then some (.fn f (cap.toList.map ρ)) else none
  | .slice t x lo hi mx => aslice P t (ρ x) (lo.map ρ) (hi.map ρ) (mx.map ρ)
  | .fieldAddr t x f => afieldAddr P t (ρ x) f
  | .field t x f => afield P t (ρ x) f
  | .indexAddr t x ix => aindexAddr P t (ρ x) (ρ ix)
  | .index t x ix => aindex P t (ρ x) (ρ ix)
  | .extract x i => match ρ x with | .tup l => l[i]? | _ => none
  | .call { callee := .builtin .len, args, argTypes } => match args.toList, argTypes.toList with
    | [x], [t] => alen P t (ρ x)
    | _, _ => none
  | .call { callee := .builtin .cap, args, argTypes } => match args.toList, argTypes.toList with
    | [x], [t] => acap P t (ρ x)
    | _, _ => none
  | .call { callee := .builtin .max, args, .. } => match args.toList with
    | [x, y] => amax2 true (ρ x) (ρ y)
    | _ => none
  | .call { callee := .builtin .min, args, .. } => match args.toList with
    | [x, y] => amax2 false (ρ x) (ρ y)
    | _ => none
  | _ => none

end Go.Am
