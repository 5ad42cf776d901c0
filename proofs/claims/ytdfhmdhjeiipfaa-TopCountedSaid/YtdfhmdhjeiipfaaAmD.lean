/-
  The abstract machine: the fast interpreter.
  Conditions: none.
-/
import Derived.Test.YtdfhmdhjeiipfaaAmB

/-! The abstract machine, run fast: the interpreter over trees. -/
namespace Go.Am

noncomputable def nthR {α : Type} (l : List α) : Nat → Option α :=
  List.rec (motive := fun _ => Nat → Option α) (fun _ => none) (fun x _ ih n => Nat.rec (motive := fun _ => Option α) (some x) (fun m _ => ih m) n) l
theorem nthR_eq {α : Type} : ∀ (l : List α) (n : Nat), nthR l n = l[n]?
  | [], n => rfl
  | x :: xs, 0 => rfl
  | x :: xs, n + 1 => by show nthR xs n = _; rw [nthR_eq xs n]; rfl

noncomputable def getR (h : AHeap) (b : Nat) : Option Blk := nthR h.blks b
noncomputable def famR (h : AHeap) (F : Nat) : Option Fam := nthR h.fams F
theorem getR_eq (h : AHeap) (b : Nat) : getR h b = h.get b := nthR_eq _ _
theorem famR_eq (h : AHeap) (b : Nat) : famR h b = h.fam b := nthR_eq _ _
noncomputable def validR (h : AHeap) (b : Nat) : Bool := match getR h b with
  | some (.cells none _ _) => true
  | some (.cells (some F) _ _) => match famR h F with | some f => f.sees b | none => false
  | some (.obj _ _) => true
  | none => false
theorem validR_eq (h : AHeap) (b : Nat) : validR h b = h.valid b := by unfold validR AHeap.valid; simp only [getR_eq, famR_eq]; rfl

noncomputable def aloadR (P : Program) (h : AHeap) (t : TypeId) (x : AV) : Option AV :=
  match x with
  | .ptr b o => match getR h b with
    | some (.cells _ _ cs) => if validR h b then (do
        let g ← aggA P t
        if g then (do let s ← szA P t; if o + s ≤ cs.length then some (.agg ((cs.drop o).take s)) else none) else nthR cs o) else none
    | _ => none
  | _ => none
theorem aloadR_eq (P : Program) (h : AHeap) (t : TypeId) (x : AV) : aloadR P h t x = aload P h t x := by unfold aloadR aload; simp only [getR_eq, validR_eq, nthR_eq]; rfl

noncomputable def areadB (P : Program) (h : AHeap) (ρ : Operand → AV) (op : Op) : Option AV :=
  match op with
  | .load t x => aloadR P h t (ρ x)
  | op => areadR P h ρ op
theorem areadB_eq (P : Program) (h : AHeap) (ρ : Operand → AV) (op : Op) : areadB P h ρ op = areadR P h ρ op := by
  cases op <;> first | rfl | exact aloadR_eq _ _ _ _

noncomputable def acellsR (h : AHeap) (s : Nat) : AV → Option (Nat × List AV)
  | .slc b o n s' _ => if s' = s then
      (if n = 0 then some (0, []) else match getR h b with
        | some (.cells _ _ cs) => if validR h b = true ∧ o + n * s ≤ cs.length then some (n, (cs.drop o).take (n * s)) else none
        | _ => none) else none
  | .nils => some (0, [])
  | _ => none
theorem acellsR_eq (h : AHeap) (s : Nat) (x : AV) : acellsR h s x = acells h s x := by unfold acellsR acells; simp only [getR_eq, validR_eq]; rfl

noncomputable def astoreR (P : Program) (h : AHeap) (t : TypeId) (x y : AV) : Option (AV × AHeap) :=
  match x with
  | .ptr b o => match getR h b with
    | some (.cells (some F) p cs) => do
      let f ← famR h F
      let l ← y.cells?
      let s ← szA P t
      if validR h b = true ∧ l.length = s ∧ o + l.length ≤ cs.length then
        some (.tup [], (h.set b (.cells (some F) p (putL cs o l))).setFam F { f with live := some [b] })
      else none
    | _ => none
  | _ => none
theorem astoreR_eq (P : Program) (h : AHeap) (t : TypeId) (x y : AV) : astoreR P h t x y = astore P h t x y := by unfold astoreR astore; simp only [getR_eq, validR_eq, famR_eq]; rfl

noncomputable def aappendR (P : Program) (kill : Bool) (h : AHeap) (t : TypeId) (x y : AV) : Option (AV × AHeap) := do
  let e ← elemA P t
  let s ← szA P e
  let z ← zeroA P e
  let zs ← z.cells?
  let i ← P.info? e
  let (n, olds) ← acellsR h s x
  let (m, news) ← acellsR h s y
  if m = 0 then some (x, h)
  else if zs.length = s ∧ news.all AV.one = true ∧ n + m ≤ 9223372036854775807 ∧ (n + m) * i.bytes ≤ 140737488355328 then
    match x with
    | .nils => some (.slc h.next 0 m s false, h.alloc news)
    | .slc _ _ _ _ true => some (.slc h.next 0 (n + m) s false, h.alloc (olds ++ news))
    | .slc b o _ _ false => match getR h b with
      | some (.cells (some F) p _) => do
        let f ← famR h F
        if p + o + n * s = f.ext then
          some (.slc h.next 0 (n + m) s false, (h.push (.cells (some F) (p + o) (olds ++ news))).setFam F ⟨f.ext + m * s, f.live.map (h.next :: ·)⟩)
        else if kill = true then
          some (.slc h.next 0 (n + m) s false, (h.push (.cells (some F) (p + o) (olds ++ news))).setFam F ⟨max f.ext (p + o + (n + m) * s), some [h.next]⟩)
        else none
      | _ => none
    | _ => none
  else none
theorem aappendR_eq (P : Program) (kill : Bool) (h : AHeap) (t : TypeId) (x y : AV) : aappendR P kill h t x y = aappend P kill h t x y := by
  unfold aappendR aappend; simp only [getR_eq, famR_eq, acellsR_eq]; rfl

noncomputable def achainR (P : Program) (kill : Bool) (h : AHeap) (ρ : Operand → AV) (op : Op) : Option (AV × AHeap) :=
  match op with
  | .store t x y => astoreR P h t (ρ x) (ρ y)
  | .call { callee := .builtin .append, args, argTypes } => match args.toList, argTypes.toList with
    | [x, y], [t, t'] => if t = t' then aappendR P kill h t (ρ x) (ρ y) else aappendZ P h t t' (ρ x) (ρ y)
    | _, _ => none
  | op => achain P kill h ρ op
theorem achainR_eq (P : Program) (kill : Bool) (h : AHeap) (ρ : Operand → AV) (op : Op) : achainR P kill h ρ op = achain P kill h ρ op := by
  unfold achainR
  split
  · simp only [achain, astoreR_eq]
  · simp only [achain, aappendR_eq]; rfl
  · rfl

noncomputable def seqAtR {β : Type} (l : List Blk) : Nat → (List Blk → β) → β :=
  List.rec (motive := fun _ => Nat → (List Blk → β) → β) (fun _ k => k [])
    (fun B Bs ih n k => Nat.rec (motive := fun _ => β) (seqBlk B fun B => k (B :: Bs)) (fun m _ => ih m fun Bs => k (B :: Bs)) n) l
theorem seqAtR_eq {β : Type} : ∀ (l : List Blk) (n : Nat) (k : List Blk → β), seqAtR l n k = k l := by
  intro l
  induction l with
  | nil => intro n k; rfl
  | cons B Bs ih =>
    intro n k
    cases n with
    | zero => show seqBlk B (fun B => k (B :: Bs)) = _; rw [seqBlk_eq]
    | succ n => show seqAtR Bs n (fun Bs => k (B :: Bs)) = _; rw [ih]
noncomputable def seqHeapR {β : Type} (h : AHeap) (b : Nat) (k : AHeap → β) : β := match h with
  | ⟨bs, fs, gs⟩ => seqAtR bs b fun bs => seqListR seqFam fs fun fs => k ⟨bs, fs, gs⟩
theorem seqHeapR_eq {β : Type} (h : AHeap) (b : Nat) (k : AHeap → β) : seqHeapR h b k = k h := by
  cases h with | mk bs fs gs => simp [seqHeapR, seqAtR_eq, seqListR_eq seqFam seqFam_eq]

theorem blt_of {t : Nat} (h : t < 4095) : Nat.blt t 4095 = true := by simp [Nat.blt]; omega
theorem of_blt {t : Nat} (h : Nat.blt t 4095 = true) : t < 4095 := by simp [Nat.blt] at h; omega

noncomputable def evalT (globs : List Nat) (tr : Tr) : Operand → AV
  | .tmp t => bif Nat.blt t 4095 then tr.getV (path t) else .bot
  | .const v => AV.of 4 v
  | .global g => if globs.contains g then .ptr g 0 else .bot
  | .func f => .fn f []
theorem evalT_eq {tr : Tr} {fr : List AV} (r : Rep tr fr) (globs : List Nat) : evalT globs tr = evalA globs fr := by
  funext x
  cases x with
  | tmp t =>
    simp only [evalT, evalA]
    cases hb : Nat.blt t 4095 with
    | true => rw [cond_true, r.get t (of_blt hb)]
    | false =>
      have ht : ¬ (show Nat from t) < 4095 := fun h => by rw [blt_of h] at hb; cases hb
      have hlen := r.1
      have hno : fr[t]? = none := List.getElem?_eq_none (by change fr.length ≤ (show Nat from t); omega)
      rw [cond_false, List.getD_eq_getElem?_getD, hno]
      rfl
  | const v => rfl
  | global g => rfl
  | func f => rfl

noncomputable def guardT (ops : Array Oper) (tr : Tr) (j : Nat) : Option (Option Bool) :=
  match (ops[j]?).bind (·.dst) with
  | some d => match evalT [] tr (.tmp d) with | .bool b => some (some b) | .tup _ => some none | _ => none
  | none => none
theorem guardT_eq {tr : Tr} {fr : List AV} (r : Rep tr fr) (ops : Array Oper) (j : Nat) : guardT ops tr j = guardA ops fr j := by
  unfold guardT guardA; rw [evalT_eq r]; rfl

noncomputable def astepB (P : Program) (kill : Bool) (call : FuncId → List AV → AHeap → Option (AV × AHeap)) (h : AHeap) (ρ : Operand → AV) (o : Oper) : Option (AV × AHeap) :=
  match clsOf o.op with
  | .pure => match apure P ρ o.op with | some v => some (v, h) | none => none
  | .read => match areadB P h ρ o.op with | some v => some (v, h) | none => none
  | .allo => match aallo P ρ o.op with | some (mk, cs) => seqHeapR (h.alloc cs) h.next fun h' => some (mk.val h.next, h') | none => none
  | .chain => match o.op with
    | .call { callee := .value g, args, .. } => match ρ g with
      | .fn f caps => call f (args.toList.map ρ ++ caps) h
      | _ => none
    | op => match achainR P kill h ρ op with
      | some (v, h') => seqHeapR h' (touched h ρ op) fun h' => some (v, h')
      | none => none

noncomputable def putT {β : Type} (tr : Tr) (dst : Option Tmp) (v : AV) (k : Tr → β) : β := match dst with
  | some d => seqAV 3 v fun v => Tr.setK v (path d) tr k
  | none => k tr

noncomputable def aopsB (P : Program) (kill : Bool) (call : FuncId → List AV → AHeap → Option (AV × AHeap)) (ops : Array Oper) : List Oper → Tr → AHeap → Option (Tr × AHeap)
  | [], tr, h => some (tr, h)
  | o :: os, tr, h =>
    match (match o.guard with | none => some true | some (j, want) => (guardT ops tr j).map (· == some want)) with
    | some true => match astepB P kill call h (evalT h.globs tr) o with
      | some (v, h') => putT tr o.dst v fun tr' => aopsB P kill call ops os tr' h'
      | none => none
    | some false => putT tr o.dst (.tup []) fun tr' => aopsB P kill call ops os tr' h
    | none => none

/-- All slots of the operations are small. -/
def dstSmall (o : Oper) : Bool := match o.dst with | some d => Nat.blt d 4095 | none => true

noncomputable def resT (tr : Tr) : List ResultVar → Option (List AV)
  | [] => some []
  | .tmp t :: rs => (resT tr rs).map fun l => evalT [] tr (.tmp t) :: l
  | .cell _ _ :: _ => none

noncomputable def setArgs (tr : Tr) : List AV → Nat → Tr
  | [], _ => tr
  | a :: as, i => setArgs (tr.set a (path i)) as (i + 1)
noncomputable def argsK {β : Type} : List AV → Nat → Tr → (Tr → β) → β
  | [], _, tr, k => k tr
  | a :: as, i, tr, k => seqAV 3 a fun a => Tr.setK a (path i) tr fun tr => argsK as (i + 1) tr k
theorem argsK_eq {β : Type} : ∀ (as : List AV) (i : Nat) (tr : Tr) (k : Tr → β), argsK as i tr k = k (setArgs tr as i)
  | [], _, _, _ => rfl
  | a :: as, i, tr, k => by simp only [argsK, setArgs, seqAV_eq, Tr.setK_eq]; exact argsK_eq as (i + 1) _ k

theorem setArgs_rep : ∀ (as : List AV) (i : Nat) (tr : Tr) (pre post : List AV), Rep tr (pre ++ post) → pre.length = i → as.length ≤ post.length → i + as.length ≤ 2000 → Rep (setArgs tr as i) (pre ++ as ++ post.drop as.length)
  | [], i, tr, pre, post, r, _, _, _ => by simpa [setArgs] using r
  | a :: as, i, tr, pre, post, r, hi, hl, h2 => by
    cases post with
    | nil => simp at hl
    | cons p post =>
      simp only [setArgs]
      simp only [List.length_cons] at hl h2
      have r' := r.set i (by omega) a
      have e : (pre ++ p :: post).set i a = (pre ++ [a]) ++ post := by
        subst hi
        simp
      rw [e] at r'
      have := setArgs_rep as (i + 1) (tr.set a (path i)) (pre ++ [a]) post r' (by simp; omega) (by omega) (by omega)
      simpa using this

noncomputable def bcall (P : Program) (ok : FuncId → Bool) (run : Code → Tr → AHeap → Option (Ex × Tr × AHeap)) (f : FuncId) (args : List AV) (h : AHeap) : Option (AV × AHeap) :=
  if ok f then
    match P.funcs[f]? with
    | some fn => match fn.body with
      | some c => if args.length ≤ fn.ntmps ∧ fn.ntmps ≤ 2000 then
          argsK args 0 (Tr.blank fn.ntmps 12 1 0) fun tr => match run c tr h with
          | some (.normal, tr, h') => match resT tr fn.results.toList with | some [x] => some (x, h') | some l => some (.tup l, h') | none => none
          | some (.ret, tr, h') => match resT tr fn.results.toList with | some [x] => some (x, h') | some l => some (.tup l, h') | none => none
          | _ => none
        else none
      | none => none
    | none => none
  else none

noncomputable def brun (P : Program) (ok : FuncId → Bool) : Nat → Code → Tr → AHeap → Option (Ex × Tr × AHeap)
  | 0, _, _, _ => none
  | n + 1, c, tr, h => match c with
    | .skip => some (.normal, tr, h)
    | .label _ => some (.normal, tr, h)
    | .ret => some (.ret, tr, h)
    | .exit id => some (.exit id, tr, h)
    | .seq a b => match brun P ok n a tr h with
      | some (.normal, tr', h') => brun P ok n b tr' h'
      | r => r
    | .cond c a b => match evalT h.globs tr c with
      | .bool true => brun P ok n a tr h
      | .bool false => brun P ok n b tr h
      | _ => none
    | .block id b => match brun P ok n b tr h with
      | some (.exit id', tr', h') => if id' = id then some (.normal, tr', h') else some (.exit id', tr', h')
      | r => r
    | .loop b => match brun P ok n b tr h with
      | some (.normal, tr', h') => brun P ok n (.loop b) tr' h'
      | r => r
    | .region _ ops draw => match aopsB P (!draw) (bcall P ok (brun P ok n)) ops ops.toList tr h with
      | some (tr', h') => some (.normal, tr', h')
      | none => none
    | _ => none

/-- All slots that the code writes are small. -/
def codeSmall : Code → Bool
  | .seq a b => codeSmall a && codeSmall b
  | .cond _ a b => codeSmall a && codeSmall b
  | .block _ b => codeSmall b
  | .loop b => codeSmall b
  | .region _ ops _ => ops.toList.all dstSmall
  | _ => true
def smallFn (P : Program) (f : FuncId) : Bool := match P.funcs[f]? with
  | some fn => match fn.body with | some c => codeSmall c | none => true
  | none => true

end Go.Am

/-! The abstract machine: a call without arguments that the kernel has run: it returns what was reckoned, in whatever world, and writes nothing that was there. -/
namespace Go.Am
open Go.RowKit

def h00 : AHeap := ⟨[], [], []⟩
def φ00 : Emb := fun _ => none

theorem h00_get (b : Nat) : h00.get b = none := rfl

theorem HRel.empty (w : World) : HRel φ00 h00 w := by
  refine ⟨?_, ?_, ?_, ?_, ?_, ?_, ?_, ?_⟩
  · intro g hg; cases hg
  · intro b k i z h; cases h
  · intro b k i z B h; cases h
  · intro b k i z F p cs h; cases h
  · intro b b' k i i' z z' F F' p p' cs cs' h; cases h
  · intro b b' k i i' z z' F p p' cs cs' h; cases h
  · intro b b' k i i' z z' F0 x0 B h; cases h
  · intro b F p cs h; rw [h00_get] at h; cases h

noncomputable def okB (P : Program) (f : FuncId) : Bool := okFn P f && smallFn P f

def isB (b : Bool) : Option (AV × AHeap) → Bool
  | some (.bool c, _) => b == c
  | _ => false

/-- Whether the kernel's run returns the boolean. -/
noncomputable def runs (P : Program) (n : Nat) (f : FuncId) (args : List AV) (b : Bool) : Bool := isB b (bcall P (okB P) (brun P (okB P) n) f args h00)

end Go.Am
