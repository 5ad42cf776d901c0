/-
  The abstract machine, run: an interpreter that the kernel can reckon with; what it returns, the call returns.
  Conditions: none.
-/
import Derived.Test.YtenkokebdgekbaaAm14
namespace Go.Am

/- Forcing, so that nothing is left to be reckoned twice. -/
def seqNat {β : Type} (n : Nat) (k : Nat → β) : β := match n with | 0 => k 0 | m + 1 => k (m + 1)
def seqInt {β : Type} (i : Int) (k : Int → β) : β := match i with | .ofNat m => seqNat m fun m => k (.ofNat m) | .negSucc m => seqNat m fun m => k (.negSucc m)
def seqKind {β : Type} (i : IntKind) (k : IntKind → β) : β := match i with
  | .i8 => k .i8 | .i16 => k .i16 | .i32 => k .i32 | .i64 => k .i64 | .u8 => k .u8 | .u16 => k .u16 | .u32 => k .u32 | .u64 => k .u64
def seqBool {β : Type} (b : Bool) (k : Bool → β) : β := match b with | true => k true | false => k false
def seqList {α β : Type} (f : α → (α → β) → β) : List α → (List α → β) → β
  | [], k => k []
  | x :: xs, k => f x fun x => seqList f xs fun xs => k (x :: xs)
def seqAV {β : Type} : Nat → AV → (AV → β) → β
  | 0, v, k => k v
  | n + 1, v, k => match v with
    | .bool b => seqBool b fun b => k (.bool b)
    | .int kd i => seqKind kd fun kd => seqInt i fun i => k (.int kd i)
    | .ptr b o => seqNat b fun b => seqNat o fun o => k (.ptr b o)
    | .slc b o m s f => seqNat b fun b => seqNat o fun o => seqNat m fun m => seqNat s fun s => seqBool f fun f => k (.slc b o m s f)
    | .mp b => seqNat b fun b => k (.mp b)
    | .fn f caps => seqNat f fun f => seqList (seqAV n) caps fun caps => k (.fn f caps)
    | .agg l => seqList (seqAV n) l fun l => k (.agg l)
    | .tup l => seqList (seqAV n) l fun l => k (.tup l)
    | v => k v
theorem seqNat_eq {β : Type} (n : Nat) (k : Nat → β) : seqNat n k = k n := by cases n <;> rfl
theorem seqInt_eq {β : Type} (i : Int) (k : Int → β) : seqInt i k = k i := by cases i <;> simp [seqInt, seqNat_eq]
theorem seqKind_eq {β : Type} (i : IntKind) (k : IntKind → β) : seqKind i k = k i := by cases i <;> rfl
theorem seqBool_eq {β : Type} (b : Bool) (k : Bool → β) : seqBool b k = k b := by cases b <;> rfl
theorem seqList_eq {α β : Type} (f : α → (α → β) → β) (hf : ∀ x k, f x k = k x) : ∀ (l : List α) (k : List α → β), seqList f l k = k l
  | [], k => rfl
  | x :: xs, k => by simp [seqList, hf, seqList_eq f hf xs]
theorem seqAV_eq {β : Type} : ∀ (n : Nat) (v : AV) (k : AV → β), seqAV n v k = k v := by
  intro n
  induction n with
  | zero => intro v k; rfl
  | succ n ih =>
    intro v k
    cases v <;> simp [seqAV, seqNat_eq, seqInt_eq, seqKind_eq, seqBool_eq, seqList_eq (seqAV n) ih]

def seqBlk {β : Type} (B : Blk) (k : Blk → β) : β := match B with
  | .cells none p cs => seqNat p fun p => seqList (seqAV 3) cs fun cs => k (.cells none p cs)
  | .cells (some F) p cs => seqNat F fun F => seqNat p fun p => seqList (seqAV 3) cs fun cs => k (.cells (some F) p cs)
  | .map es => k (.map es)
theorem seqBlk_eq {β : Type} (B : Blk) (k : Blk → β) : seqBlk B k = k B := by
  cases B with
  | cells F p cs => cases F <;> simp [seqBlk, seqNat_eq, seqList_eq (seqAV 3) (seqAV_eq 3)]
  | map es => rfl
/-- The list of blocks, the block at a place besides. -/
def seqAt {β : Type} : List Blk → Nat → (List Blk → β) → β
  | [], _, k => k []
  | B :: Bs, 0, k => seqBlk B fun B => k (B :: Bs)
  | B :: Bs, n + 1, k => seqAt Bs n fun Bs => k (B :: Bs)
theorem seqAt_eq {β : Type} : ∀ (l : List Blk) (n : Nat) (k : List Blk → β), seqAt l n k = k l
  | [], _, k => rfl
  | B :: Bs, 0, k => by simp [seqAt, seqBlk_eq]
  | B :: Bs, n + 1, k => by simp [seqAt, seqAt_eq Bs n]
def seqLive {β : Type} (l : Option (List Nat)) (k : Option (List Nat) → β) : β := match l with | none => k none | some l => seqList seqNat l fun l => k (some l)
def seqFam {β : Type} (f : Fam) (k : Fam → β) : β := match f with | ⟨x, l⟩ => seqNat x fun x => seqLive l fun l => k ⟨x, l⟩
theorem seqFam_eq {β : Type} (f : Fam) (k : Fam → β) : seqFam f k = k f := by
  cases f with | mk x l => cases l <;> simp [seqFam, seqNat_eq, seqLive, seqList_eq seqNat seqNat_eq]
def seqHeap {β : Type} (h : AHeap) (b : Nat) (k : AHeap → β) : β := match h with
  | ⟨bs, fs, gs⟩ => seqAt bs b fun bs => seqList seqFam fs fun fs => k ⟨bs, fs, gs⟩
theorem seqHeap_eq {β : Type} (h : AHeap) (b : Nat) (k : AHeap → β) : seqHeap h b k = k h := by
  cases h with | mk bs fs gs => simp [seqHeap, seqAt_eq, seqList_eq seqFam seqFam_eq]

/-- The block that a step touches. -/
def touched (h : AHeap) (ρ : Operand → AV) (op : Op) : Nat := match op with
  | .store _ x _ => match ρ x with | .ptr b _ => b | _ => 0
  | .call { callee := .builtin .copy, args, .. } => match args.toList with | x :: _ => (match ρ x with | .slc b _ _ _ _ => b | _ => 0) | _ => 0
  | _ => h.next

/-- One operation. -/
def astepC (P : Program) (kill : Bool) (call : FuncId → List AV → AHeap → Option (AV × AHeap)) (h : AHeap) (ρ : Operand → AV) (o : Oper) : Option (AV × AHeap) :=
  match clsOf o.op with
  | .pure => match apure P ρ o.op with | some v => some (v, h) | none => none
  | .read => match areadR P h ρ o.op with | some v => some (v, h) | none => none
  | .allo => match aallo P ρ o.op with | some (mk, cs) => seqHeap (h.alloc cs) h.next fun h' => some (mk.val h.next, h') | none => none
  | .chain => match o.op with
    | .call { callee := .value g, args, .. } => match ρ g with
      | .fn f caps => call f (args.toList.map ρ ++ caps) h
      | _ => none
    | op => match achain P kill h ρ op with
      | some (v, h') => seqHeap h' (touched h ρ op) fun h' => some (v, h')
      | none => none

theorem astepC_step {P : Program} {kill : Bool} {call : FuncId → List AV → AHeap → Option (AV × AHeap)} (hc : ∀ f args h r h', call f args h = some (r, h') → Ev P f args h r h') {h h' : AHeap} {ρ : Operand → AV} {o : Oper} {v : AV}
    (hs : astepC P kill call h ρ o = some (v, h')) : SemStep P ρ o h v h' := by
  unfold astepC at hs
  split at hs
  · rename_i hcl
    split at hs
    · rename_i hp; cases hs; unfold SemStep; rw [hcl]; exact ⟨hp, rfl⟩
    · cases hs
  · rename_i hcl
    split at hs
    · rename_i hp; cases hs; unfold SemStep; rw [hcl]; exact ⟨hp, rfl⟩
    · cases hs
  · rename_i hcl
    split at hs
    · rename_i hp; rw [seqHeap_eq] at hs; cases hs; unfold SemStep; rw [hcl]; exact ⟨_, _, hp, rfl, rfl⟩
    · cases hs
  · rename_i hcl
    split at hs
    · rename_i g args tys ho
      split at hs
      · rename_i f caps hg
        exact Ev.step ho hg (hc _ _ _ _ _ hs)
      · cases hs
    · split at hs
      · rename_i hp
        rw [seqHeap_eq] at hs; cases hs
        unfold SemStep; rw [hcl]
        exact achain_step hp
      · cases hs

def setS {β : Type} : List AV → Nat → AV → (List AV → β) → β
  | [], _, _, k => k []
  | _ :: xs, 0, v, k => k (v :: xs)
  | x :: xs, n + 1, v, k => setS xs n v fun xs => k (x :: xs)
theorem setS_eq {β : Type} : ∀ (l : List AV) (n : Nat) (v : AV) (k : List AV → β), setS l n v k = k (l.set n v)
  | [], _, _, k => rfl
  | _ :: xs, 0, v, k => rfl
  | x :: xs, n + 1, v, k => by simp [setS, setS_eq xs n v]
def putS {β : Type} (fr : List AV) (dst : Option Tmp) (v : AV) (k : List AV → β) : β := match dst with
  | some d => seqAV 3 v fun v => setS fr d v k
  | none => k fr
theorem putS_eq {β : Type} (fr : List AV) (dst : Option Tmp) (v : AV) (k : List AV → β) : putS fr dst v k = k (setF fr dst v) := by
  cases dst <;> simp [putS, setF, seqAV_eq, setS_eq]

def aopsC (P : Program) (kill : Bool) (call : FuncId → List AV → AHeap → Option (AV × AHeap)) (ops : Array Oper) : List Oper → List AV → AHeap → Option (List AV × AHeap)
  | [], fr, h => some (fr, h)
  | o :: os, fr, h =>
    match (match o.guard with | none => some true | some (j, want) => (guardA ops fr j).map (· == some want)) with
    | some true => match astepC P kill call h (evalA h.globs fr) o with
      | some (v, h') => putS fr o.dst v fun fr' => aopsC P kill call ops os fr' h'
      | none => none
    | some false => putS fr o.dst (.tup []) fun fr' => aopsC P kill call ops os fr' h
    | none => none

/-- The appends of a region keep what is known of old blocks. -/
def isApp (o : Oper) : Bool := match o.op with | .call { callee := .builtin .append, .. } => true | _ => false
def appsOf (l : List Oper) : List Nat := (l.zipIdx.filter fun p => isApp p.1).map (·.2)

theorem HExt.push {h : AHeap} {F q x : Nat} {cs : List AV} {f : Fam} (hf : h.fam F = some f) : HExt h ((h.push (.cells (some F) q cs)).setFam F ⟨x, f.live.map (h.next :: ·)⟩) := by
  have hFlt := AHeap.fam_lt hf
  refine ⟨by rw [AHeap.next_setFam, AHeap.next_push]; omega, fun b hb => by rw [AHeap.get_setFam, AHeap.get_push, if_neg (by omega)], ?_⟩
  intro b hb
  simp only [AHeap.valid, AHeap.get_setFam, AHeap.get_push, if_neg (show ¬ b = h.next by omega)]
  cases hg : h.get b with
  | none => rfl
  | some B =>
    cases B with
    | map es => rfl
    | cells F' p' cs' =>
      cases F' with
      | none => rfl
      | some F' =>
        simp only [AHeap.fam_setFam, AHeap.fam_push]
        by_cases hFF : F' = F
        · subst hFF
          have : F' < (h.push (.cells (some F') q cs)).nfam := hFlt
          rw [if_pos ⟨rfl, this⟩, hf]
          cases hlv : f.live with
          | none => simp [Fam.sees, hlv]
          | some l =>
            simp only [Fam.sees, hlv, Option.map_some, List.contains_cons]
            have : (b == h.next) = false := by simp; omega
            rw [this, Bool.false_or]
        · rw [if_neg (by simp [hFF])]

theorem aappend_ext {P : Program} {h h' : AHeap} {t : TypeId} {x y v : AV} (wf : WFH h) (hs : aappend P false h t x y = some (v, h')) : HExt h h' := by
  simp only [aappend, Option.bind_eq_bind, Option.bind_eq_some_iff] at hs
  obtain ⟨e, he, s, hsz, z, hz, zs, hzs, i, hi, ⟨n, olds⟩, hxo, ⟨m, news⟩, hyo, hs⟩ := hs
  split at hs
  · cases hs; exact HExt.refl _
  · split at hs
    · split at hs
      · cases hs; exact HExt.alloc' wf _
      · cases hs; exact HExt.alloc' wf _
      · split at hs
        · simp only [Option.bind_eq_some_iff] at hs
          obtain ⟨f, hf, hs⟩ := hs
          split at hs
          · cases hs; exact HExt.push hf
          · simp at hs
        · cases hs
      · cases hs
    · cases hs

theorem aappendZ_ext {P : Program} {h h' : AHeap} {t t' : TypeId} {x y v : AV} (wf : WFH h) (hs : aappendZ P h t t' x y = some (v, h')) : HExt h h' := by
  unfold aappendZ at hs
  split at hs
  · simp only [Option.bind_eq_bind, Option.bind_eq_some_iff] at hs
    obtain ⟨e, he, s, hsz, z, hz, zs, hzs, i, hi, k, hk', hs⟩ := hs
    split at hs
    · cases hs; exact HExt.alloc' wf _
    · cases hs
  · cases hs

theorem aopsC_sound {P : Program} {kill : Bool} {call : FuncId → List AV → AHeap → Option (AV × AHeap)} (hc : ∀ f args h r h', call f args h = some (r, h') → Ev P f args h r h') {ops : Array Oper} {ex : List Nat}
    (hex : ∀ k (o : Oper), ops[k]? = some o → ex.contains k = true → isApp o = true ∧ kill = false) {fr' : List AV} {h' : AHeap} :
    ∀ (l : List Oper) (k : Nat) (fr : List AV) (h : AHeap), (∀ i, l[i]? = ops[k + i]?) → aopsC P kill call ops l fr h = some (fr', h') → AOps P ops ex (fun f1 h1 => f1 = fr' ∧ h1 = h') k l fr h := by
  intro l
  induction l with
  | nil => intro k fr h _ hs; cases hs; exact ⟨rfl, rfl⟩
  | cons o os ih =>
    intro k fr h hl hs
    have ho : ops[k]? = some o := by have := hl 0; simpa using this.symm
    have hl' : ∀ i, os[i]? = ops[k + 1 + i]? := by
      intro i
      have := hl (i + 1)
      simp only [List.getElem?_cons_succ] at this
      rw [this]; congr 1; omega
    have hgo : ∀ v h1, astepC P kill call h (evalA h.globs fr) o = some (v, h1) → aopsC P kill call ops os (setF fr o.dst v) h1 = some (fr', h') →
        ∃ v h1, SemStep P (evalA h.globs fr) o h v h1 ∧ (ex.contains k = true → WFH h → HExt h h1) ∧ AOps P ops ex (fun f1 h1 => f1 = fr' ∧ h1 = h') (k + 1) os (setF fr o.dst v) h1 := by
      intro v h1 hst hrest
      refine ⟨v, h1, astepC_step hc hst, ?_, ih (k + 1) _ h1 hl' hrest⟩
      intro hk wf
      obtain ⟨happ, hkill⟩ := hex k o ho hk
      subst hkill
      unfold isApp at happ
      split at happ
      · rename_i args tys hop
        simp only [astepC, hop, clsOf, achain] at hst
        split at hst
        · rename_i hp
          split at hp
          · split at hp
            · rw [seqHeap_eq] at hst; cases hst
              exact aappend_ext wf hp
            · rw [seqHeap_eq] at hst; cases hst
              exact aappendZ_ext wf hp
          · cases hp
        · cases hst
      · cases happ
    unfold aopsC at hs
    unfold AOps
    cases hg : o.guard with
    | none =>
      simp only [hg] at hs ⊢
      split at hs
      · rename_i v h1 hst
        rw [putS_eq] at hs
        exact hgo v h1 hst hs
      · cases hs
    | some jw =>
      obtain ⟨j, want⟩ := jw
      simp only [hg] at hs ⊢
      cases hga : guardA ops fr j with
      | none => rw [hga] at hs; simp at hs
      | some b =>
        rw [hga] at hs
        simp only [Option.map_some] at hs
        refine ⟨b, rfl, ?_, ?_⟩
        · intro hbw
          have : (b == some want) = true := by simp [hbw]
          rw [this] at hs
          simp only at hs
          split at hs
          · rename_i v h1 hst
            rw [putS_eq] at hs
            exact hgo v h1 hst hs
          · cases hs
        · intro hbw
          have : (b == some want) = false := by simp [hbw]
          rw [this] at hs
          simp only at hs
          rw [putS_eq] at hs
          exact ih (k + 1) _ h hl' hs

/-- Is each region of the code whose order is open one that the check lets by? -/
def codeOk (sz : Nat) : Code → Bool
  | .seq a b => codeOk sz a && codeOk sz b
  | .cond _ a b => codeOk sz a && codeOk sz b
  | .block _ b => codeOk sz b
  | .loop b => codeOk sz b
  | .region _ ops true => rgOk sz ops.toList (appsOf ops.toList)
  | _ => true

def acallC (P : Program) (ok : FuncId → Bool) (run : Code → List AV → AHeap → Option (Ex × List AV × AHeap)) (f : FuncId) (args : List AV) (h : AHeap) : Option (AV × AHeap) :=
  if ok f then
    match P.funcs[f]? with
    | some fn => match fn.body with
      | some c => if args.length ≤ fn.ntmps then
          match run c (mkFr args fn.ntmps) h with
          | some (.normal, fr, h') => (resultA fr fn.results.toList).map fun x => (x, h')
          | some (.ret, fr, h') => (resultA fr fn.results.toList).map fun x => (x, h')
          | _ => none
        else none
      | none => none
    | none => none
  else none

def arun (P : Program) (ok : FuncId → Bool) : Nat → Code → List AV → AHeap → Option (Ex × List AV × AHeap)
  | 0, _, _, _ => none
  | n + 1, c, fr, h => match c with
    | .skip => some (.normal, fr, h)
    | .label _ => some (.normal, fr, h)
    | .ret => some (.ret, fr, h)
    | .exit id => some (.exit id, fr, h)
    | .seq a b => match arun P ok n a fr h with
      | some (.normal, fr', h') => arun P ok n b fr' h'
      | r => r
    | .cond c a b => match evalA h.globs fr c with
      | .bool true => arun P ok n a fr h
      | .bool false => arun P ok n b fr h
      | _ => none
    | .block id b => match arun P ok n b fr h with
      | some (.exit id', fr', h') => if id' = id then some (.normal, fr', h') else some (.exit id', fr', h')
      | r => r
    | .loop b => match arun P ok n b fr h with
      | some (.normal, fr', h') => arun P ok n (.loop b) fr' h'
      | r => r
    | .region _ ops draw => match aopsC P (!draw) (acallC P ok (arun P ok n)) ops ops.toList fr h with
      | some (fr', h') => some (.normal, fr', h')
      | none => none
    | _ => none

/-- The functions that may be called: their names, and their regions. -/
def okFn (P : Program) (f : FuncId) : Bool := match P.funcs[f]? with
  | some fn => !(fn.name == "runtime.NumGoroutine") && (match fn.body with | some c => codeOk fn.ntmps c | none => false)
  | none => false

theorem aops_mono {P : Program} {ops : Array Oper} {ex : List Nat} {K K' : List AV → AHeap → Prop} (hk : ∀ fr h, K fr h → K' fr h) : ∀ (l : List Oper) (k : Nat) (fr : List AV) (h : AHeap), AOps P ops ex K k l fr h → AOps P ops ex K' k l fr h := by
  intro l
  induction l with
  | nil => intro k fr h hh; exact hk _ _ hh
  | cons o os ih =>
    intro k fr h hh
    unfold AOps at hh ⊢
    cases hg : o.guard with
    | none =>
      simp only [hg] at hh ⊢
      obtain ⟨v, h1, a, b, c⟩ := hh
      exact ⟨v, h1, a, b, ih _ _ _ c⟩
    | some jw =>
      obtain ⟨j, want⟩ := jw
      simp only [hg] at hh ⊢
      obtain ⟨b, hb, y, n⟩ := hh
      refine ⟨b, hb, fun e => ?_, fun e => ih _ _ _ (n e)⟩
      obtain ⟨v, h1, a, b, c⟩ := y e
      exact ⟨v, h1, a, b, ih _ _ _ c⟩

theorem aopsC_length {P : Program} {kill : Bool} {call : FuncId → List AV → AHeap → Option (AV × AHeap)} {ops : Array Oper} {fr' : List AV} {h' : AHeap} : ∀ (l : List Oper) (fr : List AV) (h : AHeap), aopsC P kill call ops l fr h = some (fr', h') → fr'.length = fr.length := by
  have hset : ∀ (fr : List AV) (d : Option Tmp) (v : AV), (setF fr d v).length = fr.length := by intro fr d v; cases d <;> simp [setF]
  intro l
  induction l with
  | nil => intro fr h hs; cases hs; rfl
  | cons o os ih =>
    intro fr h hs
    unfold aopsC at hs
    split at hs
    · split at hs
      · rw [putS_eq] at hs; rw [ih _ _ hs, hset]
      · cases hs
    · rw [putS_eq] at hs; rw [ih _ _ hs, hset]
    · cases hs

theorem mkFr_length {args : List AV} {n : Nat} (h : args.length ≤ n) : (mkFr args n).length = n := by simp [mkFr]; omega

theorem appsOf_app {ops : Array Oper} : ∀ k (o : Oper), ops[k]? = some o → (appsOf ops.toList).contains k = true → isApp o = true := by
  intro k o ho hk
  simp only [appsOf, List.contains_iff_mem, List.mem_map, List.mem_filter, Prod.exists] at hk
  obtain ⟨o', k', ⟨hm, ha⟩, rfl⟩ := hk
  rw [List.mem_zipIdx_iff_getElem?] at hm
  simp only [Array.getElem?_toList] at hm
  rw [ho] at hm; cases hm; exact ha

theorem arun_sound {P : Program} {ok : FuncId → Bool} (hm : P.follows .mixedOrders = true) (hok : ∀ f, ok f = true → okFn P f = true) :
    ∀ (n : Nat) (c : Code) (fr : List AV) (h : AHeap) (e : Ex) (fr' : List AV) (h' : AHeap) (sz : Nat), codeOk sz c = true → fr.length = sz → arun P ok n c fr h = some (e, fr', h') →
      fr'.length = sz ∧ AW P c (fun e1 f1 h1 => e1 = e ∧ f1 = fr' ∧ h1 = h') fr h := by
  intro n
  induction n using Nat.strongRecOn with
  | _ n ih =>
    intro c fr h e fr' h' sz hco hsz hr
    cases n with
    | zero => cases hr
    | succ n =>
      have ihn := ih n (by omega)
      unfold arun at hr
      cases c with
      | skip => cases hr; exact ⟨hsz, AW.skip ⟨rfl, rfl, rfl⟩⟩
      | label l => cases hr; exact ⟨hsz, AW.label ⟨rfl, rfl, rfl⟩⟩
      | ret => cases hr; exact ⟨hsz, AW.ret ⟨rfl, rfl, rfl⟩⟩
      | exit id => cases hr; exact ⟨hsz, AW.exit ⟨rfl, rfl, rfl⟩⟩
      | goto l => cases hr
      | scope b => cases hr
      | refuse w => cases hr
      | rangeFunc f p a b => cases hr
      | seq a b =>
        simp only [codeOk, Bool.and_eq_true] at hco
        simp only at hr
        cases ha : arun P ok n a fr h with
        | none => rw [ha] at hr; cases hr
        | some r =>
          obtain ⟨e1, f1, h1⟩ := r
          obtain ⟨l1, w1⟩ := ihn a fr h e1 f1 h1 sz hco.1 hsz ha
          rw [ha] at hr
          cases e1 with
          | normal =>
            obtain ⟨l2, w2⟩ := ihn b f1 h1 e fr' h' sz hco.2 l1 hr
            refine ⟨l2, AW.seq (w1.mono ?_)⟩
            rintro e2 f2 h2 ⟨rfl, rfl, rfl⟩
            exact w2
          | ret =>
            cases hr
            refine ⟨l1, AW.seq (w1.mono ?_)⟩
            rintro e2 f2 h2 ⟨rfl, rfl, rfl⟩
            exact ⟨rfl, rfl, rfl⟩
          | exit id =>
            cases hr
            refine ⟨l1, AW.seq (w1.mono ?_)⟩
            rintro e2 f2 h2 ⟨rfl, rfl, rfl⟩
            exact ⟨rfl, rfl, rfl⟩
      | cond x a b =>
        simp only [codeOk, Bool.and_eq_true] at hco
        simp only at hr
        cases hx : evalA h.globs fr x with
        | bool t =>
          rw [hx] at hr
          cases t with
          | true =>
            obtain ⟨l1, w1⟩ := ihn a fr h e fr' h' sz hco.1 hsz hr
            exact ⟨l1, AW.cond hx (by simpa using w1)⟩
          | false =>
            obtain ⟨l1, w1⟩ := ihn b fr h e fr' h' sz hco.2 hsz hr
            exact ⟨l1, AW.cond hx (by simpa using w1)⟩
        | _ => rw [hx] at hr; cases hr
      | block id b =>
        simp only [codeOk] at hco
        simp only at hr
        cases hb : arun P ok n b fr h with
        | none => rw [hb] at hr; cases hr
        | some r =>
          obtain ⟨e1, f1, h1⟩ := r
          obtain ⟨l1, w1⟩ := ihn b fr h e1 f1 h1 sz hco hsz hb
          rw [hb] at hr
          cases e1 with
          | normal =>
            cases hr
            refine ⟨l1, AW.block (w1.mono ?_)⟩
            rintro e2 f2 h2 ⟨rfl, rfl, rfl⟩
            simp
          | ret =>
            cases hr
            refine ⟨l1, AW.block (w1.mono ?_)⟩
            rintro e2 f2 h2 ⟨rfl, rfl, rfl⟩
            simp
          | exit id' =>
            simp only at hr
            split at hr
            · rename_i hid
              cases hr
              refine ⟨l1, AW.block (w1.mono ?_)⟩
              rintro e2 f2 h2 ⟨rfl, rfl, rfl⟩
              simp [hid]
            · rename_i hid
              cases hr
              refine ⟨l1, AW.block (w1.mono ?_)⟩
              rintro e2 f2 h2 ⟨rfl, rfl, rfl⟩
              simp [hid]
      | loop b =>
        have hcb : codeOk sz b = true := hco
        -- how long the frame stays
        have hlen : ∀ m, m ≤ n → ∀ f1 h1, f1.length = sz → arun P ok (m + 1) (.loop b) f1 h1 = some (e, fr', h') → fr'.length = sz := by
          intro m hm f1 h1 hf1 hr1
          exact (ih (m + 1 - 1) (by omega) b f1 h1 e fr' h' sz hcb hf1 |> fun _ => by
            by_cases hmn : m + 1 < n + 1
            · exact (ih (m + 1) hmn (.loop b) f1 h1 e fr' h' sz hco hf1 hr1).1
            · have : m = n := by omega
              subst this
              unfold arun at hr1
              simp only at hr1
              cases hb : arun P ok m b f1 h1 with
              | none => rw [hb] at hr1; cases hr1
              | some r =>
                obtain ⟨e1, f2, h2⟩ := r
                have l1 := (ihn b f1 h1 e1 f2 h2 sz hcb hf1 hb).1
                rw [hb] at hr1
                cases e1 with
                | normal => exact (ihn (.loop b) f2 h2 e fr' h' sz hco l1 hr1).1
                | ret => cases hr1; exact l1
                | exit id => cases hr1; exact l1)
        have hr' : arun P ok (n + 1) (.loop b) fr h = some (e, fr', h') := by unfold arun; exact hr
        refine ⟨hlen n (Nat.le_refl _) fr h hsz hr', ?_⟩
        refine AW.loop (fun m f1 h1 => m ≤ n + 1 ∧ f1.length = sz ∧ arun P ok m (.loop b) f1 h1 = some (e, fr', h')) ?_ (n + 1) fr h ⟨Nat.le_refl _, hsz, hr'⟩
        rintro m f1 h1 ⟨hmn, hf1, hr1⟩
        cases m with
        | zero => cases hr1
        | succ m =>
          unfold arun at hr1
          simp only at hr1
          cases hb : arun P ok m b f1 h1 with
          | none => rw [hb] at hr1; cases hr1
          | some r =>
            obtain ⟨e1, f2, h2⟩ := r
            obtain ⟨l1, w1⟩ := ih m (by omega) b f1 h1 e1 f2 h2 sz hcb hf1 hb
            rw [hb] at hr1
            refine w1.mono ?_
            rintro e2 f3 h3 ⟨rfl, rfl, rfl⟩
            cases e2 with
            | normal => exact ⟨m, by omega, by omega, l1, hr1⟩
            | ret => cases hr1; exact ⟨rfl, rfl, rfl⟩
            | exit id => cases hr1; exact ⟨rfl, rfl, rfl⟩
      | region id ops draw =>
        simp only at hr
        have hcall : ∀ f args h r h', acallC P ok (arun P ok n) f args h = some (r, h') → Ev P f args h r h' := by
          intro f args h r h' hc
          unfold acallC at hc
          split at hc
          · rename_i hokf
            have hfn := hok f hokf
            unfold okFn at hfn
            split at hc
            · rename_i fn hf
              rw [hf] at hfn
              simp only [Bool.and_eq_true, Bool.not_eq_true'] at hfn
              split at hc
              · rename_i body hb
                rw [hb] at hfn
                split at hc
                · rename_i hargs
                  have key : ∀ e fr h', arun P ok n body (mkFr args fn.ntmps) h = some (e, fr, h') → (e = .normal ∨ e = .ret) → ∀ x, resultA fr fn.results.toList = some x → Ev P f args h x h' := by
                    intro e fr h' hrun he x hx
                    obtain ⟨_, w⟩ := ihn body _ h e fr h' fn.ntmps hfn.2 (mkFr_length hargs) hrun
                    have := ACalls.of_body (args := args) (h := h) (R := fun r h1 => r = x ∧ h1 = h') hf hb hfn.1 (w.mono (by
                      rintro e1 f1 h1 ⟨rfl, rfl, rfl⟩
                      exact ⟨he, x, hx, rfl, rfl⟩))
                    obtain ⟨r, h1, hev, rfl, rfl⟩ := this
                    exact hev
                  split at hc
                  · rename_i fr1 h1 hrun
                    simp only [Option.map_eq_some_iff, Prod.mk.injEq] at hc
                    obtain ⟨x, hx, rfl, rfl⟩ := hc
                    exact key _ _ _ hrun (.inl rfl) x hx
                  · rename_i fr1 h1 hrun
                    simp only [Option.map_eq_some_iff, Prod.mk.injEq] at hc
                    obtain ⟨x, hx, rfl, rfl⟩ := hc
                    exact key _ _ _ hrun (.inr rfl) x hx
                  · cases hc
                · cases hc
              · cases hc
            · cases hc
          · cases hc
        cases ho : aopsC P (!draw) (acallC P ok (arun P ok n)) ops ops.toList fr h with
        | none => rw [ho] at hr; cases hr
        | some r =>
          obtain ⟨f1, h1⟩ := r
          rw [ho] at hr
          cases hr
          refine ⟨(aopsC_length _ _ _ ho).trans hsz, ?_⟩
          cases draw with
          | false =>
            have := aopsC_sound hcall (ex := []) (by intro k o _ hk; simp at hk) ops.toList 0 fr h (by simp) ho
            refine AW.region rfl ?_
            refine aops_mono ?_ _ _ _ _ this
            rintro f2 h2 ⟨rfl, rfl⟩
            exact ⟨rfl, rfl, rfl⟩
          | true =>
            have := aopsC_sound hcall (ex := appsOf ops.toList) (fun k o h1 h2 => ⟨appsOf_app k o h1 h2, rfl⟩) ops.toList 0 fr h (by simp) ho
            refine AW.region_draw hm rfl (rgOk_sound rfl hco) hsz ?_
            refine aops_mono ?_ _ _ _ _ this
            rintro f2 h2 ⟨rfl, rfl⟩
            exact ⟨rfl, rfl, rfl⟩

/-- A call, run. -/
theorem acall_run {P : Program} {ok : FuncId → Bool} (hm : P.follows .mixedOrders = true) (hok : ∀ f, ok f = true → okFn P f = true) (n : Nat) {f : FuncId} {args : List AV} {h h' : AHeap} {r : AV}
    (hc : acallC P ok (arun P ok n) f args h = some (r, h')) : Ev P f args h r h' := by
  unfold acallC at hc
  split at hc
  · rename_i hokf
    have hfn := hok f hokf
    unfold okFn at hfn
    split at hc
    · rename_i fn hf
      rw [hf] at hfn
      simp only [Bool.and_eq_true, Bool.not_eq_true'] at hfn
      split at hc
      · rename_i body hb
        rw [hb] at hfn
        split at hc
        · rename_i hargs
          have key : ∀ e fr h', arun P ok n body (mkFr args fn.ntmps) h = some (e, fr, h') → (e = .normal ∨ e = .ret) → ∀ x, resultA fr fn.results.toList = some x → Ev P f args h x h' := by
            intro e fr h' hrun he x hx
            obtain ⟨_, w⟩ := arun_sound hm hok n body _ h e fr h' fn.ntmps hfn.2 (mkFr_length hargs) hrun
            have := ACalls.of_body (args := args) (h := h) (R := fun r h1 => r = x ∧ h1 = h') hf hb hfn.1 (w.mono (by
              rintro e1 f1 h1 ⟨rfl, rfl, rfl⟩
              exact ⟨he, x, hx, rfl, rfl⟩))
            obtain ⟨r, h1, hev, rfl, rfl⟩ := this
            exact hev
          split at hc
          · rename_i fr1 h1 hrun
            simp only [Option.map_eq_some_iff, Prod.mk.injEq] at hc
            obtain ⟨x, hx, rfl, rfl⟩ := hc
            exact key _ _ _ hrun (.inl rfl) x hx
          · rename_i fr1 h1 hrun
            simp only [Option.map_eq_some_iff, Prod.mk.injEq] at hc
            obtain ⟨x, hx, rfl, rfl⟩ := hc
            exact key _ _ _ hrun (.inr rfl) x hx
          · cases hc
        · cases hc
      · cases hc
    · cases hc
  · cases hc

end Go.Am
