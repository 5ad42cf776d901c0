/-
  The abstract machine: maps, and walks along strings.
  Conditions: none.
-/
import Derived.Test.YtenkokebdgekbaaAmG
import Derived.MapKept
import Derived.WideKeyRuns
namespace Go.Am

/-- A new thing. -/
def AHeap.allocT (h : AHeap) (x : Thing) : AHeap := (h.push (.obj h.nfam x)).pushFam ⟨0, none⟩
theorem AHeap.next_allocT (h : AHeap) (x : Thing) : (h.allocT x).next = h.next + 1 := by simp [AHeap.allocT, AHeap.next_pushFam, AHeap.next_push]
theorem AHeap.nfam_allocT (h : AHeap) (x : Thing) : (h.allocT x).nfam = h.nfam + 1 := by simp [AHeap.allocT, AHeap.nfam, AHeap.pushFam, AHeap.push]
theorem AHeap.get_allocT (h : AHeap) (x : Thing) (b : Nat) : (h.allocT x).get b = if b = h.next then some (.obj h.nfam x) else h.get b := by
  simp [AHeap.allocT, AHeap.get_pushFam, AHeap.get_push]
theorem AHeap.fam_allocT (h : AHeap) (x : Thing) (F : Nat) : (h.allocT x).fam F = if F = h.nfam then some ⟨0, none⟩ else h.fam F := by
  have : (h.push (.obj h.nfam x)).nfam = h.nfam := rfl
  simp [AHeap.allocT, AHeap.fam_pushFam, AHeap.fam_push, this]
theorem HGrow.allocT (h : AHeap) (x : Thing) : HGrow h (h.allocT x) :=
  ⟨by rw [AHeap.next_allocT]; omega, by rw [AHeap.nfam_allocT]; omega, rfl, fun b hb => by rw [AHeap.get_allocT, if_neg (by omega)]⟩
theorem AHeap.valid_allocT_old (h : AHeap) (x : Thing) {b : Nat} (hb : b < h.next) {φ : Emb} {w : World} (r : HRel φ h w) : (h.allocT x).valid b = h.valid b := by
  simp only [AHeap.valid, AHeap.get_allocT, if_neg (show ¬ b = h.next by omega)]
  cases hg : h.get b with
  | none => rfl
  | some B =>
    cases B with
    | obj _ _ => rfl
    | cells F p cs' =>
      cases F with
      | none => rfl
      | some F =>
        obtain ⟨f, hf, _⟩ := r.ext b F p cs' hg
        have := AHeap.fam_lt hf
        simp only [AHeap.fam_allocT, if_neg (show ¬ F = h.nfam by omega)]

theorem HRel.allocT {φ : Emb} {h : AHeap} {w : World} (r : HRel φ h w) (hφ : φ h.next = none) (x : Thing) (o : Go.Obj) (hB : ∀ φ' w', w'.heap[w.heap.size]? = some o → BRel φ' w' w.heap.size 0 0 (.obj h.nfam x)) :
    HRel (φ.upd h.next (w.heap.size, 0, 0)) (h.allocT x) (w.alloc o) ∧ Trans φ h w (φ.upd h.next (w.heap.size, 0, 0)) (h.allocT x) (w.alloc o) := by
  have hle := Emb.le_upd (φ := φ) (w.heap.size, 0, 0) hφ
  have hold : ∀ k, k < w.heap.size → (w.alloc o).heap[k]? = w.heap[k]? := fun k hk => (MapKept.heap_alloc w o).2 k hk
  have hnew : (w.alloc o).heap[w.heap.size]? = some o := (MapKept.heap_alloc w o).1
  have hcase : ∀ b k i z, φ.upd h.next (w.heap.size, 0, 0) b = some (k, i, z) → (b = h.next ∧ k = w.heap.size ∧ i = 0 ∧ z = 0) ∨ (b ≠ h.next ∧ φ b = some (k, i, z)) := by
    intro b k i z hb
    by_cases hbn : b = h.next
    · subst hbn; rw [Emb.upd_same] at hb; cases hb; exact .inl ⟨rfl, rfl, rfl, rfl⟩
    · rw [Emb.upd_other φ _ hbn] at hb; exact .inr ⟨hbn, hb⟩
  refine ⟨⟨?_, ?_, ?_, ?_, ?_, ?_, ?_, ?_⟩, hle, ?_, ?_, ?_, ?_, rfl, rfl, rfl, by simp⟩
  · intro g hg
    obtain ⟨z, hz⟩ := r.glob g hg
    exact ⟨z, hle _ _ hz⟩
  · intro b k i z hb
    simp only [World.size_alloc]
    rcases hcase b k i z hb with ⟨_, rfl, _⟩ | ⟨hne, hb'⟩
    · omega
    · have := r.lt b k i z hb'; omega
  · intro b k i z B hb hg hv
    rcases hcase b k i z hb with ⟨rfl, rfl, rfl, rfl⟩ | ⟨hne, hb'⟩
    · rw [AHeap.get_allocT, if_pos rfl] at hg
      cases hg
      exact hB _ _ hnew
    · rw [AHeap.get_allocT, if_neg hne] at hg
      rw [AHeap.valid_allocT_old h x (AHeap.get_lt hg) r] at hv
      exact ((r.blk b k i z B hb' hg hv).world (hold k (r.lt b k i z hb'))).mono hle
  · intro b k i z F p cs' hb hg
    rcases hcase b k i z hb with ⟨rfl, rfl, rfl, rfl⟩ | ⟨hne, hb'⟩
    · rw [AHeap.get_allocT, if_pos rfl] at hg
      cases hg
    · rw [AHeap.get_allocT, if_neg hne] at hg
      obtain ⟨c', e', h1, h2⟩ := r.arr b k i z F p cs' hb' hg
      exact ⟨c', e', (hold k (r.lt b k i z hb')).trans h1, h2⟩
  · intro b b' k i i' z z' F F' p p' cs1 cs2 hb hb' hg hg'
    rcases hcase b k i z hb with ⟨rfl, rfl, rfl, rfl⟩ | ⟨hne, h1⟩ <;> rcases hcase b' _ i' z' hb' with ⟨rfl, hk, rfl, rfl⟩ | ⟨hne', h1'⟩
    · rw [AHeap.get_allocT, if_pos rfl] at hg; cases hg
    · rw [AHeap.get_allocT, if_pos rfl] at hg; cases hg
    · rw [AHeap.get_allocT, if_pos rfl] at hg'; cases hg'
    · rw [AHeap.get_allocT, if_neg hne] at hg
      rw [AHeap.get_allocT, if_neg hne'] at hg'
      exact r.one b b' k i i' z z' F F' p p' cs1 cs2 h1 h1' hg hg'
  · intro b b' k i i' z z' F p p' cs1 cs2 hb hb' hg hg'
    rcases hcase b k i z hb with ⟨rfl, rfl, rfl, rfl⟩ | ⟨hne, h1⟩ <;> rcases hcase b' _ i' z' hb' with ⟨rfl, hk, rfl, rfl⟩ | ⟨hne', h1'⟩
    · rw [AHeap.get_allocT, if_pos rfl] at hg; cases hg
    · rw [AHeap.get_allocT, if_pos rfl] at hg; cases hg
    · rw [AHeap.get_allocT, if_pos rfl] at hg'; cases hg'
    · rw [AHeap.get_allocT, if_neg hne] at hg
      rw [AHeap.get_allocT, if_neg hne'] at hg'
      exact r.sep b b' k i i' z z' F p p' cs1 cs2 h1 h1' hg hg'
  · intro b b' k i i' z z' F0 x0 B hb hb' hg hg'
    rcases hcase b k i z hb with ⟨rfl, rfl, rfl, rfl⟩ | ⟨hne, h1⟩ <;> rcases hcase b' _ i' z' hb' with ⟨rfl, hk, rfl, rfl⟩ | ⟨hne', h1'⟩
    · rfl
    · have := r.lt b' _ i' z' h1'; omega
    · have := r.lt b _ i z h1; omega
    · rw [AHeap.get_allocT, if_neg hne] at hg
      rw [AHeap.get_allocT, if_neg hne'] at hg'
      exact r.map b b' k i i' z z' F0 x0 B h1 h1' hg hg'
  · intro b F p cs' hg
    rw [AHeap.get_allocT] at hg
    rw [AHeap.fam_allocT]
    split at hg
    · cases hg
    · obtain ⟨f, hf, hl⟩ := r.ext b F p cs' hg
      have := AHeap.fam_lt hf
      exact ⟨f, by rw [if_neg (by omega)]; exact hf, hl⟩
  · intro b h1 h2
    rw [AHeap.next_allocT] at h2
    have : b = h.next := by omega
    subst this
    exact ⟨_, Emb.upd_same _ _ _⟩
  · intro b p h1 h2
    by_cases hbn : b = h.next
    · subst hbn; rw [AHeap.next_allocT]; omega
    · rw [Emb.upd_other φ _ hbn, h1] at h2; cases h2
  · intro b k i z h1 h2
    rcases hcase b k i z h2 with ⟨_, rfl, _⟩ | ⟨hne, hb'⟩
    · exact .inl (Nat.le_refl _)
    · rw [h1] at hb'; cases hb'
  · intro k hk _
    exact hold k hk

/-- Another thing in the same place. -/
def setW (w : World) (k : Nat) (o : Go.Obj) : World := { w with heap := w.heap.setIfInBounds k o }

theorem HGrow.setT {h : AHeap} {b F F' : Nat} {x x' : Thing} (hg : h.get b = some (.obj F x)) : HGrow h (h.set b (.obj F' x')) := by
  refine ⟨by simp [AHeap.set, AHeap.next], by simp [AHeap.set, AHeap.nfam], rfl, ?_⟩
  intro b' hb'
  rw [AHeap.get_set]
  by_cases hbb : b' = b
  · subst hbb
    rw [if_pos ⟨rfl, hb'⟩, hg]; rfl
  · rw [if_neg (by simp [hbb])]

theorem HRel.setT {φ : Emb} {h : AHeap} {w : World} (r : HRel φ h w) {b k i z F : Nat} {x : Thing} (hb : φ b = some (k, i, z)) (hg : h.get b = some (.obj F x)) (x' : Thing) (o' : Go.Obj)
    (hB : ∀ w', w'.heap[k]? = some o' → BRel φ w' k i z (.obj F x')) : HRel φ (h.set b (.obj F x')) (setW w k o') ∧ Trans φ h w φ (h.set b (.obj F x')) (setW w k o') := by
  have hk := r.lt b k i z hb
  have hblt := AHeap.get_lt hg
  have hnew : (setW w k o').heap[k]? = some o' := by simp [setW, hk]
  have hold : ∀ k', k' ≠ k → (setW w k o').heap[k']? = w.heap[k']? := fun k' hne => by simp [setW, Ne.symm hne]
  have hget : ∀ b', (h.set b (.obj F x')).get b' = if b' = b then some (.obj F x') else h.get b' := by
    intro b'
    rw [AHeap.get_set]
    by_cases hbb : b' = b
    · subst hbb; rw [if_pos ⟨rfl, hblt⟩, if_pos rfl]
    · rw [if_neg (by simp [hbb]), if_neg hbb]
  have hfam : ∀ G, (h.set b (.obj F x')).fam G = h.fam G := fun G => rfl
  have hkk : ∀ b' i' z' B, φ b' = some (k, i', z') → h.get b' = some B → b' = b := fun b' i' z' B h1 h2 => (r.map b b' k i i' z z' F x B hb h1 hg h2).symm
  have hvalid : ∀ b', b' ≠ b → (h.set b (.obj F x')).valid b' = h.valid b' := by
    intro b' hne
    simp only [AHeap.valid, hget, if_neg hne, hfam]
  refine ⟨⟨r.glob, ?_, ?_, ?_, ?_, ?_, ?_, ?_⟩, Emb.le_refl φ, ?_, ?_, ?_, ?_, rfl, rfl, rfl, by simp [setW]⟩
  · intro b' k' i' z' hb'
    have := r.lt b' k' i' z' hb'
    simpa [setW] using this
  · intro b' k' i' z' B hb' hB' hv
    rw [hget] at hB'
    by_cases hbb : b' = b
    · subst hbb
      rw [if_pos rfl] at hB'; cases hB'
      rw [hb] at hb'; cases hb'
      exact hB _ hnew
    · rw [if_neg hbb] at hB'
      rw [hvalid b' hbb] at hv
      have hne : k' ≠ k := fun he => by subst he; exact hbb (hkk b' i' z' B hb' hB')
      exact (r.blk b' k' i' z' B hb' hB' hv).world (hold k' hne)
  · intro b' k' i' z' F' p' cs' hb' hB'
    rw [hget] at hB'
    by_cases hbb : b' = b
    · rw [if_pos hbb] at hB'; cases hB'
    · rw [if_neg hbb] at hB'
      have hne : k' ≠ k := fun he => by subst he; exact hbb (hkk b' i' z' _ hb' hB')
      obtain ⟨c, e, h1, h2⟩ := r.arr b' k' i' z' F' p' cs' hb' hB'
      exact ⟨c, e, (hold k' hne).trans h1, h2⟩
  · intro b1 b2 k' i1 i2 z1 z2 F1 F2 p1 p2 cs1 cs2 hb1 hb2 hg1 hg2
    rw [hget] at hg1 hg2
    by_cases e1 : b1 = b
    · rw [if_pos e1] at hg1; cases hg1
    · by_cases e2 : b2 = b
      · rw [if_pos e2] at hg2; cases hg2
      · rw [if_neg e1] at hg1; rw [if_neg e2] at hg2
        exact r.one b1 b2 k' i1 i2 z1 z2 F1 F2 p1 p2 cs1 cs2 hb1 hb2 hg1 hg2
  · intro b1 b2 k' i1 i2 z1 z2 F1 p1 p2 cs1 cs2 hb1 hb2 hg1 hg2
    rw [hget] at hg1 hg2
    by_cases e1 : b1 = b
    · rw [if_pos e1] at hg1; cases hg1
    · by_cases e2 : b2 = b
      · rw [if_pos e2] at hg2; cases hg2
      · rw [if_neg e1] at hg1; rw [if_neg e2] at hg2
        exact r.sep b1 b2 k' i1 i2 z1 z2 F1 p1 p2 cs1 cs2 hb1 hb2 hg1 hg2
  · intro b1 b2 k' i1 i2 z1 z2 F1 x1 B hb1 hb2 hg1 hg2
    rw [hget] at hg1 hg2
    by_cases e1 : b1 = b
    · subst e1
      rw [hb] at hb1; cases hb1
      by_cases e2 : b2 = b1
      · exact e2.symm
      · rw [if_neg e2] at hg2
        exact (hkk b2 i2 z2 B hb2 hg2).symm
    · rw [if_neg e1] at hg1
      by_cases e2 : b2 = b
      · subst e2
        rw [hb] at hb2; cases hb2
        exact hkk b1 i1 z1 _ hb1 hg1
      · rw [if_neg e2] at hg2
        exact r.map b1 b2 k' i1 i2 z1 z2 F1 x1 B hb1 hb2 hg1 hg2
  · intro b' F' p' cs' hB'
    rw [hget] at hB'
    by_cases hbb : b' = b
    · rw [if_pos hbb] at hB'; cases hB'
    · rw [if_neg hbb] at hB'
      exact r.ext b' F' p' cs' hB'
  · intro b' h1 h2
    have : (h.set b (.obj F x')).next = h.next := by simp [AHeap.set, AHeap.next]
    omega
  · intro b' p h1 h2; rw [h1] at h2; cases h2
  · intro b' k' i' z' h1 h2; rw [h1] at h2; cases h2
  · intro k' hk' hm
    refine hold k' ?_
    rintro rfl
    exact hm ⟨b, i, z, hb, .inr ⟨F, x, hg⟩⟩

end Go.Am

/-! Keys of maps. -/
namespace Go.Am

/-- A key that may be looked for. -/
def akeyOk (P : Program) (kt : TypeId) : AV → Bool
  | .int k _ => intA P kt == some k
  | .str _ => isStrA P kt
  | .bool _ => isBoolA P kt
  | .agg a => match arrA P kt with
    | some (n, e) => match intA P e with
      | some k => match alits k a with
        | some x => x.length == n && szA P e == some 1
        | none => false
      | none => false
    | none => false
  | _ => false

/-- Are two keys the same? -/
def akeq (P : Program) (kt : TypeId) : AV → AV → Option Bool
  | .int k a, .int k' b => if intA P kt = some k ∧ k = k' then some (decide (a = b)) else none
  | .str a, .str b => if isStrA P kt then some (decide (a = b)) else none
  | .bool a, .bool b => if isBoolA P kt then some (decide (a = b)) else none
  | .agg a, .agg b => aarr P kt a b
  | _, _ => none

def afind (P : Program) (kt : TypeId) (key : AV) : List (AV × AV) → Option (Option (Nat × AV))
  | [] => some none
  | e :: es => match akeq P kt key e.1 with
    | some true => some (some (0, e.2))
    | some false => (afind P kt key es).map fun r => r.map fun p => (p.1 + 1, p.2)
    | none => none

theorem checkKey_run {P : Program} {φ : Emb} {kt : TypeId} {key : AV} {ck : Value} (hk : akeyOk P kt key = true) (hv : VRel φ key ck) (em : Bool) (w : World) : (Instr.checkKey em 10000 kt ck).run P w = .ok () w := by
  cases key <;> simp only [akeyOk, Bool.false_eq_true] at hk
  · cases hv
    exact MapKept.run_checkKey (d := .bool) (k := .bool _) (isBoolA_und hk) trivial em 9999
  · cases hv
    exact MapKept.run_checkKey (d := .int _) (k := .int _ _) (intA_und (by simpa using hk)) rfl em 9999
  · cases hv
    exact MapKept.run_checkKey (d := .string) (k := .string _) (isStrA_und hk) trivial em 9999
  · rename_i a
    cases hv with | agg _ cs hl hh =>
    split at hk
    · rename_i n e hA
      split at hk
      · rename_i k hik
        split at hk
        · rename_i x hx
          simp only [Bool.and_eq_true, beq_iff_eq] at hk
          obtain ⟨hlen, hs⟩ := hk
          obtain ⟨rfl, -⟩ := alits_rel hx ⟨hl, hh⟩
          have hu := intA_und hik
          show (Instr.checkKey em (9999 + 1) kt _).run P w = _
          unfold Instr.checkKey
          simp only [Sem.run_bind, run_underlying (arrA_und hA), Result.andThen_ok]
          simp only [Std.Legacy.Range.forIn_eq_forIn_range', Std.Legacy.Range.size, Nat.sub_zero, Nat.add_one_sub_one, Nat.div_one]
          have key : ∀ (is : List Nat), (∀ i ∈ is, i < n) → (forIn is PUnit.unit fun i _ => do
              Instr.checkKey em 9999 e (← part e (x.map (Value.int k)).toArray (i * (← sizeOf e)))
              pure (ForInStep.yield PUnit.unit) : Sem PUnit).run P w = .ok PUnit.unit w := by
            intro is
            induction is with
            | nil => intro _; simp
            | cons i is ih =>
              intro h
              have hi := h i (by simp)
              have hlt : i < x.length := by omega
              have hpart : (part e (x.map (Value.int k)).toArray (i * 1)).run P w = .ok (.int k (x.getD i 0)) w := by
                simp [part, isAgg, run_underlying hu, hlt, List.getD_eq_getElem?_getD]
              have hck : (Instr.checkKey em 9999 e (.int k (x.getD i 0))).run P w = .ok () w := MapKept.run_checkKey (d := .int _) (k := .int _ _) hu rfl em 9998
              simp only [List.forIn_cons, Sem.run_bind, szA_run hs, Result.andThen_ok, hpart, hck, Sem.run_pure]
              exact ih (fun j hj => h j (by simp [hj]))
          rw [key (List.range' 0 n) (by intro i hi; have := (List.mem_range'_1.1 hi).2; omega)]
          rfl
        · cases hk
      · cases hk
    · cases hk

/-- The keys that are rows of numbers. -/
theorem akeq_agg {P : Program} {kt : TypeId} {a b : List AV} {r : Bool} (h : akeq P kt (.agg a) (.agg b) = some r) : aarr P kt a b = some r := h

theorem findKey_run {P : Program} {φ : Emb} {kt : TypeId} {key : AV} {ck : Value} (hk : akeyOk P kt key = true) (hv : VRel φ key ck) (w : World) :
    ∀ (es : List (AV × AV)) (ms : List MapEntry) (r : Option (Nat × AV)), es.length = ms.length → (∀ (j : Nat) x m, es[j]? = some x → ms[j]? = some m → VRel φ x.1 m.key ∧ VRel φ x.2 m.val) → afind P kt key es = some r →
    ∃ cr, (Instr.findKey kt ck ms).run P w = .ok cr w ∧ (r = none → cr = none) ∧ ∀ i v, r = some (i, v) → ∃ cv m, cr = some (i, cv) ∧ VRel φ v cv ∧ ms[i]? = some m ∧ m.key = ck ∧ m.val = cv := by
  by_cases hagg : ∃ a, key = .agg a
  · obtain ⟨a, rfl⟩ := hagg
    cases hv with | agg _ ca hla hha =>
    have hwide : (match P.underlying kt with | some (.array _ _) | some (.struct _) => true | _ => false) = true := by
      simp only [akeyOk] at hk
      split at hk
      · rename_i n e hA; rw [arrA_und hA]
      · cases hk
    have main : ∀ (es : List (AV × AV)) (ms : List MapEntry) (r : Option (Nat × AV)) (j : Nat), es.length = ms.length → (∀ (j : Nat) x m, es[j]? = some x → ms[j]? = some m → VRel φ x.1 m.key ∧ VRel φ x.2 m.val) → afind P kt (.agg a) es = some r →
        ∃ cr, (Instr.findAsking kt (.agg ca.toArray) ms j).run P w = .ok cr w ∧ (r = none → cr = none) ∧ ∀ i v, r = some (i, v) → ∃ cv m, cr = some (j + i, cv) ∧ VRel φ v cv ∧ ms[i]? = some m ∧ m.key = .agg ca.toArray ∧ m.val = cv := by
      intro es
      induction es with
      | nil =>
        intro ms r j hl _ h
        have : ms = [] := List.eq_nil_of_length_eq_zero hl.symm
        subst this
        cases h
        exact ⟨none, rfl, fun _ => rfl, fun i v h => by cases h⟩
      | cons e es ih =>
        intro ms r j hl hr h
        cases ms with
        | nil => simp at hl
        | cons m ms =>
          obtain ⟨h1, h2⟩ := hr 0 e m rfl rfl
          simp only [afind] at h
          cases hq : akeq P kt (.agg a) e.1 with
          | none => rw [hq] at h; cases h
          | some q =>
            obtain ⟨b, hb⟩ : ∃ b, e.1 = .agg b := by
              revert hq; cases e.1 <;> simp [akeq]
            rw [hb] at hq h1
            generalize hmk : m.key = mk at h1
            cases h1 with | agg _ cb hlb hhb =>
            obtain ⟨q1, -, q3⟩ := aarr_run (P := P) (φ := φ) ⟨hla, hha⟩ ⟨hlb, hhb⟩ (akeq_agg hq) 9998 w
            have q1 : (Op.equal kt (.agg ca.toArray) (.agg cb.toArray)).run P w = .ok q w := q1
            rw [hb, hq] at h
            cases q with
            | true =>
              simp only [Option.some.injEq] at h
              subst h
              refine ⟨some (j, m.val), by simp [Instr.findAsking, hmk, q1], nofun, ?_⟩
              intro i v hiv
              cases hiv
              exact ⟨_, m, rfl, h2, rfl, by rw [hmk, q3.1 rfl], rfl⟩
            | false =>
              simp only [Option.map_eq_some_iff] at h
              obtain ⟨r', hr', rfl⟩ := h
              obtain ⟨cr, h3, h4, h5⟩ := ih ms r' (j + 1) (by simpa using hl) (fun q x y hx hy => hr (q + 1) x y (by simpa using hx) (by simpa using hy)) hr'
              refine ⟨cr, by simp [Instr.findAsking, hmk, q1, h3], ?_, ?_⟩
              · intro hn; exact h4 (by simpa using hn)
              · intro i v hiv
                simp only [Option.map_eq_some_iff] at hiv
                obtain ⟨⟨i', v'⟩, rfl, hiv⟩ := hiv
                cases hiv
                obtain ⟨cv, m', h6, h7, h8, h9⟩ := h5 i' v' rfl
                exact ⟨cv, m', by rw [h6]; congr 2; omega, h7, by simpa using h8, h9⟩
    intro es ms r hl hr h
    rw [run_findKey_eq w hwide]
    obtain ⟨cr, h1, h2, h3⟩ := main es ms r 0 hl hr h
    refine ⟨cr, h1, h2, ?_⟩
    intro i v hiv
    obtain ⟨cv, m, h4, h5⟩ := h3 i v hiv
    exact ⟨cv, m, by rw [h4, Nat.zero_add], h5⟩
  · obtain ⟨d, hd, main⟩ : ∃ d, P.underlying kt = some d ∧ ∀ (y : AV) (cy : Value) (q : Bool), VRel φ y cy → akeq P kt key y = some q → Instr.sameNow d ck cy = some q ∧ (q = true → cy = ck) := by
      cases key <;> simp only [akeyOk, Bool.false_eq_true] at hk
      · cases hv
        refine ⟨_, isBoolA_und hk, ?_⟩
        intro y cy q hy h
        cases y <;> simp only [akeq, reduceCtorEq] at h
        rw [if_pos hk] at h
        cases h; cases hy
        rename_i x y
        refine ⟨?_, fun he => by rw [of_decide_eq_true he]⟩
        simp only [Instr.sameNow]
        cases x <;> cases y <;> rfl
      · cases hv
        refine ⟨_, intA_und (by simpa using hk), ?_⟩
        intro y cy q hy h
        cases y <;> simp only [akeq, reduceCtorEq] at h
        split at h
        · rename_i hc
          obtain ⟨_, rfl⟩ := hc
          cases h; cases hy
          refine ⟨?_, fun he => by rw [of_decide_eq_true he]⟩
          simp only [Instr.sameNow, if_true]
          congr 1
        · cases h
      · cases hv
        refine ⟨_, isStrA_und hk, ?_⟩
        intro y cy q hy h
        cases y <;> simp only [akeq, reduceCtorEq] at h
        rw [if_pos hk] at h
        cases h; cases hy
        refine ⟨?_, fun he => by rw [of_decide_eq_true he]⟩
        simp only [Instr.sameNow]
        congr 1
        rw [Bool.eq_iff_iff, MapKept.bytes_beq]
        simp
      · exact absurd ⟨_, rfl⟩ hagg
    have run : ∀ (es : List (AV × AV)) (ms : List MapEntry) (r : Option (Nat × AV)) (j : Nat), es.length = ms.length → (∀ (j : Nat) x m, es[j]? = some x → ms[j]? = some m → VRel φ x.1 m.key ∧ VRel φ x.2 m.val) → afind P kt key es = some r →
        ∃ cr, Instr.findNow d ck ms j = some cr ∧ (r = none → cr = none) ∧ ∀ i v, r = some (i, v) → ∃ cv m, cr = some (j + i, cv) ∧ VRel φ v cv ∧ ms[i]? = some m ∧ m.key = ck ∧ m.val = cv := by
      intro es
      induction es with
      | nil =>
        intro ms r j hl _ h
        have : ms = [] := List.eq_nil_of_length_eq_zero hl.symm
        subst this
        cases h
        exact ⟨none, rfl, fun _ => rfl, fun i v h => by cases h⟩
      | cons e es ih =>
        intro ms r j hl hr h
        cases ms with
        | nil => simp at hl
        | cons m ms =>
          obtain ⟨h1, h2⟩ := hr 0 e m rfl rfl
          simp only [afind] at h
          cases hq : akeq P kt key e.1 with
          | none => rw [hq] at h; cases h
          | some q =>
            obtain ⟨g1, g2⟩ := main e.1 m.key q h1 hq
            rw [hq] at h
            cases q with
            | true =>
              simp only [Option.some.injEq] at h
              subst h
              refine ⟨some (j, m.val), by simp [Instr.findNow, g1], nofun, ?_⟩
              intro i v hiv
              cases hiv
              exact ⟨_, m, rfl, h2, rfl, g2 rfl, rfl⟩
            | false =>
              simp only [Option.map_eq_some_iff] at h
              obtain ⟨r', hr', rfl⟩ := h
              obtain ⟨cr, h3, h4, h5⟩ := ih ms r' (j + 1) (by simpa using hl) (fun q x y hx hy => hr (q + 1) x y (by simpa using hx) (by simpa using hy)) hr'
              refine ⟨cr, by simp [Instr.findNow, g1, h3], ?_, ?_⟩
              · intro hn; exact h4 (by simpa using hn)
              · intro i v hiv
                simp only [Option.map_eq_some_iff] at hiv
                obtain ⟨⟨i', v'⟩, rfl, hiv⟩ := hiv
                cases hiv
                obtain ⟨cv, m', h6, h7, h8, h9⟩ := h5 i' v' rfl
                exact ⟨cv, m', by rw [h6]; congr 2; omega, h7, by simpa using h8, h9⟩
    intro es ms r hl hr h
    obtain ⟨cr, h1, h2, h3⟩ := run es ms r 0 hl hr h
    refine ⟨cr, MapKept.run_findKey hd h1, h2, ?_⟩
    intro i v hiv
    obtain ⟨cv, m, h4, h5⟩ := h3 i v hiv
    exact ⟨cv, m, by rw [h4, Nat.zero_add], h5⟩

theorem keyStays_run {P : Program} {φ : Emb} {kt : TypeId} {key : AV} {ck : Value} (hk : akeyOk P kt key = true) (hv : VRel φ key ck) (w : World) : (Instr.keyThatStays ck ck).run P w = .ok ck w := by
  have hs : Instr.sameBits 10000 ck ck = true := by
    cases key <;> simp only [akeyOk, Bool.false_eq_true] at hk
    · cases hv; simp [Instr.sameBits]
    · cases hv; simp [Instr.sameBits]
    · cases hv; simp [Instr.sameBits, MapKept.bytes_beq]
    · cases hv with | agg _ cs hl hh =>
      split at hk
      · split at hk
        · split at hk
          · rename_i x hx
            obtain ⟨rfl, -⟩ := alits_rel hx ⟨hl, hh⟩
            show Instr.sameBits (9999 + 1) _ _ = true
            simp only [Instr.sameBits, beq_self_eq_true, Bool.true_and, List.all_eq_true]
            rintro ⟨p, q⟩ hpq
            obtain ⟨i, hi⟩ := List.mem_iff_getElem?.1 hpq
            simp only [List.getElem?_zip_eq_some] at hi
            obtain ⟨h1, h2⟩ := hi
            rw [h1] at h2; cases h2
            simp only [List.getElem?_map, Option.map_eq_some_iff] at h1
            obtain ⟨n, _, rfl⟩ := h1
            simp [Instr.sameBits]
          · cases hk
        · cases hk
      · cases hk
  simp [Instr.keyThatStays, hs]
end Go.Am

/-! Maps and walks: the steps. -/
namespace Go.Am

theorem makeMap_step {P : Program} {ρ : Operand → AV} {o : Oper} {h : AHeap} {t : TypeId} (ho : o.op = .makeMap t none) : StepS P ρ o h (.mp h.next) (h.allocT (.map [])) := by
  refine ⟨HGrow.allocT _ _, ?_⟩
  intro φ a w K Q hfr r _ hk
  have hφ : φ h.next = none := hfr h.next (Nat.le_refl _) (by rw [AHeap.next_allocT]; omega)
  obtain ⟨r', tr⟩ := r.allocT hφ (.map []) (.map #[] 0) (fun φ' w' hw => ⟨#[], hw, rfl, by simp⟩)
  have hrun : (execOp a.eval o).run P w = .ok (.value (.map (some w.heap.size))) (w.alloc (.map #[] 0)) := by
    simp [execOp, ho, Instr.makeMap]
  exact wp_of_run hrun (hk _ _ _ tr r' (.mp _ _ _ _ (Emb.upd_same _ _ _)))

/-- A map's entries. -/
def ents (h : AHeap) : AV → Option (List (AV × AV))
  | .nilm => some []
  | .mp b => match h.get b with
    | some (.obj _ (.map es)) => some es
    | _ => none
  | _ => none

def mapA (P : Program) (t : TypeId) : Option (TypeId × TypeId) := match P.underlying t with | some (.map k e) => some (k, e) | _ => none
theorem mapA_und {P : Program} {t : TypeId} {p : TypeId × TypeId} (h : mapA P t = some p) : P.underlying t = some (.map p.1 p.2) := by
  unfold mapA at h
  split at h
  · rename_i hu; cases h; exact hu
  · cases h

def alook (P : Program) (h : AHeap) (t : TypeId) (x key : AV) (ok : Bool) : Option AV :=
  match mapA P t, ents h x with
  | some (kt, et), some es => if akeyOk P kt key = true then
      match afind P kt key es, zeroA P et with
      | some r, some z => some (match r with
        | some (_, v) => if ok then .tup [v, .bool true] else v
        | none => if ok then .tup [z, .bool false] else z)
      | _, _ => none
    else none
  | _, _ => none

theorem vrel_pair {φ : Emb} {x : AV} {c : Value} (h : VRel φ x c) (b : Bool) : VRel φ (.tup [x, .bool b]) (.tuple #[c, .bool b]) := by
  refine .tup _ [c, .bool b] rfl ?_
  intro j y u hy hu
  match j, hy, hu with
  | 0, hy, hu => cases hy; cases hu; exact h
  | 1, hy, hu => cases hy; cases hu; exact .bool b

theorem lookup_step {P : Program} {ρ : Operand → AV} {o : Oper} {h : AHeap} {t : TypeId} {x ix : Operand} {ok : Bool} {v : AV} (ho : o.op = .lookup t x ix ok) (hs : alook P h t (ρ x) (ρ ix) ok = some v) : StepS P ρ o h v h := by
  refine ⟨HGrow.refl _, ?_⟩
  intro φ a w K Q hfr r hops hk
  unfold alook at hs
  split at hs
  · rename_i kt et es hm hes
    split at hs
    · rename_i hkey
      split at hs
      · rename_i fr z hf hz
        simp only [Option.some.injEq] at hs
        subst hs
        have hx := hops x (by simp [ho, Op.operands])
        have hi := hops ix (by simp [ho, Op.operands])
        obtain ⟨i, zv, hzi, hzv, hzr⟩ := zeroA_info hz
        have hzrun : (zeroValue et).run P w = .ok zv w := by simp [zeroValue, typeInfo, hzi, hzv]
        have hu := mapA_und hm
        -- the entries
        obtain ⟨ms, hlen, hrel, hget⟩ : ∃ ms : Array MapEntry, es.length = ms.toList.length ∧ (∀ (j : Nat) y m, es[j]? = some y → ms.toList[j]? = some m → VRel φ y.1 m.key ∧ VRel φ y.2 m.val) ∧
            ((a.eval x = .map none ∧ ms = #[]) ∨ ∃ k, a.eval x = .map (some k) ∧ w.heap[k]? = some (.map ms ms.size)) := by
          unfold ents at hes
          split at hes
          · rename_i hρ
            cases hes
            rw [hρ] at hx
            generalize hq : a.eval x = q at hx
            cases hx
            exact ⟨#[], rfl, by simp, .inl ⟨rfl, rfl⟩⟩
          · rename_i b hρ
            rw [hρ] at hx
            generalize hq : a.eval x = q at hx
            cases hx
            rename_i k i' z' hφ
            split at hes
            · rename_i F es' hg
              cases hes
              obtain ⟨ms, h1, h2, h3⟩ := r.blk b k i' z' _ hφ hg (by unfold AHeap.valid; rw [hg])
              exact ⟨ms, by simpa using h2, fun j y m hy hm => (h3 j y m hy (by simpa using hm)).2, .inr ⟨k, rfl, h1⟩⟩
            · cases hes
          · cases hes
        obtain ⟨cr, h1, h2, h3⟩ := findKey_run (P := P) hkey hi w es ms.toList fr hlen hrel hf
        have hck := checkKey_run (P := P) hkey hi ms.isEmpty w
        have hrun : ∀ (c : Value) (b : Bool), (match cr with | some (_, v) => (v, true) | none => (zv, false)) = (c, b) → (Instr.lookup t (a.eval x) (a.eval ix) ok).run P w = .ok (if ok then .tuple #[c, .bool b] else c) w := by
          intro c b hcb
          rcases hget with ⟨hq, rfl⟩ | ⟨k, hq, hw⟩
          · have hcr : cr = none := by
              cases cr with
              | none => rfl
              | some p =>
                cases fr with
                | none => exact h2 rfl
                | some p' => obtain ⟨_, _, _, _, h4, _⟩ := h3 p'.1 p'.2 rfl; simp at h4
            subst hcr
            cases hcb
            simp only [Instr.lookup, Sem.run_bind, run_underlying hu, Result.andThen_ok, hq, Sem.run_pure, hck, h1, hzrun]
          · simp only [Instr.lookup, Sem.run_bind, run_underlying hu, Result.andThen_ok, hq, MapKept.run_getObj_map hw, Sem.run_pure, hck, h1]
            cases cr with
            | none => cases hcb; simp only [Sem.run_bind, hzrun, Result.andThen_ok, Sem.run_pure]
            | some p => obtain ⟨p1, p2⟩ := p; cases hcb; simp only [Sem.run_bind, Sem.run_pure, Result.andThen_ok]
        cases fr with
        | none =>
          have hcr := h2 rfl
          subst hcr
          have hrun := hrun zv false rfl
          have hop : (execOp a.eval o).run P w = .ok (.value (if ok then .tuple #[zv, .bool false] else zv)) w := by simp only [execOp, ho, Sem.run_bind, hrun, Result.andThen_ok, Sem.run_pure]
          refine wp_of_run hop (hk φ _ w (Trans.refl _ _ _) r ?_)
          cases ok with
          | true => exact vrel_pair (hzr φ) false
          | false => exact hzr φ
        | some p =>
          obtain ⟨i', v'⟩ := p
          obtain ⟨cv, m, rfl, h5, _, _, _⟩ := h3 i' v' rfl
          have hrun := hrun cv true rfl
          have hop : (execOp a.eval o).run P w = .ok (.value (if ok then .tuple #[cv, .bool true] else cv)) w := by simp only [execOp, ho, Sem.run_bind, hrun, Result.andThen_ok, Sem.run_pure]
          refine wp_of_run hop (hk φ _ w (Trans.refl _ _ _) r ?_)
          cases ok with
          | true => exact vrel_pair h5 true
          | false => exact h5
      · cases hs
    · cases hs
  · cases hs

/-- A map with one entry more, or another value. -/
def aput (P : Program) (h : AHeap) (t : TypeId) (x key val : AV) : Option AHeap :=
  match mapA P t, x with
  | some (kt, _), .mp b => match h.get b with
    | some (.obj F (.map es)) => if akeyOk P kt key = true then
        (afind P kt key es).map fun r => h.set b (.obj F (.map (match r with | some (i, _) => es.set i (key, val) | none => es ++ [(key, val)])))
      else none
    | _ => none
  | _, _ => none

theorem mapUpdate_step {P : Program} {ρ : Operand → AV} {o : Oper} {h h' : AHeap} {t : TypeId} {x ix y : Operand} (ho : o.op = .mapUpdate t x ix y) (hs : aput P h t (ρ x) (ρ ix) (ρ y) = some h') : StepS P ρ o h (.tup []) h' := by
  unfold aput at hs
  split at hs
  · rename_i kt et b hm hρ
    split at hs
    · rename_i F es hg
      split at hs
      · rename_i hkey
        simp only [Option.map_eq_some_iff] at hs
        obtain ⟨fr, hf, rfl⟩ := hs
        refine ⟨HGrow.setT hg, ?_⟩
        intro φ a w K Q hfr r hops hk
        have hx := hops x (by simp [ho, Op.operands])
        have hi := hops ix (by simp [ho, Op.operands])
        have hy := hops y (by simp [ho, Op.operands])
        have hu := mapA_und hm
        rw [hρ] at hx
        generalize hq : a.eval x = q at hx
        cases hx
        rename_i k i' z' hφ
        obtain ⟨ms, h1, h2, h3⟩ := r.blk b k i' z' _ hφ hg (by unfold AHeap.valid; rw [hg])
        obtain ⟨cr, g1, g2, g3⟩ := findKey_run (P := P) hkey hi w es ms.toList fr (by simpa using h2) (fun j y m hy hm => (h3 j y m hy (by simpa using hm)).2) hf
        have hck := checkKey_run (P := P) hkey hi false w
        have hst := keyStays_run (P := P) hkey hi w
        cases fr with
        | none =>
          have hcr := g2 rfl
          subst hcr
          have hrun : (Instr.mapUpdate t (a.eval x) (a.eval ix) (a.eval y)).run P w = .ok () (setW w k (.map (ms.push { key := a.eval ix, val := a.eval y, born := ms.size }) (ms.size + 1))) := by
            simp only [Instr.mapUpdate, Sem.run_bind, run_underlying hu, Result.andThen_ok, hq, MapKept.run_getObj_map h1, hck, g1, MapKept.run_setObj_map _ h1]
            rfl
          have hop : (execOp a.eval o).run P w = .ok .skip (setW w k (.map (ms.push { key := a.eval ix, val := a.eval y, born := ms.size }) (ms.size + 1))) := by simp only [execOp, ho, Sem.run_bind, hrun, Result.andThen_ok, Sem.run_pure]
          obtain ⟨r', tr⟩ := r.setT hφ hg (.map (es ++ [(ρ ix, ρ y)])) (.map (ms.push { key := a.eval ix, val := a.eval y, born := ms.size }) (ms.size + 1)) (by
            intro w' hw'
            refine ⟨ms.push { key := a.eval ix, val := a.eval y, born := ms.size }, by rw [hw', Array.size_push], by simp [h2], ?_⟩
            intro j p m hp hm
            rw [List.getElem?_append] at hp
            rw [Array.getElem?_push] at hm
            split at hp
            · rename_i hj
              rw [if_neg (by omega)] at hm
              exact h3 j p m hp hm
            · rename_i hj
              have hj0 : j = ms.size := by
                have := (List.getElem?_eq_some_iff.1 hp).1
                simp at this; omega
              rw [if_pos hj0] at hm
              cases hm
              rw [show j - es.length = 0 by omega] at hp
              cases hp
              exact ⟨hj0.symm, hi, hy⟩)
          exact wp_of_skip hop (hk φ _ _ tr r' (VRel.undef φ))
        | some p =>
          obtain ⟨i, v⟩ := p
          obtain ⟨cv, m, rfl, g5, g6, g7, g8⟩ := g3 i v rfl
          have hmi : ms[i]? = some m := by simpa using g6
          have hrun : (Instr.mapUpdate t (a.eval x) (a.eval ix) (a.eval y)).run P w = .ok () (setW w k (.map (ms.modify i fun e => { e with key := a.eval ix, val := a.eval y }) ms.size)) := by
            simp only [Instr.mapUpdate, Sem.run_bind, run_underlying hu, Result.andThen_ok, hq, MapKept.run_getObj_map h1, hck, g1, hmi, Option.map_some, Option.getD_some, g7, hst, MapKept.run_setObj_map _ h1]
            rfl
          have hop : (execOp a.eval o).run P w = .ok .skip (setW w k (.map (ms.modify i fun e => { e with key := a.eval ix, val := a.eval y }) ms.size)) := by simp only [execOp, ho, Sem.run_bind, hrun, Result.andThen_ok, Sem.run_pure]
          obtain ⟨r', tr⟩ := r.setT hφ hg (.map (es.set i (ρ ix, ρ y))) (.map (ms.modify i fun e => { e with key := a.eval ix, val := a.eval y }) ms.size) (by
            intro w' hw'
            refine ⟨ms.modify i fun e => { e with key := a.eval ix, val := a.eval y }, by rw [hw', Array.size_modify], by simp [h2], ?_⟩
            intro j p m' hp hm
            rw [List.getElem?_set] at hp
            rw [Array.getElem?_modify] at hm
            by_cases hij : i = j
            · subst hij
              rw [if_pos rfl] at hp hm
              rw [hmi] at hm
              cases hm
              split at hp
              · rename_i hlt
                cases hp
                refine ⟨?_, hi, hy⟩
                exact (h3 i es[i] m (List.getElem?_eq_getElem hlt) hmi).1
              · cases hp
            · rw [if_neg hij] at hp hm
              exact h3 j p m' hp hm)
          exact wp_of_skip hop (hk φ _ _ tr r' (VRel.undef φ))
      · cases hs
    · cases hs
  · cases hs

/-- A walk along a string begins. -/
theorem range_step {P : Program} {ρ : Operand → AV} {o : Oper} {h : AHeap} {t : TypeId} {x : Operand} {s : ByteArray} (ho : o.op = .range t x) (ht : isStrA P t = true) (hs : ρ x = .str s) : StepS P ρ o h (.it h.next) (h.allocT (.walk s 0)) := by
  refine ⟨HGrow.allocT _ _, ?_⟩
  intro φ a w K Q hfr r hops hk
  have hx := hops x (by simp [ho, Op.operands])
  have hu := isStrA_und ht
  rw [hs] at hx
  generalize hq : a.eval x = q at hx
  cases hx
  have hφ : φ h.next = none := hfr h.next (Nat.le_refl _) (by rw [AHeap.next_allocT]; omega)
  obtain ⟨r', tr⟩ := r.allocT hφ (.walk s 0) (.stringIter s 0) (fun φ' w' hw => hw)
  have hrun : (execOp a.eval o).run P w = .ok (.value (.pointer (some ⟨w.heap.size, 0, none⟩))) (w.alloc (.stringIter s 0)) := by
    simp [execOp, ho, Instr.range, run_underlying hu, hq]
  exact wp_of_run hrun (hk _ _ _ tr r' (.it _ _ _ (Emb.upd_same _ _ _)))

theorem run_getObj_walk {P : Program} {w : World} {r : Nat} {s : ByteArray} {pos : Nat} (hb : w.heap[r]? = some (.stringIter s pos)) : (getObj r).run P w = .ok (.stringIter s pos) w := by
  simp [getObj, Sem.run, hb]
theorem run_setObj_walk {P : Program} {w : World} {r : Nat} {s : ByteArray} {pos : Nat} (o : Go.Obj) (hb : w.heap[r]? = some (.stringIter s pos)) : (setObj r o).run P w = .ok () (setW w r o) := by
  simp [setObj, Sem.run, hb, setW]

/-- The next letter. -/
theorem next_step {P : Program} {ρ : Operand → AV} {o : Oper} {h : AHeap} {x : Operand} {b F : Nat} {s : ByteArray} {pos : Nat} (ho : o.op = .next x true) (hx : ρ x = .it b) (hg : h.get b = some (.obj F (.walk s pos))) (hlt : pos < s.size) :
    StepS P ρ o h (.tup [.bool true, .int .i64 pos, .int .i32 (Utf8.decode s pos).1]) (h.set b (.obj F (.walk s (pos + (Utf8.decode s pos).2)))) := by
  refine ⟨HGrow.setT hg, ?_⟩
  intro φ a w K Q hfr r hops hk
  have hv := hops x (by simp [ho, Op.operands])
  rw [hx] at hv
  generalize hq : a.eval x = q at hv
  cases hv
  rename_i k z hφ
  have h1 : w.heap[k]? = some (.stringIter s pos) := r.blk b k 0 z _ hφ hg (by unfold AHeap.valid; rw [hg])
  obtain ⟨r', tr⟩ := r.setT hφ hg (.walk s (pos + (Utf8.decode s pos).2)) (.stringIter s (pos + (Utf8.decode s pos).2)) (fun w' hw => hw)
  have hrun : (execOp a.eval o).run P w = .ok (.value (.tuple #[.bool true, goInt pos, .int .i32 (Utf8.decode s pos).1])) (setW w k (.stringIter s (pos + (Utf8.decode s pos).2))) := by
    simp only [execOp, ho, Instr.next, Sem.run_bind, hq, Result.andThen_ok, run_getObj_walk h1, if_pos hlt, run_setObj_walk _ h1, Sem.run_pure]
  refine wp_of_run hrun (hk φ _ _ tr r' ?_)
  refine .tup _ [.bool true, goInt pos, .int .i32 (Utf8.decode s pos).1] rfl ?_
  intro j y u hy hu
  match j, hy, hu with
  | 0, hy, hu => cases hy; cases hu; exact .bool _
  | 1, hy, hu => cases hy; cases hu; exact .int _ _
  | 2, hy, hu => cases hy; cases hu; exact .int _ _

/-- No letter is left. -/
theorem next_over {P : Program} {ρ : Operand → AV} {o : Oper} {h : AHeap} {x : Operand} {b F : Nat} {s : ByteArray} {pos : Nat} (ho : o.op = .next x true) (hx : ρ x = .it b) (hg : h.get b = some (.obj F (.walk s pos))) (hle : s.size ≤ pos) :
    StepS P ρ o h (.tup [.bool false]) h := by
  refine ⟨HGrow.refl _, ?_⟩
  intro φ a w K Q hfr r hops hk
  have hv := hops x (by simp [ho, Op.operands])
  rw [hx] at hv
  generalize hq : a.eval x = q at hv
  cases hv
  rename_i k z hφ
  have h1 : w.heap[k]? = some (.stringIter s pos) := r.blk b k 0 z _ hφ hg (by unfold AHeap.valid; rw [hg])
  have hrun : (execOp a.eval o).run P w = .ok (.value (.tuple #[.bool false])) w := by
    simp only [execOp, ho, Instr.next, Sem.run_bind, hq, Result.andThen_ok, run_getObj_walk h1, if_neg (show ¬ pos < s.size by omega), Sem.run_pure]
  refine wp_of_run hrun (hk φ _ w (Trans.refl _ _ _) r ?_)
  refine .tup _ [.bool false] rfl ?_
  intro j y u hy hu
  match j, hy, hu with
  | 0, hy, hu => cases hy; cases hu; exact .bool _
end Go.Am

/-! Maps and walks, owned. -/
namespace Go.Am

def IsMp (v : AV) : Prop := ∃ b, v = .mp b
def IsIt (v : AV) : Prop := ∃ b, v = .it b
theorem IsMp.one {v : AV} (h : IsMp v) : v.one = true := by obtain ⟨b, rfl⟩ := h; rfl
/-- A map, owned. -/
abbrev mapO (v : AV) (es : List (AV × AV)) : Obj := ⟨v, 0, Thing.enc (.map es), false⟩
/-- A walk, owned. -/
abbrev walkO (v : AV) (s : ByteArray) (pos : Nat) : Obj := ⟨v, 0, Thing.enc (.walk s pos), false⟩
/-- A map that may be read. -/
def RdM (h : AHeap) (v : AV) (es : List (AV × AV)) : Prop := ∃ b F, v = .mp b ∧ h.get b = some (.obj F (.map es))

theorem St.ofK {h h' : AHeap} (k : Keeps h h') : St h h' [] := ⟨k, [], rfl, by simp, by simp, by simp⟩
theorem RdM.ext {h0 h : AHeap} (k : Keeps h0 h) {v : AV} {es : List (AV × AV)} (hr : RdM h0 v es) : RdM h v es := let ⟨b, F, hv, hg⟩ := hr; ⟨b, F, hv, k.get_some hg⟩

theorem enc_map_inj {es es' : List (AV × AV)} (h : Thing.enc (.map es) = Thing.enc (.map es')) : es = es' := by
  refine (List.map_inj_right (f := fun p : AV × AV => AV.tup [p.1, p.2]) ?_).1 h
  rintro ⟨a, b⟩ ⟨c, d⟩ he
  simp only [AV.tup.injEq, List.cons.injEq, and_true] at he
  rw [he.1, he.2]

theorem Mu.map {lo : Nat} {h : AHeap} {F : Option Nat} {v : AV} {es : List (AV × AV)} (hv : IsMp v) (hm : Mu lo h F (mapO v es)) : ∃ b G f, F = some G ∧ lo ≤ b ∧ v = .mp b ∧ h.get b = some (.obj G (.map es)) ∧ h.fam G = some f := by
  obtain ⟨b0, rfl⟩ := hv
  cases F with
  | none => cases hm.1
  | some G =>
    rcases hm with ⟨b, off, p, cs, f, _, hw, _⟩ | ⟨b, x, f, h1, h2, h3, h4, h5, h6⟩
    · rcases hw with ⟨_, _, hw, _⟩ | ⟨_, hw⟩ <;> cases hw
    · cases x with
      | walk s pos => cases h2
      | map es' =>
        simp only [Thing.at, AV.mp.injEq] at h2
        subst h2
        have := enc_map_inj h6
        subst this
        exact ⟨b0, G, f, rfl, h1, rfl, h4, h5⟩

theorem Mu.walk {lo : Nat} {h : AHeap} {F : Option Nat} {v : AV} {s : ByteArray} {pos : Nat} (hv : IsIt v) (hm : Mu lo h F (walkO v s pos)) : ∃ b G f, F = some G ∧ lo ≤ b ∧ v = .it b ∧ h.get b = some (.obj G (.walk s pos)) ∧ h.fam G = some f := by
  obtain ⟨b0, rfl⟩ := hv
  cases F with
  | none => cases hm.1
  | some G =>
    rcases hm with ⟨b, off, p, cs, f, _, hw, _⟩ | ⟨b, x, f, h1, h2, h3, h4, h5, h6⟩
    · rcases hw with ⟨_, _, hw, _⟩ | ⟨_, hw⟩ <;> cases hw
    · cases x with
      | map es' => cases h2
      | walk s' pos' =>
        simp only [Thing.at, AV.it.injEq] at h2
        subst h2
        simp only [Thing.enc, List.cons.injEq, AV.str.injEq, AV.int.injEq, and_true, true_and] at h6
        obtain ⟨rfl, h7⟩ := h6
        have : pos = pos' := by omega
        subst this
        exact ⟨b0, G, f, rfl, h1, rfl, h4, h5⟩

theorem St.rdM {h0 h : AHeap} {objs : List Obj} (st : St h0 h objs) (k : Nat) {v : AV} {es : List (AV × AV)} (hk : objs[k]? = some (mapO v es)) (hv : IsMp v) : RdM h v es := by
  obtain ⟨_, fs, h1, h2, _⟩ := st
  have hlt : k < fs.length := by rw [h1]; exact (List.getElem?_eq_some_iff.1 hk).1
  obtain ⟨b, G, f, _, _, h3, h4, _⟩ := (h2 k _ _ hk (List.getElem?_eq_getElem hlt)).map hv
  exact ⟨b, G, h3, h4⟩

theorem allocT_keeps (h : AHeap) (x : Thing) : Keeps h (h.allocT x) := by
  refine ⟨by rw [AHeap.next_allocT]; omega, by rw [AHeap.nfam_allocT]; omega, rfl, ?_, ?_⟩
  · intro b hb; rw [AHeap.get_allocT, if_neg (by omega)]
  · intro F hF; rw [AHeap.fam_allocT, if_neg (by omega)]

theorem St.allocT {h0 h : AHeap} {objs : List Obj} (st : St h0 h objs) (x : Thing) : St h0 (h.allocT x) (⟨x.at h.next, 0, x.enc, false⟩ :: objs) := by
  have hs : St h (h.allocT x) [⟨x.at h.next, 0, x.enc, false⟩] := by
    refine ⟨allocT_keeps h x, [some h.nfam], rfl, ?_, ?_, ?_⟩
    · intro i o F ho hF
      cases i with
      | zero =>
        simp only [List.getElem?_cons_zero, Option.some.injEq] at ho hF
        subst ho hF
        exact .inr ⟨h.next, x, ⟨0, none⟩, Nat.le_refl _, rfl, rfl, by rw [AHeap.get_allocT, if_pos rfl], by rw [AHeap.fam_allocT, if_pos rfl], rfl⟩
      | succ i => simp at ho
    · intro i j F hi hj
      cases i <;> cases j <;> simp at hi hj ⊢
    · intro i F hi
      cases i with
      | zero => simp at hi; omega
      | succ i => simp at hi
  exact st.trans hs

/-- Another thing of the same kind in the place of one that is owned. -/
theorem St.setT {h0 h : AHeap} {objs : List Obj} (st : St h0 h objs) {k b G : Nat} {o : Obj} {x x' : Thing} (hk : objs[k]? = some o) (hat : ∀ b, x'.at b = x.at b) (hov : o.v = x.at b) (hg : h.get b = some (.obj G x))
    (hmu : ∀ F, Mu h0.next h F o → F = some G ∧ h0.next ≤ b ∧ ∃ f, h.fam G = some f) : St h0 (h.set b (.obj G x')) (objs.set k ⟨o.v, 0, x'.enc, false⟩) := by
  have hblt := AHeap.get_lt hg
  have hget : ∀ b', (h.set b (.obj G x')).get b' = if b' = b then some (.obj G x') else h.get b' := by
    intro b'
    rw [AHeap.get_set]
    by_cases hbb : b' = b
    · subst hbb; rw [if_pos ⟨rfl, hblt⟩, if_pos rfl]
    · rw [if_neg (by simp [hbb]), if_neg hbb]
  refine st.upd hk (by simp [AHeap.set, AHeap.next]) (by simp [AHeap.set, AHeap.nfam]) rfl ?_
  intro F hm hge
  obtain ⟨rfl, hlo, f, hf⟩ := hmu F hm
  refine ⟨some G, .inr ⟨b, x', f, hlo, by rw [hat]; exact hov, rfl, by rw [hget, if_pos rfl], hf, rfl⟩, .inl rfl, ?_, fun _ _ _ => rfl⟩
  intro b' hb' hno
  rw [hget]
  by_cases hbb : b' = b
  · subst hbb
    exact ((hno G rfl hlo).2 x hg).elim
  · rw [if_neg hbb]

/-- Keys by values of a type. -/
class KeyT (P : Program) (kt : TypeId) {κ : Type} [DecidableEq κ] (kf : κ → AV) : Prop where
  ok : ∀ a, akeyOk P kt (kf a) = true
  eq : ∀ a b, akeq P kt (kf a) (kf b) = some (decide (a = b))

/-- Maps: their types, the zero of their elements. -/
class MpT (P : Program) (t : TypeId) (kt : outParam TypeId) (z : outParam AV) : Prop where
  mp : ∃ et, mapA P t = some (kt, et) ∧ zeroA P et = some z
theorem MpT.of {P : Program} {t kt : TypeId} {z : AV} (h : ((mapA P t).map fun p => (p.1, zeroA P p.2)) = some (kt, some z)) : MpT P t kt z := by
  constructor
  cases hm : mapA P t with
  | none => rw [hm] at h; cases h
  | some p =>
    rw [hm] at h
    simp only [Option.map_some, Option.some.injEq, Prod.mk.injEq] at h
    exact ⟨p.2, by rw [← h.1], h.2⟩

theorem KeyT.int {P : Program} {kt : TypeId} {k : IntKind} (h : intA P kt = some k) : KeyT P kt (AV.int k) := by
  refine ⟨fun a => by simp [akeyOk, h], fun a b => ?_⟩
  simp only [akeq]
  rw [if_pos ⟨h, trivial⟩]
theorem KeyT.str {P : Program} {kt : TypeId} (h : isStrA P kt = true) : KeyT P kt AV.str := by
  refine ⟨fun a => by simp [akeyOk, h], fun a b => ?_⟩
  simp only [akeq]
  rw [if_pos h]

section maps
variable {κ ν : Type} [DecidableEq κ]
def mget : List (κ × ν) → κ → Option ν
  | [], _ => none
  | p :: l, a => if a = p.1 then some p.2 else mget l a
def mput : List (κ × ν) → κ → ν → List (κ × ν)
  | [], a, b => [(a, b)]
  | p :: l, a, b => if a = p.1 then (a, b) :: l else p :: mput l a b
/-- Entries by keys and values of types. -/
abbrev entL (kf : κ → AV) (vf : ν → AV) (l : List (κ × ν)) : List (AV × AV) := l.map fun p => (kf p.1, vf p.2)

theorem mget_mput (l : List (κ × ν)) (a c : κ) (b : ν) : mget (mput l a b) c = if c = a then some b else mget l c := by
  induction l with
  | nil => simp [mput, mget]
  | cons p l ih =>
    simp only [mput]
    by_cases h : a = p.1
    · rw [if_pos h]
      simp only [mget]
      by_cases hc : c = a
      · simp [hc]
      · rw [if_neg hc, if_neg hc, if_neg (by rw [← h]; exact hc)]
    · rw [if_neg h]
      simp only [mget, ih]
      by_cases hc : c = p.1
      · rw [if_pos hc, if_pos hc, if_neg (by rintro rfl; exact h hc)]
      · rw [if_neg hc, if_neg hc]

theorem afind_ent {P : Program} {kt : TypeId} {kf : κ → AV} {vf : ν → AV} [hk : KeyT P kt kf] (l : List (κ × ν)) (a : κ) :
    ∃ r, afind P kt (kf a) (entL kf vf l) = some r ∧ r.map (·.2) = (mget l a).map vf ∧ ∀ b, (match r with | some (i, _) => (entL kf vf l).set i (kf a, vf b) | none => entL kf vf l ++ [(kf a, vf b)]) = entL kf vf (mput l a b) := by
  induction l with
  | nil => exact ⟨none, rfl, rfl, fun b => rfl⟩
  | cons p l ih =>
    obtain ⟨r, h1, h2, h3⟩ := ih
    by_cases h : a = p.1
    · refine ⟨some (0, vf p.2), ?_, ?_, ?_⟩
      · simp only [entL, List.map_cons, afind, hk.eq, h, decide_true]
      · simp [mget, h]
      · intro b; simp [mput, h]
    · refine ⟨r.map fun q => (q.1 + 1, q.2), ?_, ?_, ?_⟩
      · have h1' : afind P kt (kf a) (List.map (fun p => (kf p.1, vf p.2)) l) = some r := h1
        simp only [entL, List.map_cons, afind, hk.eq, h, decide_false, h1', Option.map_some]
      · simp only [mget, if_neg h, Option.map_map]
        rw [← h2]; rfl
      · intro b
        simp only [mput, if_neg h]
        have := h3 b
        cases r with
        | none => simp only [Option.map_none]; simp only at this; simp only [entL, List.map_cons, List.cons_append] at this ⊢; rw [this]
        | some q => simp only [Option.map_some]; simp only at this; simp only [entL, List.map_cons, List.set_cons_succ] at this ⊢; rw [this]

variable {P : Program} {n : Nat} {ops : Array Oper} {ex : List Nat} {Q : KF → AHeap → Prop} {k : Nat} {os : List Oper} {K : KF} {h h0 : AHeap} {d : Nat} {ty : TypeId} {pos : String} {after : Array Edge} {objs : List Obj}

theorem KOps.chainS {op : Op} {v : AV} {h' : AHeap} (hc : clsOf op = .chain) (hex : ex.contains k = false) (hs : StepS P (evalK h.globs n K) ⟨some d, op, ty, pos, after, none⟩ h v h') (hk : KOps P n ops ex Q (k + 1) os ((d, v) :: K) h') :
    KOps P n ops ex Q k (⟨some d, op, ty, pos, after, none⟩ :: os) K h :=
  KOps.step (by unfold SemStep; simp only [hc]; exact hs) (fun hx => by rw [hex] at hx; cases hx) hk
theorem KOps.chainS0 {op : Op} {v : AV} {h' : AHeap} (hc : clsOf op = .chain) (hex : ex.contains k = false) (hs : StepS P (evalK h.globs n K) ⟨none, op, ty, pos, after, none⟩ h v h') (hk : KOps P n ops ex Q (k + 1) os K h') :
    KOps P n ops ex Q k (⟨none, op, ty, pos, after, none⟩ :: os) K h :=
  KOps.step0 (by unfold SemStep; simp only [hc]; exact hs) (fun hx => by rw [hex] at hx; cases hx) hk

theorem KOps.makeMap {t : TypeId} (st : St h0 h objs) (hex : ex.contains k = false) (hk : ∀ v h', IsMp v → St h0 h' (mapO v [] :: objs) → KOps P n ops ex Q (k + 1) os ((d, v) :: K) h') : KOps P n ops ex Q k (⟨some d, .makeMap t none, ty, pos, after, none⟩ :: os) K h :=
  KOps.chainS rfl hex (makeMap_step rfl) (hk _ _ ⟨_, rfl⟩ (St.allocT st (.map [])))

theorem RdM.ents {v : AV} {es : List (AV × AV)} (hr : RdM h v es) : ents h v = some es := by
  obtain ⟨b, F, rfl, hg⟩ := hr
  simp only [Go.Am.ents, hg]

theorem RdM.look {t kt : TypeId} {z : AV} {kf : κ → AV} {vf : ν → AV} {l : List (κ × ν)} {v : AV} [ht : MpT P t kt z] [hkt : KeyT P kt kf] (hr : RdM h v (entL kf vf l)) (a : κ) (ok : Bool) :
    alook P h t v (kf a) ok = some (match mget l a with | some w => if ok then .tup [vf w, .bool true] else vf w | none => if ok then .tup [z, .bool false] else z) := by
  obtain ⟨et, h1, h2⟩ := ht.mp
  obtain ⟨r, h3, h4, -⟩ := afind_ent (P := P) (kt := kt) (kf := kf) (vf := vf) l a
  simp only [alook, h1, hr.ents, hkt.ok, if_true, h3, h2]
  cases r with
  | none =>
    cases hm : mget l a with
    | none => rfl
    | some w => rw [hm] at h4; cases h4
  | some q =>
    cases hm : mget l a with
    | none => rw [hm] at h4; cases h4
    | some w => rw [hm] at h4; simp only [Option.map_some, Option.some.injEq] at h4; obtain ⟨q1, q2⟩ := q; simp only at h4; subst h4; rfl

theorem KOps.lookupK2 {t kt : TypeId} {z : AV} {kf : κ → AV} {vf : ν → AV} {l : List (κ × ν)} {v : AV} {x ix : Operand} {a : κ} [hx : EvK h.globs n K x v] (hi : evalK h.globs n K ix = kf a) [ht : MpT P t kt z] [hkt : KeyT P kt kf] (hr : RdM h v (entL kf vf l)) (hex : ex.contains k = false)
    (hk : KOps P n ops ex Q (k + 1) os ((d, .tup [match mget l a with | some w => vf w | none => z, .bool (mget l a).isSome]) :: K) h) : KOps P n ops ex Q k (⟨some d, .lookup t x ix true, ty, pos, after, none⟩ :: os) K h := by
  refine KOps.chainS rfl hex (lookup_step rfl ?_) hk
  rw [hx.eq, hi, hr.look]
  cases mget l a <;> rfl
theorem KOps.mapPutK {t kt : TypeId} {z : AV} {kf : κ → AV} {vf : ν → AV} {l : List (κ × ν)} {v u : AV} {x ix y : Operand} {a : κ} {b : ν} {i : Nat} [hx : EvK h.globs n K x v] (hi : evalK h.globs n K ix = kf a) [hy : EvK h.globs n K y u] (hu : u = vf b) [ht : MpT P t kt z] [hkt : KeyT P kt kf]
    (st : St h0 h objs) (hv : IsMp v) (hk' : objs[i]? = some (mapO v (entL kf vf l))) (hex : ex.contains k = false)
    (hk : ∀ h', St h0 h' (objs.set i (mapO v (entL kf vf (mput l a b)))) → KOps P n ops ex Q (k + 1) os K h') : KOps P n ops ex Q k (⟨none, .mapUpdate t x ix y, ty, pos, after, none⟩ :: os) K h := by
  obtain ⟨bb, G, rfl, hg⟩ := St.rdM st i hk' hv
  obtain ⟨et, h1, h2⟩ := ht.mp
  obtain ⟨r, h3, -, h4⟩ := afind_ent (P := P) (kt := kt) (kf := kf) (vf := vf) l a
  have hput : aput P h t (.mp bb) (kf a) (vf b) = some (h.set bb (.obj G (.map (entL kf vf (mput l a b))))) := by
    simp only [aput, h1, hg, hkt.ok, if_true, h3, Option.map_some]
    rw [← h4 b]
  refine KOps.chainS0 (v := .tup []) (h' := h.set bb (.obj G (.map (entL kf vf (mput l a b))))) rfl hex (mapUpdate_step rfl ?_) (hk _ ?_)
  · rw [hx.eq, hi, hy.eq, hu]; exact hput
  · refine St.setT (x := .map (entL kf vf l)) (x' := .map (entL kf vf (mput l a b))) st hk' (fun _ => rfl) rfl hg ?_
    intro F hm
    obtain ⟨b', G', f, hF, hlo, hb', hg', hf⟩ := hm.map hv
    cases hb'
    rw [hg] at hg'; cases hg'
    exact ⟨hF, hlo, f, hf⟩

class StT (P : Program) (t : TypeId) : Prop where
  st : isStrA P t = true
theorem KOps.range {t : TypeId} {x : Operand} {s : ByteArray} [hx : EvK h.globs n K x (.str s)] [ht : StT P t] (st : St h0 h objs) (hex : ex.contains k = false) (hk : ∀ v h', IsIt v → St h0 h' (walkO v s 0 :: objs) → KOps P n ops ex Q (k + 1) os ((d, v) :: K) h') :
    KOps P n ops ex Q k (⟨some d, .range t x, ty, pos, after, none⟩ :: os) K h :=
  KOps.chainS rfl hex (range_step rfl ht.st hx.eq) (hk _ _ ⟨_, rfl⟩ (St.allocT st (.walk s 0)))
theorem KOps.next {x : Operand} {v : AV} {s : ByteArray} {p i : Nat} [hx : EvK h.globs n K x v] (st : St h0 h objs) (hv : IsIt v) (hk' : objs[i]? = some (walkO v s p)) (hex : ex.contains k = false)
    (h1 : p < s.size → ∀ h', St h0 h' (objs.set i (walkO v s (p + (Utf8.decode s p).2))) → KOps P n ops ex Q (k + 1) os ((d, .tup [.bool true, .int .i64 p, .int .i32 (Utf8.decode s p).1]) :: K) h')
    (h2 : s.size ≤ p → KOps P n ops ex Q (k + 1) os ((d, .tup [.bool false]) :: K) h) : KOps P n ops ex Q k (⟨some d, .next x true, ty, pos, after, none⟩ :: os) K h := by
  obtain ⟨_, fs, hl, hm, _⟩ := id st
  have hlt : i < fs.length := by rw [hl]; exact (List.getElem?_eq_some_iff.1 hk').1
  obtain ⟨b, G, f, _, _, rfl, hg, _⟩ := (hm i _ _ hk' (List.getElem?_eq_getElem hlt)).walk hv
  by_cases hp : p < s.size
  · refine KOps.chainS rfl hex (next_step rfl hx.eq hg hp) (h1 hp _ ?_)
    refine St.setT (x := .walk s p) (x' := .walk s (p + (Utf8.decode s p).2)) st hk' (fun _ => rfl) rfl hg ?_
    intro F hm'
    obtain ⟨b', G', f', hF, hlo, hb', hg', hf⟩ := hm'.walk hv
    cases hb'
    rw [hg] at hg'; cases hg'
    exact ⟨hF, hlo, f', hf⟩
  · exact KOps.chainS rfl hex (next_over rfl hx.eq hg (by omega)) (h2 (by omega))
end maps
end Go.Am
