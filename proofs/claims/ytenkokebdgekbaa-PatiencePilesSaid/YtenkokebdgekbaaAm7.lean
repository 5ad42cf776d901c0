/-
  The abstract machine: operations that read memory, and those that make a block of their own.
  Conditions: none.
-/
import Derived.Test.YtenkokebdgekbaaAm6
namespace Go.Am

/-- Reading a variable. -/
def aload (P : Program) (h : AHeap) (t : TypeId) (x : AV) : Option AV :=
  match x with
  | .ptr b o => match h.get b with
    | some (.cells _ _ cs) => if h.valid b then (do
        let g ← aggA P t
        if g then (do let s ← szA P t; if o + s ≤ cs.length then some (.agg ((cs.drop o).take s)) else none) else cs[o]?) else none
    | _ => none
  | _ => none

/-- A part of an array behind an address. -/
def asliceP (P : Program) (h : AHeap) (t : TypeId) (x : AV) (lo hi mx : Option AV) : Option AV :=
  match x with
  | .ptr b o => match h.get b with
    | some (.cells (some _) _ cs) => do
        let (n, e) ← arrA P t
        let s ← szA P e
        let (l, hh, m) ← aslice3 n lo hi mx
        if o + n * s ≤ cs.length ∧ n ≤ maxLen then some (.slc b (o + l * s) (hh - l) s (afull n hh true m)) else none
    | _ => none
  | _ => none

def aread (P : Program) (h : AHeap) (ρ : Operand → AV) (op : Op) : Option AV :=
  match op with
  | .load t x => aload P h t (ρ x)
  | .slice t x lo hi mx => asliceP P h t (ρ x) (lo.map ρ) (hi.map ρ) (mx.map ρ)
  | _ => none

theorem aload_run {P : Program} {φ : Emb} {h : AHeap} {w : World} {t : TypeId} {x v : AV} {cx : Value} (r : HRel φ h w) (hx : VRel φ x cx) (hl : aload P h t x = some v) :
    ∃ c, (Instr.loadAt t cx).run P w = .ok c w ∧ VRel φ v c := by
  unfold aload at hl
  split at hl
  · rename_i b o
    split at hl
    · rename_i F p cs hg
      split at hl
      · rename_i hv
        simp only [Option.bind_eq_bind, Option.bind_eq_some_iff] at hl
        obtain ⟨g, hga, hl⟩ := hl
        simp only [aggA, Option.map_eq_some_iff] at hga
        obtain ⟨d, hd, hga⟩ := hga
        have hagg : (isAgg t).run P w = .ok g w := by
          simp only [isAgg, Sem.run_bind, run_underlying hd, Result.andThen_ok]
          subst hga
          cases d <;> rfl
        cases hx with | ptr _ _ k i z hφ =>
        have hB := r.blk b k i z _ hφ hg hv
        cases g with
        | true =>
          simp only [if_true, Option.bind_eq_some_iff] at hl
          obtain ⟨s, hs, hl⟩ := hl
          split at hl
          · rename_i hle
            cases hl
            have hex : ∀ j, j < s → ∃ u, w.cell? ((⟨k, i + o, none⟩ : Addr).add j) = some u ∧ ∀ y, cs[o + j]? = some y → VRel φ y u := by
              intro j hj
              have hlt : o + j < cs.length := by omega
              obtain ⟨u, hu, hr⟩ := hB.cell (List.getElem?_eq_getElem hlt)
              refine ⟨u, by rw [Addr.add_lit, Nat.add_assoc]; exact hu, ?_⟩
              intro y hy
              rw [List.getElem?_eq_getElem hlt] at hy
              cases hy
              exact hr
            have hf : ∀ j, j < s → w.cell? ((⟨k, i + o, none⟩ : Addr).add j) = some ((w.cell? ((⟨k, i + o, none⟩ : Addr).add j)).getD undef) := by
              intro j hj
              obtain ⟨u, hu, _⟩ := hex j hj
              rw [hu]; rfl
            refine ⟨.agg ((List.range s).map fun j => (w.cell? ((⟨k, i + o, none⟩ : Addr).add j)).getD undef).toArray, ?_, .agg _ _ ?_ ?_⟩
            · simp only [Instr.loadAt, Instr.sureAddr, loadVar, Sem.run_bind, Sem.run_pure, Result.andThen_ok, hagg, if_true, szA_run hs, run_loadCells (P := P) (w := w) _ s _ hf]
            · simp; omega
            · intro j x y hx hy
              rw [List.getElem?_take] at hx
              split at hx
              · rename_i hj
                rw [List.getElem?_drop] at hx
                obtain ⟨u, hu, hr⟩ := hex j hj
                rw [List.getElem?_map, List.getElem?_range hj, Option.map_some, hu] at hy
                cases hy
                exact hr x hx
              · cases hx
          · cases hl
        | false =>
          simp only [Bool.false_eq_true, if_false] at hl
          obtain ⟨u, hu, hr⟩ := hB.cell hl
          exact ⟨u, by simp [Instr.loadAt, Instr.sureAddr, loadVar, hagg, hu], hr⟩
      · cases hl
    · cases hl
  · cases hl

theorem asliceP_run {P : Program} {φ : Emb} {h : AHeap} {w : World} {t : TypeId} {x v : AV} {cx : Value} {lo hi mx : Option Operand} {ρ : Operand → AV} {ev : Operand → Value} (r : HRel φ h w) (hx : VRel φ x cx)
    (hr : ∀ y, lo = some y ∨ hi = some y ∨ mx = some y → VRel φ (ρ y) (ev y)) (hl : asliceP P h t x (lo.map ρ) (hi.map ρ) (mx.map ρ) = some v) :
    ∃ c, (Instr.sliceAt t cx (lo.map ev) (hi.map ev) (mx.map ev)).run P w = .ok c w ∧ VRel φ v c := by
  unfold asliceP at hl
  split at hl
  · rename_i b o
    split at hl
    · rename_i F p cs hg
      simp only [Option.bind_eq_bind, Option.bind_eq_some_iff] at hl
      obtain ⟨⟨n, e⟩, he, s, hs, ⟨l, hh, m⟩, hb, hl⟩ := hl
      split at hl
      · rename_i hc
        cases hl
        cases hx with | ptr _ _ k i z hφ =>
        obtain ⟨c, e', h1, h2, h3⟩ := r.arr b k i z F p cs hφ hg
        have hu := arrA_und he
        obtain ⟨hrun, hlh, hhn, hhm, hmc⟩ := sliceBounds_run (P := P) (c := n) false hr (Nat.le_refl n) hb w
        refine ⟨_, by simp [Instr.sliceAt, run_underlying hu, Instr.sureAddr, hrun, szA_run hs]; rfl, ?_⟩
        have hval : VRel φ (.slc b (o + l * s) (hh - l) s (afull n hh true m)) (.slice (some (if m.getD n = l then (⟨k, i + o, none⟩ : Addr) else (⟨k, i + o, none⟩ : Addr).add (l * s))) (hh - l) (m.getD n - l)) := by
          refine .slc _ _ _ _ _ _ _ (by omega) (by have := hc.2; omega) ?_ ?_
          · intro hfu
            cases m with
            | some m' => simp [afull] at hfu ⊢; omega
            | none => simp [afull] at hfu ⊢; omega
          · by_cases hml : m.getD n = l
            · exact .inl (by omega)
            · refine .inr ⟨k, i, z, hφ, ?_, ?_⟩
              · rw [if_neg hml, Addr.add_lit, Nat.add_assoc]
              · have : l * s + (m.getD n - l) * s = m.getD n * s := by rw [← Nat.add_mul]; congr 1; omega
                have h4 : m.getD n * s ≤ n * s := Nat.mul_le_mul_right _ hmc
                have hc1 := hc.1
                dsimp only at hc1 h4 this ⊢
                omega
        cases hml : decide (m.getD n = l)
        · have hml' : ¬ m.getD n = l := by simpa using hml
          simpa [hml'] using hval
        · have hml' : m.getD n = l := by simpa using hml
          simpa [hml'] using hval
      · cases hl
    · cases hl
  · cases hl

theorem aread_sound {P : Program} {φ : Emb} {h : AHeap} {w : World} {ρ : Operand → AV} {ev : Operand → Value} {o : Oper} {v : AV} (r : HRel φ h w) (hr : ∀ x ∈ o.op.operands, VRel φ (ρ x) (ev x)) (hl : aread P h ρ o.op = some v) :
    ∃ c, (execOp ev o).run P w = .ok (.value c) w ∧ VRel φ v c := by
  unfold aread at hl
  split at hl
  · rename_i t x ho
    rw [ho] at hr
    obtain ⟨c, hc, hv⟩ := aload_run (P := P) r (hr x (by simp [Op.operands])) hl
    exact ⟨c, by simp [execOp, ho, hc], hv⟩
  · rename_i t x lo hi mx ho
    rw [ho] at hr
    obtain ⟨c, hc, hv⟩ := asliceP_run (P := P) (ev := ev) r (hr x (by simp [Op.operands])) (by
      intro y hy
      refine hr y ?_
      rcases hy with rfl | rfl | rfl <;> simp [Op.operands]) hl
    exact ⟨c, by simp [execOp, ho, hc], hv⟩
  · cases hl

/-- What makes a block of its own: the value (by the block's number), the block's cells. -/
inductive Mk where
  | ptr
  | slc (n s : Nat) (full : Bool)

def Mk.val (b : Nat) : Mk → AV
  | .ptr => .ptr b 0
  | .slc n s full => .slc b 0 n s full

def partsA (s : Nat) : List AV → Option (List AV)
  | [] => some []
  | v :: vs => do
    let l ← v.cells?
    if l.length = s then (do let r ← partsA s vs; some (l ++ r)) else none

def aallo (P : Program) (ρ : Operand → AV) (op : Op) : Option (Mk × List AV) :=
  match op with
  | .box _ x => (ρ x).cells?.map fun l => (.ptr, l)
  | .alloc t => do
    let z ← zeroA P t
    let l ← z.cells?
    some (.ptr, l)
  | .buildSlice t len parts => do
    let e ← elemA P t
    let s ← szA P e
    let _ ← zeroA P e
    let l ← partsA s (parts.toList.map fun p => ρ p.2)
    if parts.toList.map (·.1) = List.range len ∧ len * s ≤ 16777216 ∧ len ≤ 16777216 then some (.slc len s true, l) else none
  | .makeSlice t l c => match ρ l, ρ c with
    | .int _ l, .int _ c => do
      let e ← elemA P t
      let s ← szA P e
      let z ← zeroA P e
      let zs ← z.cells?
      let i ← P.info? e
      if 0 ≤ l ∧ l ≤ c ∧ (i.bytes : Int) * c ≤ 281474976710656 ∧ c ≤ 9223372036854775807 ∧ zs.length = s then
        some (.slc l.toNat s (l == c), (List.replicate l.toNat zs).flatten)
      else none
    | _, _ => none
  | _ => none

theorem foldl_put (v : List Value) : ∀ (cs : Array Value) (off j : Nat), off + j + v.length ≤ cs.size →
    ((v.zipIdx j).foldl (fun cs (p : Value × Nat) => cs.setIfInBounds (off + p.2) p.1) cs).toList = putL cs.toList (off + j) v := by
  induction v with
  | nil => intro cs off j h; simp [putL]
  | cons x v ih =>
    intro cs off j h
    simp only [List.length_cons] at h
    simp only [List.zipIdx_cons, List.foldl_cons]
    have := ih (cs.setIfInBounds (off + j) x) off (j + 1) (by simp; omega)
    rw [this]
    apply List.ext_getElem?
    intro q
    have hsz : (cs.setIfInBounds (off + j) x).toList.length = cs.size := by simp
    rw [putL_get _ _ _ (by rw [hsz]; omega), putL_get _ _ _ (by simp; omega)]
    by_cases h1 : q = off + j
    · subst h1
      rw [if_neg (by omega), if_pos (by simp), Nat.sub_self]
      have : off + j < cs.size := by omega
      simp [this]
    · by_cases h2 : off + j ≤ q ∧ q < off + j + (x :: v).length
      · rw [if_pos h2, if_pos (by simp at h2; omega)]
        have : q - (off + j) = (q - (off + (j + 1))) + 1 := by omega
        rw [this, List.getElem?_cons_succ]
      · rw [if_neg h2, if_neg (by simp at h2; omega)]
        rw [Array.toList_setIfInBounds, List.getElem?_set_ne (by omega)]

theorem fill_seq (s : Nat) : ∀ (vs : List Value) (a : Nat) (cells : Array Value), (∀ v ∈ vs, v.cells.size = s) → cells.size = (a + vs.length) * s →
    ∃ r : Array Value, Instr.fill (fun i => some (i * s, s)) cells ((List.range' a vs.length).zip vs) = some r ∧ r.toList = cells.toList.take (a * s) ++ (vs.map fun v => v.cells.toList).flatten := by
  intro vs
  induction vs with
  | nil => intro a cells _ h; refine ⟨cells, by simp [Instr.fill], ?_⟩; simp at h ⊢; rw [List.take_of_length_le (by simp; omega)]
  | cons v vs ih =>
    intro a cells hv h
    have hvs := hv v (by simp)
    simp only [List.length_cons] at h
    have hmul : (a + (vs.length + 1)) * s = a * s + s + vs.length * s := by rw [Nat.add_mul, Nat.add_mul, Nat.one_mul]; omega
    simp only [List.length_cons, List.range'_succ, List.zip_cons_cons, Instr.fill]
    rw [if_neg (by rw [hvs]; simp; rw [h, hmul]; omega)]
    have hfold := foldl_put v.cells.toList cells (a * s) 0 (by simp [hvs]; omega)
    have hput : (Array.foldl (fun cs (p : Value × Nat) => cs.setIfInBounds (a * s + p.2) p.1) cells v.cells.zipIdx).toList = putL cells.toList (a * s) v.cells.toList := by
      rw [← Array.foldl_toList, Array.toList_zipIdx]; exact hfold
    have hsize : (Array.foldl (fun cs (p : Value × Nat) => cs.setIfInBounds (a * s + p.2) p.1) cells v.cells.zipIdx).size = (a + 1 + vs.length) * s := by
      rw [← Array.length_toList, hput, putL_length _ _ _ (by simp [hvs]; omega)]
      simp only [Array.length_toList]
      rw [h]; congr 1; omega
    obtain ⟨r, hr, hl⟩ := ih (a + 1) _ (fun u hu => hv u (by simp [hu])) hsize
    refine ⟨r, hr, ?_⟩
    rw [hl, hput]
    have htake : (putL cells.toList (a * s) v.cells.toList).take ((a + 1) * s) = cells.toList.take (a * s) ++ v.cells.toList := by
      have e1 : (a + 1) * s = a * s + s := by rw [Nat.add_mul, Nat.one_mul]
      have hln : (cells.toList.take (a * s) ++ v.cells.toList).length = (a + 1) * s := by
        simp [hvs]; omega
      rw [putL, ← hln, List.take_left]
    rw [htake]
    simp

theorem partsA_rel {φ : Emb} {s : Nat} : ∀ (vs : List AV) (cs : List Value) (l : List AV), VRels φ vs cs → partsA s vs = some l → (∀ v ∈ cs, v.cells.size = s) ∧ VRels φ l (cs.map fun v => v.cells.toList).flatten ∧ l.length = cs.length * s
  | [], cs, l, h, hp => by
    have : cs = [] := List.eq_nil_of_length_eq_zero h.1.symm
    subst this
    simp [partsA] at hp
    subst hp
    exact ⟨by simp, ⟨rfl, by simp⟩, by simp⟩
  | v :: vs, cs, l, h, hp => by
    cases cs with
    | nil => have := h.1; simp at this
    | cons c cs =>
      simp only [partsA, Option.bind_eq_bind, Option.bind_eq_some_iff] at hp
      obtain ⟨l1, h1, hp⟩ := hp
      split at hp
      · rename_i hls
        simp only [Option.bind_eq_some_iff] at hp
        obtain ⟨r, hr, hp⟩ := hp
        cases hp
        have hvc := h.2 0 v c rfl rfl
        obtain ⟨hcells, _⟩ := hvc.cells h1
        have hrest : VRels φ vs cs := ⟨by have := h.1; simpa using this, fun j x y hx hy => h.2 (j + 1) x y (by simpa using hx) (by simpa using hy)⟩
        obtain ⟨g1, g2, g3⟩ := partsA_rel vs cs r hrest hr
        have hcl : c.cells.toList.length = s := by rw [← hcells.1]; exact hls
        refine ⟨?_, ⟨?_, ?_⟩, ?_⟩
        · intro u hu
          simp only [List.mem_cons] at hu
          rcases hu with rfl | hu
          · simpa using hcl
          · exact g1 u hu
        · simp only [List.map_cons, List.flatten_cons, List.length_append]
          rw [hcells.1, g2.1]
        · intro j x y hx hy
          simp only [List.map_cons, List.flatten_cons] at hy
          rw [List.getElem?_append] at hx hy
          rw [hcells.1] at hx
          split at hx
          · rename_i hj
            rw [if_pos hj] at hy
            exact hcells.2 j x y hx hy
          · rename_i hj
            rw [if_neg hj] at hy
            exact g2.2 _ x y hx hy
        · simp only [List.length_append, List.length_cons, Nat.add_mul, Nat.one_mul]; omega
      · cases hp

theorem flat_rep {α : Type} (zs : List α) : ∀ (n j : Nat), j < n * zs.length → (List.replicate n zs).flatten[j]? = zs[j % zs.length]? := by
  intro n
  induction n with
  | zero => intro j h; omega
  | succ n ih =>
    intro j h
    rw [List.replicate_succ, List.flatten_cons, List.getElem?_append]
    split
    · rename_i hj; rw [Nat.mod_eq_of_lt hj]
    · rename_i hj
      rw [Nat.add_mul, Nat.one_mul] at h
      rw [ih (j - zs.length) (by omega), ← Nat.mod_eq_sub_mod (by omega)]

theorem zeroA_info {P : Program} {t : TypeId} {z : AV} (h : zeroA P t = some z) : ∃ i v, P.info? t = some i ∧ i.zero = some v ∧ ∀ φ, VRel φ z v := by
  unfold zeroA at h
  simp only [Option.map_eq_some_iff, Option.bind_eq_some_iff] at h
  obtain ⟨v, ⟨i, hi, hv⟩, rfl⟩ := h
  exact ⟨i, v, hi, hv, fun φ => AV.of_rel φ 4 v⟩

theorem buildSlice_run {P : Program} {w : World} {t e : TypeId} {s len : Nat} {i : TypeInfo} {v : Value} (hu : P.underlying t = some (.slice e)) (hs : szA P e = some s) (hi : P.info? e = some i) (hv : i.zero = some v)
    (hsmall : len * s ≤ 16777216) (parts : Array (Nat × Value)) (r : Array Value)
    (hfill : Instr.fill (fun i => some (i * s, s)) ((Array.range (len * s)).map fun k => (if len * s = 0 then (#[] : Array Value) else v.cells)[k % (if len * s = 0 then (#[] : Array Value) else v.cells).size]!) parts.toList = some r) :
    (Instr.buildSlice t len parts).run P w = .ok (.slice (some ⟨w.heap.size, 0, none⟩) len len) (w.alloc (.cells r e)) := by
  unfold Instr.buildSlice
  simp only [Sem.run_bind, run_underlying hu, Result.andThen_ok, szA_run hs]
  rw [if_neg (show ¬ len * s > 2 ^ 24 by omega)]
  by_cases h0 : len * s = 0
  · rw [if_pos h0] at hfill ⊢
    simp only [Sem.run_bind, Sem.run_pure, Result.andThen_ok, hfill]
    simp [newRow]
  · rw [if_neg h0] at hfill ⊢
    simp only [Sem.run_bind, zeroValue, typeInfo, run_program, hi, hv, Sem.run_pure, Result.andThen_ok, hfill]
    simp [newRow]

theorem aallo_sound {P : Program} {φ : Emb} {w : World} {ρ : Operand → AV} {ev : Operand → Value} {o : Oper} {mk : Mk} {cs : List AV} (hr : ∀ x ∈ o.op.operands, VRel φ (ρ x) (ev x)) (hl : aallo P ρ o.op = some (mk, cs)) :
    ∃ (c : Array Value) (e : TypeId) (v : Value), (execOp ev o).run P w = .ok (.value v) (w.alloc (.cells c e)) ∧ cs.length ≤ c.size ∧ CellsAt φ cs c 0 ∧ ∀ (φ' : Emb) (n : Nat), φ' n = some (w.heap.size, 0, c.size) → VRel φ' (mk.val n) v := by
  have hat : ∀ (l : List AV) (c : Array Value), VRels φ l c.toList → CellsAt φ l c 0 := by
    intro l c h j x hx
    have hlt : j < c.toList.length := by rw [← h.1]; exact (List.getElem?_eq_some_iff.1 hx).1
    have hlt' : j < c.size := by simpa using hlt
    refine ⟨c[j], by simp [hlt'], ?_⟩
    have := h.2 j x c.toList[j] hx (List.getElem?_eq_getElem hlt)
    simpa using this
  unfold aallo at hl
  split at hl
  · rename_i t x ho
    rw [ho] at hr
    simp only [Option.map_eq_some_iff] at hl
    obtain ⟨l, hcl, hl⟩ := hl
    cases hl
    obtain ⟨h1, h2⟩ := (hr x (by simp [Op.operands])).cells hcl
    refine ⟨(ev x).cells, t, .pointer (some ⟨w.heap.size, 0, none⟩), by simp [execOp, ho, Instr.box, newVar, newRow], by rw [h1.1]; simp, hat _ _ h1, ?_⟩
    intro φ' n hn
    exact .ptr n 0 _ 0 _ hn
  · rename_i t ho
    rw [ho] at hr
    simp only [Option.bind_eq_bind, Option.bind_eq_some_iff] at hl
    obtain ⟨z, hz, l, hcl, hl⟩ := hl
    cases hl
    obtain ⟨i, v, hi, hv, hrel⟩ := zeroA_info hz
    obtain ⟨h1, h2⟩ := (hrel φ).cells hcl
    refine ⟨v.cells, t, .pointer (some ⟨w.heap.size, 0, none⟩), by simp [execOp, ho, Instr.alloc, zeroValue, typeInfo, hi, hv, newVar, newRow], by rw [h1.1]; simp, hat _ _ h1, ?_⟩
    intro φ' n hn
    exact .ptr n 0 _ 0 _ hn
  · rename_i t len parts ho
    rw [ho] at hr
    simp only [Option.bind_eq_bind, Option.bind_eq_some_iff] at hl
    obtain ⟨e, he, s, hs, z, hz, l, hp, hl⟩ := hl
    split at hl
    · rename_i hc
      cases hl
      obtain ⟨hrange, hsmall, hlen24⟩ := hc
      obtain ⟨i, v, hi, hv, _⟩ := zeroA_info hz
      have hlen : parts.toList.length = len := by
        have := congrArg List.length hrange
        simpa using this
      have hrel : VRels φ (parts.toList.map fun p => ρ p.2) (parts.toList.map fun p => ev p.2) := by
        refine ⟨by simp, ?_⟩
        intro j x y hx hy
        rw [List.getElem?_map, Option.map_eq_some_iff] at hx hy
        obtain ⟨q, hq, rfl⟩ := hx
        obtain ⟨q', hq', rfl⟩ := hy
        rw [hq] at hq'; cases hq'
        refine hr _ ?_
        simp only [Op.operands, List.mem_toArray, List.mem_map]
        exact ⟨q, List.mem_of_getElem? hq, rfl⟩
      obtain ⟨g1, g2, g3⟩ := partsA_rel _ _ _ hrel hp
      simp only [List.length_map, hlen] at g3
      have hzip : (parts.map fun (p : Nat × Operand) => (p.1, ev p.2)).toList = (List.range' 0 (parts.toList.map fun p => ev p.2).length).zip (parts.toList.map fun p => ev p.2) := by
        have e0 : List.range' 0 (parts.toList.map fun p => ev p.2).length = parts.toList.map (·.1) := by
          rw [hrange, List.length_map, hlen, List.range_eq_range']
        rw [e0, Array.toList_map, List.zip_map', ]
      obtain ⟨r, hfill, hrl⟩ := fill_seq s (parts.toList.map fun p => ev p.2) 0 ((Array.range (len * s)).map fun k => (if len * s = 0 then (#[] : Array Value) else v.cells)[k % (if len * s = 0 then (#[] : Array Value) else v.cells).size]!) g1 (by simp [hlen])
      rw [← hzip] at hfill
      simp only [Nat.zero_mul, List.take_zero, List.nil_append] at hrl
      have hrsize : r.size = len * s := by
        rw [← Array.length_toList, hrl, ← g2.1, g3]
      refine ⟨r, e, .slice (some ⟨w.heap.size, 0, none⟩) len len, ?_, by omega, hat _ _ (by rw [hrl]; exact g2), ?_⟩
      · have := buildSlice_run (P := P) (w := w) (elemA_und he) hs hi hv hsmall _ _ hfill
        simp only [execOp, ho, Sem.run_bind, this, Result.andThen_ok, Sem.run_pure]
      · intro φ' n hn
        refine .slc n 0 len s true _ len (Nat.le_refl _) ?_ (fun _ => rfl) ?_
        · unfold maxLen; omega
        · exact .inr ⟨_, 0, _, hn, by simp, by omega⟩
    · cases hl
  · rename_i t lo co ho
    rw [ho] at hr
    split at hl
    · rename_i kl l kc c hρl hρc
      simp only [Option.bind_eq_bind, Option.bind_eq_some_iff] at hl
      obtain ⟨e, he, s, hs, z, hz, zs, hzs, i, hi, hl⟩ := hl
      split at hl
      · rename_i hcnd
        cases hl
        obtain ⟨h0, hlc, hby, h63, hzl⟩ := hcnd
        obtain ⟨i', v, hi', hv, hrel⟩ := zeroA_info hz
        rw [hi] at hi'; cases hi'
        obtain ⟨hc1, hc2⟩ := (hrel φ).cells hzs
        have hl' := hr lo (by simp [Op.operands]); rw [hρl] at hl'
        have hc' := hr co (by simp [Op.operands]); rw [hρc] at hc'
        generalize hevl : ev lo = cl at hl'
        generalize hevc : ev co = cc at hc'
        cases hl'; cases hc'
        have hsi : i.size = s := by simpa [szA, hi] using hs
        have hm := run_make (P := P) w t e i v (elemA_und he) hi hv kl kc l c h0 hlc hby h63
        have hvsz : v.cells.size = s := by rw [← Array.length_toList, ← hc1.1, hzl]
        refine ⟨madeCells v.cells (c.toNat * i.size), e, .slice (some ⟨w.heap.size, 0, none⟩) l.toNat c.toNat, by simp [execOp, ho, hevl, hevc, hm], ?_, ?_, ?_⟩
        · rw [size_madeCells, hsi]
          simp [hzl]
          exact Nat.mul_le_mul_right _ (by omega)
        · intro j x hx
          have hzpos : 0 < s := by
            rcases Nat.eq_zero_or_pos s with h | h
            · have : zs = [] := List.eq_nil_of_length_eq_zero (by omega)
              subst this
              simp at hx
            · exact h
          have hj : j < l.toNat * s := by
            have := (List.getElem?_eq_some_iff.1 hx).1
            simpa [hzl] using this
          have hx' : zs[j % s]? = some x := by
            rw [← hx, flat_rep zs _ j (by rw [hzl]; exact hj), hzl]
          have hjm : j % s < v.cells.size := by rw [hvsz]; exact Nat.mod_lt _ hzpos
          have hlt : j < c.toNat * i.size := by
            rw [hsi]
            exact Nat.lt_of_lt_of_le hj (Nat.mul_le_mul_right _ (by omega))
          refine ⟨v.cells[j % s], ?_, ?_⟩
          · simp only [madeCells, Nat.zero_add, Array.getElem?_map, hvsz]
            rw [Array.getElem?_range, if_pos hlt]
            simp only [Option.map_some, getElem!_pos v.cells (j % s) hjm]
          · have := hc1.2 (j % s) x v.cells[j % s] hx' (by simp [hjm])
            exact this
        · intro φ' n hn
          rw [size_madeCells, hsi] at hn
          refine .slc n 0 l.toNat s _ _ c.toNat (by omega) (by unfold maxLen; omega) ?_ (.inr ⟨_, 0, _, hn, by simp, by omega⟩)
          intro hb
          simp at hb
          omega
      · cases hl
    · cases hl
  · cases hl

end Go.Am
