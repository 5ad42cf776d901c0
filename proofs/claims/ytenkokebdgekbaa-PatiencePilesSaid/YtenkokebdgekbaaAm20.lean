/-
  The abstract machine: what a function owns: slices and boxes, each in a family of its own.
  Conditions: none.
-/
import Derived.Test.YtenkokebdgekbaaAm19
namespace Go.Am

/-- Where a slice's cells lie (elements of s cells), or a box's (s = 0). -/
def View (v : AV) (s b o len : Nat) : Prop := (∃ n full, v = .slc b o n s full ∧ len = n * s ∧ 0 < s) ∨ (s = 0 ∧ v = .ptr b o)

/-- May be read. -/
def Rd (h : AHeap) (v : AV) (s : Nat) (xs : List AV) : Prop :=
  (v = .nils ∧ xs = []) ∨ ∃ b o F p cs, View v s b o xs.length ∧ h.get b = some (.cells F p cs) ∧ h.valid b = true ∧ (cs.drop o).take xs.length = xs

structure Obj where
  v : AV
  s : Nat
  xs : List AV
  tip : Bool

/-- May be written: in a family, the block not below lo. -/
def Mu (lo : Nat) (h : AHeap) : Option Nat → Obj → Prop
  | none, o => o.v = .nils ∧ o.xs = []
  | some F, o => ∃ b off p cs f, lo ≤ b ∧ View o.v o.s b off o.xs.length ∧ h.get b = some (.cells (some F) p cs) ∧ h.fam F = some f ∧ f.sees b = true ∧ (cs.drop off).take o.xs.length = o.xs ∧
      (o.tip = true → (∃ n, o.v = .slc b off n o.s true) ∨ p + off + o.xs.length = f.ext)

/-- One heap holds all of another. -/
structure Keeps (h0 h : AHeap) : Prop where
  next : h0.next ≤ h.next
  nfam : h0.nfam ≤ h.nfam
  globs : h.globs = h0.globs
  get : ∀ b, b < h0.next → h.get b = h0.get b
  fam : ∀ F, F < h0.nfam → h.fam F = h0.fam F

theorem Keeps.refl (h : AHeap) : Keeps h h := ⟨Nat.le_refl _, Nat.le_refl _, rfl, fun _ _ => rfl, fun _ _ => rfl⟩
theorem Keeps.trans {a b c : AHeap} (h : Keeps a b) (k : Keeps b c) : Keeps a c :=
  ⟨Nat.le_trans h.next k.next, Nat.le_trans h.nfam k.nfam, k.globs.trans h.globs, fun x hx => (k.get x (Nat.lt_of_lt_of_le hx h.next)).trans (h.get x hx), fun x hx => (k.fam x (Nat.lt_of_lt_of_le hx h.nfam)).trans (h.fam x hx)⟩

theorem Keeps.get_some {h0 h : AHeap} (k : Keeps h0 h) {b : Nat} {B : Blk} (hb : h0.get b = some B) : h.get b = some B := by rw [k.get b (AHeap.get_lt hb)]; exact hb
theorem Keeps.fam_some {h0 h : AHeap} (k : Keeps h0 h) {F : Nat} {f : Fam} (hf : h0.fam F = some f) : h.fam F = some f := by rw [k.fam F (AHeap.fam_lt hf)]; exact hf

theorem Keeps.valid {h0 h : AHeap} (k : Keeps h0 h) {b : Nat} (hv : h0.valid b = true) : h.valid b = true := by
  unfold AHeap.valid at hv ⊢
  cases hb : h0.get b with
  | none => rw [hb] at hv; cases hv
  | some B =>
    rw [hb] at hv
    rw [k.get_some hb]
    cases B with
    | map es => rfl
    | cells F p cs =>
      cases F with
      | none => rfl
      | some F =>
        simp only at hv ⊢
        cases hf : h0.fam F with
        | none => rw [hf] at hv; cases hv
        | some f => rw [hf] at hv; rw [k.fam_some hf]; exact hv

theorem Rd.ext {h0 h : AHeap} (k : Keeps h0 h) {v : AV} {s : Nat} {xs : List AV} (hr : Rd h0 v s xs) : Rd h v s xs := by
  rcases hr with hr | ⟨b, o, F, p, cs, h1, h2, h3, h4⟩
  · exact .inl hr
  · exact .inr ⟨b, o, F, p, cs, h1, k.get_some h2, k.valid h3, h4⟩

theorem Mu.ext {lo : Nat} {h0 h : AHeap} (k : Keeps h0 h) {F : Option Nat} {o : Obj} (hm : Mu lo h0 F o) : Mu lo h F o := by
  cases F with
  | none => exact hm
  | some F =>
    obtain ⟨b, off, p, cs, f, h0', h1, h2, h3, h4⟩ := hm
    exact ⟨b, off, p, cs, f, h0', h1, k.get_some h2, k.fam_some h3, h4⟩

theorem Mu.lt {lo : Nat} {h : AHeap} {F : Nat} {o : Obj} (hm : Mu lo h (some F) o) : F < h.nfam := by
  obtain ⟨b, off, p, cs, f, h0', h1, h2, h3, h4⟩ := hm
  exact AHeap.fam_lt h3

theorem Mu.lo {lo lo' : Nat} (hl : lo' ≤ lo) {h : AHeap} {F : Option Nat} {o : Obj} (hm : Mu lo h F o) : Mu lo' h F o := by
  cases F with
  | none => exact hm
  | some F =>
    obtain ⟨b, off, p, cs, f, h0', h1⟩ := hm
    exact ⟨b, off, p, cs, f, Nat.le_trans hl h0', h1⟩

theorem Mu.rd {lo : Nat} {h : AHeap} {F : Option Nat} {o : Obj} (hm : Mu lo h F o) : Rd h o.v o.s o.xs := by
  cases F with
  | none => exact .inl hm
  | some F =>
    obtain ⟨b, off, p, cs, f, _, h1, h2, h3, h4, h5, _⟩ := hm
    refine .inr ⟨b, off, some F, p, cs, h1, h2, ?_, h5⟩
    unfold AHeap.valid
    rw [h2]
    simp only [h3, h4]

/-- The heap is the old one, and besides it owns these. -/
structure St (h0 h : AHeap) (objs : List Obj) : Prop where
  keeps : Keeps h0 h
  own : ∃ fs : List (Option Nat), fs.length = objs.length ∧ (∀ (i : Nat) (o : Obj) (F : Option Nat), objs[i]? = some o → fs[i]? = some F → Mu h0.next h F o) ∧ (∀ (i j F : Nat), fs[i]? = some (some F) → fs[j]? = some (some F) → i = j) ∧ (∀ (i F : Nat), fs[i]? = some (some F) → h0.nfam ≤ F)

theorem St.refl (h : AHeap) : St h h [] := ⟨Keeps.refl h, [], rfl, by simp, by simp, by simp⟩

theorem St.rd {h0 h : AHeap} {objs : List Obj} (st : St h0 h objs) (k : Nat) {o : Obj} (hk : objs[k]? = some o) : Rd h o.v o.s o.xs := by
  obtain ⟨_, fs, h1, h2, _⟩ := st
  have hlt : k < fs.length := by rw [h1]; exact (List.getElem?_eq_some_iff.1 hk).1
  exact (h2 k o _ hk (List.getElem?_eq_getElem hlt)).rd

theorem St.trans {h0 h h1 : AHeap} {objs objs1 : List Obj} (st : St h0 h objs) (st1 : St h h1 objs1) : St h0 h1 (objs1 ++ objs) := by
  obtain ⟨k, fs, hl, hm, hd, hn⟩ := st
  obtain ⟨k1, fs1, hl1, hm1, hd1, hn1⟩ := st1
  have hlt : ∀ (i F : Nat), fs[i]? = some (some F) → F < h.nfam := by
    intro i F hF
    have hi : i < objs.length := by rw [← hl]; exact (List.getElem?_eq_some_iff.1 hF).1
    exact (hm i _ _ (List.getElem?_eq_getElem hi) hF).lt
  refine ⟨k.trans k1, fs1 ++ fs, by simp [hl, hl1], ?_, ?_, ?_⟩
  · intro i o F ho hF
    rw [List.getElem?_append] at ho hF
    rw [hl1] at hF
    split at ho
    · rename_i hi; rw [if_pos hi] at hF; exact (hm1 i o F ho hF).lo k.next
    · rename_i hi; rw [if_neg hi] at hF; exact (hm _ o F ho hF).ext k1
  · intro i j F hi hj
    rw [List.getElem?_append] at hi hj
    split at hi <;> split at hj
    · exact hd1 i j F hi hj
    · have := hn1 i F hi; have := hlt _ F hj; omega
    · have := hn1 j F hj; have := hlt _ F hi; omega
    · have := hd _ _ F hi hj; omega
  · intro i F hi
    rw [List.getElem?_append] at hi
    split at hi
    · exact Nat.le_trans k.nfam (hn1 i F hi)
    · exact hn _ F hi

theorem nodup_inj {α : Type} {l : List α} (hn : l.Nodup) {i j : Nat} {x : α} (hi : l[i]? = some x) (hj : l[j]? = some x) : i = j := by
  obtain ⟨hi1, hi2⟩ := List.getElem?_eq_some_iff.1 hi
  obtain ⟨hj1, hj2⟩ := List.getElem?_eq_some_iff.1 hj
  have hp := List.pairwise_iff_getElem.1 hn
  rcases Nat.lt_trichotomy i j with h | h | h
  · exact absurd (hi2.trans hj2.symm) (hp i j hi1 hj1 h)
  · exact h
  · exact absurd (hj2.trans hi2.symm) (hp j i hj1 hi1 h)

/-- Some of them, in another order. -/
theorem St.pick {h0 h : AHeap} {objs objs' : List Obj} (σ : List Nat) (hn : σ.Nodup) (he : σ.map (fun i => objs[i]?) = objs'.map some) (st : St h0 h objs) : St h0 h objs' := by
  obtain ⟨k, fs, hl, hm, hd, hb⟩ := st
  have hlen : σ.length = objs'.length := by have := congrArg List.length he; simpa using this
  have hget : ∀ i, i < σ.length → objs[σ.getD i 0]? = objs'[i]? := by
    intro i hi
    have := congrArg (fun l => l[i]?) he
    simp only [List.getElem?_map, List.getElem?_eq_getElem hi, List.getElem?_eq_getElem (l := objs') (by omega : i < objs'.length), Option.map_some, Option.some.injEq] at this
    rw [List.getD_eq_getElem?_getD, List.getElem?_eq_getElem hi, Option.getD_some, this, List.getElem?_eq_getElem (by omega)]
  refine ⟨k, σ.map (fun i => (fs[i]?).getD none), by simp [hlen], ?_, ?_, ?_⟩
  · intro i o F ho hF
    have hi : i < objs'.length := (List.getElem?_eq_some_iff.1 ho).1
    have hi' : i < σ.length := by omega
    have h1 := hget i hi'
    rw [ho] at h1
    have hlt : σ.getD i 0 < fs.length := by rw [hl]; exact (List.getElem?_eq_some_iff.1 h1).1
    rw [List.getElem?_map, List.getElem?_eq_getElem hi', Option.map_some] at hF
    cases hF
    refine hm _ o _ h1 ?_
    rw [List.getD_eq_getElem?_getD, List.getElem?_eq_getElem hi', Option.getD_some] at hlt ⊢
    rw [List.getElem?_eq_getElem hlt]; rfl
  · intro i j F hi hj
    rw [List.getElem?_map] at hi hj
    obtain ⟨x, hx, hx'⟩ := Option.map_eq_some_iff.1 hi
    obtain ⟨y, hy, hy'⟩ := Option.map_eq_some_iff.1 hj
    have hf : ∀ x : Nat, (fs[x]?).getD none = some F → fs[x]? = some (some F) := by
      intro x hx
      cases hq : fs[x]? with
      | none => rw [hq] at hx; cases hx
      | some G => rw [hq] at hx; simp only [Option.getD_some] at hx; rw [hx]
    have hxy := hd x y F (hf x hx') (hf y hy')
    subst hxy
    exact nodup_inj hn hx hy
  · intro i F hi
    rw [List.getElem?_map] at hi
    obtain ⟨x, hx, hx'⟩ := Option.map_eq_some_iff.1 hi
    refine hb x F ?_
    cases hq : fs[x]? with
    | none => rw [hq] at hx'; cases hx'
    | some G => rw [hq] at hx'; simp only [Option.getD_some] at hx'; rw [hx']

/-- A heap that differs in one family alone, and an object of that family. -/
theorem St.upd {h0 h h' : AHeap} {objs : List Obj} (st : St h0 h objs) {k : Nat} {o o' : Obj} (hk : objs[k]? = some o) (hnext : h.next ≤ h'.next) (hnfam : h.nfam ≤ h'.nfam) (hgl : h'.globs = h.globs)
    (hup : ∀ F, Mu h0.next h F o → (∀ G, F = some G → h0.nfam ≤ G) → ∃ F', Mu h0.next h' F' o' ∧ (F' = F ∨ ∃ G, F' = some G ∧ h.nfam ≤ G) ∧
      (∀ b, b < h.next → (∀ G p cs, F = some G → h0.next ≤ b → h.get b = some (.cells (some G) p cs) → False) → h'.get b = h.get b) ∧ (∀ G, G < h.nfam → F ≠ some G → h'.fam G = h.fam G)) : St h0 h' (objs.set k o') := by
  obtain ⟨kp, fs, hl, hm, hd, hb⟩ := st
  have hklt : k < objs.length := (List.getElem?_eq_some_iff.1 hk).1
  have hkf : k < fs.length := by omega
  have hmk := hm k o fs[k] hk (List.getElem?_eq_getElem hkf)
  obtain ⟨F', hm', hF', hget, hfam⟩ := hup fs[k] hmk (fun G hG => hb k G (by rw [List.getElem?_eq_getElem hkf, hG]))
  have hlt : ∀ (i G : Nat), fs[i]? = some (some G) → G < h.nfam := by
    intro i G hG
    have hi : i < objs.length := by rw [← hl]; exact (List.getElem?_eq_some_iff.1 hG).1
    exact (hm i _ _ (List.getElem?_eq_getElem hi) hG).lt
  refine ⟨⟨Nat.le_trans kp.next hnext, Nat.le_trans kp.nfam hnfam, hgl.trans kp.globs, ?_, ?_⟩, fs.set k F', by simp [hl], ?_, ?_, ?_⟩
  · intro b hb'
    rw [hget b (Nat.lt_of_lt_of_le hb' kp.next) (fun G p cs _ hge _ => by omega)]
    exact kp.get b hb'
  · intro G hG
    rw [hfam G (Nat.lt_of_lt_of_le hG kp.nfam) (fun he => by have := hb k G (by rw [List.getElem?_eq_getElem hkf, he]); omega)]
    exact kp.fam G hG
  · intro i x F hx hF
    rw [List.getElem?_set] at hx hF
    by_cases hik : k = i
    · subst hik
      rw [if_pos rfl, if_pos hklt] at hx
      rw [if_pos rfl, if_pos hkf] at hF
      cases hx; cases hF
      exact hm'
    · rw [if_neg hik] at hx hF
      have hmi := hm i x F hx hF
      cases F with
      | none => exact hmi
      | some G =>
        have hne : fs[k] ≠ some G := by
          intro he
          exact hik (hd k i G (by rw [List.getElem?_eq_getElem hkf, he]) hF)
        obtain ⟨b, off, p, cs, f, h1, h2, h3, h4, h5⟩ := hmi
        refine ⟨b, off, p, cs, f, h1, h2, ?_, ?_, h5⟩
        · rw [hget b (AHeap.get_lt h3) ?_]; exact h3
          intro G' p' cs' hG' _ hg
          rw [h3] at hg
          cases hg
          exact hne hG'
        · rw [hfam G (hlt i G hF) hne]; exact h4
  · intro i j G hi hj
    rw [List.getElem?_set] at hi hj
    by_cases hik : k = i <;> by_cases hjk : k = j
    · omega
    · subst hik
      rw [if_pos rfl, if_pos hkf] at hi
      rw [if_neg hjk] at hj
      cases hi
      rcases hF' with hF' | ⟨G', hG', hge⟩
      · exact hd k j G (by rw [List.getElem?_eq_getElem hkf, ← hF']) hj
      · cases hG'; have := hlt j G hj; omega
    · subst hjk
      rw [if_pos rfl, if_pos hkf] at hj
      rw [if_neg hik] at hi
      cases hj
      rcases hF' with hF' | ⟨G', hG', hge⟩
      · exact hd i k G hi (by rw [List.getElem?_eq_getElem hkf, ← hF'])
      · cases hG'; have := hlt i G hi; omega
    · rw [if_neg hik] at hi; rw [if_neg hjk] at hj
      exact hd i j G hi hj
  · intro i G hi
    rw [List.getElem?_set] at hi
    by_cases hik : k = i
    · subst hik
      rw [if_pos rfl, if_pos hkf] at hi
      cases hi
      rcases hF' with hF' | ⟨G', hG', hge⟩
      · exact hb k G (by rw [List.getElem?_eq_getElem hkf, ← hF'])
      · cases hG'; exact Nat.le_trans kp.nfam hge
    · rw [if_neg hik] at hi; exact hb i G hi

end Go.Am
