/-
  Layer 13, the plain part: the tables of a pack upside down, and of the inverse.
  Conditions: none.
-/
import Derived.Test.YtenkokebdgekbaaPt15
import Derived.Test.YtenkokebdgekbaaPt9
namespace Go.Am
open Go.Gr

def below (m : Nat) (w : List Int) : List Int := w.filter fun x => decide (x < (m : Int))

theorem kn_below {w w' : List Int} (h : Kn w w') (m : Nat) : Kn (below m w) (below m w') := by
  induction h with
  | refl w => exact .refl _
  | @a u v x y z h1 h2 =>
    by_cases hz : z < (m : Int)
    · have := Kn.a (Go.Am.below m u) (Go.Am.below m v) h1 h2
      simpa [Go.Am.below, List.filter_append, List.filter_cons, hz, show x < (m : Int) by omega, show y < (m : Int) by omega] using this
    · have : Go.Am.below m (u ++ [x, z, y] ++ v) = Go.Am.below m (u ++ [z, x, y] ++ v) := by
        simp only [Go.Am.below, List.filter_append, List.filter_cons, hz, decide_false, List.filter_nil]
        simp
      rw [this]; exact .refl _
  | @b u v x y z h1 h2 =>
    by_cases hz : z < (m : Int)
    · have := Kn.b (Go.Am.below m u) (Go.Am.below m v) h1 h2
      simpa [Go.Am.below, List.filter_append, List.filter_cons, hz, show x < (m : Int) by omega, show y < (m : Int) by omega] using this
    · have : Go.Am.below m (u ++ [y, x, z] ++ v) = Go.Am.below m (u ++ [y, z, x] ++ v) := by
        simp only [Go.Am.below, List.filter_append, List.filter_cons, hz, decide_false, List.filter_nil]
        simp
      rw [this]; exact .refl _
  | symm _ ih => exact .symm ih
  | trans _ _ ih1 ih2 => exact .trans ih1 ih2

theorem below_word (m : Nat) (T : List (List Int)) : below m (wordT T) = wordT (T.map (below m)) := by
  simp only [below, wordT, List.filter_flatten, List.map_reverse]
  rfl
theorem rise_below {R : List Int} (h : Rise R) (m : Nat) : Rise (below m R) := h.sublist List.filter_sublist
/-- Of a row that rises, what is below a number stands first. -/
theorem below_take {R : List Int} (h : Rise R) (m : Nat) : below m R = R.take (below m R).length := by
  induction R with
  | nil => rfl
  | cons x R ih =>
    have h2 := List.pairwise_cons.1 h
    by_cases hx : x < (m : Int)
    · have e : below m (x :: R) = x :: below m R := by simp [below, hx]
      rw [e, List.length_cons, List.take_succ_cons, ← ih h2.2]
    · have e : below m (x :: R) = [] := by
        simp only [below, List.filter_eq_nil_iff]
        intro y hy
        rcases List.mem_cons.1 hy with rfl | hy
        · simpa using hx
        · have := h2.1 y hy
          simp; omega
      rw [e]; rfl
theorem below_len (m : Nat) (R : List Int) : (below m R).length = R.countP fun x => decide (x < (m : Int)) := by simp [below, List.countP_eq_length_filter]
theorem over_below {R S : List Int} (hR : Rise R) (hS : Rise S) (h : Over R S) (m : Nat) : Over (below m R) (below m S) := by
  have hlS : (below m S).length ≤ S.length := List.length_filter_le _ _
  have hlR : (below m R).length ≤ R.length := List.length_filter_le _ _
  have hle : (below m S).length ≤ (below m R).length := by
    rw [below_len, below_len]
    apply Nat.le_of_not_lt
    intro hlt
    have hj : (R.countP fun x => decide (x < (m : Int))) < S.length := by rw [below_len] at hlS; omega
    have h1 := h.2 _ hj
    have h2 := (cnt_rise hS (m : Int) _ hj).2 hlt
    have h3 : (R.countP fun x => decide (x < (m : Int))) < R.length := Nat.lt_of_lt_of_le hj h.1
    have h4 := (cnt_rise hR (m : Int) _ h3).1 (by omega)
    omega
  refine ⟨hle, ?_⟩
  intro j hj
  have e1 : (below m R).getD j 0 = R.getD j 0 := by
    rw [below_take hR, List.getD_eq_getElem?_getD, List.getElem?_take, if_pos (by omega), ← List.getD_eq_getElem?_getD]
  have e2 : (below m S).getD j 0 = S.getD j 0 := by
    rw [below_take hS, List.getD_eq_getElem?_getD, List.getElem?_take, if_pos (by omega), ← List.getD_eq_getElem?_getD]
  rw [e1, e2]
  exact h.2 j (by omega)
theorem wtab_below (m : Nat) : ∀ {T : List (List Int)}, Tab T → WTab (T.map (below m)) := by
  intro T
  induction T with
  | nil => intro _; trivial
  | cons R T ih =>
    intro h
    refine ⟨?_, ih h.2.2.2⟩
    have h1 := h.2.2.1
    cases T with
    | nil => exact ⟨Nat.zero_le _, fun j hj => absurd hj (Nat.not_lt_zero _)⟩
    | cons S T => exact over_below h.2.1 h.2.2.2.2.1 h1 m
/-- Greene's theorem for the numbers below m: the table's rows, as far as they are below m. -/
theorem greene_below {w : List Int} (hnd : w.Nodup) (m k : Nat) : Go.Gr.Fam k (below m w) (rowSum k ((insAll w).map (below m))) ∧ ∀ n, Go.Gr.Fam k (below m w) n → n ≤ rowSum k ((insAll w).map (below m)) := by
  obtain ⟨h1, h2, h3⟩ := insAll_ok hnd
  have h2 := kn_below h2 m
  rw [below_word] at h2
  refine ⟨(h2.fam k _).2 (riseDown k ?_), fun n hn => ?_⟩
  · intro R hR
    obtain ⟨S, hS, rfl⟩ := List.mem_map.1 hR
    exact rise_below (h1 S hS) m
  · obtain ⟨ps, hm, hr, rfl⟩ := (h2.fam k n).1 hn
    obtain ⟨b, hb⟩ := le_of_mem_bound (T := (insAll w).map (below m))
    exact riseUp k b (wtab_below m (insAll_tab hnd)) hb hm hr
/-- So far the rows are those of the table of the numbers below m. -/
theorem rowSum_below {w : List Int} (hnd : w.Nodup) (m k : Nat) : rowSum k ((insAll w).map (below m)) = rowSum k (insAll (below m w)) := by
  have h1 := greene_below hnd m k
  have h2 := greene (hnd.sublist (List.filter_sublist : (below m w).Sublist w)) k
  exact Nat.le_antisymm (h2.2 _ h1.1) (h1.2 _ h2.1)

theorem rowSum_succ (k : Nat) (T : List (List Int)) : rowSum (k + 1) T = rowSum k T + (T.getD k []).length := by
  unfold rowSum
  rw [List.take_add_one, List.map_append, List.sum_append, List.getD_eq_getElem?_getD]
  cases T[k]? <;> simp
theorem getD_map_below (m : Nat) (T : List (List Int)) (r : Nat) : ((T.map (below m)).getD r []).length = cnt T m r := by
  rw [cnt, List.getD_eq_getElem?_getD, List.getElem?_map, List.getD_eq_getElem?_getD]
  cases T[r]? with
  | none => simp
  | some R => simp [below_len]
/-- How many numbers below m stand in a row. -/
theorem cnt_ins {w : List Int} (hnd : w.Nodup) (m r : Nat) : cnt (insAll w) m r = ((insAll (below m w)).getD r []).length := by
  have h1 := rowSum_below hnd m (r + 1)
  have h2 := rowSum_below hnd m r
  rw [rowSum_succ, rowSum_succ, getD_map_below] at h1
  omega

/-- Rows that rise are known by how many numbers below each one they have. -/
theorem rise_ext {R S : List Int} (hR : Rise R) (hS : Rise S) (h : ∀ x, x ∈ R ↔ x ∈ S) : R = S := by
  have hp : R.Perm S := (List.perm_ext_iff_of_nodup (hR.imp (fun h => by omega)) (hS.imp (fun h => by omega))).2 h
  exact hp.eq_of_pairwise (fun a b _ _ h1 h2 => by omega) hR hS
theorem count_at {R : List Int} (hR : Rise R) (x : Int) : x ∈ R ↔ R.countP (fun y => decide (y < x + 1)) = R.countP (fun y => decide (y < x)) + 1 := by
  induction R with
  | nil => simp
  | cons a R ih =>
    have h2 := List.pairwise_cons.1 hR
    rw [List.countP_cons, List.countP_cons, List.mem_cons]
    by_cases hxa : x = a
    · subst hxa
      have h3 : R.countP (fun y => decide (y < x + 1)) = 0 := by rw [List.countP_eq_zero]; intro y hy; have := h2.1 y hy; simp; omega
      have h4 : R.countP (fun y => decide (y < x)) = 0 := by rw [List.countP_eq_zero]; intro y hy; have := h2.1 y hy; simp; omega
      simp [h3, h4]; omega
    · have h5 := ih h2.2
      have h6 : (decide (a < x + 1)) = decide (a < x) := by congr 1; simp; omega
      rw [h6, or_iff_right hxa, h5]
      omega
theorem tab_ext {T S : List (List Int)} {n : Nat} (hT : Go.Gr.Rows T) (hS : Go.Gr.Rows S) (hT0 : ∀ R ∈ T, R ≠ []) (hS0 : ∀ R ∈ S, R ≠ []) (hTn : ∀ x ∈ T.flatten, 0 ≤ x ∧ x < (n : Int)) (hSn : ∀ x ∈ S.flatten, 0 ≤ x ∧ x < (n : Int))
    (h : ∀ m, m ≤ n → ∀ r, cnt T m r = cnt S m r) : T = S := by
  have hrow : ∀ r, T.getD r [] = S.getD r [] := by
    intro r
    refine rise_ext (rowT_rise hT r) (rowT_rise hS r) fun x => ?_
    by_cases hx : 0 ≤ x ∧ x < (n : Int)
    · obtain ⟨m, rfl⟩ : ∃ m : Nat, x = (m : Int) := ⟨x.toNat, by omega⟩
      rw [count_at (rowT_rise hT r), count_at (rowT_rise hS r)]
      have h1 := h m (by omega) r
      have h2 := h (m + 1) (by omega) r
      unfold cnt at h1 h2
      rw [show ((m + 1 : Nat) : Int) = (m : Int) + 1 by omega] at h2
      rw [h1, h2]
    · exact ⟨fun hm => absurd (hTn x (memL_flat hm)) hx, fun hm => absurd (hSn x (memL_flat hm)) hx⟩
  have hlen : ∀ A B : List (List Int), (∀ R ∈ B, R ≠ []) → (∀ r, A.getD r [] = B.getD r []) → B.length ≤ A.length := by
    intro A B hB hr
    apply Nat.le_of_not_lt
    intro hlt
    have h1 := hr A.length
    rw [getDL_out (Nat.le_refl _)] at h1
    exact hB _ (getDL_mem hlt) h1.symm
  have hl : T.length = S.length := Nat.le_antisymm (hlen S T hT0 fun r => (hrow r).symm) (hlen T S hS0 hrow)
  apply List.ext_getElem hl
  intro i h1 h2
  have := hrow i
  rw [List.getD_eq_getElem?_getD, List.getD_eq_getElem?_getD, List.getElem?_eq_getElem h1, List.getElem?_eq_getElem h2] at this
  exact this

/-- Rows as colours of numbers. -/
theorem fam_col {w : List Int} (hnd : w.Nodup) (k n : Nat) : Go.Gr.Fam k w n ↔ ∃ col : Int → Nat, (∀ c, c < k → Rise (w.filter fun x => col x == c)) ∧ w.countP (fun x => decide (col x < k)) = n := by
  constructor
  · rintro ⟨ps, hm, hr, hc⟩
    have hcol : ∀ p ∈ ps, ((ps.find? fun q => decide (q.1 = p.1)).map (·.2)).getD 0 = p.2 := by
      intro p hp
      have hnd' : (ps.map (·.1)).Nodup := by rw [hm]; exact hnd
      cases hf : ps.find? fun q => decide (q.1 = p.1) with
      | none =>
        have := List.find?_eq_none.1 hf p hp
        simp at this
      | some q =>
        have h1 := List.find?_some hf
        have h2 := List.mem_of_find?_eq_some hf
        have h3 : q.1 = p.1 := of_decide_eq_true h1
        obtain ⟨i, hi⟩ := List.mem_iff_getElem?.1 h2
        obtain ⟨j, hj⟩ := List.mem_iff_getElem?.1 hp
        have h4 : i = j := nodup_inj hnd' (i := i) (j := j) (x := p.1) (by rw [List.getElem?_map, hi]; simp [h3]) (by rw [List.getElem?_map, hj]; simp)
        subst h4
        rw [hi] at hj; cases hj
        rfl
    refine ⟨fun x => ((ps.find? fun q => decide (q.1 = x)).map (·.2)).getD 0, ?_, ?_⟩
    · intro c hck
      have h1 := hr c hck
      unfold rowC at h1
      rw [← hm, List.filter_map]
      have h2 : ps.filter ((fun x => ((ps.find? fun q => decide (q.1 = x)).map (·.2)).getD 0 == c) ∘ fun p => p.1) = ps.filter (fun p => p.2 == c) := by
        refine List.filter_congr fun p hp => ?_
        simp only [Function.comp, hcol p hp]
      rw [h2]; exact h1
    · rw [← hm, List.countP_map, ← hc]
      refine List.countP_congr fun p hp => ?_
      simp only [Function.comp, hcol p hp]
  · rintro ⟨col, h1, h2⟩
    refine ⟨w.map fun x => (x, col x), by simp [List.map_map, Function.comp_def], ?_, ?_⟩
    · intro c hc
      unfold rowC
      rw [List.filter_map, List.map_map]
      have := h1 c hc
      simpa [Function.comp_def] using this
    · rw [List.countP_map, ← h2]; rfl

/-- The places of the numbers of a pack. -/
structure InvL (l r : List Int) : Prop where
  pl : IsPack l
  pr : IsPack r
  len : r.length = l.length
  lr : ∀ i, i < l.length → r.getD (l.getD i 0).toNat 0 = (i : Int)
  rl : ∀ i, i < l.length → l.getD (r.getD i 0).toNat 0 = (i : Int)
theorem InvL.symm {l r : List Int} (h : InvL l r) : InvL r l := ⟨h.pr, h.pl, h.len.symm, fun i hi => h.rl i (by rw [← h.len]; exact hi), fun i hi => h.lr i (by rw [← h.len]; exact hi)⟩
theorem pack_iota {l : List Int} (h : IsPack l) : l.Perm (iota l.length) :=
  (List.perm_ext_iff_of_nodup h.1 (iota_nodup _)).2 fun x => ⟨fun hx => iota_mem.2 (h.2 x hx), fun hx => h.onto (iota_mem.1 hx).1 (iota_mem.1 hx).2⟩
theorem at_of_getD {l : List Int} {i : Nat} {v : Int} (hi : i < l.length) (h : l.getD i 0 = v) : l[i] = v := by
  rw [List.getD_eq_getElem?_getD, List.getElem?_eq_getElem hi] at h; exact h
theorem pack_at {l : List Int} (h : IsPack l) {i : Nat} (hi : i < l.length) : 0 ≤ l.getD i 0 ∧ l.getD i 0 < l.length := h.2 _ (getD_mem hi)
theorem InvL.of {l r : List Int} (hp : IsPack l) (hl : r.length = l.length) (h : ∀ i, i < l.length → r.getD (l.getD i 0).toNat 0 = (i : Int)) : InvL l r := by
  have hperm := pack_iota hp
  have hrl : ∀ i, i < l.length → l.getD (r.getD i 0).toNat 0 = (i : Int) := by
    intro i hi
    have : (i : Int) ∈ l := hperm.mem_iff.2 (iota_mem.2 ⟨by omega, by omega⟩)
    obtain ⟨j, hj, he⟩ := mem_getD this
    have h1 := h j hj
    rw [he, Int.toNat_natCast] at h1
    rw [h1, Int.toNat_natCast]; exact he
  have hb : ∀ i, i < l.length → 0 ≤ r.getD i 0 ∧ r.getD i 0 < (l.length : Int) := by
    intro i hi
    have : (i : Int) ∈ l := hperm.mem_iff.2 (iota_mem.2 ⟨by omega, by omega⟩)
    obtain ⟨j, hj, he⟩ := mem_getD this
    have h1 := h j hj
    rw [he, Int.toNat_natCast] at h1
    omega
  refine ⟨hp, ⟨?_, ?_⟩, hl, h, hrl⟩
  · refine List.pairwise_iff_getElem.2 ?_
    intro i j hi hj hij he
    have h1 := hrl i (by omega)
    have h2 := hrl j (by omega)
    rw [List.getD_eq_getElem?_getD (l := r), List.getElem?_eq_getElem hi] at h1
    rw [List.getD_eq_getElem?_getD (l := r), List.getElem?_eq_getElem hj, ← he] at h2
    rw [h1] at h2
    omega
  · intro x hx
    obtain ⟨j, hj, rfl⟩ := mem_getD hx
    rw [hl]
    exact hb j (by omega)

theorem below_perm {l : List Int} (hp : IsPack l) {m : Nat} (hm : m ≤ l.length) : (below m l).Perm (iota m) := by
  refine (List.perm_ext_iff_of_nodup (hp.1.sublist List.filter_sublist) (iota_nodup m)).2 fun x => ?_
  simp only [below, List.mem_filter, decide_eq_true_eq, iota_mem]
  constructor
  · rintro ⟨h1, h2⟩; exact ⟨(hp.2 x h1).1, h2⟩
  · rintro ⟨h1, h2⟩; exact ⟨(pack_iota hp).mem_iff.2 (iota_mem.2 ⟨h1, by omega⟩), h2⟩
theorem take_iota {r : List Int} {m : Nat} (hm : m ≤ r.length) : r.take m = (iota m).map fun v => r.getD v.toNat 0 := by
  apply List.ext_getElem?
  intro i
  rw [List.getElem?_take]
  simp only [iota, List.map_map, List.getElem?_map]
  by_cases hi : i < m
  · rw [if_pos hi, List.getElem?_range hi, List.getElem?_eq_getElem (by omega)]
    simp [List.getD_eq_getElem?_getD, List.getElem?_eq_getElem (show i < r.length by omega)]
  · rw [if_neg hi, List.getElem?_eq_none (by simp; omega)]; rfl
/-- A set of rows of the numbers below m is one of their places. -/
theorem fam_inv1 {l r : List Int} (h : InvL l r) {m : Nat} (hm : m ≤ l.length) (k n : Nat) (hf : Go.Gr.Fam k (below m l) n) : Go.Gr.Fam k (r.take m) n := by
  obtain ⟨col, h1, h2⟩ := (fam_col (h.pl.1.sublist (List.filter_sublist : (below m l).Sublist l)) k n).1 hf
  refine (fam_col (h.pr.1.sublist (List.take_sublist _ _)) k n).2 ⟨fun p => col (l.getD p.toNat 0), ?_, ?_⟩
  · intro c hc
    have hR := h1 c hc
    unfold Rise at hR
    rw [List.filter_filter, List.pairwise_filter] at hR
    unfold Rise
    rw [take_iota (by rw [h.len]; exact hm), List.filter_map, List.pairwise_map, List.pairwise_filter]
    refine (iota_rise m).imp_of_mem ?_
    intro v u hv hu hlt hq1 hq2
    have hv := iota_mem.1 hv
    have hu := iota_mem.1 hu
    have e1 := h.rl v.toNat (by omega)
    have e2 := h.rl u.toNat (by omega)
    rw [show ((v.toNat : Nat) : Int) = v by omega] at e1
    rw [show ((u.toNat : Nat) : Int) = u by omega] at e2
    simp only [Function.comp] at hq1 hq2
    rw [e1] at hq1
    rw [e2] at hq2
    have hp1 := pack_at h.pr (i := v.toNat) (by rw [h.len]; omega)
    have hp2 := pack_at h.pr (i := u.toNat) (by rw [h.len]; omega)
    rw [h.len] at hp1 hp2
    apply Int.lt_of_not_ge
    intro hge
    rcases Int.lt_or_eq_of_le hge with h5 | h5
    · have h6 := List.pairwise_iff_getElem.1 hR (r.getD u.toNat 0).toNat (r.getD v.toNat 0).toNat (by omega) (by omega) (by omega)
      have g1 : l[(r.getD u.toNat 0).toNat]'(by omega) = u := at_of_getD _ e2
      have g2 : l[(r.getD v.toNat 0).toNat]'(by omega) = v := at_of_getD _ e1
      rw [g1, g2] at h6
      have := h6 (by simp [hq2]; omega) (by simp [hq1]; omega)
      omega
    · rw [← h5, e2] at e1
      omega
  · rw [take_iota (by rw [h.len]; exact hm), List.countP_map, ← h2, show l.filter (fun x => decide (x < (m : Int))) = below m l from rfl, (below_perm h.pl hm).countP_eq]
    refine List.countP_congr fun v hv => ?_
    have hv := iota_mem.1 hv
    have e1 := h.rl v.toNat (by omega)
    rw [show ((v.toNat : Nat) : Int) = v by omega] at e1
    simp only [Function.comp, e1]
theorem fam_inv2 {l r : List Int} (h : InvL l r) {m : Nat} (hm : m ≤ l.length) (k n : Nat) (hf : Go.Gr.Fam k (r.take m) n) : Go.Gr.Fam k (below m l) n := by
  obtain ⟨col, h1, h2⟩ := (fam_col (h.pr.1.sublist (List.take_sublist _ _)) k n).1 hf
  refine (fam_col (h.pl.1.sublist (List.filter_sublist : (below m l).Sublist l)) k n).2 ⟨fun v => col (r.getD v.toNat 0), ?_, ?_⟩
  · intro c hc
    have hR := h1 c hc
    unfold Rise at hR
    rw [take_iota (by rw [h.len]; exact hm), List.filter_map, List.pairwise_map, List.pairwise_filter] at hR
    unfold Rise
    rw [List.filter_filter, List.pairwise_filter]
    refine List.pairwise_iff_getElem.2 ?_
    intro j i hj hi hji hq1 hq2
    have e1 := h.lr j hj
    have e2 := h.lr i hi
    have g1 : l.getD j 0 = l[j] := by rw [List.getD_eq_getElem?_getD, List.getElem?_eq_getElem hj]; rfl
    have g2 : l.getD i 0 = l[i] := by rw [List.getD_eq_getElem?_getD, List.getElem?_eq_getElem hi]; rfl
    have b1 := pack_at h.pl hj
    have b2 := pack_at h.pl hi
    rw [g1] at e1 b1
    rw [g2] at e2 b2
    simp only [Bool.and_eq_true, decide_eq_true_eq] at hq1 hq2
    apply Int.lt_of_not_ge
    intro hge
    rcases Int.lt_or_eq_of_le hge with h5 | h5
    · have h6 := List.pairwise_iff_getElem.1 hR (l[i]).toNat (l[j]).toNat (by rw [iota_len]; omega) (by rw [iota_len]; omega) (by omega)
      have k1 : (iota m)[(l[i]).toNat]'(by rw [iota_len]; omega) = l[i] := by
        have := iota_getD (n := m) (i := (l[i]).toNat) (by omega)
        rw [List.getD_eq_getElem?_getD, List.getElem?_eq_getElem (by rw [iota_len]; omega)] at this
        simp only [Option.getD_some] at this
        omega
      have k2 : (iota m)[(l[j]).toNat]'(by rw [iota_len]; omega) = l[j] := by
        have := iota_getD (n := m) (i := (l[j]).toNat) (by omega)
        rw [List.getD_eq_getElem?_getD, List.getElem?_eq_getElem (by rw [iota_len]; omega)] at this
        simp only [Option.getD_some] at this
        omega
      rw [k1, k2] at h6
      simp only [Function.comp] at h6
      have := h6 hq2.1 hq1.1
      rw [e1, e2] at this
      omega
    · rw [← h5, e2] at e1
      omega
  · rw [take_iota (by rw [h.len]; exact hm), List.countP_map] at h2
    rw [← h2, show l.filter (fun x => decide (x < (m : Int))) = below m l from rfl, (below_perm h.pl hm).countP_eq]
    rfl

theorem cnt_rec (w : List Int) (hnd : w.Nodup) {m : Nat} (hm : m ≤ w.length) (r : Nat) : cnt (recOf w) m r = ((recTo w m).getD r []).length := by
  have h1 := (recTo_ok hnd w.length (Nat.le_refl _)).1 r
  have h2 := (recTo_ok hnd m hm).1 r
  have h3 : below m ((recOf w).getD r []) = (recTo w m).getD r [] := by
    refine rise_ext (rise_below h1 m) h2 fun x => ?_
    rw [recTo_mem w m hm]
    simp only [below, List.mem_filter, decide_eq_true_eq]
    unfold recOf
    rw [recTo_mem w w.length (Nat.le_refl _)]
    constructor
    · rintro ⟨⟨i, a, b, c⟩, d⟩; exact ⟨i, by omega, b, c⟩
    · rintro ⟨i, a, b, c⟩; exact ⟨⟨i, by omega, b, c⟩, by omega⟩
  rw [← h3, below_len]; rfl
/-- The first table of a pack is the second one of its inverse. -/
theorem insAll_inv {l r : List Int} (h : InvL l r) : insAll l = recOf r := by
  have ha := insAll_pack h.pl
  have hb1 := recOf_tab h.pr.1
  have hb2 := recOf_pack r
  refine tab_ext (n := l.length) ha.1.rows hb1.rows (tab_ne ha.1) (tab_ne hb1) ?_ ?_ ?_
  · intro x hx
    have := ha.2.1.2 x hx
    omega
  · intro x hx
    have := hb2.1.2 x hx
    have := h.len
    omega
  · intro m hm q
    have hmr : m ≤ r.length := by rw [h.len]; exact hm
    rw [cnt_ins h.pl.1, cnt_rec r h.pr.1 hmr, shapes_row r hmr]
    have hs : ∀ k, rowSum k (insAll (below m l)) = rowSum k (insAll (r.take m)) := by
      intro k
      have g1 := greene (h.pl.1.sublist (List.filter_sublist : (below m l).Sublist l)) k
      have g2 := greene (h.pr.1.sublist (List.take_sublist m r)) k
      exact Nat.le_antisymm (g2.2 _ (fam_inv1 h hm k _ g1.1)) (g1.2 _ (fam_inv2 h hm k _ g2.1))
    have e1 := hs (q + 1)
    have e2 := hs q
    rw [rowSum_succ, rowSum_succ] at e1
    omega

/-- The columns of a table. -/
def colsOf (T : List (List Int)) : List (List Int) := (List.range (T.getD 0 []).length).map fun q => colT q T
theorem colSum_succ (k : Nat) (T : List (List Int)) : colSum (k + 1) T = colSum k T + colCnt T k := by
  unfold colSum colCnt
  induction T with
  | nil => rfl
  | cons R T ih =>
    simp only [List.map_cons, List.sum_cons, List.countP_cons, ih]
    by_cases h : k < R.length
    · rw [decide_eq_true h]; simp; omega
    · rw [decide_eq_false h]; simp; omega
theorem count_pad {A B : List Nat} (h : ∀ q, A.getD q 0 = B.getD q 0) (r : Nat) : A.countP (fun x => decide (r < x)) = B.countP (fun x => decide (r < x)) := by
  have key : ∀ (N : Nat) (A : List Nat), A.length ≤ N → A.countP (fun x => decide (r < x)) = (List.range N).countP (fun q => decide (r < A.getD q 0)) := by
    intro N
    induction N with
    | zero =>
      intro A hA
      have : A = [] := List.length_eq_zero_iff.1 (by omega)
      subst this; rfl
    | succ N ih =>
      intro A hA
      cases A with
      | nil => rw [List.countP_nil]; symm; rw [List.countP_eq_zero]; intro q _; simp
      | cons a A =>
        rw [List.range_succ_eq_map, List.countP_cons, List.countP_cons, List.countP_map, ih A (by simpa using hA)]
        rfl
  rw [key (A.length + B.length) A (by omega), key (A.length + B.length) B (by omega)]
  refine List.countP_congr fun q _ => ?_
  rw [h q]
theorem colT_count {T : List (List Int)} (hT : Go.Gr.Rows T) (m q : Nat) : (colT q T).countP (fun x => decide (x < (m : Int))) = (T.map fun R => R.countP fun x => decide (x < (m : Int))).countP (fun x => decide (q < x)) := by
  unfold colT
  induction T with
  | nil => rfl
  | cons R T ih =>
    have h1 := ih (fun S hS => hT S (by simp [hS]))
    rw [List.map_cons, List.countP_cons, ← h1]
    have h2 : R.countP (fun x => decide (x < (m : Int))) ≤ R.length := List.countP_le_length
    by_cases hq : q < R.length
    · have h5 : List.filterMap (fun R => R[q]?) (R :: T) = R[q] :: List.filterMap (fun R => R[q]?) T := List.filterMap_cons_some (List.getElem?_eq_getElem hq)
      rw [h5, List.countP_cons]
      have h2 := cnt_rise (hT R (by simp)) (m : Int) q hq
      rw [List.getD_eq_getElem?_getD, List.getElem?_eq_getElem hq, Option.getD_some] at h2
      by_cases h3 : R[q] < (m : Int)
      · simp only [h3, h2.1 h3, decide_true, if_true]
      · have h4 : ¬ q < R.countP fun x => decide (x < (m : Int)) := fun h => h3 (h2.2 h)
        simp only [h3, h4, decide_false, Bool.false_eq_true, if_false]
    · have h5 : List.filterMap (fun R => R[q]?) (R :: T) = List.filterMap (fun R => R[q]?) T := List.filterMap_cons_none (List.getElem?_eq_none (by omega))
      rw [h5, if_neg (by rw [decide_eq_true_iff]; omega), Nat.add_zero]
theorem colT_mem {q : Nat} {T : List (List Int)} {x : Int} (h : x ∈ colT q T) : x ∈ T.flatten := by
  unfold colT at h
  obtain ⟨R, hR, he⟩ := List.mem_filterMap.1 h
  exact List.mem_flatten.2 ⟨R, hR, List.mem_of_getElem? he⟩
theorem colT_out {q : Nat} {T : List (List Int)} (ht : Tab T) (h : (T.getD 0 []).length ≤ q) : colT q T = [] := by
  unfold colT
  rw [List.filterMap_eq_nil_iff]
  intro R hR
  exact List.getElem?_eq_none (Nat.le_trans (tab_first ht R hR) h)
theorem colsOf_get {T : List (List Int)} (ht : Tab T) (q : Nat) : (colsOf T).getD q [] = colT q T := by
  unfold colsOf
  rw [List.getD_eq_getElem?_getD, List.getElem?_map]
  by_cases h : q < (T.getD 0 []).length
  · rw [List.getElem?_range h]; rfl
  · rw [List.getElem?_eq_none (by simp; simpa using h), colT_out ht (by omega)]; rfl
/-- The first table of a pack upside down has the columns of the pack's one for lists. -/
theorem insAll_rev {l : List Int} (hp : IsPack l) : insAll l.reverse = colsOf (insAll l) := by
  have hpr : IsPack l.reverse := hp.perm (List.reverse_perm l).symm
  have ha := insAll_pack hp
  have hb := insAll_pack hpr
  have hmem : ∀ x ∈ (colsOf (insAll l)).flatten, x ∈ (insAll l).flatten := by
    intro x hx
    obtain ⟨C, hC, hxC⟩ := List.mem_flatten.1 hx
    unfold colsOf at hC
    obtain ⟨q, _, rfl⟩ := List.mem_map.1 hC
    exact colT_mem hxC
  refine tab_ext (n := l.length) hb.1.rows ?_ (tab_ne hb.1) ?_ ?_ ?_ ?_
  · intro C hC
    unfold colsOf at hC
    obtain ⟨q, _, rfl⟩ := List.mem_map.1 hC
    exact colT_rise ha.1
  · intro C hC
    unfold colsOf at hC
    obtain ⟨q, hq, rfl⟩ := List.mem_map.1 hC
    have hq := List.mem_range.1 hq
    intro he
    unfold colT at he
    rw [List.filterMap_eq_nil_iff] at he
    cases hT : insAll l with
    | nil => rw [hT] at hq; simp at hq
    | cons R T =>
      rw [hT] at hq he
      have := he R (by simp)
      rw [List.getElem?_eq_none_iff] at this
      simp at hq
      omega
  · intro x hx
    have := hb.2.1.2 x hx
    have := hb.2.2
    rw [List.length_reverse] at this
    omega
  · intro x hx
    have := ha.2.1.2 x (hmem x hx)
    omega
  · intro m hm q
    rw [cnt_ins hpr.1]
    have hrev : below m l.reverse = (below m l).reverse := by simp [below]
    rw [hrev]
    have hv : (below m l).Nodup := hp.1.sublist List.filter_sublist
    have hs : ∀ k, rowSum k (insAll (below m l).reverse) = colSum k (insAll (below m l)) := by
      intro k
      have g1 := greene ((List.reverse_perm (below m l)).nodup_iff.2 hv) k
      have g2 := greeneD hv k
      exact Nat.le_antisymm (g2.2 _ g1.1) (g1.2 _ g2.1)
    have e1 := hs (q + 1)
    have e2 := hs q
    rw [rowSum_succ, colSum_succ] at e1
    have e3 : ((insAll (below m l).reverse).getD q []).length = colCnt (insAll (below m l)) q := by omega
    rw [e3]
    unfold cnt
    rw [colsOf_get ha.1, colT_count ha.1.rows]
    unfold colCnt
    have e4 : (insAll (below m l)).countP (fun R => decide (q < R.length)) = ((insAll (below m l)).map List.length).countP (fun x => decide (q < x)) := by rw [List.countP_map]; rfl
    rw [e4]
    refine count_pad (fun i => ?_) q
    have e5 := cnt_ins hp.1 m i
    unfold cnt at e5
    rw [List.getD_eq_getElem?_getD, List.getElem?_map, List.getD_eq_getElem?_getD, List.getElem?_map]
    rw [List.getD_eq_getElem?_getD, List.getD_eq_getElem?_getD] at e5
    cases h1 : (insAll l)[i]? <;> cases h2 : (insAll (below m l))[i]? <;> rw [h1, h2] at e5
    · rfl
    · exact e5.symm
    · exact e5.symm
    · exact e5.symm
end Go.Am
