/-
  The abstract machine: a load that may come behind two stores of other places.
  Conditions: none.
-/
import Derived.Test.YtfoiccnlcheklaaDoorAmN
import Derived.Test.YtfoiccnlcheklaaDoorProg
import Derived.Test.YtfoiccnlcheklaaDoorAmC
import Derived.Lib.Bytealg
import Derived.Test.YtfoiccnlcheklaaDoorSh
import Derived.WalkKit
import Derived.BigCall
namespace Go.Am
theorem AW.region_drawS2 {P : Program} {id c r t a d : Nat} {ops : Array Oper} {l1 l2 : List Oper} {oc : Oper} {ex : List Nat} {sz : Nat} {o : Oper} {Q : Ex → List AV → AHeap → Prop} {fr : List AV} {h : AHeap} (hm : P.follows .mixedOrders = true) (hl : ops.toList = l1 ++ oc :: l2) (hc : l1.length = c + 1)
    (hok : RgOk sz ops ex [(c, r), (c + 1, r)]) (hsz : fr.length = sz) (hrc : r < c) (ho : ops[r]? = some o) (hop : o.op = .load t (.tmp a)) (hod : o.dst = some d) (hdz : d < sz) (hno : ∀ j (oj : Oper), r ≤ j → j ≤ c + 1 → ops[j]? = some oj → oj.dst ≠ some a ∧ (r < j → oj.dst ≠ some d))
    (hw : AOps P ops ex (fun fr1 h1 => aload P h1 t (fr1.getD a .bot) = some (fr1.getD d .bot) ∧ AOps P ops ex (fun fr2 h2 => aload P h2 t (fr2.getD a .bot) = some (fr2.getD d .bot) ∧ AOps P ops ex (Q .normal) (c + 2) l2 fr2 h2) (c + 1) [oc] fr1 h1) 0 l1 fr h) : AW P (.region id ops true) Q fr h := by
  have hsize : ops.size = l1.length + (l2.length + 1) := by rw [← Array.length_toList, hl, List.length_append, List.length_cons]
  have g1 : ∀ i, i < l1.length → l1[i]? = ops[0 + i]? := by
    intro i hi
    rw [Nat.zero_add, ← Array.getElem?_toList, hl, List.getElem?_append_left hi]
  have g3 : ∀ i, i < [oc].length → [oc][i]? = ops[c + 1 + i]? := by
    intro i hi
    simp only [List.length_singleton] at hi
    rw [← Array.getElem?_toList, hl, List.getElem?_append_right (by omega), hc, Nat.add_sub_cancel_left, show i = 0 by omega]
    rfl
  have g2 : ∀ i, l2[i]? = ops[c + 2 + i]? := by
    intro i
    rw [← Array.getElem?_toList, hl, List.getElem?_append_right (by omega), hc, show c + 2 + i - (c + 1) = i + 1 by omega]
    rfl
  obtain ⟨ws1, fs1, ks1, a1, a2, ⟨hchkA, hKA⟩, hallA⟩ := aops_textP hok.ntx l1 0 fr h g1 hw
  simp only [Nat.zero_add, hc] at hchkA hKA hallA
  obtain ⟨ws2, fs2, ks2, b1, b2, ⟨hchkB, hKB⟩, hallB⟩ := aops_textP hok.ntx [oc] (c + 1) _ _ g3 hKA
  simp only [List.length_singleton] at hchkB hKB hallB
  obtain ⟨vs1, frs1, hs1, e1, e2, hchk1, hchk, hK1, hall1⟩ : ∃ (vs : Nat → AV) (frs : Nat → List AV) (hs : Nat → AHeap), frs 0 = fr ∧ hs 0 = h ∧ aload P (hs (c + 1)) t ((frs (c + 1)).getD a .bot) = some ((frs (c + 1)).getD d .bot) ∧ aload P (hs (c + 2)) t ((frs (c + 2)).getD a .bot) = some ((frs (c + 2)).getD d .bot) ∧ AOps P ops ex (Q .normal) (c + 2) l2 (frs (c + 2)) (hs (c + 2)) ∧ ∀ i o, 0 ≤ i → i < c + 2 → ops[i]? = some o → TS P ops ex i o (frs i) (hs i) (vs i) (frs (i + 1)) (hs (i + 1)) := by
    refine ⟨fun i => if i ≤ c then ws1 i else ws2 i, fun i => if i ≤ c then fs1 i else fs2 i, fun i => if i ≤ c then ks1 i else ks2 i, by simp [a1], by simp [a2], ?_, ?_, ?_, ?_⟩
    · simp only [if_neg (show ¬ c + 1 ≤ c by omega), b1, b2]; exact hchkA
    · simp only [if_neg (show ¬ c + 2 ≤ c by omega)]; exact hchkB
    · simp only [if_neg (show ¬ c + 2 ≤ c by omega)]; exact hKB
    · intro i oi _ hi hoi
      by_cases h1 : i ≤ c
      · have ht := hallA i oi (Nat.zero_le _) (by omega) hoi
        by_cases h2 : i + 1 ≤ c
        · simp only [if_pos h1, if_pos h2]; exact ht
        · have h3 : i = c := by omega
          subst h3
          simp only [if_pos h1, if_neg h2, b1, b2]
          exact ht
      · simp only [if_neg h1, if_neg (show ¬ i + 1 ≤ c by omega)]
        exact hallB i oi (by omega) (by omega) hoi
  obtain ⟨vs2, frs2, hs2, e3, e4, hK2, hall2⟩ := aops_text hok.ntx l2 (c + 2) _ _ g2 hK1
  have hlen : ∀ i, i ≤ c + 2 → (frs1 i).length = sz := by
    intro i
    induction i with
    | zero => intro _; rw [e1]; exact hsz
    | succ i ih =>
      intro hi
      have ht := hall1 i _ (Nat.zero_le _) (by omega) (Array.getElem?_eq_getElem (by omega))
      rw [ht.1]
      unfold setF
      split
      · rw [List.length_set]; exact ih (by omega)
      · exact ih (by omega)
  have hget : ∀ (l : List AV) (dst : Option Tmp) (v : AV) (x : Nat), dst ≠ some x → (setF l dst v).getD x .bot = l.getD x .bot := by
    intro l dst v x hx
    unfold setF
    split
    · rename_i y
      rw [List.getD_eq_getElem?_getD, List.getD_eq_getElem?_getD, List.getElem?_set_ne (by rintro rfl; exact hx rfl)]
    · rfl
  have ha : ∀ j, r ≤ j → j ≤ c + 2 → (frs1 j).getD a .bot = (frs1 r).getD a .bot := by
    intro j h1
    induction j with
    | zero => intro _; rw [show r = 0 by omega]
    | succ j ih =>
      intro h2
      rcases Nat.lt_or_eq_of_le h1 with h3 | h3
      · have ho2 := Array.getElem?_eq_getElem (xs := ops) (i := j) (by omega)
        have ht := hall1 j _ (Nat.zero_le _) (by omega) ho2
        rw [ht.1, hget _ _ _ _ (hno j _ (by omega) (by omega) ho2).1, ih (by omega) (by omega)]
      · rw [← h3]
  have hd : ∀ j, r < j → j ≤ c + 2 → (frs1 j).getD d .bot = vs1 r := by
    intro j h1
    induction j with
    | zero => omega
    | succ j ih =>
      intro h2
      have ho2 := Array.getElem?_eq_getElem (xs := ops) (i := j) (by omega)
      have ht := hall1 j _ (Nat.zero_le _) (by omega) ho2
      rw [ht.1]
      by_cases hj : j = r
      · subst hj
        rw [ho2] at ho
        cases ho
        rw [hod]
        simp only [setF]
        rw [List.getD_eq_getElem?_getD, List.getElem?_set_self (by rw [hlen j (by omega)]; exact hdz)]
        rfl
      · rw [hget _ _ _ _ ((hno j _ (by omega) (by omega) ho2).2 (by omega))]
        exact ih (by omega) (by omega)
  refine AW.region_run hm hok hsz (vs := fun i => if i ≤ c + 1 then vs1 i else vs2 i) (frs := fun i => if i ≤ c + 1 then frs1 i else frs2 i) (hs := fun i => if i ≤ c + 1 then hs1 i else hs2 i) (by simp [e1]) (by simp [e2]) ?_ ?_ ?_
  · simp only [if_neg (show ¬ ops.size ≤ c + 1 by omega)]
    rw [show ops.size = c + 2 + l2.length by omega]
    exact hK2
  · intro i oi hi hoi
    by_cases h1 : i ≤ c + 1
    · have ht := hall1 i oi (Nat.zero_le _) (by omega) hoi
      by_cases h2 : i + 1 ≤ c + 1
      · simp only [if_pos h1, if_pos h2]; exact ht
      · have h3 : i = c + 1 := by omega
        subst h3
        simp only [if_pos h1, if_neg h2, e3, e4]
        exact ht
    · simp only [if_neg h1, if_neg (show ¬ i + 1 ≤ c + 1 by omega)]
      exact hall2 i oi (by omega) (by omega) hoi
  · intro c' r' o' hcr _ ho'
    have hcr' : (c' = c ∧ r' = r) ∨ (c' = c + 1 ∧ r' = r) := by simpa using hcr
    rcases hcr' with ⟨rfl, rfl⟩ | ⟨rfl, rfl⟩
    · rw [ho] at ho'
      cases ho'
      simp only [if_pos (show c' + 1 ≤ c' + 1 by omega), if_pos (show r' ≤ c' + 1 by omega)]
      rw [hop]
      show aload P _ t ((frs1 r').getD a .bot) = _
      rw [← ha (c' + 1) (by omega) (by omega), ← hd (c' + 1) (by omega) (by omega)]
      exact hchk1
    · rw [ho] at ho'
      cases ho'
      simp only [if_neg (show ¬ c + 1 + 1 ≤ c + 1 by omega), if_pos (show r' ≤ c + 1 by omega), e4]
      rw [hop]
      show aload P _ t ((frs1 r').getD a .bot) = _
      rw [← ha (c + 2) (by omega) (Nat.le_refl _), ← hd (c + 2) (by omega) (Nat.le_refl _)]
      exact hchk

section drawS
variable {P : Program} {n : Nat} {Q : Ex → KF → AHeap → Prop} {K : KF} {h : AHeap}
theorem KA.drawS2 {id c r t a d : Nat} {ops : Array Oper} {l1 l2 : List Oper} {oc o : Oper} (ex : List Nat) (hm : P.follows .mixedOrders = true) (hl1 : ops.toList.take (c + 1) = l1) (hl2 : ops.toList.drop (c + 1) = oc :: l2) (hc : l1.length = c + 1) (hok : rgOk n ops.toList ex [(c, r), (c + 1, r)] = true) (ho : ops[r]? = some o) (hop : o.op = .load t (.tmp a)) (hod : o.dst = some d) (hdz : d < n) (hrc : r < c)
    (hno : ((List.range' r (c + 2 - r)).all fun j => match ops[j]? with | some oj => oj.dst != some a && (j == r || oj.dst != some d) | none => true) = true)
    (hw : KOps P n ops ex (fun K1 h1 => aload P h1 t ((toFr n K1).getD a .bot) = some ((toFr n K1).getD d .bot) ∧ KOps P n ops ex (fun K2 h2 => aload P h2 t ((toFr n K2).getD a .bot) = some ((toFr n K2).getD d .bot) ∧ KOps P n ops ex (Q .normal) (c + 2) l2 K2 h2) (c + 1) [oc] K1 h1) 0 l1 K h) : KA P n (.region id ops true) Q K h := by
  refine AW.region_drawS2 (c := c) (r := r) (t := t) (a := a) (d := d) (l1 := l1) (oc := oc) (l2 := l2) hm (by rw [← hl1, ← hl2, List.take_append_drop]) hc (rgOk_sound rfl hok) (toFr_length n K) hrc ho hop hod hdz ?_ ?_
  · intro j oj h1 h2 hj
    have := List.all_eq_true.1 hno j (List.mem_range'_1.2 ⟨h1, by omega⟩)
    simp only [hj, Bool.and_eq_true, bne_iff_ne, Bool.or_eq_true, beq_iff_eq] at this
    exact ⟨this.1, fun h3 => this.2.resolve_left (by omega)⟩
  · refine aops_mono ?_ _ _ _ _ hw
    rintro fr1 h1 ⟨K1, rfl, hchk, hrest⟩
    refine ⟨hchk, aops_mono ?_ _ _ _ _ hrest⟩
    rintro fr2 h2 ⟨K2, rfl, hchk2, hrest2⟩
    exact ⟨hchk2, hrest2⟩
end drawS
section drawS2
variable {P : Program} {n : Nat} {ops : Array Oper} {ex : List Nat} {k : Nat} {K : KF} {h : AHeap}
end drawS2
end Go.Am

namespace Go.Am
/-- The letter's byte, and a word's bytes. -/
def bch (b : Bool) : UInt8 := if b then 49 else 48
def wd (l : List Bool) : ByteArray := ⟨(l.map bch).toArray⟩
theorem bch_inj {a b : Bool} (h : bch a = bch b) : a = b := by revert h; cases a <;> cases b <;> decide
theorem ba_ext {a b : ByteArray} (h : a.data.toList = b.data.toList) : a = b := by
  cases a; cases b
  congr 1
  exact Array.toList_inj.1 h
theorem wd_data (l : List Bool) : (wd l).data.toList = l.map bch := by simp [wd]
theorem wd_toList (l : List Bool) : (wd l).toList = l.map bch := by rw [ByteArray.toList_eq, wd_data]
theorem map_inj {a b : List Bool} (h : a.map bch = b.map bch) : a = b := by
  induction a generalizing b with
  | nil => cases b with
    | nil => rfl
    | cons y b => cases h
  | cons x a ih => cases b with
    | nil => cases h
    | cons y b =>
      rw [List.map_cons, List.map_cons] at h
      injection h with h1 h2
      rw [bch_inj h1, ih h2]
theorem wd_inj {a b : List Bool} (h : wd a = wd b) : a = b := map_inj (by rw [← wd_data, ← wd_data, h])
theorem wd_size (l : List Bool) : (wd l).size = l.length := by
  show (wd l).data.size = _
  rw [← Array.length_toList, wd_data, List.length_map]
theorem wd_append (a b : List Bool) : wd a ++ wd b = wd (a ++ b) := ba_ext (by rw [ByteArray.data_append, Array.toList_append, wd_data, wd_data, wd_data, List.map_append])
theorem wd_extract (l : List Bool) (i j : Nat) : (wd l).extract i j = wd ((l.take j).drop i) := ba_ext (by
  rw [ByteArray.data_extract, Array.toList_extract, wd_data, wd_data, List.extract_eq_take_drop, List.map_drop, List.map_take]
  rw [List.drop_take])
theorem wd_get (l : List Bool) (i : Nat) : (wd l)[i]? = l[i]?.map bch := by
  have h := wd_size l
  by_cases hi : i < l.length
  · rw [getElem?_pos (wd l) i (by rw [h]; exact hi), List.getElem?_eq_getElem hi]
    have h2 : (wd l)[i]'(by rw [h]; exact hi) = (wd l).data.toList[i]'(by rw [wd_data, List.length_map]; exact hi) := rfl
    rw [h2]
    simp only [wd_data, List.getElem_map, Option.map_some]
  · rw [getElem?_neg (wd l) i (by rw [h]; exact hi), List.getElem?_eq_none (by omega)]; rfl
/-- The order of words. -/
def wlt : List Bool → List Bool → Bool
  | [], [] => false
  | [], _ :: _ => true
  | _ :: _, [] => false
  | a :: s, b :: t => if a = b then wlt s t else b
theorem wlt_less : ∀ (a b : List Bool), Op.bytesLess (a.map bch) (b.map bch) = wlt a b := by
  intro a
  induction a with
  | nil => intro b; cases b with
    | nil => rfl
    | cons y b => rfl
  | cons x a ih =>
    intro b
    cases b with
    | nil => rfl
    | cons y b =>
      rw [List.map_cons, List.map_cons, wlt, ← ih b, Op.bytesLess]
      cases x <;> cases y <;> rfl
theorem wd_less (a b : List Bool) : Op.bytesLess (wd a).toList (wd b).toList = wlt a b := by
  rw [wd_toList, wd_toList, wlt_less]
theorem wd_eql (a b : List Bool) : ((wd a).toList == (wd b).toList) = decide (a = b) := by
  rw [wd_toList, wd_toList, Bool.eq_iff_iff, beq_iff_eq, decide_eq_true_iff]
  exact ⟨map_inj, fun h => by rw [h]⟩
theorem wlt_irr (a : List Bool) : wlt a a = false := by
  induction a with
  | nil => rfl
  | cons x a ih => rw [wlt, if_pos rfl, ih]
theorem wlt_trans : ∀ {a b c : List Bool}, wlt a b = true → wlt b c = true → wlt a c = true := by
  intro a
  induction a with
  | nil => intro b c h1 h2; cases b with
    | nil => cases h1
    | cons y b => cases c with
      | nil => cases h2
      | cons z c => rfl
  | cons x a ih =>
    intro b c h1 h2
    cases b with
    | nil => cases h1
    | cons y b =>
      cases c with
      | nil => cases h2
      | cons z c =>
        rw [wlt] at h1 h2 ⊢
        by_cases hxy : x = y
        · subst hxy
          rw [if_pos rfl] at h1
          by_cases hyz : x = z
          · rw [if_pos hyz] at h2 ⊢; exact ih h1 h2
          · rw [if_neg hyz] at h2 ⊢; exact h2
        · rw [if_neg hxy] at h1
          by_cases hyz : y = z
          · subst hyz; rw [if_neg hxy]; exact h1
          · rw [if_neg hyz] at h2
            subst h1
            subst h2
            exact absurd rfl hyz
theorem wlt_total {a b : List Bool} (h : a ≠ b) : wlt a b = true ∨ wlt b a = true := by
  induction a generalizing b with
  | nil => cases b with
    | nil => exact absurd rfl h
    | cons y b => exact .inl rfl
  | cons x a ih => cases b with
    | nil => exact .inr rfl
    | cons y b =>
      rw [wlt, wlt]
      by_cases hxy : x = y
      · subst hxy
        rw [if_pos rfl, if_pos rfl]
        exact ih (fun e => h (by rw [e]))
      · rw [if_neg hxy, if_neg (fun e => hxy e.symm)]
        cases x <;> cases y <;> simp_all
theorem wlt_asymm {a b : List Bool} (h : wlt a b = true) : wlt b a = false := by
  cases hb : wlt b a with
  | false => rfl
  | true => have := wlt_trans h hb; rw [wlt_irr] at this; cases this
def Asc (l : List (List Bool)) : Prop := l.Pairwise fun a b => wlt a b = true
/-- Two ascending lists with the same words are the same. -/
theorem asc_ext : ∀ {l m : List (List Bool)}, Asc l → Asc m → (∀ x, x ∈ l ↔ x ∈ m) → l = m := by
  intro l
  induction l with
  | nil =>
    intro m _ _ h
    cases m with
    | nil => rfl
    | cons y m => have := (h y).2 (List.mem_cons_self ..); cases this
  | cons x l ih =>
    intro m hl hm h
    cases m with
    | nil => have := (h x).1 (List.mem_cons_self ..); cases this
    | cons y m =>
      have hl' := List.pairwise_cons.1 hl
      have hm' := List.pairwise_cons.1 hm
      have hxy : x = y := by
        refine Classical.byContradiction fun hne => ?_
        have h1 : x ∈ m := by
          rcases List.mem_cons.1 ((h x).1 (List.mem_cons_self ..)) with e | e
          · exact absurd e hne
          · exact e
        have h2 : y ∈ l := by
          rcases List.mem_cons.1 ((h y).2 (List.mem_cons_self ..)) with e | e
          · exact absurd e.symm hne
          · exact e
        have h3 := hm'.1 x h1
        have h4 := hl'.1 y h2
        rw [wlt_asymm h3] at h4; cases h4
      subst hxy
      rw [ih hl'.2 hm'.2 fun z => ?_]
      constructor
      · intro hz
        rcases List.mem_cons.1 ((h z).1 (List.mem_cons_of_mem _ hz)) with e | e
        · subst e; have := hl'.1 z hz; rw [wlt_irr] at this; cases this
        · exact e
      · intro hz
        rcases List.mem_cons.1 ((h z).2 (List.mem_cons_of_mem _ hz)) with e | e
        · subst e; have := hm'.1 z hz; rw [wlt_irr] at this; cases this
        · exact e
/-- All words of so many letters, in ascending order. -/
def allW : Nat → List (List Bool)
  | 0 => [[]]
  | n + 1 => (allW n).map (false :: ·) ++ (allW n).map (true :: ·)
theorem mem_allW : ∀ {n : Nat} {w : List Bool}, w ∈ allW n ↔ w.length = n := by
  intro n
  induction n with
  | zero => intro w; rw [allW, List.mem_singleton]; exact List.length_eq_zero_iff.symm
  | succ n ih =>
    intro w
    rw [allW, List.mem_append, List.mem_map, List.mem_map]
    constructor
    · rintro (⟨v, hv, rfl⟩ | ⟨v, hv, rfl⟩) <;> rw [List.length_cons, ih.1 hv]
    · intro h
      cases w with
      | nil => cases h
      | cons x w =>
        have h2 : w ∈ allW n := ih.2 (by simpa using h)
        cases x
        · exact .inl ⟨w, h2, rfl⟩
        · exact .inr ⟨w, h2, rfl⟩
theorem allW_asc : ∀ n, Asc (allW n) := by
  intro n
  induction n with
  | zero => exact List.pairwise_singleton _ _
  | succ n ih =>
    refine List.pairwise_append.2 ⟨?_, ?_, ?_⟩
    · exact List.pairwise_map.2 (ih.imp fun h => by rw [wlt, if_pos rfl]; exact h)
    · exact List.pairwise_map.2 (ih.imp fun h => by rw [wlt, if_pos rfl]; exact h)
    · intro a ha b hb
      obtain ⟨v, _, rfl⟩ := List.mem_map.1 ha
      obtain ⟨u, _, rfl⟩ := List.mem_map.1 hb
      rfl
theorem allW_len (n : Nat) : (allW n).length = 2 ^ n := by
  induction n with
  | zero => rfl
  | succ n ih => rw [allW, List.length_append, List.length_map, List.length_map, ih, Nat.pow_succ]; omega
theorem filter_asc {l : List (List Bool)} (h : Asc l) (p : List Bool → Bool) : Asc (l.filter p) := h.sublist List.filter_sublist
end Go.Am

namespace Go.Am
/-- A word can be read short as another one. -/
def isDel (w r : List Bool) : Bool := (List.range w.length).any fun i => decide (w.eraseIdx i = r)
theorem isDel_iff {w r : List Bool} : isDel w r = true ↔ ∃ i, i < w.length ∧ w.eraseIdx i = r := by
  unfold isDel
  rw [List.any_eq_true]
  constructor
  · rintro ⟨i, h1, h2⟩; exact ⟨i, List.mem_range.1 h1, of_decide_eq_true h2⟩
  · rintro ⟨i, h1, h2⟩; exact ⟨i, List.mem_range.2 h1, decide_eq_true h2⟩
theorem isDel_len {w r : List Bool} (h : isDel w r = true) : w.length = r.length + 1 := by
  obtain ⟨i, h1, rfl⟩ := isDel_iff.1 h
  rw [List.length_eraseIdx, if_pos h1]
  omega
theorem erase_get {w : List Bool} {i k : Nat} : (w.eraseIdx i)[k]? = if k < i then w[k]? else w[k + 1]? := by
  rw [List.getElem?_eraseIdx]
theorem erase_take (w : List Bool) (i : Nat) : w.eraseIdx i = w.take i ++ w.drop (i + 1) := List.eraseIdx_eq_take_drop_succ ..
theorem erase_same {w : List Bool} {i : Nat} (h : w[i + 1]? = w[i]?) : w.eraseIdx (i + 1) = w.eraseIdx i := by
  refine List.ext_getElem? fun k => ?_
  rw [erase_get, erase_get]
  by_cases h1 : k < i
  · rw [if_pos (by omega), if_pos h1]
  · by_cases h2 : k = i
    · subst h2; rw [if_pos (by omega), if_neg h1, h]
    · rw [if_neg (by omega), if_neg h1]
/-- Where a run begins. -/
def isStart (w : List Bool) (i : Nat) : Bool := decide (i = 0) || decide (w[i]? ≠ w[i - 1]?)
def startsTo (w : List Bool) (k : Nat) : List Nat := (List.range k).filter (isStart w)
/-- Read short, run by run. -/
def lessTo (w : List Bool) (k : Nat) : List (List Bool) := (startsTo w k).map w.eraseIdx
theorem lessTo_succ (w : List Bool) (k : Nat) : lessTo w (k + 1) = if isStart w k = true then lessTo w k ++ [w.eraseIdx k] else lessTo w k := by
  unfold lessTo startsTo
  rw [List.range_succ, List.filter_append, List.map_append]
  cases h : isStart w k
  · rw [if_neg (by decide), List.filter_cons_of_neg (by rw [h]; decide)]; simp
  · rw [if_pos rfl, List.filter_cons_of_pos h]; rfl
theorem lessTo_len (w : List Bool) (k : Nat) : (lessTo w k).length ≤ k := by
  unfold lessTo startsTo
  rw [List.length_map]
  exact Nat.le_trans (List.length_filter_le _ _) (by simp)
theorem start_of (w : List Bool) : ∀ i, i < w.length → ∃ j, j < w.length ∧ isStart w j = true ∧ w.eraseIdx j = w.eraseIdx i := by
  intro i
  induction i with
  | zero => intro h; exact ⟨0, h, rfl, rfl⟩
  | succ i ih =>
    intro h
    cases hs : isStart w (i + 1) with
    | true => exact ⟨i + 1, h, hs, rfl⟩
    | false =>
      obtain ⟨j, h1, h2, h3⟩ := ih (by omega)
      refine ⟨j, h1, h2, h3.trans (erase_same ?_).symm⟩
      unfold isStart at hs
      rw [Bool.or_eq_false_iff] at hs
      have := of_decide_eq_false hs.2
      rw [show i + 1 - 1 = i by omega] at this
      exact Classical.byContradiction this
theorem mem_less {w r : List Bool} : r ∈ lessTo w w.length ↔ isDel w r = true := by
  rw [isDel_iff]
  unfold lessTo startsTo
  rw [List.mem_map]
  constructor
  · rintro ⟨i, hi, rfl⟩
    rw [List.mem_filter, List.mem_range] at hi
    exact ⟨i, hi.1, rfl⟩
  · rintro ⟨i, hi, rfl⟩
    obtain ⟨j, h1, h2, h3⟩ := start_of w i hi
    exact ⟨j, List.mem_filter.2 ⟨List.mem_range.2 h1, h2⟩, h3⟩
theorem start_ne {w : List Bool} {i j : Nat} (hij : i < j) (hs : isStart w j = true) : w.eraseIdx i ≠ w.eraseIdx j := by
  intro h
  have h1 := congrArg (fun l => l[j - 1]?) h
  simp only [erase_get] at h1
  rw [if_neg (by omega), if_pos (by omega), show j - 1 + 1 = j by omega] at h1
  unfold isStart at hs
  rw [decide_eq_false (by omega), Bool.false_or] at hs
  exact of_decide_eq_true hs h1
theorem less_nodup (w : List Bool) (k : Nat) : (lessTo w k).Nodup := by
  induction k with
  | zero => exact List.nodup_nil
  | succ k ih =>
    rw [lessTo_succ]
    split
    · rename_i hs
      refine List.nodup_append.2 ⟨ih, by simp, ?_⟩
      intro a ha b hb
      rw [List.mem_singleton] at hb
      subst hb
      unfold lessTo startsTo at ha
      obtain ⟨i, hi, rfl⟩ := List.mem_map.1 ha
      rw [List.mem_filter, List.mem_range] at hi
      exact start_ne hi.1 hs
    · exact ih
/-- A letter more, at a place. -/
def insW (w : List Bool) (p : Nat) (c : Bool) : List Bool := w.take p ++ c :: w.drop p
theorem insW_len (w : List Bool) {p : Nat} (c : Bool) (hp : p ≤ w.length) : (insW w p c).length = w.length + 1 := by
  unfold insW
  rw [List.length_append, List.length_cons, List.length_take, List.length_drop]; omega
theorem insW_get {w : List Bool} {p : Nat} {c : Bool} (hp : p ≤ w.length) (k : Nat) : (insW w p c)[k]? = if k < p then w[k]? else if k = p then some c else w[k - 1]? := by
  unfold insW
  rw [List.getElem?_append, List.length_take, show min p w.length = p by omega]
  by_cases h : k < p
  · rw [if_pos h, if_pos h, List.getElem?_take, if_pos h]
  · rw [if_neg h, if_neg h]
    by_cases h2 : k = p
    · subst h2; rw [if_pos rfl, Nat.sub_self]; rfl
    · rw [if_neg h2, show k - p = (k - p - 1) + 1 by omega, List.getElem?_cons_succ, List.getElem?_drop]
      congr 1
      omega
theorem insW_erase {w : List Bool} {p : Nat} (c : Bool) (hp : p ≤ w.length) : (insW w p c).eraseIdx p = w := by
  refine List.ext_getElem? fun k => ?_
  rw [erase_get, insW_get hp, insW_get hp]
  by_cases h : k < p
  · rw [if_pos h, if_pos h]
  · rw [if_neg h, if_neg (by omega), if_neg (by omega), Nat.add_sub_cancel]
theorem erase_insW {x : List Bool} {i : Nat} (hi : i < x.length) : x = insW (x.eraseIdx i) i x[i] := by
  have hl : (x.eraseIdx i).length = x.length - 1 := by rw [List.length_eraseIdx, if_pos hi]
  refine List.ext_getElem? fun k => ?_
  rw [insW_get (by omega), erase_get, erase_get]
  by_cases h : k < i
  · rw [if_pos h, if_pos h]
  · rw [if_neg h]
    by_cases h2 : k = i
    · subst h2; rw [if_pos rfl, List.getElem?_eq_getElem hi]
    · rw [if_neg h2, if_neg (by omega), show k - 1 + 1 = k by omega]
/-- Read long: the other letter behind the first ones. -/
def moreTo (w : List Bool) : Nat → List (List Bool)
  | 0 => [insW w 0 false, insW w 0 true]
  | k + 1 => moreTo w k ++ [insW w (k + 1) (!w.getD k false)]
theorem moreTo_len (w : List Bool) (k : Nat) : (moreTo w k).length = k + 2 := by
  induction k with
  | zero => rfl
  | succ k ih => rw [moreTo, List.length_append, ih]; rfl
theorem mem_moreTo {w x : List Bool} : ∀ {k : Nat}, x ∈ moreTo w k ↔ (∃ c, x = insW w 0 c) ∨ ∃ i, i < k ∧ x = insW w (i + 1) (!w.getD i false) := by
  intro k
  induction k with
  | zero =>
    rw [moreTo]
    constructor
    · intro h
      rcases List.mem_cons.1 h with rfl | h
      · exact .inl ⟨_, rfl⟩
      · rw [List.mem_singleton] at h; exact .inl ⟨_, h⟩
    · rintro (⟨c, rfl⟩ | ⟨i, hi, _⟩)
      · cases c <;> simp
      · omega
  | succ k ih =>
    rw [moreTo, List.mem_append, ih, List.mem_singleton]
    constructor
    · rintro ((h | ⟨i, hi, h⟩) | h)
      · exact .inl h
      · exact .inr ⟨i, by omega, h⟩
      · exact .inr ⟨k, by omega, h⟩
    · rintro (h | ⟨i, hi, h⟩)
      · exact .inl (.inl h)
      · rcases Nat.lt_succ_iff_lt_or_eq.1 hi with h1 | rfl
        · exact .inl (.inr ⟨i, h1, h⟩)
        · exact .inr h
theorem mem_more {w x : List Bool} : x ∈ moreTo w w.length ↔ isDel x w = true := by
  rw [mem_moreTo, isDel_iff]
  constructor
  · rintro (⟨c, rfl⟩ | ⟨i, hi, rfl⟩)
    · exact ⟨0, by rw [insW_len w c (Nat.zero_le _)]; omega, insW_erase c (Nat.zero_le _)⟩
    · exact ⟨i + 1, by rw [insW_len w _ (by omega)]; omega, insW_erase _ (by omega)⟩
  · rintro ⟨i, hi, he⟩
    obtain ⟨j, h1, h2, h3⟩ := start_of x i hi
    have h4 := erase_insW h1
    rw [h3, he] at h4
    have hl : x.length = w.length + 1 := by rw [← he, List.length_eraseIdx, if_pos hi]; omega
    cases j with
    | zero => exact .inl ⟨_, h4⟩
    | succ j =>
      refine .inr ⟨j, by omega, ?_⟩
      rw [h4]
      congr 1
      have h5 : w[j]? = x[j]? := by rw [← he, ← h3, erase_get, if_pos (by omega)]
      unfold isStart at h2
      rw [decide_eq_false (by omega), Bool.false_or] at h2
      have h2 := of_decide_eq_true h2
      rw [show j + 1 - 1 = j by omega, ← h5, List.getElem?_eq_getElem h1, List.getElem?_eq_getElem (show j < w.length by omega)] at h2
      have h6 : w.getD j false = w[j]'(by omega) := by rw [List.getD_eq_getElem?_getD, List.getElem?_eq_getElem (by omega)]; rfl
      rw [h6]
      revert h2
      cases x[j + 1] <;> cases w[j] <;> simp
theorem more_ne {w : List Bool} {p q : Nat} {c : Bool} (hpq : p < q) (hq : q ≤ w.length) : insW w p c ≠ insW w q (!w.getD (q - 1) false) := by
  intro h
  have h1 := congrArg (fun l => l[q]?) h
  simp only [insW_get (show p ≤ w.length by omega), insW_get hq] at h1
  rw [if_neg (by omega), if_neg (by omega), if_neg (by omega), if_pos trivial, List.getElem?_eq_getElem (show q - 1 < w.length by omega)] at h1
  have h6 : w.getD (q - 1) false = w[q - 1]'(by omega) := by rw [List.getD_eq_getElem?_getD, List.getElem?_eq_getElem (by omega)]; rfl
  rw [h6] at h1
  revert h1
  cases w[q - 1] <;> simp
theorem more_nodup (w : List Bool) : ∀ {k : Nat}, k ≤ w.length → (moreTo w k).Nodup := by
  intro k
  induction k with
  | zero =>
    intro _
    rw [moreTo, List.nodup_cons]
    refine ⟨?_, by simp⟩
    rw [List.mem_singleton]
    intro h
    unfold insW at h
    simp at h
  | succ k ih =>
    intro hk
    rw [moreTo]
    refine List.nodup_append.2 ⟨ih (by omega), by simp, ?_⟩
    intro a ha b hb
    rw [List.mem_singleton] at hb
    subst hb
    rcases mem_moreTo.1 ha with ⟨c, rfl⟩ | ⟨i, hi, rfl⟩
    · have := more_ne (w := w) (p := 0) (q := k + 1) (c := c) (by omega) hk
      rw [Nat.add_sub_cancel] at this; exact this
    · have := more_ne (w := w) (p := i + 1) (q := k + 1) (c := !w.getD i false) (by omega) hk
      rw [Nat.add_sub_cancel] at this; exact this
/-- The words read short and long, in ascending order. -/
def shortW (w : List Bool) : List (List Bool) := (allW (w.length - 1)).filter fun r => isDel w r
def longW (w : List Bool) : List (List Bool) := (allW (w.length + 1)).filter fun x => isDel x w
theorem mem_shortW {w r : List Bool} : r ∈ shortW w ↔ isDel w r = true := by
  unfold shortW
  rw [List.mem_filter, mem_allW]
  exact ⟨fun h => h.2, fun h => ⟨by have := isDel_len h; omega, h⟩⟩
theorem mem_longW {w x : List Bool} : x ∈ longW w ↔ isDel x w = true := by
  unfold longW
  rw [List.mem_filter, mem_allW]
  exact ⟨fun h => h.2, fun h => ⟨isDel_len h, h⟩⟩
/-- What is sorted out of the words of the runs is what is read short. -/
theorem asc_of_sorted {l m : List (List Bool)} (hp : l.Perm m) (hn : m.Nodup) (hs : l.Pairwise fun a b => wlt b a = false) : Asc l := by
  have hn2 : l.Nodup := hp.nodup_iff.2 hn
  refine List.Pairwise.imp₂ (S := fun a b => a ≠ b) (fun a b h1 h2 => ?_) hs hn2
  rcases wlt_total h2 with h | h
  · exact h
  · rw [h1] at h; cases h
theorem sorted_less {w : List Bool} {l : List (List Bool)} (hp : l.Perm (lessTo w w.length)) (hs : l.Pairwise fun a b => wlt b a = false) : l = shortW w :=
  asc_ext (asc_of_sorted hp (less_nodup w _) hs) (filter_asc (allW_asc _) _) fun x => by rw [hp.mem_iff, mem_less, mem_shortW]
theorem sorted_more {w : List Bool} {l : List (List Bool)} (hp : l.Perm (moreTo w w.length)) (hs : l.Pairwise fun a b => wlt b a = false) : l = longW w :=
  asc_ext (asc_of_sorted hp (more_nodup w (Nat.le_refl _)) hs) (filter_asc (allW_asc _) _) fun x => by rw [hp.mem_iff, mem_more, mem_longW]
end Go.Am

namespace Go.Am
/-- The weight of the first letters, and how many of them are 1. -/
def wtTo (w : List Bool) : Nat → Nat
  | 0 => 0
  | k + 1 => wtTo w k + if w.getD k false = true then k + 1 else 0
def cntTo (w : List Bool) : Nat → Nat
  | 0 => 0
  | k + 1 => cntTo w k + if w.getD k false = true then 1 else 0
abbrev wt (w : List Bool) : Nat := wtTo w w.length
abbrev cnt (w : List Bool) : Nat := cntTo w w.length
def cls (w : List Bool) : Nat := wt w % (w.length + 1)
theorem wtTo_le (w : List Bool) (k : Nat) : wtTo w k ≤ k * k := by
  induction k with
  | zero => exact Nat.le_refl _
  | succ k ih =>
    rw [wtTo, Nat.add_mul, Nat.mul_add, Nat.one_mul, Nat.mul_one]
    split <;> omega
theorem cntTo_le (w : List Bool) (k : Nat) : cntTo w k ≤ k := by
  induction k with
  | zero => exact Nat.le_refl _
  | succ k ih => rw [cntTo]; split <;> omega
theorem cntTo_mono (w : List Bool) {p k : Nat} (h : p ≤ k) : cntTo w p ≤ cntTo w k ∧ cntTo w k - cntTo w p ≤ k - p := by
  induction k with
  | zero => rw [show p = 0 by omega]; exact ⟨Nat.le_refl _, by omega⟩
  | succ k ih =>
    rcases Nat.lt_or_eq_of_le h with h1 | rfl
    · have := ih (by omega)
      rw [cntTo]
      split <;> omega
    · exact ⟨Nat.le_refl _, by omega⟩
theorem getD_of {w u : List Bool} {i j : Nat} (h : w[i]? = u[j]?) : w.getD i false = u.getD j false := by rw [List.getD_eq_getElem?_getD, List.getD_eq_getElem?_getD, h]
theorem wt_ins_lo {w : List Bool} {p : Nat} {c : Bool} (hp : p ≤ w.length) : ∀ {k : Nat}, k ≤ p → wtTo (insW w p c) k = wtTo w k := by
  intro k
  induction k with
  | zero => intro _; rfl
  | succ k ih => intro hk; rw [wtTo, wtTo, ih (by omega), getD_of (w := insW w p c) (u := w) (i := k) (j := k) (by rw [insW_get hp, if_pos (by omega)])]
theorem wt_ins_hi {w : List Bool} {p : Nat} {c : Bool} (hp : p ≤ w.length) : ∀ {k : Nat}, p ≤ k → wtTo (insW w p c) (k + 1) = wtTo w k + (if c = true then p + 1 else 0) + (cntTo w k - cntTo w p) := by
  intro k
  induction k with
  | zero =>
    intro h
    obtain rfl : p = 0 := by omega
    have : (insW w 0 c).getD 0 false = c := by rw [List.getD_eq_getElem?_getD, insW_get hp, if_neg (by omega), if_pos rfl]; rfl
    show 0 + (if (insW w 0 c).getD 0 false = true then 0 + 1 else 0) = 0 + (if c = true then 0 + 1 else 0) + (0 - 0)
    rw [this]
    omega
  | succ k ih =>
    intro h
    rcases Nat.lt_or_eq_of_le h with h1 | rfl
    · have e : (insW w p c).getD (k + 1) false = w.getD k false := getD_of (by rw [insW_get hp, if_neg (by omega), if_neg (by omega), Nat.add_sub_cancel])
      have := (cntTo_mono w (show p ≤ k by omega)).1
      rw [wtTo, ih (by omega), e, wtTo, cntTo]
      cases w.getD k false <;> simp only [if_true, if_false, Bool.false_eq_true] <;> omega
    · have e : (insW w (k + 1) c).getD (k + 1) false = c := by rw [List.getD_eq_getElem?_getD, insW_get hp, if_neg (by omega), if_pos rfl]; rfl
      rw [wtTo, wt_ins_lo hp (Nat.le_refl _), e, Nat.sub_self]
      omega
/-- What a letter more adds to the weight. -/
def adds (w : List Bool) (p : Nat) (c : Bool) : Nat := (if c = true then p + 1 else 0) + (cnt w - cntTo w p)
theorem wt_ins {w : List Bool} {p : Nat} {c : Bool} (hp : p ≤ w.length) : wt (insW w p c) = wt w + adds w p c := by
  show wtTo (insW w p c) (insW w p c).length = _
  rw [insW_len w c hp, wt_ins_hi hp hp]
  unfold adds
  have e1 : wt w = wtTo w w.length := rfl
  have e2 : cnt w = cntTo w w.length := rfl
  omega
theorem adds_lt {w : List Bool} {p : Nat} {c : Bool} (hp : p ≤ w.length) : adds w p c ≤ w.length + 1 := by
  have := cntTo_mono w hp
  have := cntTo_le w p
  unfold adds
  show _ + (cntTo w w.length - _) ≤ _
  split <;> omega
theorem ins_step {w : List Bool} {p : Nat} {c : Bool} (hp : p < w.length) (h : w.getD p false = c) : insW w (p + 1) c = insW w p c := by
  refine List.ext_getElem? fun k => ?_
  rw [insW_get (by omega), insW_get (by omega)]
  have hg : w[p]? = some c := by
    rw [List.getElem?_eq_getElem hp]
    rw [List.getD_eq_getElem?_getD, List.getElem?_eq_getElem hp] at h
    exact congrArg some h
  by_cases h1 : k < p
  · rw [if_pos (by omega), if_pos h1]
  · by_cases h2 : k = p
    · subst h2; rw [if_pos (by omega), if_neg h1, if_pos rfl, hg]
    · rw [if_neg (by omega), if_neg h1, if_neg h2]
      by_cases h3 : k = p + 1
      · subst h3; rw [if_pos rfl, Nat.add_sub_cancel, hg]
      · rw [if_neg h3]
theorem ins_far {w : List Bool} {c : Bool} : ∀ {d p : Nat}, p + d ≤ w.length → (∀ i, p ≤ i → i < p + d → w.getD i false = c) → insW w (p + d) c = insW w p c := by
  intro d
  induction d with
  | zero => intro p _ _; rfl
  | succ d ih =>
    intro p h1 h2
    rw [show p + (d + 1) = p + d + 1 by omega, ins_step (by omega) (h2 (p + d) (by omega) (by omega))]
    exact ih (by omega) (fun i h3 h4 => h2 i h3 (by omega))
theorem cnt_all {w : List Bool} : ∀ {d p : Nat}, cntTo w (p + d) - cntTo w p = 0 → ∀ i, p ≤ i → i < p + d → w.getD i false = false := by
  intro d
  induction d with
  | zero => intro p _ i h1 h2; omega
  | succ d ih =>
    intro p h i h1 h2
    have h3 := (cntTo_mono w (show p ≤ p + d by omega)).1
    rw [show p + (d + 1) = p + d + 1 by omega, cntTo] at h
    rcases Nat.lt_succ_iff_lt_or_eq.1 (show i < p + d + 1 by omega) with h4 | rfl
    · exact ih (by omega) i h1 h4
    · cases hb : w.getD (p + d) false with
      | false => rfl
      | true => rw [hb, if_pos rfl] at h; omega
theorem cnt_none {w : List Bool} : ∀ {d p : Nat}, cntTo w (p + d) - cntTo w p = d → ∀ i, p ≤ i → i < p + d → w.getD i false = true := by
  intro d
  induction d with
  | zero => intro p _ i h1 h2; omega
  | succ d ih =>
    intro p h i h1 h2
    have h3 := cntTo_mono w (show p ≤ p + d by omega)
    rw [show p + (d + 1) = p + d + 1 by omega, cntTo] at h
    cases hb : w.getD (p + d) false with
    | false => rw [hb, if_neg (by decide)] at h; omega
    | true =>
      rw [hb, if_pos rfl] at h
      rcases Nat.lt_succ_iff_lt_or_eq.1 (show i < p + d + 1 by omega) with h4 | rfl
      · exact ih (by omega) i h1 h4
      · exact hb
theorem adds_inj {w : List Bool} {p q : Nat} {c d : Bool} (hp : p ≤ w.length) (hq : q ≤ w.length) (h : adds w p c = adds w q d) : insW w p c = insW w q d := by
  have key : ∀ (p q : Nat) (c d : Bool), p ≤ q → q ≤ w.length → adds w p c = adds w q d → insW w p c = insW w q d := by
    intro p q c d hpq hq h
    have h1 := cntTo_mono w (show p ≤ w.length by omega)
    have h2 := cntTo_mono w hq
    have h3 := cntTo_mono w hpq
    have h4 := cntTo_le w p
    have h5 := cntTo_le w q
    unfold adds at h
    have hcn : cnt w = cntTo w w.length := rfl
    rw [hcn] at h
    cases c <;> cases d
    · simp only [Bool.false_eq_true, if_false] at h
      rw [show q = p + (q - p) by omega]
      exact (ins_far (by omega) (cnt_all (by rw [show p + (q - p) = q by omega]; omega))).symm
    · simp only [Bool.false_eq_true, if_false, if_true] at h; omega
    · simp only [Bool.false_eq_true, if_false, if_true] at h; omega
    · simp only [if_true] at h
      rw [show q = p + (q - p) by omega]
      exact (ins_far (by omega) (cnt_none (by rw [show p + (q - p) = q by omega]; omega))).symm
  rcases Nat.le_total p q with h1 | h1
  · exact key p q c d h1 hq h
  · exact (key q p d c h1 hp h.symm).symm
theorem cls_ins {w : List Bool} {p : Nat} {c : Bool} (hp : p ≤ w.length) : cls (insW w p c) = (wt w + adds w p c) % (w.length + 2) := by
  unfold cls
  rw [wt_ins hp, insW_len w c hp]
theorem find_one {l : List (List Bool)} {p : List Bool → Bool} {x : List Bool} (h1 : x ∈ l) (h2 : p x = true) (h3 : ∀ y ∈ l, p y = true → y = x) : l.find? p = some x := by
  cases h : l.find? p with
  | none => have := List.find?_eq_none.1 h x h1; rw [h2] at this; exact absurd rfl this
  | some y => rw [h3 y (List.mem_of_find?_eq_some h) (by have := List.find?_some h; exact this)]
theorem mod_eq_lt {a x y m : Nat} (hx : x < m) (hy : y < m) (h : (a + x) % m = (a + y) % m) : x = y := by
  have key : ∀ x y : Nat, x < m → y < m → x ≤ y → (a + x) % m = (a + y) % m → x = y := by
    intro x y hx hy hxy h
    have h1 := Nat.sub_mod_eq_zero_of_mod_eq h.symm
    rw [show a + y - (a + x) = y - x by omega, Nat.mod_eq_of_lt (by omega)] at h1
    omega
  rcases Nat.le_total x y with h1 | h1
  · exact key x y hx hy h1 h
  · exact (key y x hy hx h1 h.symm).symm
/-- Whichever word of a class a letter was lost of, there is one only. -/
theorem restore_long {w : List Bool} {p k : Nat} {c : Bool} (hp : p ≤ w.length) (hk : (wt w + adds w p c) % (w.length + 2) = k) : (longW w).find? (fun x => decide (cls x = k)) = some (insW w p c) := by
  refine find_one (mem_longW.2 (mem_more.1 ?_)) (decide_eq_true (by rw [cls_ins hp, hk])) ?_
  · exact mem_more.2 (isDel_iff.2 ⟨p, by rw [insW_len w c hp]; omega, insW_erase c hp⟩)
  · intro y hy hc
    obtain ⟨i, hi, he⟩ := isDel_iff.1 (mem_longW.1 hy)
    have h1 := erase_insW hi
    have hl : y.length = w.length + 1 := by rw [← he, List.length_eraseIdx, if_pos hi]; omega
    rw [he] at h1
    have hc := of_decide_eq_true hc
    rw [h1, cls_ins (by omega), ← hk] at hc
    rw [h1]
    exact adds_inj (by omega) hp (mod_eq_lt (by have := adds_lt (w := w) (p := i) (c := y[i]) (by omega); omega) (by have := adds_lt (w := w) (p := p) (c := c) hp; omega) hc)
/-- All words that can have been cut. -/
def cutW (n : Nat) (r : List Bool) : List (List Bool) := (allW n).filter fun l => decide (l = r) || isDel l r || isDel r l
theorem cut_same (r : List Bool) : cutW r.length r = [r] := by
  refine asc_ext (filter_asc (allW_asc _) _) (List.pairwise_singleton _ _) fun x => ?_
  unfold cutW
  rw [List.mem_filter, mem_allW, List.mem_singleton]
  constructor
  · rintro ⟨h1, h2⟩
    rw [Bool.or_eq_true, Bool.or_eq_true, decide_eq_true_iff] at h2
    rcases h2 with (h2 | h2) | h2
    · exact h2
    · have := isDel_len h2; omega
    · have := isDel_len h2; omega
  · rintro rfl
    exact ⟨rfl, by rw [decide_eq_true rfl]; rfl⟩
theorem cut_long {n : Nat} {r : List Bool} (h : r.length + 1 = n) : cutW n r = longW r := by
  refine asc_ext (filter_asc (allW_asc _) _) (filter_asc (allW_asc _) _) fun x => ?_
  rw [mem_longW]
  unfold cutW
  rw [List.mem_filter, mem_allW]
  constructor
  · rintro ⟨h1, h2⟩
    rw [Bool.or_eq_true, Bool.or_eq_true, decide_eq_true_iff] at h2
    rcases h2 with (h2 | h2) | h2
    · subst h2; omega
    · exact h2
    · have := isDel_len h2; omega
  · intro h2
    exact ⟨by have := isDel_len h2; omega, by rw [h2, Bool.or_true]; rfl⟩
theorem cut_short {n : Nat} {r : List Bool} (h : r.length = n + 1) : cutW n r = shortW r := by
  refine asc_ext (filter_asc (allW_asc _) _) (filter_asc (allW_asc _) _) fun x => ?_
  rw [mem_shortW]
  unfold cutW
  rw [List.mem_filter, mem_allW]
  constructor
  · rintro ⟨h1, h2⟩
    rw [Bool.or_eq_true, Bool.or_eq_true, decide_eq_true_iff] at h2
    rcases h2 with (h2 | h2) | h2
    · subst h2; omega
    · have := isDel_len h2; omega
    · exact h2
  · intro h2
    exact ⟨by have := isDel_len h2; omega, by rw [h2, Bool.or_true]⟩
def restW (n k : Nat) (r : List Bool) : Option (List Bool) := (cutW n r).find? fun x => decide (cls x = k)
theorem rest_same {r : List Bool} {k : Nat} : restW r.length k r = if cls r = k then some r else none := by
  unfold restW
  rw [cut_same, List.find?_cons]
  by_cases h : cls r = k
  · rw [decide_eq_true h, if_pos h]
  · rw [decide_eq_false h, if_neg h]; rfl
end Go.Am

namespace Go.Am
theorem allW_snoc : ∀ n, allW (n + 1) = (allW n).flatMap fun u => [u ++ [false], u ++ [true]] := by
  intro n
  induction n with
  | zero => rfl
  | succ n ih =>
    have e : ∀ b : Bool, (allW (n + 1)).map (b :: ·) = ((allW n).map (b :: ·)).flatMap fun u => [u ++ [false], u ++ [true]] := by
      intro b
      rw [ih, List.map_flatMap, List.flatMap_map]
      rfl
    rw [allW, e, e, ← List.flatMap_append]
    rfl
/-- The word of a number. -/
def bitsW : Nat → Nat → List Bool
  | 0, _ => []
  | n + 1, x => x.testBit n :: bitsW n x
theorem bitsW_len (n x : Nat) : (bitsW n x).length = n := by
  induction n with
  | zero => rfl
  | succ n ih => rw [bitsW, List.length_cons, ih]
theorem bitsW_get {n x i : Nat} (hi : i < n) : (bitsW n x)[i]? = some (x.testBit (n - 1 - i)) := by
  induction n generalizing i with
  | zero => omega
  | succ n ih =>
    cases i with
    | zero => rw [bitsW, List.getElem?_cons_zero]; rfl
    | succ i => rw [bitsW, List.getElem?_cons_succ, ih (by omega)]; congr 2; omega
theorem bitsW_hi (n x k : Nat) (h : n ≤ k) : bitsW n (2 ^ k + x) = bitsW n x := by
  induction n with
  | zero => rfl
  | succ n ih => rw [bitsW, bitsW, ih (by omega), Nat.testBit_two_pow_add_gt (by omega)]
theorem allW_bits : ∀ n, allW n = (List.range (2 ^ n)).map (bitsW n) := by
  intro n
  induction n with
  | zero => rfl
  | succ n ih =>
    rw [allW, ih, Nat.pow_succ, Nat.mul_two, List.range_add, List.map_append, List.map_map, List.map_map, List.map_map]
    congr 1
    · refine List.map_congr_left fun x hx => ?_
      rw [List.mem_range] at hx
      show false :: bitsW n x = bitsW (n + 1) x
      rw [bitsW, Nat.testBit_lt_two_pow hx]
    · refine List.map_congr_left fun x hx => ?_
      rw [List.mem_range] at hx
      show true :: bitsW n x = bitsW (n + 1) (2 ^ n + x)
      rw [bitsW, bitsW_hi n x n (Nat.le_refl _), Nat.testBit_two_pow_add_eq, Nat.testBit_lt_two_pow hx]
      rfl
/-- The words of a class. -/
def codeW (n k : Nat) : List (List Bool) := (allW n).filter fun w => decide (cls w = k)
/-- How many words of so many letters have a weight that leaves k. -/
def numC (m i k : Nat) : Nat := ((allW i).filter fun u => decide (wtTo u i % m = k)).length
theorem codeW_len (n k : Nat) : (codeW n k).length = numC (n + 1) n k := by
  unfold codeW numC
  congr 1
  refine List.filter_congr fun w hw => ?_
  have hl := mem_allW.1 hw
  unfold cls
  show decide (wtTo w w.length % (w.length + 1) = k) = _
  rw [hl]
theorem wtTo_app {u v : List Bool} : ∀ {k : Nat}, k ≤ u.length → wtTo (u ++ v) k = wtTo u k := by
  intro k
  induction k with
  | zero => intro _; rfl
  | succ k ih => intro hk; rw [wtTo, wtTo, ih (by omega), getD_of (w := u ++ v) (u := u) (i := k) (j := k) (List.getElem?_append_left (by omega))]
theorem wt_snoc {u : List Bool} {c : Bool} : wtTo (u ++ [c]) (u.length + 1) = wtTo u u.length + if c = true then u.length + 1 else 0 := by
  rw [wtTo, wtTo_app (Nat.le_refl _)]
  congr 1
  rw [List.getD_eq_getElem?_getD, List.getElem?_append_right (Nat.le_refl _), Nat.sub_self]
  rfl
theorem filter_pairs {α : Type} (l : List α) (f g : α → List Bool) (p : List Bool → Bool) : ((l.flatMap fun u => [f u, g u]).filter p).length = (l.filter fun u => p (f u)).length + (l.filter fun u => p (g u)).length := by
  induction l with
  | nil => rfl
  | cons x l ih =>
    rw [List.flatMap_cons, List.filter_append, List.length_append, ih, List.filter_cons, List.filter_cons, List.filter_cons, List.filter_cons, List.filter_nil]
    cases p (f x) <;> cases p (g x) <;> simp <;> omega
theorem numC_succ {m i k c : Nat} (hc : c < m) (hk : (c + (i + 1)) % m = k) : numC m (i + 1) k = numC m i k + numC m i c := by
  unfold numC
  rw [allW_snoc, filter_pairs]
  congr 2
  · refine List.filter_congr fun u hu => ?_
    have hl := mem_allW.1 hu
    have := wt_snoc (u := u) (c := false)
    rw [hl] at this
    rw [this, if_neg (by decide), Nat.add_zero]
  · refine List.filter_congr fun u hu => ?_
    have hl := mem_allW.1 hu
    have := wt_snoc (u := u) (c := true)
    rw [hl] at this
    rw [this, if_pos rfl]
    refine decide_eq_decide.2 ?_
    rw [← hk]
    constructor
    · intro h
      have h1 := Nat.mod_lt (wtTo u i) (show 0 < m by omega)
      rw [← Nat.mod_add_mod] at h
      exact mod_eq_lt (a := i + 1) h1 hc (by rw [Nat.add_comm, h, Nat.add_comm])
    · intro h
      rw [← Nat.mod_add_mod, h]
theorem numC_zero (m k : Nat) (hm : 0 < m) : numC m 0 k = if k = 0 then 1 else 0 := by
  unfold numC
  rw [allW, List.filter_cons]
  show List.length (if decide (0 % m = k) = true then _ else _) = _
  rw [Nat.zero_mod]
  by_cases h : k = 0
  · rw [if_pos h, if_pos (decide_eq_true h.symm)]; rfl
  · rw [if_neg h, if_neg (by rw [decide_eq_false (fun e => h e.symm)]; decide)]; rfl
theorem numC_le (m i k : Nat) : numC m i k ≤ 2 ^ i := by
  unfold numC
  exact Nat.le_trans (List.length_filter_le _ _) (by rw [allW_len]; exact Nat.le_refl _)
/-- Places in a circle, turned. -/
def pos (n s i : Nat) : Nat := (i + s) % n
theorem pos_lt {n s i : Nat} (h : i < n) : pos n s i < n := Nat.mod_lt _ (by omega)
theorem pos_inj {n s i j : Nat} (hi : i < n) (hj : j < n) (h : pos n s i = pos n s j) : i = j := by
  unfold pos at h
  rw [Nat.add_comm i, Nat.add_comm j] at h
  exact mod_eq_lt hi hj h
def inv (n s j : Nat) : Nat := (j + (n - s % n)) % n
theorem inv_lt {n s j : Nat} (h : j < n) : inv n s j < n := Nat.mod_lt _ (by omega)
theorem pos_inv {n s j : Nat} (h : j < n) : pos n s (inv n s j) = j := by
  unfold pos inv
  rw [Nat.mod_add_mod]
  have h1 := Nat.mod_lt s (show 0 < n by omega)
  have h2 := Nat.div_add_mod s n
  rw [show j + (n - s % n) + s = j + n * (s / n + 1) by rw [Nat.mul_add, Nat.mul_one]; omega, Nat.add_mul_mod_self_left, Nat.mod_eq_of_lt h]
/-- The counts, as they are computed: eleven places. -/
def cntL (m i : Nat) : List Int := (List.range 11).map fun k => if k < m then (numC m i k : Int) else 0
theorem cntL_len (m i : Nat) : (cntL m i).length = 11 := by simp [cntL]
theorem cntL_get {m i k : Nat} (hk : k < 11) : (cntL m i).getD k 0 = if k < m then (numC m i k : Int) else 0 := by
  rw [List.getD_eq_getElem?_getD, cntL, List.getElem?_map, List.getElem?_range hk]; rfl
def nextTo (m i : Nat) : Nat → List Int
  | 0 => cntL m i
  | c + 1 => (nextTo m i c).set (pos m (i + 1) c) ((nextTo m i c).getD (pos m (i + 1) c) 0 + (cntL m i).getD c 0)
theorem nextTo_len (m i c : Nat) : (nextTo m i c).length = 11 := by
  induction c with
  | zero => exact cntL_len m i
  | succ c ih => rw [nextTo, List.length_set, ih]
theorem nextTo_get {m i : Nat} (hm : m ≤ 11) : ∀ {c : Nat}, c ≤ m → ∀ k, k < 11 → (nextTo m i c).getD k 0 = (cntL m i).getD k 0 + if k < m ∧ inv m (i + 1) k < c then (cntL m i).getD (inv m (i + 1) k) 0 else 0 := by
  intro c
  induction c with
  | zero => intro _ k _; rw [if_neg (by omega), Int.add_zero]; rfl
  | succ c ih =>
    intro hc k hk
    have hp := pos_lt (n := m) (s := i + 1) (i := c) (by omega)
    rw [nextTo, List.getD_eq_getElem?_getD, List.getElem?_set]
    by_cases hpk : pos m (i + 1) c = k
    · rw [if_pos hpk, if_pos (by rw [nextTo_len]; omega)]
      have hinv : inv m (i + 1) k = c := pos_inj (s := i + 1) (inv_lt (by omega)) (by omega) (by rw [pos_inv (by omega), hpk])
      show (nextTo m i c).getD _ 0 + _ = _
      rw [hpk, ih (by omega) k hk, hinv, if_neg (by omega), if_pos ⟨by omega, by omega⟩, Int.add_zero]
    · rw [if_neg hpk, ← List.getD_eq_getElem?_getD, ih (by omega) k hk]
      congr 1
      by_cases hkm : k < m
      · have : inv m (i + 1) k ≠ c := fun e => hpk (by rw [← e, pos_inv hkm])
        by_cases h2 : inv m (i + 1) k < c
        · rw [if_pos ⟨hkm, h2⟩, if_pos ⟨hkm, by omega⟩]
        · rw [if_neg (fun e => h2 e.2), if_neg (fun e => by have := e.2; omega)]
      · rw [if_neg (fun e => hkm e.1), if_neg (fun e => hkm e.1)]
theorem getD_ext {a b : List Int} (hl : a.length = b.length) (h : ∀ k, k < a.length → a.getD k 0 = b.getD k 0) : a = b := by
  refine List.ext_getElem hl fun k h1 h2 => ?_
  have := h k h1
  rw [List.getD_eq_getElem?_getD, List.getD_eq_getElem?_getD, List.getElem?_eq_getElem h1, List.getElem?_eq_getElem h2] at this
  exact this
theorem nextTo_all {m i : Nat} (hm : m ≤ 11) (h0 : 0 < m) : nextTo m i m = cntL m (i + 1) := by
  refine getD_ext (by rw [nextTo_len, cntL_len]) fun k hk => ?_
  rw [nextTo_len] at hk
  rw [nextTo_get hm (Nat.le_refl _) k hk, cntL_get hk, cntL_get hk]
  by_cases hkm : k < m
  · have hi := inv_lt (s := i + 1) hkm
    rw [if_pos hkm, if_pos hkm, if_pos ⟨hkm, hi⟩, cntL_get (by omega), if_pos hi, numC_succ (c := inv m (i + 1) k) hi (pos_inv hkm)]
    omega
  · rw [if_neg hkm, if_neg hkm, if_neg (fun e => hkm e.1), Int.add_zero]
end Go.Am

namespace Go.Am
/-- The first word as which two can be read short. -/
def comW (a b : List Bool) : Option (List Bool) := (allW (a.length - 1)).find? fun x => isDel a x && isDel b x
def clashW (a b : List Bool) : Bool := (comW a b).isSome
theorem com_short (a b : List Bool) : comW a b = (shortW a).find? fun x => isDel b x := by
  unfold comW shortW
  rw [List.find?_filter]
  congr 1
  funext x
  cases isDel a x <;> cases isDel b x <;> rfl
theorem clash_iff {a b : List Bool} : clashW a b = true ↔ ∃ x, isDel a x = true ∧ isDel b x = true := by
  unfold clashW
  rw [com_short, List.find?_isSome]
  constructor
  · rintro ⟨x, h1, h2⟩; exact ⟨x, mem_shortW.1 h1, h2⟩
  · rintro ⟨x, h1, h2⟩; exact ⟨x, mem_shortW.2 h1, h2⟩
/-- How many of a list can be chosen that are safe beside one another. -/
def misF (sf : Nat → Nat → Bool) : Nat → List Nat → Nat
  | 0, _ => 0
  | _ + 1, [] => 0
  | f + 1, x :: l => max (1 + misF sf f (l.filter (sf x))) (misF sf f l)
theorem misF_le (sf : Nat → Nat → Bool) : ∀ (f : Nat) (l : List Nat), misF sf f l ≤ l.length := by
  intro f
  induction f with
  | zero => intro l; exact Nat.zero_le _
  | succ f ih =>
    intro l
    cases l with
    | nil => exact Nat.le_refl _
    | cons x l =>
      rw [misF, List.length_cons]
      have h1 := ih (l.filter (sf x))
      have h2 := ih l
      have h3 := List.length_filter_le (sf x) l
      omega
theorem misF_enough (sf : Nat → Nat → Bool) : ∀ (f g : Nat) (l : List Nat), l.length ≤ f → l.length ≤ g → misF sf f l = misF sf g l := by
  intro f
  induction f with
  | zero =>
    intro g l h _
    rw [List.length_eq_zero_iff.1 (show l.length = 0 by omega)]
    cases g <;> rfl
  | succ f ih =>
    intro g l h1 h2
    cases l with
    | nil => cases g <;> rfl
    | cons x l =>
      rw [List.length_cons] at h1 h2
      have h3 := List.length_filter_le (sf x) l
      cases g with
      | zero => omega
      | succ g => rw [misF, misF, ih g _ (by omega) (by omega), ih g l (by omega) (by omega)]
def misL (sf : Nat → Nat → Bool) (l : List Nat) : Nat := misF sf l.length l
theorem misL_cons (sf : Nat → Nat → Bool) (x : Nat) (l : List Nat) : misL sf (x :: l) = max (1 + misL sf (l.filter (sf x))) (misL sf l) := by
  unfold misL
  rw [List.length_cons, misF]
  congr 2
  exact misF_enough sf _ _ _ (List.length_filter_le _ _) (Nat.le_refl _)
theorem misL_nil (sf : Nat → Nat → Bool) : misL sf [] = 0 := rfl
theorem misL_le (sf : Nat → Nat → Bool) (l : List Nat) : misL sf l ≤ l.length := misF_le sf _ l
/-- The search: the best so far, what is left, how many are chosen. -/
def seekF (sf : Nat → Nat → Bool) : Nat → List Nat → Nat → Nat → Nat
  | 0, _, _, b => b
  | _ + 1, [], _, b => b
  | f + 1, x :: l, n, b => if n + (l.length + 1) ≤ b then b else seekF sf f l n (seekF sf f (l.filter (sf x)) (n + 1) (max b (n + 1)))
theorem seekF_is (sf : Nat → Nat → Bool) : ∀ (f : Nat) (l : List Nat) (n b : Nat), l.length ≤ f → n ≤ b → seekF sf f l n b = max b (n + misL sf l) := by
  intro f
  induction f with
  | zero =>
    intro l n b h hb
    rw [List.length_eq_zero_iff.1 (show l.length = 0 by omega), misL_nil, seekF]
    omega
  | succ f ih =>
    intro l n b h hb
    cases l with
    | nil => rw [misL_nil, seekF]; omega
    | cons x l =>
      rw [List.length_cons] at h
      rw [seekF]
      have h1 := misL_le sf (x :: l)
      rw [List.length_cons] at h1
      split
      · omega
      · have h3 := List.length_filter_le (sf x) l
        rw [ih (l.filter (sf x)) (n + 1) _ (by omega) (by omega), ih l n _ (by omega) (by omega), misL_cons]
        omega
theorem seekF_congr {sf sg : Nat → Nat → Bool} : ∀ (f : Nat) (l : List Nat) (n b : Nat), (∀ x ∈ l, ∀ y ∈ l, sf x y = sg x y) → seekF sf f l n b = seekF sg f l n b := by
  intro f
  induction f with
  | zero => intro l n b _; rfl
  | succ f ih =>
    intro l n b h
    cases l with
    | nil => rfl
    | cons x l =>
      have e : l.filter (sf x) = l.filter (sg x) := List.filter_congr fun y hy => h x (List.mem_cons_self ..) y (List.mem_cons_of_mem _ hy)
      rw [seekF, seekF, e, ih (l.filter (sg x)) (n + 1) _ (fun u hu v hv => h u (List.mem_cons_of_mem _ (List.mem_filter.1 hu).1) v (List.mem_cons_of_mem _ (List.mem_filter.1 hv).1)), ih l n _ (fun u hu v hv => h u (List.mem_cons_of_mem _ hu) v (List.mem_cons_of_mem _ hv))]
/-- Words by their numbers. -/
def safeN (n a b : Nat) : Bool := !decide (a = b) && !clashW (bitsW n a) (bitsW n b)
def mostN (n : Nat) : Nat := misL (safeN n) (List.range (2 ^ n))
/-- The same by a table. -/
def tabN (n : Nat) : List Nat := match n with
  | 1 => [0, 0]
  | 2 => [8, 0, 0, 1]
  | 3 => [232, 192, 128, 17, 136, 1, 3, 23]
  | 4 => [65256, 64704, 63616, 62737, 59528, 53505, 33539, 5911, 59624, 49345, 32907, 4375, 34991, 287, 831, 6015]
  | _ => [4294901480, 4294769856, 4294506624, 4294309137, 4293585032, 4291940609, 4289954563, 4285994775, 4276676840, 4257333441, 4220223627, 4145484055, 3903817903, 3508470047, 2336162623, 394205055, 4276682472, 4240506065, 4169201803, 4111594775, 3901286639, 3506557407, 2198045631, 387389311, 3907579647, 3233926655, 2156628991, 286742527, 2293215231, 18817023, 54476799, 394231807]
theorem tab_is : (List.range 6).all (fun n => n == 0 || (List.range (2 ^ n)).all fun a => (List.range (2 ^ n)).all fun b => safeN n a b == ((tabN n).getD a 0).testBit b) = true := by decide +kernel
theorem safe_tab {n a b : Nat} (h0 : 1 ≤ n) (h1 : n ≤ 5) (ha : a < 2 ^ n) (hb : b < 2 ^ n) : safeN n a b = ((tabN n).getD a 0).testBit b := by
  have h := List.all_eq_true.1 tab_is n (List.mem_range.2 (by omega))
  rw [Bool.or_eq_true, beq_iff_eq] at h
  rcases h with h | h
  · omega
  · exact beq_iff_eq.1 (List.all_eq_true.1 (List.all_eq_true.1 h a (List.mem_range.2 ha)) b (List.mem_range.2 hb))
theorem seek_most {n : Nat} (h0 : 1 ≤ n) (h1 : n ≤ 5) : mostN n = seekF (fun a b => ((tabN n).getD a 0).testBit b) 33 (List.range (2 ^ n)) 0 0 := by
  have hp : 2 ^ n ≤ 2 ^ 5 := Nat.pow_le_pow_right (by decide) h1
  rw [← seekF_congr (sf := safeN n) 33 (List.range (2 ^ n)) 0 0 (fun x hx y hy => safe_tab h0 h1 (List.mem_range.1 hx) (List.mem_range.1 hy)), seekF_is _ _ _ _ _ (by rw [List.length_range]; omega) (Nat.le_refl _)]
  unfold mostN
  omega
theorem most_nums : mostN 1 = 1 ∧ mostN 2 = 2 ∧ mostN 3 = 2 ∧ mostN 4 = 4 ∧ mostN 5 = 6 := by
  rw [seek_most (n := 1) (by decide) (by decide), seek_most (n := 2) (by decide) (by decide), seek_most (n := 3) (by decide) (by decide), seek_most (n := 4) (by decide) (by decide), seek_most (n := 5) (by decide) (by decide)]
  decide +kernel
end Go.Am

namespace Go.Am
theorem dec_lo {s : ByteArray} {p : Nat} (h : (s.get! p).toNat < 128) : Utf8.decode s p = ((s.get! p).toNat, 1) := by
  unfold Utf8.decode
  simp only [Nat.add_zero]
  rw [if_pos h]
theorem dec_hi {s : ByteArray} {p : Nat} (h : 128 ≤ (s.get! p).toNat) : 128 ≤ (Utf8.decode s p).1 := by
  unfold Utf8.decode
  simp only [Nat.add_zero]
  rw [if_neg (by omega)]
  have h9 : (128 : Nat) ≤ Utf8.runeError := by decide
  split
  · split
    · rename_i h; exact h
    · exact h9
  · split
    · split
      · rename_i h; simp at h; omega
      · exact h9
    · split
      · split
        · rename_i h; simp at h; omega
        · exact h9
      · exact h9
theorem wd_getB {l : List Bool} {p : Nat} (hp : p < l.length) : (wd l).get! p = bch (l.getD p false) := by
  have h := wd_get l p
  rw [List.getElem?_eq_getElem hp] at h
  have hs : p < (wd l).size := by rw [wd_size]; exact hp
  rw [getElem?_pos (wd l) p hs] at h
  have h2 : (wd l).get! p = (wd l)[p]'hs := by
    show (wd l).data[p]! = (wd l).data[p]'hs
    rw [getElem!_pos _ p hs]
  rw [h2, List.getD_eq_getElem?_getD, List.getElem?_eq_getElem hp]
  exact Option.some.inj h
def lettS (s : ByteArray) : Bool := (List.range s.size).all fun p => (s.get! p).toNat == 48 || (s.get! p).toNat == 49
theorem lettS_get {s : ByteArray} : lettS s = true ↔ ∀ p, p < s.size → (s.get! p).toNat = 48 ∨ (s.get! p).toNat = 49 := by
  unfold lettS
  rw [List.all_eq_true]
  constructor
  · intro h p hp
    have := h p (List.mem_range.2 hp)
    rw [Bool.or_eq_true, beq_iff_eq, beq_iff_eq] at this
    exact this
  · intro h p hp
    rw [Bool.or_eq_true, beq_iff_eq, beq_iff_eq]
    exact h p (List.mem_range.1 hp)
theorem bch_nat (b : Bool) : (bch b).toNat = 48 ∨ (bch b).toNat = 49 := by cases b <;> decide
theorem lettS_wd (l : List Bool) : lettS (wd l) = true := lettS_get.2 fun p hp => by
  rw [wd_size] at hp
  rw [wd_getB hp]; exact bch_nat _
theorem wd_of {s : ByteArray} (h : lettS s = true) : ∃ l, s = wd l := by
  have h := lettS_get.1 h
  refine ⟨(List.range s.size).map fun p => (s.get! p).toNat == 49, ba_ext ?_⟩
  rw [wd_data, List.map_map]
  refine List.ext_getElem (by rw [List.length_map, List.length_range]; rfl) fun p h1 h2 => ?_
  rw [List.getElem_map, List.getElem_range]
  have hs : p < s.size := h1
  have e : s.get! p = s.data.toList[p] := by
    show s.data[p]! = _
    rw [getElem!_pos _ p hs, Array.getElem_toList]
  show _ = bch ((s.get! p).toNat == 49)
  rcases h p hs with h3 | h3
  · rw [h3, ← e]; exact UInt8.toNat_inj.1 (by rw [h3]; rfl)
  · rw [h3, ← e]; exact UInt8.toNat_inj.1 (by rw [h3]; rfl)
/-- The error of a word. -/
def chkS (s : ByteArray) : Int := if 10 < s.size then 19 else if lettS s = true then 0 else 10
theorem chk_zero {s : ByteArray} (h : chkS s = 0) : ∃ l, s = wd l ∧ l.length ≤ 10 := by
  unfold chkS at h
  by_cases h1 : 10 < s.size
  · rw [if_pos h1] at h; exact absurd h (by decide)
  · rw [if_neg h1] at h
    by_cases h2 : lettS s = true
    · obtain ⟨l, rfl⟩ := wd_of h2
      exact ⟨l, rfl, by rw [wd_size] at h1; omega⟩
    · rw [if_neg h2] at h; exact absurd h (by decide)
theorem chk_wd {l : List Bool} (h : l.length ≤ 10) : chkS (wd l) = 0 := by
  rw [chkS, wd_size, if_neg (by omega), if_pos (lettS_wd l)]
theorem dec_wd {l : List Bool} {p : Nat} (hp : p < l.length) : Utf8.decode (wd l) p = ((bch (l.getD p false)).toNat, 1) := by
  rw [dec_lo (by rw [wd_getB hp]; cases l.getD p false <;> decide), wd_getB hp]
/-- What is read where there is no letter. -/
theorem dec_bad {s : ByteArray} {p : Nat} (h : ¬ ((s.get! p).toNat = 48 ∨ (s.get! p).toNat = 49)) : (Utf8.decode s p).1 ≠ 48 ∧ (Utf8.decode s p).1 ≠ 49 := by
  by_cases h1 : (s.get! p).toNat < 128
  · rw [dec_lo h1]; constructor <;> intro e <;> exact h (by omega)
  · have := dec_hi (s := s) (p := p) (by omega)
    omega
end Go.Am

namespace Go.Am
instance instW0 (globs : List Nat) (n : Nat) (K : KF) : EvK globs n K (.const (.string ⟨#[48]⟩)) (.str (wd [false])) := ⟨rfl⟩
instance instW1 (globs : List Nat) (n : Nat) (K : KF) : EvK globs n K (.const (.string ⟨#[49]⟩)) (.str (wd [true])) := ⟨rfl⟩
instance instWE (globs : List Nat) (n : Nat) (K : KF) : EvK globs n K (.const (.string ⟨#[]⟩)) (.str (wd [])) := ⟨rfl⟩
/-- A row of words. -/
abbrev wcs (l : List (List Bool)) : List AV := l.map fun w => AV.str (wd w)
abbrev WRow (h : AHeap) (v : AV) (l : List (List Bool)) : Prop := Rd h v 1 (wcs l)
theorem WRow.nil (h : AHeap) : WRow h .nils [] := .inl ⟨rfl, rfl⟩
section
variable {P : Program} {n : Nat} {ops : Array Oper} {ex : List Nat} {Q : KF → AHeap → Prop} {k : Nat} {os : List Oper} {K : KF} {h h0 : AHeap} {d : Nat} {ty : TypeId} {pos : String} {after : Array Edge} {objs : List Obj}
theorem KOps.strAdd {t t' : TypeId} {x y : Operand} {a b : ByteArray} [hx : EvK h.globs n K x (.str a)] [hy : EvK h.globs n K y (.str b)] (hs : a.size + b.size ≤ 4294967296) (hk : KOps P n ops ex Q (k + 1) os ((d, .str (a ++ b)) :: K) h) : KOps P n ops ex Q k (⟨some d, .binOp .add t x y t', ty, pos, after, none⟩ :: os) K h :=
  KOps.pure rfl (by simp only [apure, hx.eq, hy.eq, abin, astr]; rw [if_pos (by omega)]) hk
theorem KOps.wAdd {t t' : TypeId} {x y : Operand} {a b : List Bool} [hx : EvK h.globs n K x (.str (wd a))] [hy : EvK h.globs n K y (.str (wd b))] (hs : a.length + b.length ≤ 4294967296) (hk : KOps P n ops ex Q (k + 1) os ((d, .str (wd (a ++ b))) :: K) h) : KOps P n ops ex Q k (⟨some d, .binOp .add t x y t', ty, pos, after, none⟩ :: os) K h :=
  KOps.strAdd (by rw [wd_size, wd_size]; exact hs) (by rw [wd_append]; exact hk)
theorem KOps.wEql {t t' : TypeId} {x y : Operand} {a b : List Bool} [hx : EvK h.globs n K x (.str (wd a))] [hy : EvK h.globs n K y (.str (wd b))] (hk : KOps P n ops ex Q (k + 1) os ((d, .bool (decide (a = b))) :: K) h) : KOps P n ops ex Q k (⟨some d, .binOp .eql t x y t', ty, pos, after, none⟩ :: os) K h :=
  KOps.pure rfl (by simp only [apure, hx.eq, hy.eq, abin, astr, wd_eql]) hk
theorem KOps.wNeq {t t' : TypeId} {x y : Operand} {a b : List Bool} [hx : EvK h.globs n K x (.str (wd a))] [hy : EvK h.globs n K y (.str (wd b))] (hk : KOps P n ops ex Q (k + 1) os ((d, .bool (!decide (a = b))) :: K) h) : KOps P n ops ex Q k (⟨some d, .binOp .neq t x y t', ty, pos, after, none⟩ :: os) K h :=
  KOps.pure rfl (by simp only [apure, hx.eq, hy.eq, abin, astr, wd_eql]) hk
theorem KOps.wLss {t t' : TypeId} {x y : Operand} {a b : List Bool} [hx : EvK h.globs n K x (.str (wd a))] [hy : EvK h.globs n K y (.str (wd b))] (hk : KOps P n ops ex Q (k + 1) os ((d, .bool (wlt a b)) :: K) h) : KOps P n ops ex Q k (⟨some d, .binOp .lss t x y t', ty, pos, after, none⟩ :: os) K h :=
  KOps.pure rfl (by simp only [apure, hx.eq, hy.eq, abin, astr, wd_less]) hk
theorem KOps.sEql {t t' : TypeId} {x y : Operand} {a b : ByteArray} [hx : EvK h.globs n K x (.str a)] [hy : EvK h.globs n K y (.str b)] (hk : KOps P n ops ex Q (k + 1) os ((d, .bool (a.toList == b.toList)) :: K) h) : KOps P n ops ex Q k (⟨some d, .binOp .eql t x y t', ty, pos, after, none⟩ :: os) K h :=
  KOps.pure rfl (by simp only [apure, hx.eq, hy.eq, abin, astr]) hk
theorem str_und {t : TypeId} (ht : isStrA P t = true) : P.underlying t = some .string := by
  unfold isStrA at ht
  split at ht
  · rename_i h; exact h
  · cases ht
theorem KOps.lenStr {x : Operand} {t : TypeId} {s : ByteArray} [hx : EvK h.globs n K x (.str s)] [ht : StT P t] (hk : KOps P n ops ex Q (k + 1) os ((d, .int .i64 s.size) :: K) h) :
    KOps P n ops ex Q k (⟨some d, .call { callee := .builtin .len, args := #[x], argTypes := #[t] }, ty, pos, after, none⟩ :: os) K h := by
  refine KOps.pure rfl (v := .int .i64 s.size) ?_ hk
  simp only [apure, hx.eq, alen, str_und ht.st]
theorem KOps.lenW {x : Operand} {t : TypeId} {l : List Bool} [hx : EvK h.globs n K x (.str (wd l))] [ht : StT P t] (hk : KOps P n ops ex Q (k + 1) os ((d, .int .i64 (l.length : Int)) :: K) h) :
    KOps P n ops ex Q k (⟨some d, .call { callee := .builtin .len, args := #[x], argTypes := #[t] }, ty, pos, after, none⟩ :: os) K h :=
  KOps.lenStr (by rw [wd_size]; exact hk)
/-- A part of a word. -/
theorem KOps.wCut {t : TypeId} {x : Operand} {lo hi : Option Operand} {l : List Bool} {i j : Nat} {z : Option Nat} [hx : EvK h.globs n K x (.str (wd l))] [ht : StT P t] (hc : aslice3 l.length (lo.map (evalK h.globs n K)) (hi.map (evalK h.globs n K)) none = some (i, j, z)) (hk : KOps P n ops ex Q (k + 1) os ((d, .str (wd ((l.take j).drop i))) :: K) h) :
    KOps P n ops ex Q k (⟨some d, .slice t x lo hi none, ty, pos, after, none⟩ :: os) K h := by
  refine KOps.read rfl (v := .str (wd ((l.take j).drop i))) ?_ hk
  simp only [areadR, hx.eq, aslice, ht.st, Option.map_none]
  rw [if_pos ⟨trivial, rfl⟩, wd_size, hc]
  simp only [Option.bind_eq_bind, Option.bind_some, wd_extract]
theorem KOps.wHi {t : TypeId} {x u : Operand} {l : List Bool} {ku : IntKind} {i : Int} {j : Nat} [hx : EvK h.globs n K x (.str (wd l))] [hu : EvK h.globs n K u (.int ku i)] [ht : StT P t] (hj : i = (j : Int)) (hl : j ≤ l.length) (hk : KOps P n ops ex Q (k + 1) os ((d, .str (wd (l.take j))) :: K) h) :
    KOps P n ops ex Q k (⟨some d, .slice t x none (some u) none, ty, pos, after, none⟩ :: os) K h := by
  subst hj
  refine KOps.wCut (i := 0) (j := j) (z := none) ?_ (by rw [List.drop_zero]; exact hk)
  have h1 : (j : Int) ≤ (l.length : Int) := by omega
  simp [aslice3, hu.eq, aboundsI, h1]
  try omega
theorem KOps.wLo {t : TypeId} {x u : Operand} {l : List Bool} {ku : IntKind} {i : Int} {j : Nat} [hx : EvK h.globs n K x (.str (wd l))] [hu : EvK h.globs n K u (.int ku i)] [ht : StT P t] (hj : i = (j : Int)) (hl : j ≤ l.length) (hk : KOps P n ops ex Q (k + 1) os ((d, .str (wd (l.drop j))) :: K) h) :
    KOps P n ops ex Q k (⟨some d, .slice t x (some u) none none, ty, pos, after, none⟩ :: os) K h := by
  subst hj
  refine KOps.wCut (i := j) (j := l.length) (z := none) ?_ (by rw [List.take_length]; exact hk)
  have h1 : (j : Int) ≤ (l.length : Int) := by omega
  simp [aslice3, hu.eq, aboundsI, h1]
  try omega
/-- A byte of a string. -/
theorem KOps.sAt {t : TypeId} {x ix : Operand} {s : ByteArray} {kd : IntKind} {i : Int} {j : Nat} [hx : EvK h.globs n K x (.str s)] [hi : EvK h.globs n K ix (.int kd i)] [ht : StT P t] (hj : i = (j : Int)) (hlt : j < s.size) (hk : KOps P n ops ex Q (k + 1) os ((d, .int .u8 ((s.get! j).toNat : Int)) :: K) h) :
    KOps P n ops ex Q k (⟨some d, .index t x ix, ty, pos, after, none⟩ :: os) K h := by
  subst hj
  refine KOps.pure rfl (v := .int .u8 ((s.get! j).toNat : Int)) ?_ hk
  simp only [apure, hx.eq, hi.eq, aindex, ht.st, Int.toNat_natCast]
  rw [if_pos ⟨trivial, by omega⟩, getElem?_pos s j hlt]
  have h2 : s.get! j = s[j]'hlt := by
    show s.data[j]! = s.data[j]'hlt
    rw [getElem!_pos _ j hlt]
  rw [h2]; rfl
theorem KOps.wAt {t : TypeId} {x ix : Operand} {l : List Bool} {kd : IntKind} {i : Int} {j : Nat} [hx : EvK h.globs n K x (.str (wd l))] [hi : EvK h.globs n K ix (.int kd i)] [ht : StT P t] (hj : i = (j : Int)) (hlt : j < l.length) (hk : KOps P n ops ex Q (k + 1) os ((d, .int .u8 ((bch (l.getD j false)).toNat : Int)) :: K) h) :
    KOps P n ops ex Q k (⟨some d, .index t x ix, ty, pos, after, none⟩ :: os) K h :=
  KOps.sAt hj (by rw [wd_size]; exact hlt) (by rw [wd_getB hlt]; exact hk)
/-- A letter as a word. -/
theorem KOps.wRune {src dst : TypeId} {x : Operand} {b : Bool} {kd : IntKind} {c : Int} [hx : EvK h.globs n K x (.int kd c)] [hs : IntT P src kd] (hd : isStrA P dst = true) (hc : c = ((bch b).toNat : Int)) (hk : KOps P n ops ex Q (k + 1) os ((d, .str (wd [b])) :: K) h) :
    KOps P n ops ex Q k (⟨some d, .convert src dst x, ty, pos, after, none⟩ :: os) K h := by
  subst hc
  have he : Utf8.encode ((bch b).toNat : Int) = wd [b] := by cases b <;> exact ba_ext (by kernel_rfl)
  have hi : intA P dst = none := by
    unfold intA
    rw [str_und hd]
  refine KOps.pure rfl (v := .str (wd [b])) ?_ hk
  simp only [apure, hx.eq, hs.und, hs.eq, hi, hd, if_true, he]
end
end Go.Am

namespace Go.Am
/-- A row of strings. -/
abbrev strs (l : List ByteArray) : List AV := l.map AV.str
abbrev SRow (h : AHeap) (v : AV) (l : List ByteArray) : Prop := Rd h v 1 (strs l)
theorem strs_wd (l : List (List Bool)) : strs (l.map wd) = wcs l := by simp [strs, wcs, List.map_map, Function.comp_def]
theorem SRow.w {h : AHeap} {v : AV} {l : List (List Bool)} (hr : SRow h v (l.map wd)) : WRow h v l := by unfold SRow at hr; rw [strs_wd] at hr; exact hr
theorem WRow.s {h : AHeap} {v : AV} {l : List (List Bool)} (hr : WRow h v l) : SRow h v (l.map wd) := by unfold SRow; rw [strs_wd]; exact hr
section
variable {P : Program} {n : Nat} {ops : Array Oper} {ex : List Nat} {Q : KF → AHeap → Prop} {k : Nat} {os : List Oper} {K : KF} {h h0 : AHeap} {d : Nat} {ty : TypeId} {pos : String} {after : Array Edge} {objs pre rest : List Obj}
theorem KOps.loadM {x : Operand} {p v : AV} {t : TypeId} {j : Nat} {α : Type} {f : α → AV} {l : List α} (d0 : α) [hx : EvK h.globs n K x p] [ht : ScT P t] (ha : AddrOf p v 1 j) (hr : Rd h v 1 (l.map f)) (hj : j < l.length) (hk : KOps P n ops ex Q (k + 1) os ((d, f (l.getD j d0)) :: K) h) :
    KOps P n ops ex Q k (⟨some d, .load t x, ty, pos, after, none⟩ :: os) K h :=
  KOps.load ha hr (by simp [List.getElem?_map, List.getElem?_eq_getElem hj, List.getD_eq_getElem?_getD]) hk
theorem KOps.loadW {x : Operand} {p v : AV} {t : TypeId} {j : Nat} {l : List (List Bool)} [hx : EvK h.globs n K x p] [ht : ScT P t] (ha : AddrOf p v 1 j) (hr : WRow h v l) (hj : j < l.length) (hk : KOps P n ops ex Q (k + 1) os ((d, .str (wd (l.getD j []))) :: K) h) :
    KOps P n ops ex Q k (⟨some d, .load t x, ty, pos, after, none⟩ :: os) K h :=
  KOps.loadM (f := fun w => AV.str (wd w)) [] ha hr hj hk
theorem KOps.loadS {x : Operand} {p v : AV} {t : TypeId} {j : Nat} {l : List ByteArray} [hx : EvK h.globs n K x p] [ht : ScT P t] (ha : AddrOf p v 1 j) (hr : SRow h v l) (hj : j < l.length) (hk : KOps P n ops ex Q (k + 1) os ((d, .str (l.getD j ByteArray.empty)) :: K) h) :
    KOps P n ops ex Q k (⟨some d, .load t x, ty, pos, after, none⟩ :: os) K h :=
  KOps.loadM (f := AV.str) ByteArray.empty ha hr hj hk
theorem wcs_len (l : List (List Bool)) : (wcs l).length = l.length * 1 := by simp
/-- Words behind the words of a row that is owned. -/
theorem KOps.appendW {t e : TypeId} {x y : Operand} {v u : AV} {i : Nat} {p q : List (List Bool)} {zs : List AV} {tip tip' : Bool} [hx : EvK h.globs n K x v] [hy : EvK h.globs n K y u] [ht : SlT P t e 1 zs] (st : St h0 h (⟨u, 1, wcs q, tip'⟩ :: objs)) (hex : ex.contains k = true → tip = true) (hk' : objs[i]? = some ⟨v, 1, wcs p, tip⟩) (hsz : p.length + q.length ≤ 4294967296)
    (hk : ∀ r h', r.one = true → St h0 h' (objs.set i ⟨r, 1, wcs (p ++ q), tip⟩) → KOps P n ops ex Q (k + 1) os ((d, r) :: K) h') :
    KOps P n ops ex Q k (⟨some d, .call { callee := .builtin .append, args := #[x, y], argTypes := #[t, t] }, ty, pos, after, none⟩ :: os) K h := by
  refine KOps.append (e := e) (zs := zs) (s := 1) (i := i + 1) (a := p.length) (b := q.length) (xs := wcs p) (ys := wcs q) (tip := tip) st hex (by simpa using hk') (wcs_len p) (st.rd 0 rfl) (wcs_len q) (by simp [AV.one]) hsz ?_
  intro r h' hS
  have hS' : St h0 h' (objs.set i ⟨r, 1, wcs (p ++ q), tip⟩) := by
    have := St.tail hS
    simpa [wcs] using this
  have hlt := (List.getElem?_eq_some_iff.1 hk').1
  exact hk r h' (hS'.one (k := i) (o := ⟨r, 1, wcs (p ++ q), tip⟩) (by rw [List.getElem?_set, if_pos rfl, if_pos hlt])) hS'
/-- A word behind the words of a row that is owned, from an array that was built. -/
theorem KOps.appendW1 {t e : TypeId} {x y : Operand} {v u : AV} {i : Nat} {p : List (List Bool)} {a : List Bool} {zs : List AV} {tip tip' : Bool} [hx : EvK h.globs n K x v] [hy : EvK h.globs n K y u] [ht : SlT P t e 1 zs] (st : St h0 h (⟨u, 1, [.str (wd a)], tip'⟩ :: objs)) (hex : ex.contains k = true → tip = true) (hk' : objs[i]? = some ⟨v, 1, wcs p, tip⟩) (hsz : p.length + 1 ≤ 4294967296)
    (hk : ∀ r h', r.one = true → St h0 h' (objs.set i ⟨r, 1, wcs (p ++ [a]), tip⟩) → KOps P n ops ex Q (k + 1) os ((d, r) :: K) h') :
    KOps P n ops ex Q k (⟨some d, .call { callee := .builtin .append, args := #[x, y], argTypes := #[t, t] }, ty, pos, after, none⟩ :: os) K h :=
  KOps.appendW (e := e) (zs := zs) (q := [a]) st hex hk' hsz hk
/-- A word of a row that is owned is changed. -/
theorem KOps.storeW {t : TypeId} {x y : Operand} {p v : AV} {i j : Nat} {c : List Bool} {l : List (List Bool)} {tip : Bool} [hx : EvK h.globs n K x p] [hy : EvK h.globs n K y (.str (wd c))] [ht : ScT P t] (st : St h0 h objs) (hex : ex.contains k = false) (hk' : objs[i]? = some ⟨v, 1, wcs l, tip⟩) (ha : AddrOf p v 1 j) (hj : j < l.length)
    (hk : ∀ h', St h0 h' (objs.set i ⟨v, 1, wcs (l.set j c), tip⟩) → KOps P n ops ex Q (k + 1) os K h') : KOps P n ops ex Q k (⟨none, .store t x y, ty, pos, after, none⟩ :: os) K h := by
  refine KOps.store st hex hk' ha rfl (by simpa using hj) ?_
  intro h' hS
  refine hk h' ?_
  have e : (wcs l).set j (.str (wd c)) = wcs (l.set j c) := by simp [wcs, List.map_set]
  simp only [e] at hS
  exact hS
end
end Go.Am

namespace Go.Am
theorem nlt_trans {x y z : List Bool} (h1 : wlt x y = false) (h2 : wlt y z = false) : wlt x z = false := by
  cases h : wlt x z with
  | false => rfl
  | true =>
    by_cases he : x = y
    · subst he; rw [h] at h2; cases h2
    · rcases wlt_total he with h3 | h3
      · rw [h3] at h1; cases h1
      · rw [wlt_trans h3 h] at h2; cases h2
/-- In order as far as a, but for the place b. -/
def Ordx (l : List (List Bool)) (a b : Nat) : Prop := ∀ i j, i < j → j ≤ a → j ≠ b → wlt (l.getD j []) (l.getD i []) = false
def Ordt (l : List (List Bool)) (a : Nat) : Prop := ∀ i j, i < j → j < a → wlt (l.getD j []) (l.getD i []) = false
theorem Ordt.start {l : List (List Bool)} {a : Nat} (h : Ordt l a) : Ordx l a a := fun i j h1 h2 h3 => h i j h1 (by omega)
theorem Ordt.one (l : List (List Bool)) : Ordt l 1 := fun i j h1 h2 => by omega
theorem Ordx.zero {l : List (List Bool)} {a : Nat} (h : Ordx l a 0) : Ordt l (a + 1) := fun i j h1 h2 => h i j h1 (by omega) (by omega)
theorem Ordx.over {l : List (List Bool)} {a b : Nat} (h : Ordx l a b) (hb : 0 < b) (hn : wlt (l.getD b []) (l.getD (b - 1) []) = false) : Ordt l (a + 1) := by
  intro i j h1 h2
  by_cases hj : j = b
  · subst hj
    by_cases hi : i = j - 1
    · subst hi; exact hn
    · exact nlt_trans hn (h i (j - 1) (by omega) (by omega) (by omega))
  · exact h i j h1 (by omega) hj
def swpW (l : List (List Bool)) (b : Nat) : List (List Bool) := (l.set b (l.getD (b - 1) [])).set (b - 1) (l.getD b [])
theorem swpW_get {l : List (List Bool)} {b : Nat} (hb : 0 < b) (hl : b < l.length) (k : Nat) : (swpW l b).getD k [] = if k = b - 1 then l.getD b [] else if k = b then l.getD (b - 1) [] else l.getD k [] := by
  unfold swpW
  simp only [List.getD_eq_getElem?_getD, List.getElem?_set, List.length_set]
  by_cases h1 : k = b - 1
  · subst h1; rw [if_pos rfl, if_pos rfl, if_pos (by omega)]; rfl
  · rw [if_neg (by omega), if_neg h1]
    by_cases h2 : k = b
    · subst h2; rw [if_pos rfl, if_pos rfl, if_pos hl]; rfl
    · rw [if_neg (by omega), if_neg h2]
theorem swpW_perm {l : List (List Bool)} {b : Nat} (hl : b < l.length) : (swpW l b).Perm l := by
  have h := @List.set_set_perm _ l b (b - 1) hl (by omega)
  have e1 : l.getD (b - 1) [] = l[b - 1]'(by omega) := by rw [List.getD_eq_getElem?_getD, List.getElem?_eq_getElem (by omega)]; rfl
  have e2 : l.getD b [] = l[b]'hl := by rw [List.getD_eq_getElem?_getD, List.getElem?_eq_getElem hl]; rfl
  unfold swpW
  rw [e1, e2]
  exact h
theorem Ordx.swp {l : List (List Bool)} {a b : Nat} (h : Ordx l a b) (hb : 0 < b) (hab : b ≤ a) (hl : a < l.length) (hn : wlt (l.getD b []) (l.getD (b - 1) []) = true) : Ordx (swpW l b) a (b - 1) := by
  intro i j h1 h2 h3
  rw [swpW_get hb (by omega) j, swpW_get hb (by omega) i, if_neg h3]
  by_cases hj : j = b
  · subst hj
    rw [if_pos rfl]
    by_cases hi : i = j - 1
    · rw [if_pos hi]; exact wlt_asymm hn
    · rw [if_neg hi, if_neg (by omega)]; exact h i (j - 1) (by omega) (by omega) (by omega)
  · rw [if_neg hj]
    by_cases hi : i = b - 1
    · rw [if_pos hi]; exact h b j (by omega) h2 hj
    · rw [if_neg hi]
      by_cases hi2 : i = b
      · rw [if_pos hi2]; exact h (b - 1) j (by omega) h2 hj
      · rw [if_neg hi2]; exact h i j h1 h2 hj
theorem Ordt.pairs {l : List (List Bool)} (h : Ordt l l.length) : l.Pairwise fun a b => wlt b a = false := by
  rw [List.pairwise_iff_getElem]
  intro i j hi hj hij
  have := h i j hij hj
  rwa [List.getD_eq_getElem?_getD, List.getD_eq_getElem?_getD, List.getElem?_eq_getElem hi, List.getElem?_eq_getElem hj] at this
theorem Ordt.short {l : List (List Bool)} {a : Nat} (h : Ordt l a) (ha : l.length ≤ a) : Ordt l l.length := fun i j h1 h2 => h i j h1 (by omega)
/-! Looking for a word. -/
theorem asc_get {l : List (List Bool)} (h : Asc l) {i j : Nat} (hij : i < j) (hj : j < l.length) : wlt (l.getD i []) (l.getD j []) = true := by
  have := List.pairwise_iff_getElem.1 h i j (by omega) hj hij
  rwa [List.getD_eq_getElem?_getD, List.getD_eq_getElem?_getD, List.getElem?_eq_getElem (by omega : i < l.length), List.getElem?_eq_getElem hj]
/-- All ahead of i are less than t, from i on none is: t is a word of the row just if it is the one at i. -/
theorem asc_find {l : List (List Bool)} {t : List Bool} {i : Nat} (hi : i ≤ l.length) (h1 : ∀ k, k < i → wlt (l.getD k []) t = true) (h2 : ∀ k, i ≤ k → k < l.length → wlt (l.getD k []) t = false) (ha : Asc l) : (decide (i < l.length) && decide (l.getD i [] = t)) = decide (t ∈ l) := by
  by_cases hm : t ∈ l
  · obtain ⟨k, hk, he⟩ := List.getElem_of_mem hm
    have hg : l.getD k [] = t := by rw [List.getD_eq_getElem?_getD, List.getElem?_eq_getElem hk]; exact he
    have hik : i = k := by
      rcases Nat.lt_trichotomy i k with h | h | h
      · have h3 := asc_get ha h hk
        rw [hg] at h3
        rw [h2 i (Nat.le_refl _) (by omega)] at h3; cases h3
      · exact h
      · have h3 := h1 k h
        rw [hg, wlt_irr] at h3; cases h3
    subst hik
    rw [decide_eq_true hk, decide_eq_true hg, decide_eq_true hm]; rfl
  · rw [decide_eq_false hm]
    by_cases hl : i < l.length
    · have hne : l.getD i [] ≠ t := fun he => hm (by
        rw [List.getD_eq_getElem?_getD, List.getElem?_eq_getElem hl] at he
        exact he ▸ List.getElem_mem hl)
      rw [decide_eq_false hne, Bool.and_false]
    · rw [decide_eq_false hl]; rfl
end Go.Am

namespace Go.Am
instance : ScT Go.Proofs.Tryd.prog 3 := ScT.of (by kernel_rfl)
instance : IntT Go.Proofs.Tryd.prog 3 .i64 := IntT.of (by kernel_rfl)
instance : ZeT Go.Proofs.Tryd.prog 3 [.int .i64 0] := ⟨by kernel_rfl⟩
instance : ScT Go.Proofs.Tryd.prog 5 := ScT.of (by kernel_rfl)
instance : IntT Go.Proofs.Tryd.prog 5 .u8 := IntT.of (by kernel_rfl)
instance : ScT Go.Proofs.Tryd.prog 9 := ScT.of (by kernel_rfl)
instance : IntT Go.Proofs.Tryd.prog 21 .i32 := IntT.of (by kernel_rfl)
instance : ScT Go.Proofs.Tryd.prog 26 := ScT.of (by kernel_rfl)
instance : ZeT Go.Proofs.Tryd.prog 26 [.nils] := ⟨by kernel_rfl⟩
instance : SlT Go.Proofs.Tryd.prog 26 9 1 [.str ⟨#[]⟩] := SlT.of (by kernel_rfl) rfl (by decide)
instance : ScT Go.Proofs.Tryd.prog 54 := ScT.of (by kernel_rfl)
instance : ZeT Go.Proofs.Tryd.prog 54 [.nilm] := ⟨by kernel_rfl⟩
instance : ScT Go.Proofs.Tryd.prog 56 := ScT.of (by kernel_rfl)
instance : ZeT Go.Proofs.Tryd.prog 56 [.nilf] := ⟨by kernel_rfl⟩
instance : SlT Go.Proofs.Tryd.prog 57 3 1 [.int .i64 0] := SlT.of (by kernel_rfl) rfl (by decide)
instance : AgT Go.Proofs.Tryd.prog 70 11 := AgT.of (by kernel_rfl)
instance : ZeT Go.Proofs.Tryd.prog 70 [.int .i64 0, .int .i64 0, .int .i64 0, .int .i64 0, .int .i64 0, .int .i64 0, .int .i64 0, .int .i64 0, .int .i64 0, .int .i64 0, .int .i64 0] := ⟨by kernel_rfl⟩
instance : SlT Go.Proofs.Tryd.prog 76 26 1 [.nils] := SlT.of (by kernel_rfl) rfl (by decide)
instance : ScT Go.Proofs.Tryd.prog 80 := ScT.of (by kernel_rfl)
instance : ZeT Go.Proofs.Tryd.prog 81 [.int .u32 0, .int .u32 0, .int .u32 0, .int .u32 0, .int .u32 0, .int .u32 0, .int .u32 0, .int .u32 0, .int .u32 0, .int .u32 0, .int .u32 0, .int .u32 0, .int .u32 0, .int .u32 0, .int .u32 0, .int .u32 0, .int .u32 0, .int .u32 0, .int .u32 0, .int .u32 0, .int .u32 0, .int .u32 0, .int .u32 0, .int .u32 0, .int .u32 0, .int .u32 0, .int .u32 0, .int .u32 0, .int .u32 0, .int .u32 0, .int .u32 0, .int .u32 0] := ⟨by kernel_rfl⟩
instance : ScT Go.Proofs.Tryd.prog 82 := ScT.of (by kernel_rfl)
instance : ZeT Go.Proofs.Tryd.prog 82 [.nilf] := ⟨by kernel_rfl⟩
instance : IntT Go.Proofs.Tryd.prog 84 .u64 := IntT.of (by kernel_rfl)
instance : IntT Go.Proofs.Tryd.prog 113 .u64 := IntT.of (by kernel_rfl)
end Go.Am

namespace Go.Am
instance st9 : StT Go.Proofs.Tryd.prog 9 := ⟨by kernel_rfl⟩
instance mp47 : MpT Go.Proofs.Tryd.prog 47 9 (.bool false) := MpT.of (by kernel_rfl)
instance mp54 : MpT Go.Proofs.Tryd.prog 54 55 (.bool false) := MpT.of (by kernel_rfl)
instance ar70 : ArT Go.Proofs.Tryd.prog 70 11 := ArT.of (by kernel_rfl)
instance ar81 : ArT Go.Proofs.Tryd.prog 81 32 := ArT.of (by kernel_rfl)
instance ar100 : ArT Go.Proofs.Tryd.prog 100 32 := ArT.of (by kernel_rfl)
theorem mixed : Go.Proofs.Tryd.prog.follows .mixedOrders = true := by kernel_rfl
end Go.Am

namespace Go.Am
theorem wrap32 {a : Int} (h1 : -2147483648 ≤ a) (h2 : a ≤ 2147483647) : IntKind.i32.wrap a = a := by
  unfold IntKind.wrap
  simp [IntKind.bits, IntKind.signed]
  omega
theorem wrapU32 {a : Int} (h1 : 0 ≤ a) (h2 : a ≤ 4294967295) : IntKind.u32.wrap a = a := by
  unfold IntKind.wrap
  simp only [IntKind.bits, IntKind.signed, Bool.false_and]
  have e1 : (2 : Int) ^ 32 = 4294967296 := by decide
  rw [e1]
  simp
  omega
theorem wrapU16 {a : Int} (h1 : 0 ≤ a) (h2 : a ≤ 65535) : IntKind.u16.wrap a = a := by
  unfold IntKind.wrap
  simp only [IntKind.bits, IntKind.signed, Bool.false_and]
  have e1 : (2 : Int) ^ 16 = 65536 := by decide
  rw [e1]
  simp
  omega
theorem dec_ok {s : ByteArray} {p : Nat} (h : (Utf8.decode s p).1 = 48 ∨ (Utf8.decode s p).1 = 49) : ((s.get! p).toNat = 48 ∨ (s.get! p).toNat = 49) ∧ (Utf8.decode s p).2 = 1 := by
  have h1 : (s.get! p).toNat = 48 ∨ (s.get! p).toNat = 49 := Classical.byContradiction fun hn => by have := dec_bad hn; omega
  exact ⟨h1, by rw [dec_lo (by omega)]⟩
theorem lettS_of {s : ByteArray} (h : ∀ q, q < s.size → (s.get! q).toNat = 48 ∨ (s.get! q).toNat = 49) : lettS s = true := lettS_get.2 h
theorem lettS_not {s : ByteArray} {p : Nat} (hp : p < s.size) (h : ¬ ((s.get! p).toNat = 48 ∨ (s.get! p).toNat = 49)) : lettS s = false := by
  cases h2 : lettS s with
  | false => rfl
  | true => exact absurd (lettS_get.1 h2 p hp) h
theorem chk_19 {s : ByteArray} (h : 10 < s.size) : chkS s = 19 := by rw [chkS, if_pos h]
theorem chk_10 {s : ByteArray} (h : ¬ 10 < s.size) {p : Nat} (hp : p < s.size) (hb : ¬ ((s.get! p).toNat = 48 ∨ (s.get! p).toNat = 49)) : chkS s = 10 := by rw [chkS, if_neg h, lettS_not hp hb]; rfl
theorem chk_0 {s : ByteArray} (h : ¬ 10 < s.size) (hb : ∀ q, q < s.size → (s.get! q).toNat = 48 ∨ (s.get! q).toNat = 49) : chkS s = 0 := by rw [chkS, if_neg h, lettS_of hb]; rfl
theorem wtTo_small (w : List Bool) {k : Nat} (h : k ≤ 20) : wtTo w k ≤ 400 := Nat.le_trans (wtTo_le w k) (Nat.mul_le_mul h h)
theorem bch_cases (b : Bool) : ((bch b).toNat : Int) = 48 ∧ b = false ∨ ((bch b).toNat : Int) = 49 ∧ b = true := by cases b <;> simp [bch]
theorem wt_step (l : List Bool) (p : Nat) : ((p : Int) + 1) * (((bch (l.getD p false)).toNat : Int) - 48) = (((if l.getD p false = true then p + 1 else 0) : Nat) : Int) := by
  rcases bch_cases (l.getD p false) with ⟨h1, h2⟩ | ⟨h1, h2⟩
  · rw [h1, h2]; simp
  · rw [h1, h2]; simp
section
variable {P : Program} {n : Nat} {ops : Array Oper} {ex : List Nat} {Q : KF → AHeap → Prop} {k : Nat} {os : List Oper} {K : KF} {h h0 : AHeap} {d : Nat} {ty : TypeId} {pos : String} {after : Array Edge} {objs pre rest : List Obj}
theorem KOps.addK {t t' : TypeId} {x y : Operand} {kd : IntKind} {a b : Int} [hx : EvK h.globs n K x (.int kd a)] [hy : EvK h.globs n K y (.int kd b)] (hw : kd.wrap (a + b) = a + b)
    (hk : KOps P n ops ex Q (k + 1) os ((d, .int kd (a + b)) :: K) h) : KOps P n ops ex Q k (⟨some d, .binOp .add t x y t', ty, pos, after, none⟩ :: os) K h :=
  KOps.int (.inr (.inr rfl)) (by simp only [aint, hw]) hk
theorem KOps.subK {t t' : TypeId} {x y : Operand} {kd : IntKind} {a b : Int} [hx : EvK h.globs n K x (.int kd a)] [hy : EvK h.globs n K y (.int kd b)] (hw : kd.wrap (a - b) = a - b)
    (hk : KOps P n ops ex Q (k + 1) os ((d, .int kd (a - b)) :: K) h) : KOps P n ops ex Q k (⟨some d, .binOp .sub t x y t', ty, pos, after, none⟩ :: os) K h :=
  KOps.int (.inr (.inr rfl)) (by simp only [aint, hw]) hk
/-- A remainder of natural numbers. -/
theorem KOps.remN {t t' : TypeId} {x y : Operand} {a b : Int} {i j : Nat} [hx : EvK h.globs n K x (.int .i64 a)] [hy : EvK h.globs n K y (.int .i64 b)] (ha : a = (i : Int)) (hb : b = (j : Int)) (h0 : 0 < j) (hi : i < 9223372036854775807)
    (hk : KOps P n ops ex Q (k + 1) os ((d, .int .i64 ((i % j : Nat) : Int)) :: K) h) : KOps P n ops ex Q k (⟨some d, .binOp .rem t x y t', ty, pos, after, none⟩ :: os) K h := by
  subst ha; subst hb
  have e : (i : Int).tmod (j : Int) = ((i % j : Nat) : Int) := by rw [Int.tmod_eq_emod_of_nonneg (by omega)]; rfl
  have hl := Nat.mod_le i j
  refine KOps.rem (by omega) ?_ ?_ ?_ <;> rw [e]
  · omega
  · omega
  · exact hk
/-- How often a letter stands in a string: a function of Go's library without a body. -/
theorem KOps.countS {f : FuncId} {fn : Func} {g x y : Operand} {tys : Array TypeId} {s : ByteArray} {c : Int} [hg : EvK h.globs n K g (.fn f [])] [hx : EvK h.globs n K x (.str s)] [hy : EvK h.globs n K y (.int .u8 c)] (hf : P.funcs[f]? = some fn) (hname : (fn.name == "runtime.NumGoroutine") = false) (hb : fn.body.isNone = true) (hn : Extern.findNext fn = none) (he : Extern.find fn = some Extern.BytealgCount.count)
    (hk : KOps P n ops TXT Q (k + 1) os ((d, .int .i64 (Lib.countByte s.data.toList c.toNat.toUInt8)) :: K) h) (hlt : Nat.beq k 1000000 = false := by rfl) :
    KOps P n ops TXT Q k (⟨some d, .call { callee := .value g, args := #[x, y], argTypes := tys }, ty, pos, after, none⟩ :: os) K h := by
  refine KOps.stepT ⟨HGrow.refl _, ?_⟩ hk hlt
  intro φ a w K' Q' hfr r hops hk'
  have hgv := hops g (by simp [Op.operands, Call.operands])
  have hxv := hops x (by simp [Op.operands, Call.operands])
  have hyv := hops y (by simp [Op.operands, Call.operands])
  rw [hg.eq] at hgv
  rw [hx.eq] at hxv
  rw [hy.eq] at hyv
  generalize hgc : a.eval g = cg at hgv
  generalize hxc : a.eval x = cx at hxv
  generalize hyc : a.eval y = cy at hyv
  cases hgv with | fn _ _ cs hl hh =>
  cases hxv; cases hyv
  have h0 : cs = [] := List.length_eq_zero_iff.1 hl.symm
  subst h0
  have hrun : (execOp a.eval ⟨some d, .call { callee := .value g, args := #[x, y], argTypes := tys }, ty, pos, after, none⟩).run P w = .ok (.value (.int .i64 (Lib.countByte s.data.toList c.toNat.toUInt8))) w := by
    have hrc := run_callFunc_extern (w := w) (args := #[.string s, .int .u8 c]) hf hname hb hn he
    rw [Lib.run_countString] at hrc
    simp only [execOp, resolve, hgc, hxc, hyc, Deferred.ofValue, Sem.run_bind, Sem.run_pure, Result.andThen_ok, invoke]
    simpa [hxc, hyc] using hrc
  exact wp_of_run hrun (hk' φ _ w (Trans.refl _ _ _) r (.int _ _))
end
end Go.Am

namespace Go.Proofs
open Go.RowKit
open Go.Am (wd bch bitsW)
theorem Tryd.bit_and : ∀ x : Nat, x < 1024 → ∀ j : Nat, j < 10 → bits .and .i64 ((x : Int) / 2 ^ j) 1 = if x.testBit j then 1 else 0 := by decide +kernel
theorem Tryd.bit_rune {x j : Nat} (hx : x < 1024) (hj : j < 10) : wrap32 (48 + wrap32 (bits .and .i64 ((x : Int) / 2 ^ j) 1)) = ((bch (x.testBit j)).toNat : Int) := by
  rw [Tryd.bit_and x hx j hj]
  cases x.testBit j <;> decide +kernel
theorem Tryd.rune_cell (b : Bool) : Lib.runeCells ((bch b).toNat : Int) = Lib.byteCells [bch b] := by cases b <;> rfl
theorem Tryd.take_bits {x len k : Nat} (hk : k < len) : ((bitsW len x).take (k + 1)).map bch = ((bitsW len x).take k).map bch ++ [bch (x.testBit (len - 1 - k))] := by
  rw [List.take_add_one, Go.Am.bitsW_get hk, List.map_append]
  rfl
set_option maxHeartbeats 4000000 in
set_option maxRecDepth 1000000 in
theorem Tryd.written_walk (x len : Nat) (hx : x < 1024) (hlen : len ≤ 10) (w : World) :
    Calls Tryd.prog 56 #[.int .i64 (x : Int), .int .i64 (len : Int)] w fun e w' => e = .returned (.string (wd (bitsW len x))) ∧ Below w.heap.size w w' := by
  go_enter Tryd.func56, Tryd.ntmps56
  go_wp2
  go_loopw [8] (fun i wr => ∃ k : Nat, k ≤ len ∧ i = .int .i64 k ∧ Lib.IsBuilderF 91 5 w.heap.size w.heap.size (Lib.byteCells (((bitsW len x).take k).map bch)) wr ∧ Below w.heap.size w wr) (fun i _ => len - (intOf i).toNat)
  case atStart =>
    exact ⟨0, by omega, rfl, (Lib.IsBuilderF.of (Lib.fresh_isBuilder 91 5 w)), (Below.refl _ w).alloc (Nat.le_refl _) _⟩
  case round =>
    obtain ⟨k, hk, rfl, hI, hbw⟩ := hrel
    have hsz : w.heap.size ≤ wr.heap.size := hbw.size
    have hlb : (bitsW len x).length = len := Go.Am.bitsW_len len x
    by_cases hp : k < len
    · have hr := Tryd.bit_rune (x := x) (j := len - 1 - k) hx (by omega)
      have hb := Go.Am.bch_cases (x.testBit (len - 1 - k))
      go_wp2_with (go_at_call 71; rw [hr]; refine (Tryd.Builder_WriteRune_k w.heap.size w.heap.size _ _ (by omega) (by omega) _ hI (by rw [Lib.byteCells_length]; simp; omega) hsz).mono ?_)
      rintro e W1 ⟨rfl, h1, b1, k1⟩
      go_wp2
      go_roundw
      case rel =>
        refine ⟨k + 1, by omega, by go_num, ?_, hbw.trans b1⟩
        rw [Tryd.take_bits hp, Lib.byteCells_append, ← Tryd.rune_cell]
        exact Or.inr h1
      case measure =>
        simp [intOf]
        omega
    · have he : k = len := by omega
      subst he
      rw [List.take_of_length_le (by omega)] at hI
      go_wp2_with (go_at_call 72; refine (Tryd.Builder_String_any_k w.heap.size w.heap.size _ _ hI hsz).mono ?_)
      rintro e W1 ⟨rfl, _, b1, _⟩
      go_wp2
      go_ret
      exact ⟨rfl, hbw.trans b1⟩
end Go.Proofs

namespace Go.Am
theorem bit1 {b : Bool} (h : ((bch b).toNat : Int) = 49) : b = true := by
  rcases bch_cases b with q | q
  · omega
  · exact q.2
theorem bit0 {b : Bool} (h : ¬ ((bch b).toNat : Int) = 49) : ¬ b = true := by
  rcases bch_cases b with q | q
  · rw [q.2]; decide
  · omega
theorem take_succ_eq {l m : List (List Bool)} {i : Nat} (h1 : i < l.length) (h2 : i < m.length) (ht : l.take i = m.take i) (he : l.getD i [] = m.getD i []) : l.take (i + 1) = m.take (i + 1) := by
  rw [List.take_add_one, List.take_add_one, ht, List.getElem?_eq_getElem h1, List.getElem?_eq_getElem h2]
  rw [List.getD_eq_getElem?_getD, List.getD_eq_getElem?_getD, List.getElem?_eq_getElem h1, List.getElem?_eq_getElem h2] at he
  simp only [Option.getD_some] at he
  rw [he]
theorem check_c {h : AHeap} {s : ByteArray} : ACalls Go.Proofs.Tryd.prog 21 [.str s] h (fun q h' => q = .int .i64 (chkS s) ∧ Keeps h h') := by
  refine KA.fn 19 [.tmp 2] Go.Proofs.Tryd.func21 rfl (by decide) rfl rfl (Nat.le_of_ble_eq_true rfl) ?_
  have hS := St.refl h
  show KA _ 19 _ _ [(0, .str s)] _
  refine KA.seq ?_
  refine KA.region rfl ?_
  refine KOps.assign ?_
  refine KOps.done ?_
  refine sqQ.normal ?_
  refine KA.sub (Sub.cons (t := 0) Look.eq (Sub.nil _)) ?_
  refine KA.seq ?_
  refine KA.seq ?_
  refine KA.region rfl ?_
  refine KOps.move ?_
  refine KOps.lenStr ?_
  refine KOps.gtr ?_
  refine KOps.done ?_
  refine sqQ.normal ?_
  refine KA.sub (Sub.cons (t := 0) Look.eq (Sub.cons (t := 7) Look.eq (Sub.nil _))) ?_
  refine KA.condD ?_ ?_
  · intro c7
    refine KA.seq ?_
    refine KA.region rfl ?_
    refine KOps.assign ?_
    refine KOps.done ?_
    refine sqQ.normal ?_
    refine KA.sub (Sub.cons (t := 2) Look.eq (Sub.nil _)) ?_
    refine KA.ret ?_
    refine sqQ.ret ?_
    refine fnQ.ret1 ?_
    exact ⟨congrArg (AV.int .i64) (chk_19 (by omega)).symm, hS.keeps⟩
  · intro c7
    refine KA.skip ?_
    refine sqQ.normal ?_
    refine KA.sub (Sub.cons (t := 0) Look.eq (Sub.nil _)) ?_
    refine KA.seq ?_
    refine KA.seq ?_
    refine KA.region rfl ?_
    refine KOps.move ?_
    refine KOps.range hS rfl ?_
    intro v9 h' hv9 hS
    refine KOps.done ?_
    refine sqQ.normal ?_
    refine KA.sub (Sub.cons (t := 9) Look.eq (Sub.nil _)) ?_
    refine KA.block ?_
    refine KA.loop (X := Nat) (fun p => [(9, v9)]) (fun p h' => p ≤ s.size ∧ (∀ q, q < p → (s.get! q).toNat = 48 ∨ (s.get! q).toNat = 49) ∧ St h h' [walkO v9 s p]) (fun p => s.size - p) 0 (by repeat (first | exact Sub.nil _ | refine Sub.cons Look.eq ?_ | refine Sub.cons (Eq.trans Look.eq (congrArg (AV.int _) (by first | omega | (dsimp only; omega)))) ?_)) ?_ ?_
    · exact ⟨Nat.zero_le _, fun q hq => absurd hq (Nat.not_lt_zero _), hS⟩
    rintro p h2 ⟨hp, hb, hS⟩
    refine KA.seq ?_
    refine KA.region rfl ?_
    refine KOps.next hS hv9 (i := 0) rfl rfl ?_ ?_
    · intro np h' hS
      simp only [List.set_cons_zero, List.set_cons_succ, Nat.zero_add] at hS
      refine KOps.extract ?_
      refine KOps.done ?_
      refine sqQ.normal ?_
      refine KA.seq ?_
      refine KA.condT ?_
      refine KA.skip ?_
      refine sqQ.normal ?_
      refine KA.sub (Sub.cons (t := 9) Look.eq (Sub.cons (t := 10) Look.eq (Sub.nil _))) ?_
      refine KA.block ?_
      refine KA.seq ?_
      refine KA.region rfl ?_
      refine KOps.extract ?_
      refine KOps.assign ?_
      refine KOps.done ?_
      refine sqQ.normal ?_
      refine KA.sub (Sub.cons (t := 4) Look.eq (Sub.cons (t := 9) Look.eq (Sub.nil _))) ?_
      refine KA.seq ?_
      refine KA.region rfl ?_
      refine KOps.move ?_
      refine KOps.neq ?_
      refine KOps.move ?_
      refine KOps.guardB (dj := 15) rfl rfl true false rfl ?_ ?_
      · intro g15
        have g15 := not_of_not_decide g15
        refine KOps.move ?_
        refine KOps.guardYes (dj := 15) rfl rfl ?_
        refine KOps.neq ?_
        refine KOps.pickT ?_
        refine KOps.done ?_
        refine sqQ.normal ?_
        refine KA.sub (Sub.cons (t := 9) Look.eq (Sub.cons (t := 16) Look.eq (Sub.cons (t := 17) Look.eq (Sub.cons (t := 18) Look.eq (Sub.nil _))))) ?_
        refine KA.condN ?_ ?_
        · intro c18
          refine KA.seq ?_
          refine KA.region rfl ?_
          refine KOps.assign ?_
          refine KOps.done ?_
          refine sqQ.normal ?_
          refine KA.sub (Sub.cons (t := 2) Look.eq (Sub.nil _)) ?_
          refine KA.ret ?_
          refine blQ.ret ?_
          refine lpQ.ret ?_
          refine blQ.ret ?_
          refine sqQ.ret ?_
          refine fnQ.ret1 ?_
          exact ⟨congrArg (AV.int .i64) (chk_10 (by omega) np (fun hn => by
            have hd1 := congrArg Prod.fst (dec_lo (s := s) (p := p) (by omega))
            dsimp only at hd1
            omega)).symm, hS.keeps⟩
        · intro c18
          refine KA.skip ?_
          refine blQ.normal ?_
          have hd := dec_ok (s := s) (p := p) (by omega)
          rw [hd.2] at hS
          exact lpQ.normal (p + 1) (by repeat (first | exact Sub.nil _ | refine Sub.cons Look.eq ?_ | refine Sub.cons (Eq.trans Look.eq (congrArg (AV.int _) (by first | omega | (dsimp only; omega)))) ?_)) ⟨np, fun q hq => by
            rcases Nat.lt_succ_iff_lt_or_eq.1 hq with h | rfl
            · exact hb q h
            · exact hd.1, hS⟩ (by omega)
      · intro g15
        have g15 := of_not_decide g15
        refine KOps.guardNo (dj := 15) rfl rfl rfl ?_
        refine KOps.pickF ?_
        refine KOps.done ?_
        refine sqQ.normal ?_
        refine KA.sub (Sub.cons (t := 9) Look.eq (Sub.cons (t := 16) Look.eq (Sub.cons (t := 17) Look.eq (Sub.cons (t := 18) Look.eq (Sub.nil _))))) ?_
        refine KA.condF ?_
        refine KA.skip ?_
        refine blQ.normal ?_
        have hd := dec_ok (s := s) (p := p) (by omega)
        rw [hd.2] at hS
        exact lpQ.normal (p + 1) (by repeat (first | exact Sub.nil _ | refine Sub.cons Look.eq ?_ | refine Sub.cons (Eq.trans Look.eq (congrArg (AV.int _) (by first | omega | (dsimp only; omega)))) ?_)) ⟨np, fun q hq => by
          rcases Nat.lt_succ_iff_lt_or_eq.1 hq with h | rfl
          · exact hb q h
          · exact hd.1, hS⟩ (by omega)
    · intro np
      refine KOps.extract ?_
      refine KOps.done ?_
      refine sqQ.normal ?_
      refine KA.seq ?_
      refine KA.condF ?_
      refine KA.exit ?_
      refine sqQ.exit ?_
      refine lpQ.exit ?_
      refine blQ.here ?_
      refine sqQ.normal ?_
      refine KA.sub (Sub.nil _) ?_
      refine KA.seq ?_
      refine KA.region rfl ?_
      refine KOps.assign ?_
      refine KOps.done ?_
      refine sqQ.normal ?_
      refine KA.ret ?_
      refine fnQ.ret1 ?_
      exact ⟨congrArg (AV.int .i64) (chk_0 (by omega) (fun q hq => hb q (by omega))).symm, hS.keeps⟩

theorem heavy_c {h : AHeap} {l : List Bool} (hl : l.length ≤ 12) : ACalls Go.Proofs.Tryd.prog 48 [.str (wd l)] h (fun q h' => q = .int .i64 ((wt l : Nat) : Int) ∧ Keeps h h') := by
  refine KA.fn 21 [.tmp 2] Go.Proofs.Tryd.func48 rfl (by decide) rfl rfl (Nat.le_of_ble_eq_true rfl) ?_
  have hS := St.refl h
  show KA _ 21 _ _ [(0, .str (wd l))] _
  refine KA.seq ?_
  refine KA.region rfl ?_
  refine KOps.assign ?_
  refine KOps.done ?_
  refine sqQ.normal ?_
  refine KA.sub (Sub.cons (t := 0) Look.eq (Sub.nil _)) ?_
  refine KA.seq ?_
  refine KA.region rfl ?_
  refine KOps.assign ?_
  refine KOps.done ?_
  refine sqQ.normal ?_
  refine KA.seq ?_
  refine KA.seq ?_
  refine KA.region rfl ?_
  refine KOps.move ?_
  refine KOps.range hS rfl ?_
  intro v7 h' hv7 hS
  refine KOps.done ?_
  refine sqQ.normal ?_
  refine KA.sub (Sub.cons (t := 3) Look.eq (Sub.cons (t := 7) Look.eq (Sub.nil _))) ?_
  refine KA.block ?_
  refine KA.loop (X := Nat) (fun p => [(3, .int .i64 ((wtTo l p : Nat) : Int)), (7, v7)]) (fun p h' => p ≤ l.length ∧ St h h' [walkO v7 (wd l) p]) (fun p => l.length - p) 0 (by repeat (first | exact Sub.nil _ | refine Sub.cons Look.eq ?_ | refine Sub.cons (Eq.trans Look.eq (congrArg (AV.int _) (by first | omega | (dsimp only; omega)))) ?_)) ?_ ?_
  · exact ⟨Nat.zero_le _, hS⟩
  rintro p h2 ⟨hp, hS⟩
  refine KA.seq ?_
  refine KA.region rfl ?_
  refine KOps.next hS hv7 (i := 0) rfl rfl ?_ ?_
  · intro np h' hS
    simp only [List.set_cons_zero, List.set_cons_succ, Nat.zero_add] at hS
    have hlt : p < l.length := by rw [wd_size] at np; exact np
    simp only [dec_wd hlt] at hS ⊢
    have hsm := wtTo_small l (k := p) (by omega)
    have hst := wt_step l p
    have hbv := bch_cases (l.getD p false)
    refine KOps.extract ?_
    refine KOps.done ?_
    refine sqQ.normal ?_
    refine KA.seq ?_
    refine KA.condT ?_
    refine KA.skip ?_
    refine sqQ.normal ?_
    refine KA.sub (Sub.cons (t := 3) Look.eq (Sub.cons (t := 7) Look.eq (Sub.cons (t := 8) Look.eq (Sub.nil _)))) ?_
    refine KA.block ?_
    refine KA.seq ?_
    refine KA.region rfl ?_
    refine KOps.extract ?_
    refine KOps.extract ?_
    refine KOps.assign ?_
    refine KOps.assign ?_
    refine KOps.done ?_
    refine sqQ.normal ?_
    refine KA.sub (Sub.cons (t := 3) Look.eq (Sub.cons (t := 4) Look.eq (Sub.cons (t := 5) Look.eq (Sub.cons (t := 7) Look.eq (Sub.nil _))))) ?_
    refine KA.region rfl ?_
    refine KOps.move ?_
    refine KOps.move ?_
    refine KOps.add (by first | omega | (simp; omega)) (by first | omega | (simp; omega)) ?_
    refine KOps.move ?_
    refine KOps.subK (wrap32 (by first | omega | (simp; omega)) (by first | omega | (simp; omega))) ?_
    refine KOps.convIn (wrap64 (by omega) (by omega)) ?_
    refine KOps.mul (by rw [hst]; split <;> omega) (by rw [hst]; split <;> omega) ?_
    rw [hst]
    refine KOps.add (by split <;> omega) (by split <;> omega) ?_
    refine KOps.assign ?_
    refine KOps.done ?_
    refine blQ.normal ?_
    have hw : wtTo l (p + 1) = wtTo l p + if l.getD p false = true then p + 1 else 0 := rfl
    exact lpQ.normal (p + 1) (by repeat (first | exact Sub.nil _ | refine Sub.cons Look.eq ?_ | refine Sub.cons (Eq.trans Look.eq (congrArg (AV.int _) (by first | omega | (dsimp only; omega)))) ?_ | refine Sub.cons (Eq.trans Look.eq (by rw [hw, Int.natCast_add])) ?_)) ⟨by omega, hS⟩ (by omega)
  · intro np
    refine KOps.extract ?_
    refine KOps.done ?_
    refine sqQ.normal ?_
    refine KA.seq ?_
    refine KA.condF ?_
    refine KA.exit ?_
    refine sqQ.exit ?_
    refine lpQ.exit ?_
    refine blQ.here ?_
    refine sqQ.normal ?_
    refine KA.sub (Sub.cons (t := 3) Look.eq (Sub.nil _)) ?_
    refine KA.seq ?_
    refine KA.region rfl ?_
    refine KOps.move ?_
    refine KOps.assign ?_
    refine KOps.done ?_
    refine sqQ.normal ?_
    refine KA.sub (Sub.cons (t := 2) Look.eq (Sub.nil _)) ?_
    refine KA.ret ?_
    refine fnQ.ret1 ?_
    have he : p = l.length := by rw [wd_size] at np; omega
    subst he
    exact ⟨rfl, hS.keeps⟩

theorem coded_c {h : AHeap} {a b : Int} : ACalls Go.Proofs.Tryd.prog 55 [.int .i64 a, .int .i64 b] h (fun q h' => q = .bool (decide ((0 ≤ a ∧ a ≤ 10) ∧ (0 ≤ b ∧ b ≤ a))) ∧ h = h') := by
  refine KA.fn 20 [.tmp 4] Go.Proofs.Tryd.func55 rfl (by decide) rfl rfl (Nat.le_of_ble_eq_true rfl) ?_
  show KA _ 20 _ _ [(0, .int .i64 a), (1, .int .i64 b)] _
  refine KA.seq ?_
  refine KA.region rfl ?_
  refine KOps.assign ?_
  refine KOps.done ?_
  refine sqQ.normal ?_
  refine KA.sub (Sub.cons (t := 0) Look.eq (Sub.cons (t := 1) Look.eq (Sub.nil _))) ?_
  refine KA.seq ?_
  refine KA.region rfl ?_
  refine KOps.move ?_
  refine KOps.geq ?_
  refine KOps.move ?_
  refine KOps.guardB (dj := 7) rfl rfl true false rfl ?_ ?_
  · intro g7
    have g7 := of_decide_eq_true g7
    refine KOps.move ?_
    refine KOps.guardYes (dj := 7) rfl rfl ?_
    refine KOps.leq ?_
    refine KOps.pickT ?_
    refine KOps.move ?_
    refine KOps.guardB (dj := 11) rfl rfl true false rfl ?_ ?_
    · intro g11
      have g11 := of_decide_eq_true g11
      refine KOps.move ?_
      refine KOps.guardYes (dj := 11) rfl rfl ?_
      refine KOps.geq ?_
      refine KOps.pickT ?_
      refine KOps.move ?_
      refine KOps.guardB (dj := 15) rfl rfl true false rfl ?_ ?_
      · intro g15
        have g15 := of_decide_eq_true g15
        refine KOps.move ?_
        refine KOps.guardYes (dj := 15) rfl rfl ?_
        refine KOps.move ?_
        refine KOps.guardYes (dj := 15) rfl rfl ?_
        refine KOps.leq ?_
        refine KOps.pickT ?_
        refine KOps.assign ?_
        refine KOps.done ?_
        refine sqQ.normal ?_
        refine KA.sub (Sub.cons (t := 4) Look.eq (Sub.nil _)) ?_
        refine KA.ret ?_
        refine fnQ.ret1 ?_
        first | exact ⟨congrArg AV.bool (decide_eq_decide.2 (by omega)), rfl⟩ | exact ⟨congrArg AV.bool (decide_eq_false (by omega)).symm, rfl⟩
      · intro g15
        have g15 := of_decide_eq_false g15
        refine KOps.guardNo (dj := 15) rfl rfl rfl ?_
        refine KOps.guardNo (dj := 15) rfl rfl rfl ?_
        refine KOps.pickF ?_
        refine KOps.assign ?_
        refine KOps.done ?_
        refine sqQ.normal ?_
        refine KA.sub (Sub.cons (t := 4) Look.eq (Sub.nil _)) ?_
        refine KA.ret ?_
        refine fnQ.ret1 ?_
        first | exact ⟨congrArg AV.bool (decide_eq_decide.2 (by omega)), rfl⟩ | exact ⟨congrArg AV.bool (decide_eq_false (by omega)).symm, rfl⟩
    · intro g11
      have g11 := of_decide_eq_false g11
      refine KOps.guardNo (dj := 11) rfl rfl rfl ?_
      refine KOps.pickF ?_
      refine KOps.move ?_
      refine KOps.guardNo (dj := 15) rfl rfl rfl ?_
      refine KOps.guardNo (dj := 15) rfl rfl rfl ?_
      refine KOps.guardNo (dj := 15) rfl rfl rfl ?_
      refine KOps.pickF ?_
      refine KOps.assign ?_
      refine KOps.done ?_
      refine sqQ.normal ?_
      refine KA.sub (Sub.cons (t := 4) Look.eq (Sub.nil _)) ?_
      refine KA.ret ?_
      refine fnQ.ret1 ?_
      first | exact ⟨congrArg AV.bool (decide_eq_decide.2 (by omega)), rfl⟩ | exact ⟨congrArg AV.bool (decide_eq_false (by omega)).symm, rfl⟩
  · intro g7
    have g7 := of_decide_eq_false g7
    refine KOps.guardNo (dj := 7) rfl rfl rfl ?_
    refine KOps.pickF ?_
    refine KOps.move ?_
    refine KOps.guardNo (dj := 11) rfl rfl rfl ?_
    refine KOps.guardNo (dj := 11) rfl rfl rfl ?_
    refine KOps.pickF ?_
    refine KOps.move ?_
    refine KOps.guardNo (dj := 15) rfl rfl rfl ?_
    refine KOps.guardNo (dj := 15) rfl rfl rfl ?_
    refine KOps.guardNo (dj := 15) rfl rfl rfl ?_
    refine KOps.pickF ?_
    refine KOps.assign ?_
    refine KOps.done ?_
    refine sqQ.normal ?_
    refine KA.sub (Sub.cons (t := 4) Look.eq (Sub.nil _)) ?_
    refine KA.ret ?_
    refine fnQ.ret1 ?_
    first | exact ⟨congrArg AV.bool (decide_eq_decide.2 (by omega)), rfl⟩ | exact ⟨congrArg AV.bool (decide_eq_false (by omega)).symm, rfl⟩

theorem list_c {h : AHeap} {v : AV} : ACalls Go.Proofs.Tryd.prog 43 [v] h (fun q h' => q = v ∧ h = h') := by
  refine KA.fn 4 [.tmp 2] Go.Proofs.Tryd.func43 rfl (by decide) rfl rfl (Nat.le_of_ble_eq_true rfl) ?_
  show KA _ 4 _ _ [(0, v)] _
  refine KA.seq ?_
  refine KA.region rfl ?_
  refine KOps.assign ?_
  refine KOps.done ?_
  refine sqQ.normal ?_
  refine KA.sub (Sub.cons (t := 0) Look.eq (Sub.nil _)) ?_
  refine KA.seq ?_
  refine KA.region rfl ?_
  refine KOps.move ?_
  refine KOps.assign ?_
  refine KOps.done ?_
  refine sqQ.normal ?_
  refine KA.sub (Sub.cons (t := 2) Look.eq (Sub.nil _)) ?_
  refine KA.ret ?_
  refine fnQ.ret1 ?_
  exact ⟨rfl, rfl⟩

theorem same_c {h : AHeap} {va vb : AV} {l m : List (List Bool)} (ha : WRow h va l) (hb : WRow h vb m) (hn : l.length ≤ 1000000) : ACalls Go.Proofs.Tryd.prog 20 [va, vb] h (fun q h' => q = .bool (decide (l = m)) ∧ h = h') := by
  refine KA.fn 26 [.tmp 4] Go.Proofs.Tryd.func20 rfl (by decide) rfl rfl (Nat.le_of_ble_eq_true rfl) ?_
  show KA _ 26 _ _ [(0, va), (1, vb)] _
  refine KA.seq ?_
  refine KA.region rfl ?_
  refine KOps.assign ?_
  refine KOps.done ?_
  refine sqQ.normal ?_
  refine KA.sub (Sub.cons (t := 0) Look.eq (Sub.cons (t := 1) Look.eq (Sub.nil _))) ?_
  refine KA.seq ?_
  refine KA.seq ?_
  refine KA.region rfl ?_
  refine KOps.move ?_
  refine KOps.lenI ha ?_
  refine KOps.move ?_
  refine KOps.lenI hb ?_
  refine KOps.neq ?_
  refine KOps.done ?_
  refine sqQ.normal ?_
  refine KA.sub (Sub.cons (t := 0) Look.eq (Sub.cons (t := 1) Look.eq (Sub.cons (t := 10) Look.eq (Sub.nil _)))) ?_
  refine KA.condN ?_ ?_
  · intro c10
    refine KA.seq ?_
    refine KA.region rfl ?_
    refine KOps.assign ?_
    refine KOps.done ?_
    refine sqQ.normal ?_
    refine KA.sub (Sub.cons (t := 4) Look.eq (Sub.nil _)) ?_
    refine KA.ret ?_
    refine sqQ.ret ?_
    refine fnQ.ret1 ?_
    exact ⟨congrArg AV.bool (decide_eq_false (fun e => by subst e; omega)).symm, rfl⟩
  · intro c10
    refine KA.skip ?_
    refine sqQ.normal ?_
    refine KA.sub (Sub.cons (t := 0) Look.eq (Sub.cons (t := 1) Look.eq (Sub.nil _))) ?_
    refine KA.seq ?_
    refine KA.seq ?_
    refine KA.region rfl ?_
    refine KOps.assign ?_
    refine KOps.done ?_
    refine sqQ.normal ?_
    refine KA.block ?_
    refine KA.loop (X := Nat) (fun i => [(0, va), (1, vb), (5, .int .i64 (i : Int))]) (fun i h' => i ≤ l.length ∧ l.take i = m.take i ∧ h = h') (fun i => l.length - i) 0 (by repeat (first | exact Sub.nil _ | refine Sub.cons Look.eq ?_ | refine Sub.cons (Eq.trans Look.eq (congrArg (AV.int _) (by first | omega | (dsimp only; omega)))) ?_)) ?_ ?_
    · exact ⟨Nat.zero_le _, rfl, rfl⟩
    rintro i h2 ⟨hi, ht, rfl⟩
    refine KA.seq ?_
    refine KA.seq ?_
    refine KA.region rfl ?_
    refine KOps.move ?_
    refine KOps.move ?_
    refine KOps.lenI ha ?_
    refine KOps.lss ?_
    refine KOps.done ?_
    refine sqQ.normal ?_
    refine KA.sub (Sub.cons (t := 0) Look.eq (Sub.cons (t := 1) Look.eq (Sub.cons (t := 5) Look.eq (Sub.cons (t := 14) Look.eq (Sub.nil _))))) ?_
    refine KA.condD ?_ ?_
    · intro c14
      refine KA.skip ?_
      refine sqQ.normal ?_
      refine KA.sub (Sub.cons (t := 0) Look.eq (Sub.cons (t := 1) Look.eq (Sub.cons (t := 5) Look.eq (Sub.nil _)))) ?_
      refine KA.seq ?_
      refine KA.block ?_
      refine KA.seq ?_
      refine KA.draw [] mixed rfl (by kernel_rfl) ?_
      refine KOps.move ?_
      refine KOps.move ?_
      refine KOps.indexIJ ha (j := i) rfl (by first | omega | (simp; omega)) ?_
      intro p19 hp19
      refine KOps.loadW hp19 ha (by first | omega | (simp; omega)) ?_
      refine KOps.move ?_
      refine KOps.move ?_
      refine KOps.indexIJ hb (j := i) rfl (by first | omega | (simp; omega)) ?_
      intro p23 hp23
      refine KOps.loadW hp23 hb (by first | omega | (simp; omega)) ?_
      refine KOps.wNeq ?_
      refine KOps.done ?_
      refine sqQ.normal ?_
      refine KA.sub (Sub.cons (t := 0) Look.eq (Sub.cons (t := 1) Look.eq (Sub.cons (t := 5) Look.eq (Sub.cons (t := 25) Look.eq (Sub.nil _))))) ?_
      refine KA.condN ?_ ?_
      · intro c25
        refine KA.seq ?_
        refine KA.region rfl ?_
        refine KOps.assign ?_
        refine KOps.done ?_
        refine sqQ.normal ?_
        refine KA.sub (Sub.cons (t := 4) Look.eq (Sub.nil _)) ?_
        refine KA.ret ?_
        refine blQ.ret ?_
        refine sqQ.ret ?_
        refine lpQ.ret ?_
        refine blQ.ret ?_
        refine sqQ.ret ?_
        refine fnQ.ret1 ?_
        exact ⟨congrArg AV.bool (decide_eq_false (fun e => by subst e; exact c25 rfl)).symm, rfl⟩
      · intro c25
        refine KA.skip ?_
        refine blQ.normal ?_
        refine sqQ.normal ?_
        refine KA.sub (Sub.cons (t := 0) Look.eq (Sub.cons (t := 1) Look.eq (Sub.cons (t := 5) Look.eq (Sub.nil _)))) ?_
        refine KA.region rfl ?_
        refine KOps.move ?_
        refine KOps.add (by first | omega | (simp; omega)) (by first | omega | (simp; omega)) ?_
        refine KOps.assign ?_
        refine KOps.done ?_
        exact lpQ.normal (i + 1) (by repeat (first | exact Sub.nil _ | refine Sub.cons Look.eq ?_ | refine Sub.cons (Eq.trans Look.eq (congrArg (AV.int _) (by first | omega | (dsimp only; omega)))) ?_)) ⟨by omega, take_succ_eq (by omega) (by omega) ht c25, rfl⟩ (by omega)
    · intro c14
      refine KA.exit ?_
      refine sqQ.exit ?_
      refine lpQ.exit ?_
      refine blQ.here ?_
      refine sqQ.normal ?_
      refine KA.sub (Sub.nil _) ?_
      refine KA.seq ?_
      refine KA.region rfl ?_
      refine KOps.assign ?_
      refine KOps.done ?_
      refine sqQ.normal ?_
      refine KA.ret ?_
      refine fnQ.ret1 ?_
      exact ⟨congrArg AV.bool (decide_eq_true (by rw [← List.take_length (l := l), ← List.take_length (l := m), show m.length = i by omega, show l.length = i by omega]; exact ht)).symm, rfl⟩

end Go.Am
