/-
  Layer 08: sets of words as maps; words by numbers.
  Conditions: none.
-/
import Derived.Test.YtfoiccnlcheklaaDoorCl
namespace Go.Am
theorem nodup_le {α : Type} [DecidableEq α] : ∀ {l m : List α}, l.Nodup → (∀ x ∈ l, x ∈ m) → l.length ≤ m.length := by
  intro l
  induction l with
  | nil => intro m _ _; exact Nat.zero_le _
  | cons a l ih =>
    intro m hn hs
    have hn' := List.nodup_cons.1 hn
    have ha := hs a (by simp)
    have h1 := ih (m := m.erase a) hn'.2 (fun x hx => (List.mem_erase_of_ne (by rintro rfl; exact hn'.1 hx)).2 (hs x (by simp [hx])))
    rw [List.length_erase_of_mem ha] at h1
    have := List.length_pos_of_mem ha
    rw [List.length_cons]
    omega
theorem nodup_len {α : Type} [DecidableEq α] {l m : List α} (hl : l.Nodup) (hm : m.Nodup) (h : ∀ x, x ∈ l ↔ x ∈ m) : l.length = m.length :=
  Nat.le_antisymm (nodup_le hl fun x hx => (h x).1 hx) (nodup_le hm fun x hx => (h x).2 hx)
theorem Asc.nodup {l : List (List Bool)} (h : Asc l) : l.Nodup := h.imp fun {a b} hab e => by rw [e, wlt_irr] at hab; cases hab
theorem longW_asc (w : List Bool) : Asc (longW w) := filter_asc (allW_asc _) _
theorem longW_len (w : List Bool) : (longW w).length = w.length + 2 := by
  rw [nodup_len (longW_asc w).nodup (more_nodup w (Nat.le_refl _)) (fun x => mem_longW.trans mem_more.symm), moreTo_len]
def wordN (x n : Nat) : List Bool := (List.range n).map x.testBit
theorem wordN_len (x n : Nat) : (wordN x n).length = n := by rw [wordN, List.length_map, List.length_range]
theorem wordN_succ (x n : Nat) : wordN x (n + 1) = wordN x n ++ [x.testBit n] := by rw [wordN, wordN, List.range_succ, List.map_append]; rfl
theorem and16 {y : Nat} (hy : y < 65536) : Go.bits .and .u16 (y : Int) 1 = ((y % 2 : Nat) : Int) := by
  have h0 : ∀ z : Nat, z < 65536 → (BitVec.ofInt 16 (z : Int)).toNat = z := fun z hz => by
    rw [BitVec.ofInt_natCast, BitVec.toNat_ofNat]
    exact Nat.mod_eq_of_lt hz
  have h1 : (BitVec.ofInt 16 (y : Int) &&& BitVec.ofInt 16 ((1 : Nat) : Int)).toNat = y % 2 := by rw [BitVec.toNat_and, h0 y hy, h0 1 (by decide), Nat.and_one_is_mod]
  show IntKind.u16.wrap (((BitVec.ofInt 16 (y : Int) &&& BitVec.ofInt 16 ((1 : Nat) : Int)).toNat : Nat) : Int) = _
  rw [h1]
  exact wrapU16 (by omega) (by omega)
theorem bit_mod (x i : Nat) : (([false, true].drop (x >>> i % 2)).take 1) = [x.testBit i] := by
  have h : x.testBit i = decide (x >>> i % 2 = 1) := by
    rw [Nat.testBit, Nat.one_and_eq_mod_two]
    rcases Nat.mod_two_eq_zero_or_one (x >>> i) with e | e <;> rw [e] <;> rfl
  rw [h]
  rcases Nat.mod_two_eq_zero_or_one (x >>> i) with e | e <;> rw [e] <;> rfl
/-! Sets. -/
section
variable {P : Program} {n : Nat} {ops : Array Oper} {ex : List Nat} {Q : KF → AHeap → Prop} {k : Nat} {os : List Oper} {K : KF} {h h0 : AHeap} {d : Nat} {ty : TypeId} {pos : String} {after : Array Edge} {objs : List Obj}
end
end Go.Am

namespace Go.Am
theorem word_c {h : AHeap} {x n : Nat} (hx : x < 65536) (hn : n ≤ 12) : ACalls Go.Proofs.Tryd.prog 37 [.int .u16 (x : Int), .int .i64 (n : Int)] h (fun q h' => q = .str (wd (wordN x n)) ∧ h = h') := by
  refine KA.fn 21 [.tmp 4] Go.Proofs.Tryd.func37 rfl (by decide) rfl rfl (Nat.le_of_ble_eq_true rfl) ?_
  show KA _ 21 _ _ [(0, .int .u16 (x : Int)), (1, .int .i64 (n : Int))] _
  refine KA.seq ?_
  refine KA.region rfl ?_
  refine KOps.assign ?_
  refine KOps.done ?_
  refine sqQ.normal ?_
  refine KA.sub (Sub.cons (t := 0) Look.eq (Sub.cons (t := 1) Look.eq (Sub.nil _))) ?_
  refine KA.seq ?_
  refine KA.region rfl ?_
  refine KOps.assign ?_
  refine KOps.done ?_
  refine sqQ.normal ?_
  refine KA.seq ?_
  refine KA.seq ?_
  refine KA.region rfl ?_
  refine KOps.move ?_
  refine KOps.move ?_
  refine KOps.done ?_
  refine sqQ.normal ?_
  refine KA.sub (Sub.cons (t := 0) Look.eq (Sub.cons (t := 5) Look.eq (Sub.cons (t := 7) Look.eq (Sub.cons (t := 8) Look.eq (Sub.nil _))))) ?_
  refine KA.block ?_
  refine KA.loop (X := Nat) (fun i => [(0, .int .u16 (x : Int)), (5, .str (wd (wordN x i))), (7, .int .i64 (n : Int)), (8, .int .i64 (i : Int))]) (fun i h' => i ≤ n ∧ h = h') (fun i => n - i) 0 (by repeat (first | exact Sub.nil _ | refine Sub.cons Look.eq ?_ | refine Sub.cons (Eq.trans Look.eq (congrArg (AV.int _) (by first | omega | (dsimp only; omega)))) ?_)) ?_ ?_
  · exact ⟨Nat.zero_le _, rfl⟩
  rintro i h2 ⟨hi, rfl⟩
  refine KA.seq ?_
  refine KA.region rfl ?_
  refine KOps.lss ?_
  refine KOps.done ?_
  refine sqQ.normal ?_
  refine KA.seq ?_
  refine KA.condD ?_ ?_
  · intro c9
    refine KA.skip ?_
    refine sqQ.normal ?_
    refine KA.sub (Sub.cons (t := 0) Look.eq (Sub.cons (t := 5) Look.eq (Sub.cons (t := 7) Look.eq (Sub.cons (t := 8) Look.eq (Sub.nil _))))) ?_
    refine KA.seq ?_
    refine KA.block ?_
    refine KA.seq ?_
    refine KA.region rfl ?_
    refine KOps.move ?_
    refine KOps.assign ?_
    refine KOps.done ?_
    refine sqQ.normal ?_
    refine KA.sub (Sub.cons (t := 0) Look.eq (Sub.cons (t := 5) Look.eq (Sub.cons (t := 6) Look.eq (Sub.cons (t := 7) Look.eq (Sub.cons (t := 8) Look.eq (Sub.nil _)))))) ?_
    refine KA.region rfl ?_
    have hwl := wordN_len x i
    have hsh : x >>> i < 65536 := by
      rw [Nat.shiftRight_eq_div_pow]
      exact Nat.lt_of_le_of_lt (Nat.div_le_self ..) hx
    refine KOps.move ?_
    refine KOps.move ?_
    refine KOps.move ?_
    refine KOps.shr (by omega) ?_
    rw [shrU x i .u16 (show i ≤ 16 by omega)]
    refine KOps.bits (by simp) ?_
    rw [and16 hsh]
    refine KOps.wLo (l := [false, true]) (j := x >>> i % 2) rfl (by simp only [List.length_cons, List.length_nil]; omega) ?_
    refine KOps.wHi (j := 1) rfl (by rw [List.length_drop]; simp only [List.length_cons, List.length_nil]; omega) ?_
    rw [bit_mod]
    refine KOps.wAdd (by simp only [List.length_cons, List.length_nil]; omega) ?_
    refine KOps.assign ?_
    refine KOps.done ?_
    refine blQ.normal ?_
    refine sqQ.normal ?_
    refine KA.sub (Sub.cons (t := 0) Look.eq (Sub.cons (t := 5) Look.eq (Sub.cons (t := 7) Look.eq (Sub.cons (t := 8) Look.eq (Sub.nil _))))) ?_
    refine KA.region rfl ?_
    refine KOps.add (by first | omega | (simp; omega)) (by first | omega | (simp; omega)) ?_
    refine KOps.move ?_
    refine KOps.done ?_
    exact lpQ.normal (i + 1) (by repeat (first | exact Sub.nil _ | refine Sub.cons Look.eq ?_ | refine Sub.cons (Eq.trans Look.eq (congrArg (AV.int _) (by first | omega | (dsimp only; omega)))) ?_ | refine Sub.cons (Eq.trans Look.eq (congrArg (fun w => AV.str (wd w)) (wordN_succ x i).symm)) ?_)) ⟨by omega, rfl⟩ (by omega)
  · intro c9
    refine KA.exit ?_
    refine sqQ.exit ?_
    refine lpQ.exit ?_
    refine blQ.here ?_
    refine sqQ.normal ?_
    refine KA.sub (Sub.cons (t := 5) Look.eq (Sub.nil _)) ?_
    refine KA.seq ?_
    refine KA.region rfl ?_
    refine KOps.move ?_
    refine KOps.assign ?_
    refine KOps.done ?_
    refine sqQ.normal ?_
    refine KA.sub (Sub.cons (t := 4) Look.eq (Sub.nil _)) ?_
    refine KA.ret ?_
    refine fnQ.ret1 ?_
    have he : i = n := by omega
    subst he
    exact ⟨rfl, rfl⟩

theorem wf_u16 {a : Int} (h : (Lit.int .u16 a).wf = true) : 0 ≤ a ∧ a ≤ 65535 := by
  simp [Lit.wf, IntKind.min, IntKind.max, IntKind.signed, IntKind.bits] at h
  omega
end Go.Am

namespace Go.Am
def turnW (b : Bool) (w : List Bool) : List Bool := if b = true then w.reverse else w.map (! ·)
theorem turnW_len (b : Bool) (w : List Bool) : (turnW b w).length = w.length := by cases b <;> simp [turnW]
theorem turnW_turn (b : Bool) (w : List Bool) : turnW b (turnW b w) = w := by
  cases b
  · simp [turnW, Function.comp_def]
  · simp [turnW]
theorem turnW_inj {b : Bool} {x y : List Bool} (h : turnW b x = turnW b y) : x = y := by rw [← turnW_turn b x, h, turnW_turn]
theorem turn_snoc (b : Bool) (l : List Bool) {p : Nat} (hp : p < l.length) : turnW b (l.take (p + 1)) = if b = true then l.getD p false :: turnW b (l.take p) else turnW b (l.take p) ++ [!l.getD p false] := by
  rw [List.take_add_one, List.getElem?_eq_getElem hp, List.getD_eq_getElem?_getD, List.getElem?_eq_getElem hp, Option.toList_some, Option.getD_some]
  cases b
  · show (l.take p ++ [l[p]]).map (! ·) = (l.take p).map (! ·) ++ [!l[p]]
    rw [List.map_append]; rfl
  · show (l.take p ++ [l[p]]).reverse = l[p] :: (l.take p).reverse
    rw [List.reverse_append]; rfl
theorem erase_rev {w : List Bool} {i : Nat} (hi : i < w.length) : w.reverse.eraseIdx (w.length - 1 - i) = (w.eraseIdx i).reverse := by
  rw [erase_take, erase_take, List.take_reverse, List.drop_reverse, List.reverse_append]
  rw [show w.length - (w.length - 1 - i) = i + 1 by omega, show w.length - (w.length - 1 - i + 1) = i by omega]
theorem del_turn1 {b : Bool} {w x : List Bool} (h : isDel w x = true) : isDel (turnW b w) (turnW b x) = true := by
  obtain ⟨i, hi, rfl⟩ := isDel_iff.1 h
  cases b
  · refine isDel_iff.2 ⟨i, by rw [turnW_len]; exact hi, ?_⟩
    show (w.map (! ·)).eraseIdx i = (w.eraseIdx i).map (! ·)
    rw [erase_take, erase_take, List.map_append, List.map_take, List.map_drop]
  · exact isDel_iff.2 ⟨w.length - 1 - i, by rw [turnW_len]; omega, erase_rev hi⟩
theorem del_turn {b : Bool} {w x : List Bool} : isDel (turnW b w) (turnW b x) = true ↔ isDel w x = true :=
  ⟨fun h => by
    have := del_turn1 (b := b) h
    rwa [turnW_turn, turnW_turn] at this, del_turn1⟩
theorem clash_turn (b : Bool) (x y : List Bool) : clashW (turnW b x) (turnW b y) = clashW x y := by
  have h1 : ∀ u v : List Bool, clashW u v = true → clashW (turnW b u) (turnW b v) = true := fun u v h => by
    obtain ⟨z, h2, h3⟩ := clash_iff.1 h
    exact clash_iff.2 ⟨turnW b z, del_turn.2 h2, del_turn.2 h3⟩
  cases hc : clashW x y with
  | true => exact h1 x y hc
  | false =>
    cases hd : clashW (turnW b x) (turnW b y) with
    | false => rfl
    | true =>
      have := h1 _ _ hd
      rw [turnW_turn, turnW_turn, hc] at this
      cases this
theorem short_turn_mem {b : Bool} {w x : List Bool} (h : x ∈ shortW w) : turnW b x ∈ shortW (turnW b w) := mem_shortW.2 (del_turn.2 (mem_shortW.1 h))
theorem long_turn_mem {b : Bool} {w x : List Bool} (h : x ∈ longW w) : turnW b x ∈ longW (turnW b w) := mem_longW.2 (del_turn.2 (mem_longW.1 h))
theorem map_nodup {α β : Type} {f : α → β} (hf : ∀ a b, f a = f b → a = b) {l : List α} (h : l.Nodup) : (l.map f).Nodup := by
  rw [List.nodup_iff_pairwise_ne, List.pairwise_map]
  exact h.imp fun {a b} hab e => hab (hf a b e)
theorem short_turn_len (b : Bool) (w : List Bool) : (shortW (turnW b w)).length = (shortW w).length := by
  have hmap : ((shortW w).map (turnW b)).length = (shortW w).length := List.length_map ..
  rw [← hmap]
  refine nodup_len (shortW_asc _).nodup (map_nodup (fun _ _ => turnW_inj) (shortW_asc w).nodup) fun x => ?_
  rw [mem_shortW, List.mem_map]
  constructor
  · intro h
    refine ⟨turnW b x, mem_shortW.2 ?_, turnW_turn b x⟩
    have := del_turn1 (b := b) h
    rwa [turnW_turn] at this
  · rintro ⟨y, hy, rfl⟩
    exact del_turn.2 (mem_shortW.1 hy)
theorem least {P : Nat → Prop} (h : ∃ n, P n) : ∃ n, P n ∧ ∀ m, m < n → ¬ P m := by
  obtain ⟨n, hn⟩ := h
  induction n using Nat.strongRecOn with
  | _ n ih =>
    by_cases hx : ∃ m, m < n ∧ P m
    · obtain ⟨m, hm, hp⟩ := hx
      exact ih m hm hp
    · exact ⟨n, hn, fun m hm hp => hx ⟨m, hm, hp⟩⟩
/-- Safe words, by words of one length that are different. -/
theorem safe_cases {ws : List (List Bool)} {m : Nat} (hm : 0 < m ∧ m ≤ 10) (hl : ∀ w ∈ ws, w.length = m) (hn : ws.Nodup) (h40 : ws.length ≤ 40) :
    (∃ i k : Nat, i < k ∧ k < ws.length ∧ clashW (ws.getD i []) (ws.getD k []) = true ∧ safeV (ws.map wd) = .tup [.int .i64 (i : Int), .int .i64 (k : Int), .int .i64 13]) ∨
    ((∀ i k, i < k → k < ws.length → clashW (ws.getD i []) (ws.getD k []) = false) ∧ safeV (ws.map wd) = .tup [.int .i64 0, .int .i64 0, .int .i64 0]) := by
  have he := errTo_words hm hl hn
  have hlen : (ws.map wd).length = ws.length := List.length_map ..
  by_cases hx : ∃ p, IsFst (ws.map wd).length (clS (ws.map wd)) p
  · obtain ⟨⟨i, k⟩, hp⟩ := hx
    have h1 : i < k := hp.1
    have h2 : k < ws.length := hlen ▸ hp.2.1
    exact .inl ⟨i, k, h1, h2, by rw [← clS_words (by omega) h2]; exact hp.2.2.1, safe_clash (by omega) he hp⟩
  · have hno : ∀ i k, i < k → k < (ws.map wd).length → clS (ws.map wd) i k = false := by
      intro i k hik hk
      cases hc : clS (ws.map wd) i k with
      | false => rfl
      | true =>
        exfalso
        -- the first row, and in it the first place
        have hP : ∃ n, ∃ b, n < b ∧ b < (ws.map wd).length ∧ clS (ws.map wd) n b = true := ⟨i, k, hik, hk, hc⟩
        obtain ⟨n, ⟨⟨b, hb⟩, hmin⟩⟩ : ∃ n, (∃ b, n < b ∧ b < (ws.map wd).length ∧ clS (ws.map wd) n b = true) ∧ ∀ n', n' < n → ¬ ∃ b, n' < b ∧ b < (ws.map wd).length ∧ clS (ws.map wd) n' b = true := least hP
        obtain ⟨c, hcc, hcm⟩ := least (P := fun c => n < c ∧ c < (ws.map wd).length ∧ clS (ws.map wd) n c = true) ⟨b, hb⟩
        refine hx ⟨(n, c), hcc.1, hcc.2.1, hcc.2.2, fun a d h1 h2 h3 => ?_⟩
        cases hq : clS (ws.map wd) a d with
        | false => rfl
        | true =>
          rcases h3 with h3 | ⟨h3, h4⟩
          · exact absurd ⟨d, h1, h2, hq⟩ (hmin a h3)
          · have h3 : a = n := h3
            subst h3
            exact absurd ⟨h1, h2, hq⟩ (hcm d h4)
    exact .inr ⟨fun i k hik hk => by rw [← clS_words (by omega) hk]; exact hno i k hik (by omega), safe_none (by omega) he hno⟩
theorem fst_congr {n : Nat} {c d : Nat → Nat → Bool} (h : ∀ i k, i < k → k < n → c i k = d i k) : fstP n c = fstP n d := by
  by_cases hx : ∃ p, IsFst n c p
  · obtain ⟨p, hp⟩ := hx
    have hq : IsFst n d p := ⟨hp.1, hp.2.1, by rw [← h _ _ hp.1 hp.2.1]; exact hp.2.2.1, fun i k h1 h2 h3 => by rw [← h i k h1 h2]; exact hp.2.2.2 i k h1 h2 h3⟩
    rw [fstP_some hp, fstP_some hq]
  · have hy : ¬ ∃ p, IsFst n d p := by
      rintro ⟨p, hp⟩
      exact hx ⟨p, hp.1, hp.2.1, by rw [h _ _ hp.1 hp.2.1]; exact hp.2.2.1, fun i k h1 h2 h3 => by rw [h i k h1 h2]; exact hp.2.2.2 i k h1 h2 h3⟩
    unfold fstP
    rw [dif_neg hx, dif_neg hy]
theorem safe_turn {ws : List (List Bool)} {m : Nat} (b : Bool) (hm : 0 < m ∧ m ≤ 10) (hl : ∀ w ∈ ws, w.length = m) (hn : ws.Nodup) : safeV ((ws.map (turnW b)).map wd) = safeV (ws.map wd) := by
  have he := errTo_words hm hl hn
  have hl2 : ∀ w ∈ ws.map (turnW b), w.length = m := by
    intro w hw
    obtain ⟨y, hy, rfl⟩ := List.mem_map.1 hw
    rw [turnW_len]; exact hl y hy
  have he2 := errTo_words hm hl2 (map_nodup (fun _ _ => turnW_inj) hn)
  have hlen : ((ws.map (turnW b)).map wd).length = (ws.map wd).length := by simp
  have hF : safeF ((ws.map (turnW b)).map wd) = safeF (ws.map wd) := by
    unfold safeF
    rw [if_pos he2, if_pos he, hlen]
    congr 1
    refine fst_congr fun i k hik hk => ?_
    rw [List.length_map] at hk
    rw [clS_words (by rw [List.length_map]; omega) (by rw [List.length_map]; exact hk), clS_words (by omega) hk]
    have hg : ∀ j, j < ws.length → (ws.map (turnW b)).getD j [] = turnW b (ws.getD j []) := fun j hj => by
      rw [List.getD_eq_getElem?_getD, List.getD_eq_getElem?_getD, List.getElem?_map, List.getElem?_eq_getElem hj]; rfl
    rw [hg i (by omega), hg k hk, clash_turn]
  unfold safeV safeI safeK safeE
  rw [hF, if_pos he2, if_pos he, hlen]
end Go.Am
