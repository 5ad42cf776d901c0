/-
  Layer 08: contracts: codes, their sizes, and restoring.
  Conditions: none.
-/
import Derived.Test.YtfoiccnlcheklaaDoorCe
namespace Go.Am
theorem shl64 : ∀ a : Nat, a < 11 → IntKind.i64.wrap (1 * 2 ^ Min.min (a : Int).toNat (IntKind.bits .i64)) = ((2 ^ a : Nat) : Int) := by decide +kernel
theorem cls_of {a : Nat} {w : List Bool} (h : w.length = a) : cls w = wtTo w w.length % (a + 1) := by subst h; rfl
theorem allW_get {a x : Nat} (h : x < 2 ^ a) : (allW a).getD x [] = bitsW a x := by
  rw [allW_bits, List.getD_eq_getElem?_getD, List.getElem?_map, List.getElem?_range h]; rfl
theorem cntL_zero {m : Nat} (hm : 0 < m) : (List.replicate 11 (0 : Int)).set 0 1 = cntL m 0 := by
  refine getD_ext (by rw [List.length_set, List.length_replicate, cntL_len]) fun k hk => ?_
  rw [List.length_set, List.length_replicate] at hk
  rw [cntL_get hk, List.getD_eq_getElem?_getD, List.getElem?_set]
  by_cases h0 : 0 = k
  · subst h0
    rw [if_pos rfl, if_pos (by rw [List.length_replicate]; omega), if_pos hm, numC_zero _ _ hm, if_pos rfl]; rfl
  · rw [if_neg h0, List.getElem?_replicate, if_pos hk]
    by_cases h1 : k < m
    · rw [if_pos h1, numC_zero _ _ hm, if_neg (by omega)]; rfl
    · rw [if_neg h1]; rfl
theorem cntL_small {m i k : Nat} (hi : i ≤ 10) (hk : k < 11) : 0 ≤ (cntL m i).getD k 0 ∧ (cntL m i).getD k 0 ≤ 1024 := by
  rw [cntL_get hk]
  have h1 := numC_le m i k
  have h2 : 2 ^ i ≤ 2 ^ 10 := Nat.pow_le_pow_right (by decide) hi
  split <;> omega
theorem inv_small {m s k : Nat} (hm : m ≤ 11) (h : k < m) : inv m s k < 11 := Nat.lt_of_lt_of_le (inv_lt h) hm
theorem nextTo_small {m i c k : Nat} (hm : m ≤ 11) (hi : i ≤ 10) (hc : c ≤ m) (hk : k < 11) : 0 ≤ (nextTo m i c).getD k 0 ∧ (nextTo m i c).getD k 0 ≤ 2048 := by
  rw [nextTo_get hm hc k hk]
  have h1 := cntL_small (m := m) hi hk
  split
  · rename_i h
    have h2 := cntL_small (m := m) hi (inv_small (s := i + 1) hm h.1)
    omega
  · omega
theorem before_i {h : AHeap} {l : List Bool} {m : Nat} (hl : l.length ≤ 10) (hm : m ≤ cnt l) : ACalls Go.Proofs.Tryd.prog 61 [.str (wd l), .int .i32 49, .int .i64 (m : Int)] h (fun q h' => q = .int .i64 ((befTo l l.length m : Nat) : Int) ∧ h = h') := before_c hl hm
theorem behind_i {h : AHeap} {l : List Bool} {a : Int} {m : Nat} (ha : a = (m : Int)) (hl : l.length ≤ 10) (hm : m + cnt l ≤ l.length) : ACalls Go.Proofs.Tryd.prog 62 [.str (wd l), .int .i64 a] h (fun q h' => ∃ p : Nat, q = .int .i64 (p : Int) ∧ p ≤ l.length ∧ p - cntTo l p = m ∧ h = h') := by
  subst ha
  exact behind_c hl hm
theorem shorterF_c {h : AHeap} {l : List Bool} {b : Nat} (hl : l.length ≤ 10) : ACalls Go.Proofs.Tryd.prog 60 [.str (wd l), .int .i64 (b : Int)] h (fun q h' => q = .tup [.str (wd (((shortW l).find? fun x => decide (cls x = b)).getD [])), .int .i64 (if ((shortW l).find? fun x => decide (cls x = b)).isSome = true then 0 else 12)] ∧ h = h') := ACalls.free (shorter_c hl) rfl rfl h
theorem ins_eq (l : List Bool) (p : Nat) (c : Bool) : l.take p ++ [c] ++ l.drop p = insW l p c := by rw [insW, List.append_assoc]; rfl
theorem restP_c {h : AHeap} {n k : Int} {s : ByteArray} : ACalls Go.Proofs.Tryd.prog 29 [.int .i64 n, .int .i64 k, .str s] h (fun q h' => q = .tup [.str (wd (restS n k s)), .int .i64 (restE n k s)] ∧ Keeps h h') := by
  refine KA.fn 97 [.tmp 6, .tmp 7] Go.Proofs.Tryd.func29 rfl (by decide) rfl rfl (Nat.le_of_ble_eq_true rfl) ?_
  have hS := St.refl h
  show KA _ 97 _ _ [(0, .int .i64 n), (1, .int .i64 k), (2, .str s)] _
  refine KA.seq ?_
  refine KA.region rfl ?_
  refine KOps.assign ?_
  refine KOps.assign ?_
  refine KOps.done ?_
  refine sqQ.normal ?_
  refine KA.sub (Sub.cons (t := 0) Look.eq (Sub.cons (t := 1) Look.eq (Sub.cons (t := 2) Look.eq (Sub.nil _)))) ?_
  refine KA.seq ?_
  refine KA.seq ?_
  refine KA.region rfl ?_
  refine KOps.move ?_
  refine KOps.move ?_
  refine KOps.call rfl (asked_c) ?_
  rintro _ _ ⟨rfl, rfl⟩
  refine KOps.assign ?_
  refine KOps.done ?_
  refine sqQ.normal ?_
  refine KA.sub (Sub.cons (t := 0) Look.eq (Sub.cons (t := 1) Look.eq (Sub.cons (t := 2) Look.eq (Sub.cons (t := 8) Look.eq (Sub.nil _))))) ?_
  refine KA.block ?_
  refine KA.seq ?_
  refine KA.region rfl ?_
  refine KOps.move ?_
  refine KOps.neq ?_
  refine KOps.assign ?_
  refine KOps.done ?_
  refine sqQ.normal ?_
  refine KA.sub (Sub.cons (t := 0) Look.eq (Sub.cons (t := 1) Look.eq (Sub.cons (t := 2) Look.eq (Sub.cons (t := 8) Look.eq (Sub.cons (t := 15) Look.eq (Sub.nil _)))))) ?_
  refine KA.condN ?_ ?_
  · intro c15
    refine KA.seq ?_
    refine KA.region rfl ?_
    refine KOps.move ?_
    refine KOps.assign ?_
    refine KOps.assign ?_
    refine KOps.done ?_
    refine sqQ.normal ?_
    refine KA.sub (Sub.cons (t := 6) Look.eq (Sub.cons (t := 7) Look.eq (Sub.nil _))) ?_
    refine KA.ret ?_
    refine blQ.ret ?_
    refine sqQ.ret ?_
    refine fnQ.retN ?_
    first
     | (exfalso; omega)
     | exact ⟨by rw [restE_bad c15, restS_bad c15] <;> rfl, hS.keeps⟩
     | exact ⟨by rw [restE_1 hz (by omega), restS_1 (by omega)] <;> rfl, hS.keeps⟩
     | (have hf := rest_none hz hb (rest_same_pos (w := l) (by omega) hb (by omega))
        exact ⟨by rw [hf.1, hf.2] <;> rfl, hS.keeps⟩)
     | (have hf := rest_some hz hb (rest_same_zero (w := l) (by omega) hb (by omega))
        exact ⟨by rw [hf.1, hf.2] <;> rfl, hS.keeps⟩)
     | (have hrl := rest_less (b := b) (w := l) (a := a) (by omega)
        cases hfd : (shortW l).find? fun x => decide (cls x = b) with
        | none =>
          rw [hfd] at hrl
          have hf := rest_none hz hb hrl
          exact ⟨by rw [hf.1, hf.2] <;> rfl, hS.keeps⟩
        | some y =>
          rw [hfd] at hrl
          have hf := rest_some hz hb hrl
          exact ⟨by rw [hf.1, hf.2] <;> rfl, hS.keeps⟩)
     | (have hf := rest_some hz hb (rest_bef (w := l) (by omega) hb hle)
        exact ⟨by rw [hf.1, hf.2, ins_eq] <;> rfl, hS.keeps⟩)
     | (have hf := rest_some hz hb (rest_beh (w := l) (by omega) hb (by omega) hp (by omega))
        exact ⟨by rw [hf.1, hf.2, ins_eq] <;> rfl, hS.keeps⟩)
  · intro c15
    have hz := c15
    obtain ⟨a, l, rfl, rfl, ha, hl, h1, h2⟩ := askE_zero c15
    refine KA.seq ?_
    refine KA.region rfl ?_
    refine KOps.move ?_
    refine KOps.lss ?_
    refine KOps.move ?_
    refine KOps.guardB (dj := 22) rfl rfl false true rfl ?_ ?_
    · intro g22
      have g22 := of_decide_eq_false g22
      refine KOps.move ?_
      refine KOps.guardYes (dj := 22) rfl rfl ?_
      refine KOps.move ?_
      refine KOps.guardYes (dj := 22) rfl rfl ?_
      refine KOps.gtr ?_
      refine KOps.pickF ?_
      refine KOps.assign ?_
      refine KOps.done ?_
      refine sqQ.normal ?_
      refine KA.sub (Sub.cons (t := 0) Look.eq (Sub.cons (t := 1) Look.eq (Sub.cons (t := 2) Look.eq (Sub.cons (t := 19) Look.eq (Sub.nil _))))) ?_
      refine KA.condD ?_ ?_
      · intro c19
        refine KA.seq ?_
        refine KA.region rfl ?_
        refine KOps.assign ?_
        refine KOps.assign ?_
        refine KOps.done ?_
        refine sqQ.normal ?_
        refine KA.sub (Sub.cons (t := 6) Look.eq (Sub.cons (t := 7) Look.eq (Sub.nil _))) ?_
        refine KA.ret ?_
        refine blQ.ret ?_
        refine sqQ.ret ?_
        refine fnQ.retN ?_
        first
         | (exfalso; omega)
         | exact ⟨by rw [restE_bad c15, restS_bad c15] <;> rfl, hS.keeps⟩
         | exact ⟨by rw [restE_1 hz (by omega), restS_1 (by omega)] <;> rfl, hS.keeps⟩
         | (have hf := rest_none hz hb (rest_same_pos (w := l) (by omega) hb (by omega))
            exact ⟨by rw [hf.1, hf.2] <;> rfl, hS.keeps⟩)
         | (have hf := rest_some hz hb (rest_same_zero (w := l) (by omega) hb (by omega))
            exact ⟨by rw [hf.1, hf.2] <;> rfl, hS.keeps⟩)
         | (have hrl := rest_less (b := b) (w := l) (a := a) (by omega)
            cases hfd : (shortW l).find? fun x => decide (cls x = b) with
            | none =>
              rw [hfd] at hrl
              have hf := rest_none hz hb hrl
              exact ⟨by rw [hf.1, hf.2] <;> rfl, hS.keeps⟩
            | some y =>
              rw [hfd] at hrl
              have hf := rest_some hz hb hrl
              exact ⟨by rw [hf.1, hf.2] <;> rfl, hS.keeps⟩)
         | (have hf := rest_some hz hb (rest_bef (w := l) (by omega) hb hle)
            exact ⟨by rw [hf.1, hf.2, ins_eq] <;> rfl, hS.keeps⟩)
         | (have hf := rest_some hz hb (rest_beh (w := l) (by omega) hb (by omega) hp (by omega))
            exact ⟨by rw [hf.1, hf.2, ins_eq] <;> rfl, hS.keeps⟩)
      · intro c19
        obtain ⟨b, rfl⟩ : ∃ b : Nat, k = (b : Int) := ⟨k.toNat, by omega⟩
        have hb : b ≤ a := by omega
        have hsm := wtTo_small l (k := l.length) (by omega)
        have hx := Nat.mod_lt (wtTo l l.length) (show 0 < a + 1 by omega)
        have hll := lack_lt a b l
        refine KA.skip ?_
        refine blQ.normal ?_
        refine sqQ.normal ?_
        refine KA.sub (Sub.cons (t := 0) Look.eq (Sub.cons (t := 1) Look.eq (Sub.cons (t := 2) Look.eq (Sub.nil _)))) ?_
        refine KA.seq ?_
        refine KA.region rfl ?_
        refine KOps.move ?_
        refine KOps.move ?_
        refine KOps.call rfl (heavyF_c (by omega)) ?_
        rintro _ _ ⟨rfl, rfl⟩
        refine KOps.move ?_
        refine KOps.add (by first | omega | (simp; omega)) (by first | omega | (simp; omega)) ?_
        refine KOps.remN (i := wtTo l l.length) (j := a + 1) (by first | rfl | omega | (simp; done)) (by first | rfl | omega | (simp; omega)) (by omega) (by omega) ?_
        refine KOps.sub (by first | omega | (simp; omega)) (by first | omega | (simp; omega)) ?_
        refine KOps.move ?_
        refine KOps.add (by first | omega | (simp; omega)) (by first | omega | (simp; omega)) ?_
        refine KOps.add (by first | omega | (simp; omega)) (by first | omega | (simp; omega)) ?_
        refine KOps.move ?_
        refine KOps.add (by first | omega | (simp; omega)) (by first | omega | (simp; omega)) ?_
        refine KOps.remN (i := b + (a + 1) - wtTo l l.length % (a + 1)) (j := a + 1) (by first | rfl | omega | (simp; done)) (by first | rfl | omega | (simp; omega)) (by omega) (by omega) ?_
        rw [show (b + (a + 1) - wtTo l l.length % (a + 1)) % (a + 1) = lackN a b l from rfl]
        refine KOps.assign ?_
        refine KOps.done ?_
        refine sqQ.normal ?_
        refine KA.sub (Sub.cons (t := 0) Look.eq (Sub.cons (t := 1) Look.eq (Sub.cons (t := 2) Look.eq (Sub.cons (t := 9) Look.eq (Sub.nil _))))) ?_
        refine KA.seq ?_
        refine KA.region rfl ?_
        refine KOps.move ?_
        refine KOps.call rfl (count_c (by omega)) ?_
        rintro _ _ ⟨rfl, rfl⟩
        refine KOps.assign ?_
        refine KOps.done ?_
        refine sqQ.normal ?_
        refine KA.sub (Sub.cons (t := 0) Look.eq (Sub.cons (t := 1) Look.eq (Sub.cons (t := 2) Look.eq (Sub.cons (t := 9) Look.eq (Sub.cons (t := 10) Look.eq (Sub.nil _)))))) ?_
        refine KA.seq ?_
        refine KA.block ?_
        refine KA.seq ?_
        refine KA.region rfl ?_
        refine KOps.move ?_
        refine KOps.lenW ?_
        refine KOps.move ?_
        refine KOps.eql ?_
        refine KOps.move ?_
        refine KOps.guardB (dj := 47) rfl rfl true false rfl ?_ ?_
        · intro g47
          have g47 := of_decide_eq_true g47
          refine KOps.move ?_
          refine KOps.guardYes (dj := 47) rfl rfl ?_
          refine KOps.gtr ?_
          refine KOps.pickT ?_
          refine KOps.assign ?_
          refine KOps.done ?_
          refine sqQ.normal ?_
          refine KA.sub (Sub.cons (t := 0) Look.eq (Sub.cons (t := 1) Look.eq (Sub.cons (t := 2) Look.eq (Sub.cons (t := 9) Look.eq (Sub.cons (t := 10) Look.eq (Sub.cons (t := 42) Look.eq (Sub.nil _))))))) ?_
          refine KA.condD ?_ ?_
          · intro c42
            refine KA.seq ?_
            refine KA.region rfl ?_
            refine KOps.assign ?_
            refine KOps.assign ?_
            refine KOps.done ?_
            refine sqQ.normal ?_
            refine KA.sub (Sub.cons (t := 6) Look.eq (Sub.cons (t := 7) Look.eq (Sub.nil _))) ?_
            refine KA.ret ?_
            refine blQ.ret ?_
            refine sqQ.ret ?_
            refine fnQ.retN ?_
            first
             | (exfalso; omega)
             | exact ⟨by rw [restE_bad c15, restS_bad c15] <;> rfl, hS.keeps⟩
             | exact ⟨by rw [restE_1 hz (by omega), restS_1 (by omega)] <;> rfl, hS.keeps⟩
             | (have hf := rest_none hz hb (rest_same_pos (w := l) (by omega) hb (by omega))
                exact ⟨by rw [hf.1, hf.2] <;> rfl, hS.keeps⟩)
             | (have hf := rest_some hz hb (rest_same_zero (w := l) (by omega) hb (by omega))
                exact ⟨by rw [hf.1, hf.2] <;> rfl, hS.keeps⟩)
             | (have hrl := rest_less (b := b) (w := l) (a := a) (by omega)
                cases hfd : (shortW l).find? fun x => decide (cls x = b) with
                | none =>
                  rw [hfd] at hrl
                  have hf := rest_none hz hb hrl
                  exact ⟨by rw [hf.1, hf.2] <;> rfl, hS.keeps⟩
                | some y =>
                  rw [hfd] at hrl
                  have hf := rest_some hz hb hrl
                  exact ⟨by rw [hf.1, hf.2] <;> rfl, hS.keeps⟩)
             | (have hf := rest_some hz hb (rest_bef (w := l) (by omega) hb hle)
                exact ⟨by rw [hf.1, hf.2, ins_eq] <;> rfl, hS.keeps⟩)
             | (have hf := rest_some hz hb (rest_beh (w := l) (by omega) hb (by omega) hp (by omega))
                exact ⟨by rw [hf.1, hf.2, ins_eq] <;> rfl, hS.keeps⟩)
          · intro c42
            refine KA.seq ?_
            refine KA.region rfl ?_
            refine KOps.move ?_
            refine KOps.lenW ?_
            refine KOps.move ?_
            refine KOps.eql ?_
            refine KOps.assign ?_
            refine KOps.done ?_
            refine sqQ.normal ?_
            refine KA.sub (Sub.cons (t := 0) Look.eq (Sub.cons (t := 1) Look.eq (Sub.cons (t := 2) Look.eq (Sub.cons (t := 9) Look.eq (Sub.cons (t := 10) Look.eq (Sub.cons (t := 51) Look.eq (Sub.nil _))))))) ?_
            refine KA.condD ?_ ?_
            · intro c51
              refine KA.seq ?_
              refine KA.region rfl ?_
              refine KOps.move ?_
              refine KOps.assign ?_
              refine KOps.assign ?_
              refine KOps.done ?_
              refine sqQ.normal ?_
              refine KA.sub (Sub.cons (t := 6) Look.eq (Sub.cons (t := 7) Look.eq (Sub.nil _))) ?_
              refine KA.ret ?_
              refine blQ.ret ?_
              refine sqQ.ret ?_
              refine fnQ.retN ?_
              first
               | (exfalso; omega)
               | exact ⟨by rw [restE_bad c15, restS_bad c15] <;> rfl, hS.keeps⟩
               | exact ⟨by rw [restE_1 hz (by omega), restS_1 (by omega)] <;> rfl, hS.keeps⟩
               | (have hf := rest_none hz hb (rest_same_pos (w := l) (by omega) hb (by omega))
                  exact ⟨by rw [hf.1, hf.2] <;> rfl, hS.keeps⟩)
               | (have hf := rest_some hz hb (rest_same_zero (w := l) (by omega) hb (by omega))
                  exact ⟨by rw [hf.1, hf.2] <;> rfl, hS.keeps⟩)
               | (have hrl := rest_less (b := b) (w := l) (a := a) (by omega)
                  cases hfd : (shortW l).find? fun x => decide (cls x = b) with
                  | none =>
                    rw [hfd] at hrl
                    have hf := rest_none hz hb hrl
                    exact ⟨by rw [hf.1, hf.2] <;> rfl, hS.keeps⟩
                  | some y =>
                    rw [hfd] at hrl
                    have hf := rest_some hz hb hrl
                    exact ⟨by rw [hf.1, hf.2] <;> rfl, hS.keeps⟩)
               | (have hf := rest_some hz hb (rest_bef (w := l) (by omega) hb hle)
                  exact ⟨by rw [hf.1, hf.2, ins_eq] <;> rfl, hS.keeps⟩)
               | (have hf := rest_some hz hb (rest_beh (w := l) (by omega) hb (by omega) hp (by omega))
                  exact ⟨by rw [hf.1, hf.2, ins_eq] <;> rfl, hS.keeps⟩)
            · intro c51
              refine KA.seq ?_
              refine KA.region rfl ?_
              refine KOps.move ?_
              refine KOps.lenW ?_
              refine KOps.move ?_
              refine KOps.gtr ?_
              refine KOps.assign ?_
              refine KOps.done ?_
              refine sqQ.normal ?_
              refine KA.sub (Sub.cons (t := 1) Look.eq (Sub.cons (t := 2) Look.eq (Sub.cons (t := 9) Look.eq (Sub.cons (t := 10) Look.eq (Sub.cons (t := 57) Look.eq (Sub.nil _)))))) ?_
              refine KA.condD ?_ ?_
              · intro c57
                refine KA.seq ?_
                refine KA.region rfl ?_
                refine KOps.move ?_
                refine KOps.move ?_
                refine KOps.call rfl (shorterF_c (by omega)) ?_
                rintro _ _ ⟨rfl, rfl⟩
                refine KOps.extract ?_
                refine KOps.extract ?_
                refine KOps.assign ?_
                refine KOps.assign ?_
                refine KOps.done ?_
                refine sqQ.normal ?_
                refine KA.sub (Sub.cons (t := 6) Look.eq (Sub.cons (t := 7) Look.eq (Sub.nil _))) ?_
                refine KA.ret ?_
                refine blQ.ret ?_
                refine sqQ.ret ?_
                refine fnQ.retN ?_
                first
                 | (exfalso; omega)
                 | exact ⟨by rw [restE_bad c15, restS_bad c15] <;> rfl, hS.keeps⟩
                 | exact ⟨by rw [restE_1 hz (by omega), restS_1 (by omega)] <;> rfl, hS.keeps⟩
                 | (have hf := rest_none hz hb (rest_same_pos (w := l) (by omega) hb (by omega))
                    exact ⟨by rw [hf.1, hf.2] <;> rfl, hS.keeps⟩)
                 | (have hf := rest_some hz hb (rest_same_zero (w := l) (by omega) hb (by omega))
                    exact ⟨by rw [hf.1, hf.2] <;> rfl, hS.keeps⟩)
                 | (have hrl := rest_less (b := b) (w := l) (a := a) (by omega)
                    cases hfd : (shortW l).find? fun x => decide (cls x = b) with
                    | none =>
                      rw [hfd] at hrl
                      have hf := rest_none hz hb hrl
                      exact ⟨by rw [hf.1, hf.2] <;> rfl, hS.keeps⟩
                    | some y =>
                      rw [hfd] at hrl
                      have hf := rest_some hz hb hrl
                      exact ⟨by rw [hf.1, hf.2] <;> rfl, hS.keeps⟩)
                 | (have hf := rest_some hz hb (rest_bef (w := l) (by omega) hb hle)
                    exact ⟨by rw [hf.1, hf.2, ins_eq] <;> rfl, hS.keeps⟩)
                 | (have hf := rest_some hz hb (rest_beh (w := l) (by omega) hb (by omega) hp (by omega))
                    exact ⟨by rw [hf.1, hf.2, ins_eq] <;> rfl, hS.keeps⟩)
              · intro c57
                refine KA.seq ?_
                refine KA.region rfl ?_
                refine KOps.move ?_
                refine KOps.move ?_
                refine KOps.leq ?_
                refine KOps.assign ?_
                refine KOps.done ?_
                refine sqQ.normal ?_
                refine KA.sub (Sub.cons (t := 2) Look.eq (Sub.cons (t := 9) Look.eq (Sub.cons (t := 10) Look.eq (Sub.cons (t := 67) Look.eq (Sub.nil _))))) ?_
                refine KA.condD ?_ ?_
                · intro c67
                  have hle : lackN a b l ≤ cnt l := by omega
                  have hbs := befTo_spec l l.length (lackN a b l) hle
                  refine KA.seq ?_
                  refine KA.draw [3, 9] mixed rfl (by kernel_rfl) ?_
                  refine KOps.move ?_
                  refine KOps.move ?_
                  refine KOps.move ?_
                  refine KOps.callK (by intro _ _ hr; exact hr.2 ▸ Keeps.refl _) (before_i (by omega) hle) ?_
                  rintro _ _ ⟨rfl, rfl⟩
                  refine KOps.wHi (j := _) rfl (by first | omega | (simp; done) | (simp; omega)) ?_
                  refine KOps.wAdd (by simp only [List.length_append, List.length_take, List.length_drop, List.length_cons, List.length_nil]; omega) ?_
                  refine KOps.move ?_
                  refine KOps.move ?_
                  refine KOps.move ?_
                  refine KOps.callK (by intro _ _ hr; exact hr.2 ▸ Keeps.refl _) (before_i (by omega) hle) ?_
                  rintro _ _ ⟨rfl, rfl⟩
                  refine KOps.wLo (j := _) rfl (by first | omega | (simp; done) | (simp; omega)) ?_
                  refine KOps.wAdd (by simp only [List.length_append, List.length_take, List.length_drop, List.length_cons, List.length_nil]; omega) ?_
                  refine KOps.assign ?_
                  refine KOps.assign ?_
                  refine KOps.done ?_
                  refine sqQ.normal ?_
                  refine KA.sub (Sub.cons (t := 6) Look.eq (Sub.cons (t := 7) Look.eq (Sub.nil _))) ?_
                  refine KA.ret ?_
                  refine blQ.ret ?_
                  refine sqQ.ret ?_
                  refine fnQ.retN ?_
                  first
                   | (exfalso; omega)
                   | exact ⟨by rw [restE_bad c15, restS_bad c15] <;> rfl, hS.keeps⟩
                   | exact ⟨by rw [restE_1 hz (by omega), restS_1 (by omega)] <;> rfl, hS.keeps⟩
                   | (have hf := rest_none hz hb (rest_same_pos (w := l) (by omega) hb (by omega))
                      exact ⟨by rw [hf.1, hf.2] <;> rfl, hS.keeps⟩)
                   | (have hf := rest_some hz hb (rest_same_zero (w := l) (by omega) hb (by omega))
                      exact ⟨by rw [hf.1, hf.2] <;> rfl, hS.keeps⟩)
                   | (have hrl := rest_less (b := b) (w := l) (a := a) (by omega)
                      cases hfd : (shortW l).find? fun x => decide (cls x = b) with
                      | none =>
                        rw [hfd] at hrl
                        have hf := rest_none hz hb hrl
                        exact ⟨by rw [hf.1, hf.2] <;> rfl, hS.keeps⟩
                      | some y =>
                        rw [hfd] at hrl
                        have hf := rest_some hz hb hrl
                        exact ⟨by rw [hf.1, hf.2] <;> rfl, hS.keeps⟩)
                   | (have hf := rest_some hz hb (rest_bef (w := l) (by omega) hb hle)
                      exact ⟨by rw [hf.1, hf.2, ins_eq] <;> rfl, hS.keeps⟩)
                   | (have hf := rest_some hz hb (rest_beh (w := l) (by omega) hb (by omega) hp (by omega))
                      exact ⟨by rw [hf.1, hf.2, ins_eq] <;> rfl, hS.keeps⟩)
                · intro c67
                  have hgt : cnt l < lackN a b l := by omega
                  have hal : l.length + 1 = a := by omega
                  refine KA.skip ?_
                  refine blQ.normal ?_
                  refine sqQ.normal ?_
                  refine KA.sub (Sub.cons (t := 2) Look.eq (Sub.cons (t := 9) Look.eq (Sub.cons (t := 10) Look.eq (Sub.nil _)))) ?_
                  refine KA.seq ?_
                  refine KA.region rfl ?_
                  refine KOps.move ?_
                  refine KOps.move ?_
                  refine KOps.move ?_
                  refine KOps.sub (by first | omega | (simp; omega)) (by first | omega | (simp; omega)) ?_
                  refine KOps.sub (by first | omega | (simp; omega)) (by first | omega | (simp; omega)) ?_
                  refine KOps.call rfl (behind_i (m := lackN a b l - cnt l - 1) (by omega) (by omega) (by omega)) ?_
                  rintro _ _ ⟨p, rfl, hp, hpq, rfl⟩
                  refine KOps.assign ?_
                  refine KOps.done ?_
                  refine sqQ.normal ?_
                  refine KA.sub (Sub.cons (t := 2) Look.eq (Sub.cons (t := 11) Look.eq (Sub.nil _))) ?_
                  refine KA.seq ?_
                  refine KA.draw [] mixed rfl (by kernel_rfl) ?_
                  refine KOps.move ?_
                  refine KOps.move ?_
                  refine KOps.wHi (j := _) rfl (by first | omega | (simp; done) | (simp; omega)) ?_
                  refine KOps.wAdd (by simp only [List.length_append, List.length_take, List.length_drop, List.length_cons, List.length_nil]; omega) ?_
                  refine KOps.move ?_
                  refine KOps.move ?_
                  refine KOps.wLo (j := _) rfl (by first | omega | (simp; done) | (simp; omega)) ?_
                  refine KOps.wAdd (by simp only [List.length_append, List.length_take, List.length_drop, List.length_cons, List.length_nil]; omega) ?_
                  refine KOps.assign ?_
                  refine KOps.assign ?_
                  refine KOps.done ?_
                  refine sqQ.normal ?_
                  refine KA.sub (Sub.cons (t := 6) Look.eq (Sub.cons (t := 7) Look.eq (Sub.nil _))) ?_
                  refine KA.ret ?_
                  refine fnQ.retN ?_
                  first
                   | (exfalso; omega)
                   | exact ⟨by rw [restE_bad c15, restS_bad c15] <;> rfl, hS.keeps⟩
                   | exact ⟨by rw [restE_1 hz (by omega), restS_1 (by omega)] <;> rfl, hS.keeps⟩
                   | (have hf := rest_none hz hb (rest_same_pos (w := l) (by omega) hb (by omega))
                      exact ⟨by rw [hf.1, hf.2] <;> rfl, hS.keeps⟩)
                   | (have hf := rest_some hz hb (rest_same_zero (w := l) (by omega) hb (by omega))
                      exact ⟨by rw [hf.1, hf.2] <;> rfl, hS.keeps⟩)
                   | (have hrl := rest_less (b := b) (w := l) (a := a) (by omega)
                      cases hfd : (shortW l).find? fun x => decide (cls x = b) with
                      | none =>
                        rw [hfd] at hrl
                        have hf := rest_none hz hb hrl
                        exact ⟨by rw [hf.1, hf.2] <;> rfl, hS.keeps⟩
                      | some y =>
                        rw [hfd] at hrl
                        have hf := rest_some hz hb hrl
                        exact ⟨by rw [hf.1, hf.2] <;> rfl, hS.keeps⟩)
                   | (have hf := rest_some hz hb (rest_bef (w := l) (by omega) hb hle)
                      exact ⟨by rw [hf.1, hf.2, ins_eq] <;> rfl, hS.keeps⟩)
                   | (have hf := rest_some hz hb (rest_beh (w := l) (by omega) hb (by omega) hp (by omega))
                      exact ⟨by rw [hf.1, hf.2, ins_eq] <;> rfl, hS.keeps⟩)
        · intro g47
          have g47 := of_decide_eq_false g47
          refine KOps.guardNo (dj := 47) rfl rfl rfl ?_
          refine KOps.pickF ?_
          refine KOps.assign ?_
          refine KOps.done ?_
          refine sqQ.normal ?_
          refine KA.sub (Sub.cons (t := 0) Look.eq (Sub.cons (t := 1) Look.eq (Sub.cons (t := 2) Look.eq (Sub.cons (t := 9) Look.eq (Sub.cons (t := 10) Look.eq (Sub.cons (t := 42) Look.eq (Sub.nil _))))))) ?_
          refine KA.condF ?_
          refine KA.seq ?_
          refine KA.region rfl ?_
          refine KOps.move ?_
          refine KOps.lenW ?_
          refine KOps.move ?_
          refine KOps.eql ?_
          refine KOps.assign ?_
          refine KOps.done ?_
          refine sqQ.normal ?_
          refine KA.sub (Sub.cons (t := 0) Look.eq (Sub.cons (t := 1) Look.eq (Sub.cons (t := 2) Look.eq (Sub.cons (t := 9) Look.eq (Sub.cons (t := 10) Look.eq (Sub.cons (t := 51) Look.eq (Sub.nil _))))))) ?_
          refine KA.condD ?_ ?_
          · intro c51
            refine KA.seq ?_
            refine KA.region rfl ?_
            refine KOps.move ?_
            refine KOps.assign ?_
            refine KOps.assign ?_
            refine KOps.done ?_
            refine sqQ.normal ?_
            refine KA.sub (Sub.cons (t := 6) Look.eq (Sub.cons (t := 7) Look.eq (Sub.nil _))) ?_
            refine KA.ret ?_
            refine blQ.ret ?_
            refine sqQ.ret ?_
            refine fnQ.retN ?_
            first
             | (exfalso; omega)
             | exact ⟨by rw [restE_bad c15, restS_bad c15] <;> rfl, hS.keeps⟩
             | exact ⟨by rw [restE_1 hz (by omega), restS_1 (by omega)] <;> rfl, hS.keeps⟩
             | (have hf := rest_none hz hb (rest_same_pos (w := l) (by omega) hb (by omega))
                exact ⟨by rw [hf.1, hf.2] <;> rfl, hS.keeps⟩)
             | (have hf := rest_some hz hb (rest_same_zero (w := l) (by omega) hb (by omega))
                exact ⟨by rw [hf.1, hf.2] <;> rfl, hS.keeps⟩)
             | (have hrl := rest_less (b := b) (w := l) (a := a) (by omega)
                cases hfd : (shortW l).find? fun x => decide (cls x = b) with
                | none =>
                  rw [hfd] at hrl
                  have hf := rest_none hz hb hrl
                  exact ⟨by rw [hf.1, hf.2] <;> rfl, hS.keeps⟩
                | some y =>
                  rw [hfd] at hrl
                  have hf := rest_some hz hb hrl
                  exact ⟨by rw [hf.1, hf.2] <;> rfl, hS.keeps⟩)
             | (have hf := rest_some hz hb (rest_bef (w := l) (by omega) hb hle)
                exact ⟨by rw [hf.1, hf.2, ins_eq] <;> rfl, hS.keeps⟩)
             | (have hf := rest_some hz hb (rest_beh (w := l) (by omega) hb (by omega) hp (by omega))
                exact ⟨by rw [hf.1, hf.2, ins_eq] <;> rfl, hS.keeps⟩)
          · intro c51
            refine KA.seq ?_
            refine KA.region rfl ?_
            refine KOps.move ?_
            refine KOps.lenW ?_
            refine KOps.move ?_
            refine KOps.gtr ?_
            refine KOps.assign ?_
            refine KOps.done ?_
            refine sqQ.normal ?_
            refine KA.sub (Sub.cons (t := 1) Look.eq (Sub.cons (t := 2) Look.eq (Sub.cons (t := 9) Look.eq (Sub.cons (t := 10) Look.eq (Sub.cons (t := 57) Look.eq (Sub.nil _)))))) ?_
            refine KA.condD ?_ ?_
            · intro c57
              refine KA.seq ?_
              refine KA.region rfl ?_
              refine KOps.move ?_
              refine KOps.move ?_
              refine KOps.call rfl (shorterF_c (by omega)) ?_
              rintro _ _ ⟨rfl, rfl⟩
              refine KOps.extract ?_
              refine KOps.extract ?_
              refine KOps.assign ?_
              refine KOps.assign ?_
              refine KOps.done ?_
              refine sqQ.normal ?_
              refine KA.sub (Sub.cons (t := 6) Look.eq (Sub.cons (t := 7) Look.eq (Sub.nil _))) ?_
              refine KA.ret ?_
              refine blQ.ret ?_
              refine sqQ.ret ?_
              refine fnQ.retN ?_
              first
               | (exfalso; omega)
               | exact ⟨by rw [restE_bad c15, restS_bad c15] <;> rfl, hS.keeps⟩
               | exact ⟨by rw [restE_1 hz (by omega), restS_1 (by omega)] <;> rfl, hS.keeps⟩
               | (have hf := rest_none hz hb (rest_same_pos (w := l) (by omega) hb (by omega))
                  exact ⟨by rw [hf.1, hf.2] <;> rfl, hS.keeps⟩)
               | (have hf := rest_some hz hb (rest_same_zero (w := l) (by omega) hb (by omega))
                  exact ⟨by rw [hf.1, hf.2] <;> rfl, hS.keeps⟩)
               | (have hrl := rest_less (b := b) (w := l) (a := a) (by omega)
                  cases hfd : (shortW l).find? fun x => decide (cls x = b) with
                  | none =>
                    rw [hfd] at hrl
                    have hf := rest_none hz hb hrl
                    exact ⟨by rw [hf.1, hf.2] <;> rfl, hS.keeps⟩
                  | some y =>
                    rw [hfd] at hrl
                    have hf := rest_some hz hb hrl
                    exact ⟨by rw [hf.1, hf.2] <;> rfl, hS.keeps⟩)
               | (have hf := rest_some hz hb (rest_bef (w := l) (by omega) hb hle)
                  exact ⟨by rw [hf.1, hf.2, ins_eq] <;> rfl, hS.keeps⟩)
               | (have hf := rest_some hz hb (rest_beh (w := l) (by omega) hb (by omega) hp (by omega))
                  exact ⟨by rw [hf.1, hf.2, ins_eq] <;> rfl, hS.keeps⟩)
            · intro c57
              refine KA.seq ?_
              refine KA.region rfl ?_
              refine KOps.move ?_
              refine KOps.move ?_
              refine KOps.leq ?_
              refine KOps.assign ?_
              refine KOps.done ?_
              refine sqQ.normal ?_
              refine KA.sub (Sub.cons (t := 2) Look.eq (Sub.cons (t := 9) Look.eq (Sub.cons (t := 10) Look.eq (Sub.cons (t := 67) Look.eq (Sub.nil _))))) ?_
              refine KA.condD ?_ ?_
              · intro c67
                have hle : lackN a b l ≤ cnt l := by omega
                have hbs := befTo_spec l l.length (lackN a b l) hle
                refine KA.seq ?_
                refine KA.draw [3, 9] mixed rfl (by kernel_rfl) ?_
                refine KOps.move ?_
                refine KOps.move ?_
                refine KOps.move ?_
                refine KOps.callK (by intro _ _ hr; exact hr.2 ▸ Keeps.refl _) (before_i (by omega) hle) ?_
                rintro _ _ ⟨rfl, rfl⟩
                refine KOps.wHi (j := _) rfl (by first | omega | (simp; done) | (simp; omega)) ?_
                refine KOps.wAdd (by simp only [List.length_append, List.length_take, List.length_drop, List.length_cons, List.length_nil]; omega) ?_
                refine KOps.move ?_
                refine KOps.move ?_
                refine KOps.move ?_
                refine KOps.callK (by intro _ _ hr; exact hr.2 ▸ Keeps.refl _) (before_i (by omega) hle) ?_
                rintro _ _ ⟨rfl, rfl⟩
                refine KOps.wLo (j := _) rfl (by first | omega | (simp; done) | (simp; omega)) ?_
                refine KOps.wAdd (by simp only [List.length_append, List.length_take, List.length_drop, List.length_cons, List.length_nil]; omega) ?_
                refine KOps.assign ?_
                refine KOps.assign ?_
                refine KOps.done ?_
                refine sqQ.normal ?_
                refine KA.sub (Sub.cons (t := 6) Look.eq (Sub.cons (t := 7) Look.eq (Sub.nil _))) ?_
                refine KA.ret ?_
                refine blQ.ret ?_
                refine sqQ.ret ?_
                refine fnQ.retN ?_
                first
                 | (exfalso; omega)
                 | exact ⟨by rw [restE_bad c15, restS_bad c15] <;> rfl, hS.keeps⟩
                 | exact ⟨by rw [restE_1 hz (by omega), restS_1 (by omega)] <;> rfl, hS.keeps⟩
                 | (have hf := rest_none hz hb (rest_same_pos (w := l) (by omega) hb (by omega))
                    exact ⟨by rw [hf.1, hf.2] <;> rfl, hS.keeps⟩)
                 | (have hf := rest_some hz hb (rest_same_zero (w := l) (by omega) hb (by omega))
                    exact ⟨by rw [hf.1, hf.2] <;> rfl, hS.keeps⟩)
                 | (have hrl := rest_less (b := b) (w := l) (a := a) (by omega)
                    cases hfd : (shortW l).find? fun x => decide (cls x = b) with
                    | none =>
                      rw [hfd] at hrl
                      have hf := rest_none hz hb hrl
                      exact ⟨by rw [hf.1, hf.2] <;> rfl, hS.keeps⟩
                    | some y =>
                      rw [hfd] at hrl
                      have hf := rest_some hz hb hrl
                      exact ⟨by rw [hf.1, hf.2] <;> rfl, hS.keeps⟩)
                 | (have hf := rest_some hz hb (rest_bef (w := l) (by omega) hb hle)
                    exact ⟨by rw [hf.1, hf.2, ins_eq] <;> rfl, hS.keeps⟩)
                 | (have hf := rest_some hz hb (rest_beh (w := l) (by omega) hb (by omega) hp (by omega))
                    exact ⟨by rw [hf.1, hf.2, ins_eq] <;> rfl, hS.keeps⟩)
              · intro c67
                have hgt : cnt l < lackN a b l := by omega
                have hal : l.length + 1 = a := by omega
                refine KA.skip ?_
                refine blQ.normal ?_
                refine sqQ.normal ?_
                refine KA.sub (Sub.cons (t := 2) Look.eq (Sub.cons (t := 9) Look.eq (Sub.cons (t := 10) Look.eq (Sub.nil _)))) ?_
                refine KA.seq ?_
                refine KA.region rfl ?_
                refine KOps.move ?_
                refine KOps.move ?_
                refine KOps.move ?_
                refine KOps.sub (by first | omega | (simp; omega)) (by first | omega | (simp; omega)) ?_
                refine KOps.sub (by first | omega | (simp; omega)) (by first | omega | (simp; omega)) ?_
                refine KOps.call rfl (behind_i (m := lackN a b l - cnt l - 1) (by omega) (by omega) (by omega)) ?_
                rintro _ _ ⟨p, rfl, hp, hpq, rfl⟩
                refine KOps.assign ?_
                refine KOps.done ?_
                refine sqQ.normal ?_
                refine KA.sub (Sub.cons (t := 2) Look.eq (Sub.cons (t := 11) Look.eq (Sub.nil _))) ?_
                refine KA.seq ?_
                refine KA.draw [] mixed rfl (by kernel_rfl) ?_
                refine KOps.move ?_
                refine KOps.move ?_
                refine KOps.wHi (j := _) rfl (by first | omega | (simp; done) | (simp; omega)) ?_
                refine KOps.wAdd (by simp only [List.length_append, List.length_take, List.length_drop, List.length_cons, List.length_nil]; omega) ?_
                refine KOps.move ?_
                refine KOps.move ?_
                refine KOps.wLo (j := _) rfl (by first | omega | (simp; done) | (simp; omega)) ?_
                refine KOps.wAdd (by simp only [List.length_append, List.length_take, List.length_drop, List.length_cons, List.length_nil]; omega) ?_
                refine KOps.assign ?_
                refine KOps.assign ?_
                refine KOps.done ?_
                refine sqQ.normal ?_
                refine KA.sub (Sub.cons (t := 6) Look.eq (Sub.cons (t := 7) Look.eq (Sub.nil _))) ?_
                refine KA.ret ?_
                refine fnQ.retN ?_
                first
                 | (exfalso; omega)
                 | exact ⟨by rw [restE_bad c15, restS_bad c15] <;> rfl, hS.keeps⟩
                 | exact ⟨by rw [restE_1 hz (by omega), restS_1 (by omega)] <;> rfl, hS.keeps⟩
                 | (have hf := rest_none hz hb (rest_same_pos (w := l) (by omega) hb (by omega))
                    exact ⟨by rw [hf.1, hf.2] <;> rfl, hS.keeps⟩)
                 | (have hf := rest_some hz hb (rest_same_zero (w := l) (by omega) hb (by omega))
                    exact ⟨by rw [hf.1, hf.2] <;> rfl, hS.keeps⟩)
                 | (have hrl := rest_less (b := b) (w := l) (a := a) (by omega)
                    cases hfd : (shortW l).find? fun x => decide (cls x = b) with
                    | none =>
                      rw [hfd] at hrl
                      have hf := rest_none hz hb hrl
                      exact ⟨by rw [hf.1, hf.2] <;> rfl, hS.keeps⟩
                    | some y =>
                      rw [hfd] at hrl
                      have hf := rest_some hz hb hrl
                      exact ⟨by rw [hf.1, hf.2] <;> rfl, hS.keeps⟩)
                 | (have hf := rest_some hz hb (rest_bef (w := l) (by omega) hb hle)
                    exact ⟨by rw [hf.1, hf.2, ins_eq] <;> rfl, hS.keeps⟩)
                 | (have hf := rest_some hz hb (rest_beh (w := l) (by omega) hb (by omega) hp (by omega))
                    exact ⟨by rw [hf.1, hf.2, ins_eq] <;> rfl, hS.keeps⟩)
    · intro g22
      have g22 := of_decide_eq_true g22
      refine KOps.guardNo (dj := 22) rfl rfl rfl ?_
      refine KOps.guardNo (dj := 22) rfl rfl rfl ?_
      refine KOps.pickT ?_
      refine KOps.assign ?_
      refine KOps.done ?_
      refine sqQ.normal ?_
      refine KA.sub (Sub.cons (t := 0) Look.eq (Sub.cons (t := 1) Look.eq (Sub.cons (t := 2) Look.eq (Sub.cons (t := 19) Look.eq (Sub.nil _))))) ?_
      refine KA.condT ?_
      refine KA.seq ?_
      refine KA.region rfl ?_
      refine KOps.assign ?_
      refine KOps.assign ?_
      refine KOps.done ?_
      refine sqQ.normal ?_
      refine KA.sub (Sub.cons (t := 6) Look.eq (Sub.cons (t := 7) Look.eq (Sub.nil _))) ?_
      refine KA.ret ?_
      refine blQ.ret ?_
      refine sqQ.ret ?_
      refine fnQ.retN ?_
      first
       | (exfalso; omega)
       | exact ⟨by rw [restE_bad c15, restS_bad c15] <;> rfl, hS.keeps⟩
       | exact ⟨by rw [restE_1 hz (by omega), restS_1 (by omega)] <;> rfl, hS.keeps⟩
       | (have hf := rest_none hz hb (rest_same_pos (w := l) (by omega) hb (by omega))
          exact ⟨by rw [hf.1, hf.2] <;> rfl, hS.keeps⟩)
       | (have hf := rest_some hz hb (rest_same_zero (w := l) (by omega) hb (by omega))
          exact ⟨by rw [hf.1, hf.2] <;> rfl, hS.keeps⟩)
       | (have hrl := rest_less (b := b) (w := l) (a := a) (by omega)
          cases hfd : (shortW l).find? fun x => decide (cls x = b) with
          | none =>
            rw [hfd] at hrl
            have hf := rest_none hz hb hrl
            exact ⟨by rw [hf.1, hf.2] <;> rfl, hS.keeps⟩
          | some y =>
            rw [hfd] at hrl
            have hf := rest_some hz hb hrl
            exact ⟨by rw [hf.1, hf.2] <;> rfl, hS.keeps⟩)
       | (have hf := rest_some hz hb (rest_bef (w := l) (by omega) hb hle)
          exact ⟨by rw [hf.1, hf.2, ins_eq] <;> rfl, hS.keeps⟩)
       | (have hf := rest_some hz hb (rest_beh (w := l) (by omega) hb (by omega) hp (by omega))
          exact ⟨by rw [hf.1, hf.2, ins_eq] <;> rfl, hS.keeps⟩)

theorem codeP_c {h : AHeap} {n k : Int} : ACalls Go.Proofs.Tryd.prog 23 [.int .i64 n, .int .i64 k] h (fun q h' => ∃ v, q = .tup [v, .int .i64 (codeE n k)] ∧ St h h' [⟨v, 1, wcs (codeS n k), true⟩]) := by
  refine KA.fn 34 [.tmp 4, .tmp 5] Go.Proofs.Tryd.func23 rfl (by decide) rfl rfl (Nat.le_of_ble_eq_true rfl) ?_
  have hS := St.refl h
  show KA _ 34 _ _ [(0, .int .i64 n), (1, .int .i64 k)] _
  refine KA.seq ?_
  refine KA.region rfl ?_
  refine KOps.assign ?_
  refine KOps.assign ?_
  refine KOps.done ?_
  refine sqQ.normal ?_
  refine KA.sub (Sub.cons (t := 0) Look.eq (Sub.cons (t := 1) Look.eq (Sub.nil _))) ?_
  refine KA.seq ?_
  refine KA.seq ?_
  refine KA.region rfl ?_
  refine KOps.move ?_
  refine KOps.move ?_
  refine KOps.call rfl (coded_c) ?_
  rintro _ _ ⟨rfl, rfl⟩
  refine KOps.not ?_
  refine KOps.done ?_
  refine sqQ.normal ?_
  refine KA.sub (Sub.cons (t := 0) Look.eq (Sub.cons (t := 1) Look.eq (Sub.cons (t := 12) Look.eq (Sub.nil _)))) ?_
  refine KA.condN ?_ ?_
  · intro c12
    refine KA.seq ?_
    refine KA.region rfl ?_
    refine KOps.assign ?_
    refine KOps.assign ?_
    refine KOps.done ?_
    refine sqQ.normal ?_
    refine KA.sub (Sub.cons (t := 4) Look.eq (Sub.cons (t := 5) Look.eq (Sub.nil _))) ?_
    refine KA.ret ?_
    refine sqQ.ret ?_
    refine fnQ.retN ?_
    have hE : codeE n k = 1 := if_neg (by omega)
    refine ⟨_, by rw [hE], ?_⟩
    rw [codeS, hE, if_neg (by decide)]
    exact St.pick [0] (by decide) rfl (hS.nil 1)
  · intro c12
    obtain ⟨a, b, rfl, rfl, ha, hb⟩ : ∃ a b : Nat, n = (a : Int) ∧ k = (b : Int) ∧ a ≤ 10 ∧ b ≤ a := ⟨n.toNat, k.toNat, by omega, by omega, by omega, by omega⟩
    have hpw : 2 ^ a ≤ 2 ^ 10 := Nat.pow_le_pow_right (by decide) ha
    have hal := allW_len a
    refine KA.skip ?_
    refine sqQ.normal ?_
    refine KA.sub (Sub.cons (t := 0) Look.eq (Sub.cons (t := 1) Look.eq (Sub.nil _))) ?_
    refine KA.seq ?_
    refine KA.region rfl ?_
    refine KOps.assign ?_
    refine KOps.done ?_
    refine sqQ.normal ?_
    refine KA.seq ?_
    refine KA.seq ?_
    refine KA.region rfl ?_
    refine KOps.move ?_
    refine KOps.shl (by omega) ?_
    rw [shl64 a (by omega)]
    refine KOps.move ?_
    refine KOps.done ?_
    refine sqQ.normal ?_
    refine KA.sub (Sub.cons (t := 0) Look.eq (Sub.cons (t := 1) Look.eq (Sub.cons (t := 6) Look.eq (Sub.cons (t := 14) Look.eq (Sub.cons (t := 15) Look.eq (Sub.nil _)))))) ?_
    refine KA.block ?_
    refine KA.loop (X := Nat × AV) (fun x => [(0, .int .i64 (a : Int)), (1, .int .i64 (b : Int)), (6, x.2), (14, .int .i64 ((2 ^ a : Nat) : Int)), (15, .int .i64 (x.1 : Int))]) (fun x h' => x.1 ≤ 2 ^ a ∧ St h h' [⟨x.2, 1, wcs (((allW a).take x.1).filter (fun w => decide (cls w = b))), true⟩]) (fun x => 2 ^ a - x.1) (0, .nils) (by repeat (first | exact Sub.nil _ | refine Sub.cons Look.eq ?_ | refine Sub.cons (Eq.trans Look.eq (congrArg (AV.int _) (by first | omega | (dsimp only; omega)))) ?_)) ?_ ?_
    · exact ⟨Nat.zero_le _, hS.nil 1⟩
    rintro ⟨x, v6⟩ h2 ⟨hx, hS⟩
    dsimp only at hx hS ⊢
    have hfl := filt_len (allW a) (fun w => decide (cls w = b)) x
    refine KA.seq ?_
    refine KA.region rfl ?_
    refine KOps.lss ?_
    refine KOps.done ?_
    refine sqQ.normal ?_
    refine KA.seq ?_
    refine KA.condD ?_ ?_
    · intro c16
      refine KA.skip ?_
      refine sqQ.normal ?_
      refine KA.sub (Sub.cons (t := 0) Look.eq (Sub.cons (t := 1) Look.eq (Sub.cons (t := 6) Look.eq (Sub.cons (t := 14) Look.eq (Sub.cons (t := 15) Look.eq (Sub.nil _)))))) ?_
      refine KA.seq ?_
      refine KA.block ?_
      refine KA.seq ?_
      refine KA.region rfl ?_
      refine KOps.move ?_
      refine KOps.assign ?_
      refine KOps.done ?_
      refine sqQ.normal ?_
      refine KA.sub (Sub.cons (t := 0) Look.eq (Sub.cons (t := 1) Look.eq (Sub.cons (t := 6) Look.eq (Sub.cons (t := 7) Look.eq (Sub.cons (t := 14) Look.eq (Sub.cons (t := 15) Look.eq (Sub.nil _))))))) ?_
      refine KA.seq ?_
      refine KA.region rfl ?_
      have hbl := bitsW_len a x
      have hxa : x < 2 ^ a := by omega
      have hsm := wtTo_small (bitsW a x) (k := (bitsW a x).length) (by omega)
      have hag := allW_get hxa
      have hcl := cls_of hbl
      refine KOps.move ?_
      refine KOps.move ?_
      refine KOps.call rfl (written_c (by omega) (by omega)) ?_
      rintro _ _ ⟨rfl, rfl⟩
      refine KOps.assign ?_
      refine KOps.done ?_
      refine sqQ.normal ?_
      refine KA.sub (Sub.cons (t := 0) Look.eq (Sub.cons (t := 1) Look.eq (Sub.cons (t := 6) Look.eq (Sub.cons (t := 8) Look.eq (Sub.cons (t := 14) Look.eq (Sub.cons (t := 15) Look.eq (Sub.nil _))))))) ?_
      refine KA.seq ?_
      refine KA.region rfl ?_
      refine KOps.move ?_
      refine KOps.call rfl (heavyF_c (by omega)) ?_
      rintro _ _ ⟨rfl, rfl⟩
      refine KOps.move ?_
      refine KOps.add (by first | omega | (simp; omega)) (by first | omega | (simp; omega)) ?_
      refine KOps.remN (i := wtTo (bitsW a x) (bitsW a x).length) (j := a + 1) (by first | rfl | omega | (simp; done)) (by first | rfl | omega | (simp; omega)) (by omega) (by omega) ?_
      refine KOps.move ?_
      refine KOps.eql ?_
      refine KOps.done ?_
      refine sqQ.normal ?_
      refine KA.sub (Sub.cons (t := 0) Look.eq (Sub.cons (t := 1) Look.eq (Sub.cons (t := 6) Look.eq (Sub.cons (t := 8) Look.eq (Sub.cons (t := 14) Look.eq (Sub.cons (t := 15) Look.eq (Sub.cons (t := 27) Look.eq (Sub.nil _)))))))) ?_
      refine KA.condD ?_ ?_
      · intro c27
        refine KA.region rfl ?_
        refine KOps.move ?_
        refine KOps.move ?_
        refine KOps.buildSlice hS rfl (by decide) rfl ?_
        intro v30 h' hS
        refine KOps.appendW1 hS (fun _ => rfl) (i := 0) rfl (by first | omega | (simp; done) | (simp; omega)) ?_
        intro r31 h' hr31 hS
        refine KOps.assign ?_
        refine KOps.done ?_
        refine blQ.normal ?_
        refine sqQ.normal ?_
        refine KA.sub (Sub.cons (t := 0) Look.eq (Sub.cons (t := 1) Look.eq (Sub.cons (t := 6) Look.eq (Sub.cons (t := 14) Look.eq (Sub.cons (t := 15) Look.eq (Sub.nil _)))))) ?_
        refine KA.region rfl ?_
        refine KOps.add (by first | omega | (simp; omega)) (by first | omega | (simp; omega)) ?_
        refine KOps.move ?_
        refine KOps.done ?_
        rw [← hag] at hS
        rw [← filt_yes (p := (fun w => decide (cls w = b))) (by omega) (by rw [hag, hcl]; exact decide_eq_true (Int.natCast_inj.1 c27))] at hS
        exact lpQ.normal (x + 1, _) (by repeat (first | exact Sub.nil _ | refine Sub.cons Look.eq ?_ | refine Sub.cons (Eq.trans Look.eq (congrArg (AV.int _) (by first | omega | (dsimp only; omega)))) ?_)) ⟨by dsimp only; omega, hS⟩ (by dsimp only; omega)
      · intro c27
        refine KA.skip ?_
        refine blQ.normal ?_
        refine sqQ.normal ?_
        refine KA.sub (Sub.cons (t := 0) Look.eq (Sub.cons (t := 1) Look.eq (Sub.cons (t := 6) Look.eq (Sub.cons (t := 14) Look.eq (Sub.cons (t := 15) Look.eq (Sub.nil _)))))) ?_
        refine KA.region rfl ?_
        refine KOps.add (by first | omega | (simp; omega)) (by first | omega | (simp; omega)) ?_
        refine KOps.move ?_
        refine KOps.done ?_
        rw [← filt_no (p := (fun w => decide (cls w = b))) (by omega) (by rw [hag, hcl, decide_eq_false (fun q => c27 (congrArg (Nat.cast (R := Int)) q))]; decide)] at hS
        exact lpQ.normal (x + 1, _) (by repeat (first | exact Sub.nil _ | refine Sub.cons Look.eq ?_ | refine Sub.cons (Eq.trans Look.eq (congrArg (AV.int _) (by first | omega | (dsimp only; omega)))) ?_)) ⟨by dsimp only; omega, hS⟩ (by dsimp only; omega)
    · intro c16
      refine KA.exit ?_
      refine sqQ.exit ?_
      refine lpQ.exit ?_
      refine blQ.here ?_
      refine sqQ.normal ?_
      refine KA.sub (Sub.cons (t := 6) Look.eq (Sub.nil _)) ?_
      refine KA.seq ?_
      refine KA.region rfl ?_
      refine KOps.move ?_
      refine KOps.assign ?_
      refine KOps.assign ?_
      refine KOps.done ?_
      refine sqQ.normal ?_
      refine KA.sub (Sub.cons (t := 4) Look.eq (Sub.cons (t := 5) Look.eq (Sub.nil _))) ?_
      refine KA.ret ?_
      refine fnQ.retN ?_
      have he : x = (allW a).length := by omega
      subst he
      rw [List.take_length] at hS
      refine ⟨_, by rw [codeE_nat ha hb], ?_⟩
      rw [codeS_nat ha hb]
      exact hS

theorem sizeP_c {h : AHeap} {n k : Int} : ACalls Go.Proofs.Tryd.prog 25 [.int .i64 n, .int .i64 k] h (fun q h' => q = .tup [.int .i64 ((codeS n k).length : Int), .int .i64 (codeE n k)] ∧ Keeps h h') := by
  refine KA.fn 44 [.tmp 4, .tmp 5] Go.Proofs.Tryd.func25 rfl (by decide) rfl rfl (Nat.le_of_ble_eq_true rfl) ?_
  have hS := St.refl h
  show KA _ 44 _ _ [(0, .int .i64 n), (1, .int .i64 k)] _
  refine KA.seq ?_
  refine KA.region rfl ?_
  refine KOps.assign ?_
  refine KOps.assign ?_
  refine KOps.done ?_
  refine sqQ.normal ?_
  refine KA.sub (Sub.cons (t := 0) Look.eq (Sub.cons (t := 1) Look.eq (Sub.nil _))) ?_
  refine KA.seq ?_
  refine KA.seq ?_
  refine KA.region rfl ?_
  refine KOps.move ?_
  refine KOps.move ?_
  refine KOps.call rfl (coded_c) ?_
  rintro _ _ ⟨rfl, rfl⟩
  refine KOps.not ?_
  refine KOps.done ?_
  refine sqQ.normal ?_
  refine KA.sub (Sub.cons (t := 0) Look.eq (Sub.cons (t := 1) Look.eq (Sub.cons (t := 13) Look.eq (Sub.nil _)))) ?_
  refine KA.condN ?_ ?_
  · intro c13
    refine KA.seq ?_
    refine KA.region rfl ?_
    refine KOps.assign ?_
    refine KOps.assign ?_
    refine KOps.done ?_
    refine sqQ.normal ?_
    refine KA.sub (Sub.cons (t := 4) Look.eq (Sub.cons (t := 5) Look.eq (Sub.nil _))) ?_
    refine KA.ret ?_
    refine sqQ.ret ?_
    refine fnQ.retN ?_
    have hE : codeE n k = 1 := if_neg (by omega)
    exact ⟨by rw [codeS, hE, if_neg (by decide)]; rfl, hS.keeps⟩
  · intro c13
    obtain ⟨a, b, rfl, rfl, ha, hb⟩ : ∃ a b : Nat, n = (a : Int) ∧ k = (b : Int) ∧ a ≤ 10 ∧ b ≤ a := ⟨n.toNat, k.toNat, by omega, by omega, by omega, by omega⟩
    refine KA.skip ?_
    refine sqQ.normal ?_
    refine KA.sub (Sub.cons (t := 0) Look.eq (Sub.cons (t := 1) Look.eq (Sub.nil _))) ?_
    refine KA.seq ?_
    refine KA.region rfl ?_
    refine KOps.alloc hS ?_
    intro p6 h2 hp6 hS
    have hS : St h h2 [⟨p6, 0, ints (List.replicate 11 0), true⟩] := hS
    refine KOps.done ?_
    refine sqQ.normal ?_
    refine KA.seq ?_
    refine KA.region rfl ?_
    refine KOps.indexA hp6 (j := 0) rfl (by first | omega | (simp; done) | (simp; omega)) ?_
    intro p14 hp14
    refine KOps.storeA hS rfl (i := 0) rfl hp14 (by first | omega | (simp; done) | (simp; omega)) ?_
    intro h' hS
    simp only [List.set_cons_zero, List.set_cons_succ, Nat.zero_add] at hS
    rw [cntL_zero (m := a + 1) (by omega)] at hS
    refine KOps.done ?_
    refine sqQ.normal ?_
    refine KA.sub (Sub.cons (t := 0) Look.eq (Sub.cons (t := 1) Look.eq (Sub.cons (t := 6) Look.eq (Sub.nil _)))) ?_
    refine KA.seq ?_
    refine KA.seq ?_
    refine KA.region rfl ?_
    refine KOps.assign ?_
    refine KOps.done ?_
    refine sqQ.normal ?_
    refine KA.block ?_
    refine KA.loop (X := Nat) (fun i => [(0, .int .i64 (a : Int)), (1, .int .i64 (b : Int)), (6, p6), (7, .int .i64 (i : Int))]) (fun i h' => 1 ≤ i ∧ i ≤ a + 1 ∧ St h h' [⟨p6, 0, ints (cntL (a + 1) (i - 1)), true⟩]) (fun i => a + 1 - i) 1 (by repeat (first | exact Sub.nil _ | refine Sub.cons Look.eq ?_ | refine Sub.cons (Eq.trans Look.eq (congrArg (AV.int _) (by first | omega | (dsimp only; omega)))) ?_)) ?_ ?_
    · exact ⟨Nat.le_refl _, by omega, hS⟩
    rintro i h3 ⟨hi1, hi2, hS⟩
    refine KA.seq ?_
    refine KA.seq ?_
    refine KA.region rfl ?_
    refine KOps.move ?_
    refine KOps.move ?_
    refine KOps.leq ?_
    refine KOps.done ?_
    refine sqQ.normal ?_
    refine KA.sub (Sub.cons (t := 0) Look.eq (Sub.cons (t := 1) Look.eq (Sub.cons (t := 6) Look.eq (Sub.cons (t := 7) Look.eq (Sub.cons (t := 17) Look.eq (Sub.nil _)))))) ?_
    refine KA.condD ?_ ?_
    · intro c17
      refine KA.skip ?_
      refine sqQ.normal ?_
      refine KA.sub (Sub.cons (t := 0) Look.eq (Sub.cons (t := 1) Look.eq (Sub.cons (t := 6) Look.eq (Sub.cons (t := 7) Look.eq (Sub.nil _))))) ?_
      refine KA.seq ?_
      refine KA.block ?_
      refine KA.seq ?_
      refine KA.region rfl ?_
      refine KOps.loadArrI hS (i := 0) rfl hp6 (cntL_len _ _) (by omega) ?_
      refine KOps.alloc hS ?_
      intro p8 h6 hp8 hS
      refine KOps.storeArrI hS rfl (i := 0) rfl hp8 (cntL_len _ _) rfl (by omega) ?_
      intro h' hS
      simp only [List.set_cons_zero, List.set_cons_succ, Nat.zero_add] at hS
      refine KOps.done ?_
      refine sqQ.normal ?_
      refine KA.sub (Sub.cons (t := 0) Look.eq (Sub.cons (t := 1) Look.eq (Sub.cons (t := 6) Look.eq (Sub.cons (t := 7) Look.eq (Sub.cons (t := 8) Look.eq (Sub.nil _)))))) ?_
      refine KA.seq ?_
      refine KA.seq ?_
      refine KA.region rfl ?_
      refine KOps.move ?_
      refine KOps.add (by first | omega | (simp; omega)) (by first | omega | (simp; omega)) ?_
      refine KOps.move ?_
      refine KOps.done ?_
      refine sqQ.normal ?_
      refine KA.sub (Sub.cons (t := 0) Look.eq (Sub.cons (t := 1) Look.eq (Sub.cons (t := 6) Look.eq (Sub.cons (t := 7) Look.eq (Sub.cons (t := 8) Look.eq (Sub.cons (t := 22) Look.eq (Sub.cons (t := 23) Look.eq (Sub.nil _)))))))) ?_
      refine KA.block ?_
      refine KA.loop (X := Nat) (fun c => [(0, .int .i64 (a : Int)), (1, .int .i64 (b : Int)), (6, p6), (7, .int .i64 (i : Int)), (8, p8), (22, .int .i64 ((a : Int) + 1)), (23, .int .i64 (c : Int))]) (fun c h' => c ≤ a + 1 ∧ St h h' [⟨p8, 0, ints (nextTo (a + 1) (i - 1) c), true⟩, ⟨p6, 0, ints (cntL (a + 1) (i - 1)), true⟩]) (fun c => a + 1 - c) 0 (by repeat (first | exact Sub.nil _ | refine Sub.cons Look.eq ?_ | refine Sub.cons (Eq.trans Look.eq (congrArg (AV.int _) (by first | omega | (dsimp only; omega)))) ?_)) ?_ ?_
      · exact ⟨Nat.zero_le _, hS⟩
      rintro c h5 ⟨hc, hS⟩
      refine KA.seq ?_
      refine KA.region rfl ?_
      refine KOps.lss ?_
      refine KOps.done ?_
      refine sqQ.normal ?_
      refine KA.seq ?_
      refine KA.condD ?_ ?_
      · intro c24
        refine KA.skip ?_
        refine sqQ.normal ?_
        refine KA.sub (Sub.cons (t := 0) Look.eq (Sub.cons (t := 1) Look.eq (Sub.cons (t := 6) Look.eq (Sub.cons (t := 7) Look.eq (Sub.cons (t := 8) Look.eq (Sub.cons (t := 22) Look.eq (Sub.cons (t := 23) Look.eq (Sub.nil _)))))))) ?_
        refine KA.seq ?_
        refine KA.block ?_
        refine KA.seq ?_
        refine KA.region rfl ?_
        refine KOps.move ?_
        refine KOps.assign ?_
        refine KOps.done ?_
        refine sqQ.normal ?_
        refine KA.sub (Sub.cons (t := 0) Look.eq (Sub.cons (t := 1) Look.eq (Sub.cons (t := 6) Look.eq (Sub.cons (t := 7) Look.eq (Sub.cons (t := 8) Look.eq (Sub.cons (t := 9) Look.eq (Sub.cons (t := 22) Look.eq (Sub.cons (t := 23) Look.eq (Sub.nil _))))))))) ?_
        refine KA.draw [] mixed rfl (by kernel_rfl) ?_
        have hpl : pos (a + 1) (i - 1 + 1) c < a + 1 := pos_lt (by omega)
        have hb1 := nextTo_small (m := a + 1) (i := i - 1) (c := c) (k := pos (a + 1) (i - 1 + 1) c) (by omega) (by omega) (by omega) (by omega)
        have hb2 := cntL_small (m := a + 1) (i := i - 1) (k := c) (by omega) (by omega)
        have hnl := nextTo_len (a + 1) (i - 1) c
        have hcn := cntL_len (a + 1) (i - 1)
        refine KOps.move ?_
        refine KOps.move ?_
        refine KOps.add (by first | omega | (simp; omega)) (by first | omega | (simp; omega)) ?_
        refine KOps.move ?_
        refine KOps.add (by first | omega | (simp; omega)) (by first | omega | (simp; omega)) ?_
        refine KOps.remN (i := c + (i - 1 + 1)) (j := a + 1) (by first | rfl | omega | (simp; done)) (by first | rfl | omega | (simp; omega)) (by omega) (by omega) ?_
        refine KOps.indexA hp8 (j := pos (a + 1) (i - 1 + 1) c) rfl (by omega) ?_
        intro p32 hp32
        refine KOps.loadA hS (i := 0) rfl hp32 (by first | omega | (simp; done) | (simp; omega)) ?_
        refine KOps.move ?_
        refine KOps.indexA hp6 (j := c) rfl (by first | omega | (simp; done) | (simp; omega)) ?_
        intro p35 hp35
        refine KOps.loadA hS (i := 1) rfl hp35 (by first | omega | (simp; done) | (simp; omega)) ?_
        refine KOps.add (by first | omega | (simp; omega)) (by first | omega | (simp; omega)) ?_
        refine KOps.indexA hp8 (j := pos (a + 1) (i - 1 + 1) c) rfl (by omega) ?_
        intro p38 hp38
        refine KOps.storeA hS rfl (i := 0) rfl hp38 (by first | omega | (simp; done) | (simp; omega)) ?_
        intro h' hS
        simp only [List.set_cons_zero, List.set_cons_succ, Nat.zero_add] at hS
        refine KOps.done ?_
        refine blQ.normal ?_
        refine sqQ.normal ?_
        refine KA.sub (Sub.cons (t := 0) Look.eq (Sub.cons (t := 1) Look.eq (Sub.cons (t := 6) Look.eq (Sub.cons (t := 7) Look.eq (Sub.cons (t := 8) Look.eq (Sub.cons (t := 22) Look.eq (Sub.cons (t := 23) Look.eq (Sub.nil _)))))))) ?_
        refine KA.region rfl ?_
        refine KOps.add (by first | omega | (simp; omega)) (by first | omega | (simp; omega)) ?_
        refine KOps.move ?_
        refine KOps.done ?_
        exact lpQ.normal (c + 1) (by repeat (first | exact Sub.nil _ | refine Sub.cons Look.eq ?_ | refine Sub.cons (Eq.trans Look.eq (congrArg (AV.int _) (by first | omega | (dsimp only; omega)))) ?_)) ⟨by omega, hS⟩ (by omega)
      · intro c24
        refine KA.exit ?_
        refine sqQ.exit ?_
        refine lpQ.exit ?_
        refine blQ.here ?_
        refine sqQ.normal ?_
        refine KA.sub (Sub.cons (t := 0) Look.eq (Sub.cons (t := 1) Look.eq (Sub.cons (t := 6) Look.eq (Sub.cons (t := 7) Look.eq (Sub.cons (t := 8) Look.eq (Sub.nil _)))))) ?_
        refine KA.region rfl ?_
        refine KOps.loadArrI hS (i := 0) rfl hp8 (nextTo_len _ _ _) (by omega) ?_
        refine KOps.storeArrI hS rfl (i := 1) rfl hp6 (nextTo_len _ _ _) (by simp [cntL_len]) (by omega) ?_
        intro h' hS
        simp only [List.set_cons_zero, List.set_cons_succ, Nat.zero_add] at hS
        refine KOps.done ?_
        refine blQ.normal ?_
        refine sqQ.normal ?_
        refine KA.sub (Sub.cons (t := 0) Look.eq (Sub.cons (t := 1) Look.eq (Sub.cons (t := 6) Look.eq (Sub.cons (t := 7) Look.eq (Sub.nil _))))) ?_
        refine KA.region rfl ?_
        refine KOps.move ?_
        refine KOps.add (by first | omega | (simp; omega)) (by first | omega | (simp; omega)) ?_
        refine KOps.assign ?_
        refine KOps.done ?_
        have hce : c = a + 1 := by omega
        subst hce
        rw [nextTo_all (by omega) (by omega)] at hS
        exact lpQ.normal (i + 1) (by repeat (first | exact Sub.nil _ | refine Sub.cons Look.eq ?_ | refine Sub.cons (Eq.trans Look.eq (congrArg (AV.int _) (by first | omega | (dsimp only; omega)))) ?_)) ⟨by omega, by omega, by rw [show i + 1 - 1 = i - 1 + 1 by omega]; exact St.pick [1] (by decide) rfl hS⟩ (by omega)
    · intro c17
      refine KA.exit ?_
      refine sqQ.exit ?_
      refine lpQ.exit ?_
      refine blQ.here ?_
      refine sqQ.normal ?_
      refine KA.sub (Sub.cons (t := 1) Look.eq (Sub.cons (t := 6) Look.eq (Sub.nil _))) ?_
      refine KA.seq ?_
      refine KA.region rfl ?_
      have hie : i = a + 1 := by omega
      subst hie
      have hcn := cntL_len (a + 1) (a + 1 - 1)
      refine KOps.move ?_
      refine KOps.indexA hp6 (j := b) rfl (by first | omega | (simp; done) | (simp; omega)) ?_
      intro p42 hp42
      refine KOps.loadA hS (i := 0) rfl hp42 (by first | omega | (simp; done) | (simp; omega)) ?_
      refine KOps.assign ?_
      refine KOps.assign ?_
      refine KOps.done ?_
      refine sqQ.normal ?_
      refine KA.sub (Sub.cons (t := 4) Look.eq (Sub.cons (t := 5) Look.eq (Sub.nil _))) ?_
      refine KA.ret ?_
      refine fnQ.retN ?_
      refine ⟨?_, hS.keeps⟩
      rw [codeE_nat ha hb, codeS_nat ha hb, codeW_len, cntL_get (by omega), if_pos (by omega)]; rfl

end Go.Am

namespace Go.Am

theorem shared_c {h : AHeap} {va vb : AV} {l m : List (List Bool)} (ha : WRow h va l) (hb : WRow h vb m) (hn : l.length ≤ 4096) (hm : m.length ≤ 4096) (hs : Asc m) : ACalls Go.Proofs.Tryd.prog 63 [va, vb] h (fun q h' => q = .tup [.str (wd (((l.find? fun x => decide (x ∈ m))).getD [])), .bool ((l.find? fun x => decide (x ∈ m))).isSome] ∧ h = h') := by
  refine KA.fn 25 [.tmp 4, .tmp 5] Go.Proofs.Tryd.func63 rfl (by decide) rfl rfl (Nat.le_of_ble_eq_true rfl) ?_
  show KA _ 25 _ _ [(0, va), (1, vb)] _
  refine KA.seq ?_
  refine KA.region rfl ?_
  refine KOps.assign ?_
  refine KOps.assign ?_
  refine KOps.done ?_
  refine sqQ.normal ?_
  refine KA.sub (Sub.cons (t := 0) Look.eq (Sub.cons (t := 1) Look.eq (Sub.nil _))) ?_
  refine KA.seq ?_
  refine KA.seq ?_
  refine KA.region rfl ?_
  refine KOps.move ?_
  refine KOps.lenI ha ?_
  refine KOps.move ?_
  refine KOps.done ?_
  refine sqQ.normal ?_
  refine KA.sub (Sub.cons (t := 1) Look.eq (Sub.cons (t := 10) Look.eq (Sub.cons (t := 11) Look.eq (Sub.cons (t := 12) Look.eq (Sub.nil _))))) ?_
  refine KA.block ?_
  refine KA.loop (X := Nat) (fun i => [(1, vb), (10, va), (11, .int .i64 (l.length : Int)), (12, .int .i64 (i : Int))]) (fun i h' => i ≤ l.length ∧ (∀ j, j < i → ¬ decide (l.getD j [] ∈ m) = true) ∧ h = h') (fun i => l.length - i) 0 (by repeat (first | exact Sub.nil _ | refine Sub.cons Look.eq ?_ | refine Sub.cons (Eq.trans Look.eq (congrArg (AV.int _) (by first | omega | (dsimp only; omega)))) ?_)) ?_ ?_
  · exact ⟨Nat.zero_le _, fun j hj => absurd hj (Nat.not_lt_zero _), rfl⟩
  rintro i h2 ⟨hi, hno, rfl⟩
  refine KA.seq ?_
  refine KA.region rfl ?_
  refine KOps.lss ?_
  refine KOps.done ?_
  refine sqQ.normal ?_
  refine KA.seq ?_
  refine KA.condD ?_ ?_
  · intro c13
    refine KA.skip ?_
    refine sqQ.normal ?_
    refine KA.sub (Sub.cons (t := 1) Look.eq (Sub.cons (t := 10) Look.eq (Sub.cons (t := 11) Look.eq (Sub.cons (t := 12) Look.eq (Sub.nil _))))) ?_
    refine KA.seq ?_
    refine KA.block ?_
    refine KA.seq ?_
    refine KA.region rfl ?_
    refine KOps.indexIJ ha (j := i) rfl (by first | omega | (simp; done) | (simp; omega)) ?_
    intro p14 hp14
    refine KOps.loadW hp14 ha (by first | omega | (simp; done) | (simp; omega)) ?_
    refine KOps.assign ?_
    refine KOps.done ?_
    refine sqQ.normal ?_
    refine KA.sub (Sub.cons (t := 1) Look.eq (Sub.cons (t := 7) Look.eq (Sub.cons (t := 10) Look.eq (Sub.cons (t := 11) Look.eq (Sub.cons (t := 12) Look.eq (Sub.nil _)))))) ?_
    refine KA.seq ?_
    refine KA.region rfl ?_
    refine KOps.move ?_
    refine KOps.move ?_
    refine KOps.call rfl (search_c hb (by omega) hs) ?_
    rintro _ _ ⟨⟨j, rfl⟩, rfl⟩
    refine KOps.move ?_
    refine KOps.extract ?_
    refine KOps.extract ?_
    refine KOps.assign ?_
    refine KOps.assign ?_
    refine KOps.done ?_
    refine sqQ.normal ?_
    refine KA.sub (Sub.cons (t := 1) Look.eq (Sub.cons (t := 7) Look.eq (Sub.cons (t := 9) Look.eq (Sub.cons (t := 10) Look.eq (Sub.cons (t := 11) Look.eq (Sub.cons (t := 12) Look.eq (Sub.nil _))))))) ?_
    refine KA.seq ?_
    refine KA.region rfl ?_
    refine KOps.move ?_
    refine KOps.done ?_
    refine sqQ.normal ?_
    refine KA.sub (Sub.cons (t := 1) Look.eq (Sub.cons (t := 7) Look.eq (Sub.cons (t := 10) Look.eq (Sub.cons (t := 11) Look.eq (Sub.cons (t := 12) Look.eq (Sub.cons (t := 22) Look.eq (Sub.nil _))))))) ?_
    refine KA.condD ?_ ?_
    · intro c22
      refine KA.seq ?_
      refine KA.region rfl ?_
      refine KOps.move ?_
      refine KOps.assign ?_
      refine KOps.assign ?_
      refine KOps.done ?_
      refine sqQ.normal ?_
      refine KA.sub (Sub.cons (t := 4) Look.eq (Sub.cons (t := 5) Look.eq (Sub.nil _))) ?_
      refine KA.ret ?_
      refine blQ.ret ?_
      refine sqQ.ret ?_
      refine lpQ.ret ?_
      refine blQ.ret ?_
      refine sqQ.ret ?_
      refine fnQ.retN ?_
      have hf := find_take (l := l) (p := fun x => decide (x ∈ m)) (by omega) hno (decide_eq_true c22)
      exact ⟨by rw [hf]; rfl, rfl⟩
    · intro c22
      refine KA.skip ?_
      refine blQ.normal ?_
      refine sqQ.normal ?_
      refine KA.sub (Sub.cons (t := 1) Look.eq (Sub.cons (t := 10) Look.eq (Sub.cons (t := 11) Look.eq (Sub.cons (t := 12) Look.eq (Sub.nil _))))) ?_
      refine KA.region rfl ?_
      refine KOps.add (by first | omega | (simp; omega)) (by first | omega | (simp; omega)) ?_
      refine KOps.move ?_
      refine KOps.done ?_
      exact lpQ.normal (i + 1) (by repeat (first | exact Sub.nil _ | refine Sub.cons Look.eq ?_ | refine Sub.cons (Eq.trans Look.eq (congrArg (AV.int _) (by first | omega | (dsimp only; omega)))) ?_)) ⟨by omega, fun j hj => by
        rcases Nat.lt_succ_iff_lt_or_eq.1 hj with h | rfl
        · exact hno j h
        · rw [decide_eq_false c22]; decide, rfl⟩ (by omega)
  · intro c13
    refine KA.exit ?_
    refine sqQ.exit ?_
    refine lpQ.exit ?_
    refine blQ.here ?_
    refine sqQ.normal ?_
    refine KA.sub (Sub.nil _) ?_
    refine KA.seq ?_
    refine KA.region rfl ?_
    refine KOps.assign ?_
    refine KOps.assign ?_
    refine KOps.done ?_
    refine sqQ.normal ?_
    refine KA.ret ?_
    refine fnQ.retN ?_
    have hf := find_none (l := l) (p := fun x => decide (x ∈ m)) (fun j hj => hno j (by omega))
    exact ⟨by rw [hf]; rfl, rfl⟩

theorem sharedW_c {h : AHeap} {va vb : AV} {a b : List Bool} (ha : WRow h va (shortW a)) (hb : WRow h vb (shortW b)) (hla : a.length ≤ 10) (hlb : b.length ≤ 10) : ACalls Go.Proofs.Tryd.prog 63 [va, vb] h (fun q h' => q = .tup [.str (wd ((comW a b).getD [])), .bool (comW a b).isSome] ∧ h = h') := by
  have h1 := shortW_len a
  have h2 := shortW_len b
  have p1 : 2 ^ (a.length - 1) ≤ 2 ^ 10 := Nat.pow_le_pow_right (by decide) (by omega)
  have p2 : 2 ^ (b.length - 1) ≤ 2 ^ 10 := Nat.pow_le_pow_right (by decide) (by omega)
  have hc := shared_c ha hb (by omega) (by omega) (shortW_asc b)
  rw [com_find] at hc
  exact hc
theorem comP_c {h : AHeap} {a b : ByteArray} : ACalls Go.Proofs.Tryd.prog 33 [.str a, .str b] h (fun q h' => q = .tup [.str (wd (comS a b)), .int .i64 (comE a b)] ∧ Keeps h h') := by
  refine KA.fn 44 [.tmp 4, .tmp 5] Go.Proofs.Tryd.func33 rfl (by decide) rfl rfl (Nat.le_of_ble_eq_true rfl) ?_
  have hS := St.refl h
  show KA _ 44 _ _ [(0, .str a), (1, .str b)] _
  refine KA.seq ?_
  refine KA.region rfl ?_
  refine KOps.assign ?_
  refine KOps.assign ?_
  refine KOps.done ?_
  refine sqQ.normal ?_
  refine KA.sub (Sub.cons (t := 0) Look.eq (Sub.cons (t := 1) Look.eq (Sub.nil _))) ?_
  refine KA.seq ?_
  refine KA.region rfl ?_
  refine KOps.move ?_
  refine KOps.call rfl (checkF_c) ?_
  rintro _ _ ⟨rfl, rfl⟩
  refine KOps.assign ?_
  refine KOps.done ?_
  refine sqQ.normal ?_
  refine KA.sub (Sub.cons (t := 0) Look.eq (Sub.cons (t := 1) Look.eq (Sub.cons (t := 6) Look.eq (Sub.nil _)))) ?_
  refine KA.meet (X := Int) (fun x => [(0, .str a), (1, .str b), (6, .int .i64 x)]) (fun x h' => x = chk2 a b ∧ St h h' []) ?_ ?_
  ·
    refine KA.seq ?_
    refine KA.region rfl ?_
    refine KOps.move ?_
    refine KOps.eql ?_
    refine KOps.done ?_
    refine sqQ.normal ?_
    refine KA.sub (Sub.cons (t := 0) Look.eq (Sub.cons (t := 1) Look.eq (Sub.cons (t := 6) Look.eq (Sub.cons (t := 12) Look.eq (Sub.nil _))))) ?_
    refine KA.condD ?_ ?_
    · intro c12
      refine KA.region rfl ?_
      refine KOps.move ?_
      refine KOps.call rfl (checkF_c) ?_
      rintro _ _ ⟨rfl, rfl⟩
      refine KOps.assign ?_
      refine KOps.done ?_
      exact mtQ.normal (chkS b) (by repeat (first | exact Sub.nil _ | refine Sub.cons Look.eq ?_ | refine Sub.cons (Eq.trans Look.eq (congrArg (AV.int _) (by first | omega | (dsimp only; omega)))) ?_)) ⟨by rw [chk2, if_pos c12], hS⟩
    · intro c12
      refine KA.skip ?_
      exact mtQ.normal (chkS a) (by repeat (first | exact Sub.nil _ | refine Sub.cons Look.eq ?_ | refine Sub.cons (Eq.trans Look.eq (congrArg (AV.int _) (by first | omega | (dsimp only; omega)))) ?_)) ⟨by rw [chk2, if_neg c12], hS⟩
  ·
    rintro e h2 ⟨rfl, hS⟩
    refine KA.seq ?_
    refine KA.block ?_
    refine KA.seq ?_
    refine KA.region rfl ?_
    refine KOps.move ?_
    refine KOps.neq ?_
    refine KOps.assign ?_
    refine KOps.done ?_
    refine sqQ.normal ?_
    refine KA.sub (Sub.cons (t := 0) Look.eq (Sub.cons (t := 1) Look.eq (Sub.cons (t := 6) Look.eq (Sub.cons (t := 15) Look.eq (Sub.nil _))))) ?_
    refine KA.condN ?_ ?_
    · intro c15
      refine KA.seq ?_
      refine KA.region rfl ?_
      refine KOps.move ?_
      refine KOps.assign ?_
      refine KOps.assign ?_
      refine KOps.done ?_
      refine sqQ.normal ?_
      refine KA.sub (Sub.cons (t := 4) Look.eq (Sub.cons (t := 5) Look.eq (Sub.nil _))) ?_
      refine KA.ret ?_
      refine blQ.ret ?_
      refine sqQ.ret ?_
      refine fnQ.retN ?_
      have hE1 := comE1_ne c15
      have hE2 : comE2 a b = chk2 a b := by rw [comE2_ne (by rw [hE1]; exact c15), hE1]
      have hE := comE_ne (a := a) (b := b) (by rw [hE2]; exact c15)
      exact ⟨by rw [hE.1, hE.2, hE2], hS.keeps⟩
    · intro c15
      obtain ⟨l, m, rfl, rfl, hl, hm⟩ := chk2_zero c15
      have hE1 := comE1_wd hl hm
      refine KA.seq ?_
      refine KA.region rfl ?_
      refine KOps.move ?_
      refine KOps.lenW ?_
      refine KOps.move ?_
      refine KOps.lenW ?_
      refine KOps.neq ?_
      refine KOps.move ?_
      refine KOps.guardB (dj := 25) rfl rfl false true rfl ?_ ?_
      · intro g25
        have g25 := of_not_decide g25
        refine KOps.move ?_
        refine KOps.guardYes (dj := 25) rfl rfl ?_
        refine KOps.wEql ?_
        refine KOps.pickF ?_
        refine KOps.assign ?_
        refine KOps.done ?_
        refine sqQ.normal ?_
        refine KA.sub (Sub.cons (t := 0) Look.eq (Sub.cons (t := 1) Look.eq (Sub.cons (t := 19) Look.eq (Sub.nil _)))) ?_
        refine KA.condD ?_ ?_
        · intro c19
          have hE5 : comE1 (wd l) (wd m) = 5 := by rw [hE1, if_neg (fun q => by first | omega | exact q.2 (by assumption))]
          refine KA.seq ?_
          refine KA.region rfl ?_
          refine KOps.assign ?_
          refine KOps.assign ?_
          refine KOps.done ?_
          refine sqQ.normal ?_
          refine KA.sub (Sub.cons (t := 4) Look.eq (Sub.cons (t := 5) Look.eq (Sub.nil _))) ?_
          refine KA.ret ?_
          refine blQ.ret ?_
          refine sqQ.ret ?_
          refine fnQ.retN ?_
          have hE2 := comE2_ne (a := wd l) (b := wd m) (by rw [hE5]; decide)
          have hE := comE_ne (a := wd l) (b := wd m) (by rw [hE2, hE5]; decide)
          exact ⟨by rw [hE.1, hE.2, hE2, hE5], hS.keeps⟩
        · intro c19
          have h1 : l.length = m.length := by omega
          have h2 : l ≠ [] := by assumption
          have hE0 : comE1 (wd l) (wd m) = 0 := by rw [hE1, if_pos ⟨h1, h2⟩]
          have hE2 := comE2_wd hE0
          have hl0 : 0 < l.length := List.length_pos_iff.2 h2
          refine KA.seq ?_
          refine KA.region rfl ?_
          refine KOps.move ?_
          refine KOps.move ?_
          refine KOps.wEql ?_
          refine KOps.assign ?_
          refine KOps.done ?_
          refine sqQ.normal ?_
          refine KA.sub (Sub.cons (t := 0) Look.eq (Sub.cons (t := 1) Look.eq (Sub.cons (t := 29) Look.eq (Sub.nil _)))) ?_
          refine KA.condD ?_ ?_
          · intro c29
            rw [if_pos c29] at hE2
            refine KA.seq ?_
            refine KA.region rfl ?_
            refine KOps.assign ?_
            refine KOps.assign ?_
            refine KOps.done ?_
            refine sqQ.normal ?_
            refine KA.sub (Sub.cons (t := 4) Look.eq (Sub.cons (t := 5) Look.eq (Sub.nil _))) ?_
            refine KA.ret ?_
            refine blQ.ret ?_
            refine sqQ.ret ?_
            refine fnQ.retN ?_
            have hE := comE_ne (a := wd l) (b := wd m) (by rw [hE2]; decide)
            exact ⟨by rw [hE.1, hE.2, hE2], hS.keeps⟩
          · intro c29
            have hz : comE2 (wd l) (wd m) = 0 := by rw [hE2, if_neg c29]
            refine KA.skip ?_
            refine blQ.normal ?_
            refine sqQ.normal ?_
            refine KA.sub (Sub.cons (t := 0) Look.eq (Sub.cons (t := 1) Look.eq (Sub.nil _))) ?_
            refine KA.seq ?_
            refine KA.region rfl ?_
            refine KOps.move ?_
            refine KOps.call rfl (less_w (by omega)) ?_
            rintro v35 h35 hS35
            have hS0 : St _ _ (_ :: _) := St.trans hS hS35
            clear hS
            have hS := hS0
            clear hS0
            refine KOps.move ?_
            refine KOps.call rfl (less_w (by omega)) ?_
            rintro v37 h37 hS37
            have hS0 : St _ _ (_ :: _) := St.trans hS hS37
            clear hS
            have hS := hS0
            clear hS0
            refine KOps.call rfl (sharedW_c (hS.rd 1 rfl) (hS.rd 0 rfl) (by omega) (by omega)) ?_
            rintro _ _ ⟨rfl, rfl⟩
            refine KOps.move ?_
            refine KOps.extract ?_
            refine KOps.extract ?_
            refine KOps.assign ?_
            refine KOps.assign ?_
            refine KOps.done ?_
            refine sqQ.normal ?_
            refine KA.sub (Sub.cons (t := 7) Look.eq (Sub.cons (t := 8) Look.eq (Sub.nil _))) ?_
            refine KA.seq ?_
            refine KA.seq ?_
            refine KA.region rfl ?_
            refine KOps.move ?_
            refine KOps.not ?_
            refine KOps.done ?_
            refine sqQ.normal ?_
            refine KA.sub (Sub.cons (t := 7) Look.eq (Sub.cons (t := 42) Look.eq (Sub.nil _))) ?_
            refine KA.condB ?_ ?_
            · intro c42
              refine KA.seq ?_
              refine KA.region rfl ?_
              refine KOps.assign ?_
              refine KOps.assign ?_
              refine KOps.done ?_
              refine sqQ.normal ?_
              refine KA.sub (Sub.cons (t := 4) Look.eq (Sub.cons (t := 5) Look.eq (Sub.nil _))) ?_
              refine KA.ret ?_
              refine sqQ.ret ?_
              refine fnQ.retN ?_
              cases hx : comW l m with
              | none =>
                rw [hx] at c42
                have hf := com_none hz hx
                first
                | (cases c42; done)
                | exact ⟨by rw [hf.1, hf.2] <;> rfl, hS.keeps⟩
              | some x =>
                rw [hx] at c42
                have hf := com_some hz hx
                first
                | (cases c42; done)
                | exact ⟨by rw [hf.1, hf.2] <;> rfl, hS.keeps⟩
            · intro c42
              refine KA.skip ?_
              refine sqQ.normal ?_
              refine KA.sub (Sub.cons (t := 7) Look.eq (Sub.nil _)) ?_
              refine KA.seq ?_
              refine KA.region rfl ?_
              refine KOps.move ?_
              refine KOps.assign ?_
              refine KOps.assign ?_
              refine KOps.done ?_
              refine sqQ.normal ?_
              refine KA.sub (Sub.cons (t := 4) Look.eq (Sub.cons (t := 5) Look.eq (Sub.nil _))) ?_
              refine KA.ret ?_
              refine fnQ.retN ?_
              cases hx : comW l m with
              | none =>
                rw [hx] at c42
                have hf := com_none hz hx
                first
                | (cases c42; done)
                | exact ⟨by rw [hf.1, hf.2] <;> rfl, hS.keeps⟩
              | some x =>
                rw [hx] at c42
                have hf := com_some hz hx
                first
                | (cases c42; done)
                | exact ⟨by rw [hf.1, hf.2] <;> rfl, hS.keeps⟩
      · intro g25
        have g25 := not_of_not_decide g25
        refine KOps.guardNo (dj := 25) rfl rfl rfl ?_
        refine KOps.pickT ?_
        refine KOps.assign ?_
        refine KOps.done ?_
        refine sqQ.normal ?_
        refine KA.sub (Sub.cons (t := 0) Look.eq (Sub.cons (t := 1) Look.eq (Sub.cons (t := 19) Look.eq (Sub.nil _)))) ?_
        refine KA.condT ?_
        refine KA.seq ?_
        refine KA.region rfl ?_
        refine KOps.assign ?_
        refine KOps.assign ?_
        refine KOps.done ?_
        refine sqQ.normal ?_
        refine KA.sub (Sub.cons (t := 4) Look.eq (Sub.cons (t := 5) Look.eq (Sub.nil _))) ?_
        refine KA.ret ?_
        refine blQ.ret ?_
        refine sqQ.ret ?_
        refine fnQ.retN ?_
        have hE5 : comE1 (wd l) (wd m) = 5 := by rw [hE1, if_neg (fun q => by omega)]
        have hE2 := comE2_ne (a := wd l) (b := wd m) (by rw [hE5]; decide)
        have hE := comE_ne (a := wd l) (b := wd m) (by rw [hE2, hE5]; decide)
        exact ⟨by rw [hE.1, hE.2, hE2, hE5], hS.keeps⟩

end Go.Am

namespace Go.Am
theorem ofNat_toNat {x : Nat} (hx : x < 4294967296) : (BitVec.ofInt 32 (x : Int)).toNat = x := by
  rw [BitVec.ofInt_natCast, BitVec.toNat_ofNat]
  exact Nat.mod_eq_of_lt hx
theorem andU {x y : Nat} (hx : x < 4294967296) (hy : y < 4294967296) : Go.bits .and .u32 (x : Int) (y : Int) = ((x &&& y : Nat) : Int) := by
  have h1 : (BitVec.ofInt 32 (x : Int) &&& BitVec.ofInt 32 (y : Int)).toNat = x &&& y := by rw [BitVec.toNat_and, ofNat_toNat hx, ofNat_toNat hy]
  have h2 : x &&& y < 2 ^ 32 := Nat.and_lt_two_pow x hy
  show IntKind.u32.wrap (((BitVec.ofInt 32 (x : Int) &&& BitVec.ofInt 32 (y : Int)).toNat : Nat) : Int) = _
  rw [h1]
  exact wrapU32 (by omega) (by omega)
theorem orU {x y : Nat} (hx : x < 4294967296) (hy : y < 4294967296) : Go.bits .or .u32 (x : Int) (y : Int) = ((x ||| y : Nat) : Int) := by
  have h1 : (BitVec.ofInt 32 (x : Int) ||| BitVec.ofInt 32 (y : Int)).toNat = x ||| y := by rw [BitVec.toNat_or, ofNat_toNat hx, ofNat_toNat hy]
  have h2 : x ||| y < 2 ^ 32 := Nat.or_lt_two_pow hx hy
  show IntKind.u32.wrap (((BitVec.ofInt 32 (x : Int) ||| BitVec.ofInt 32 (y : Int)).toNat : Nat) : Int) = _
  rw [h1]
  exact wrapU32 (by omega) (by omega)
theorem andNotU {x y : Nat} (hx : x < 4294967296) (hy : y < 4294967296) : Go.bits .andNot .u32 (x : Int) (y : Int) = ((x &&& (2 ^ 32 - (y + 1)) : Nat) : Int) := by
  have h1 : (BitVec.ofInt 32 (x : Int) &&& ~~~BitVec.ofInt 32 (y : Int)).toNat = x &&& (2 ^ 32 - (y + 1)) := by
    rw [BitVec.toNat_and, BitVec.toNat_not, ofNat_toNat hx, ofNat_toNat hy]
    congr 1
    omega
  have h2 : x &&& (2 ^ 32 - (y + 1)) < 2 ^ 32 := Nat.and_lt_two_pow x (by omega)
  show IntKind.u32.wrap (((BitVec.ofInt 32 (x : Int) &&& ~~~BitVec.ofInt 32 (y : Int)).toNat : Nat) : Int) = _
  rw [h1]
  exact wrapU32 (by omega) (by omega)
theorem shrU (x k : Nat) (kd : IntKind) (hk : k ≤ kd.bits) : (x : Int).fdiv (2 ^ Min.min (k : Int).toNat kd.bits) = ((x >>> k : Nat) : Int) := by
  rw [Int.toNat_natCast, Nat.min_eq_left hk, Int.fdiv_eq_ediv_of_nonneg _ (by exact Int.le_of_lt (Int.pow_pos (by decide))), Nat.shiftRight_eq_div_pow]
  norm_cast
def bitsL (x : Nat) : List Nat := (List.range 32).filter x.testBit
theorem bitsL_lt {x i : Nat} (h : i ∈ bitsL x) : i < 32 := List.mem_range.1 (List.mem_filter.1 h).1
theorem bitsL_and (x y : Nat) : bitsL (x &&& y) = (bitsL x).filter y.testBit := by
  unfold bitsL
  rw [List.filter_filter]
  refine List.filter_congr fun i _ => ?_
  rw [Nat.testBit_and, Bool.and_comm]
theorem bitsL_nodup (x : Nat) : (bitsL x).Nodup := List.nodup_range.sublist List.filter_sublist
theorem bitsL_nil {x : Nat} (hx : x < 4294967296) (h : bitsL x = []) : x = 0 := by
  refine Nat.eq_of_testBit_eq fun i => ?_
  rw [Nat.zero_testBit]
  by_cases hi : i < 32
  · cases hb : x.testBit i with
    | false => rfl
    | true =>
      have : i ∈ bitsL x := List.mem_filter.2 ⟨List.mem_range.2 hi, hb⟩
      rw [h] at this
      cases this
  · exact Nat.testBit_lt_two_pow (Nat.lt_of_lt_of_le hx (Nat.pow_le_pow_right (n := 2) (by decide) (show 32 ≤ i by omega)))
theorem bitsL_zero : bitsL 0 = [] := by decide
/-- The first of them. -/
theorem bitsL_head {x t : Nat} {l : List Nat} (h : bitsL x = t :: l) : t < 32 ∧ x.testBit t = true ∧ ∀ j, j < t → x.testBit j = false := by
  have hm : t ∈ bitsL x := by rw [h]; exact List.mem_cons_self
  refine ⟨bitsL_lt hm, (List.mem_filter.1 hm).2, fun j hj => ?_⟩
  cases hb : x.testBit j with
  | false => rfl
  | true =>
    have hjm : j ∈ bitsL x := List.mem_filter.2 ⟨List.mem_range.2 (by have := bitsL_lt hm; omega), hb⟩
    rw [h] at hjm
    have hs : (bitsL x).Pairwise (· < ·) := List.Pairwise.filter _ List.pairwise_lt_range
    rw [h, List.pairwise_cons] at hs
    rcases List.mem_cons.1 hjm with e | e
    · omega
    · have := hs.1 j e; omega
theorem bitsL_clear {x t : Nat} {l : List Nat} (h : bitsL x = t :: l) : bitsL (x &&& (2 ^ 32 - (2 ^ t + 1))) = l := by
  have ht := (bitsL_head h).1
  have hp : 2 ^ t < 2 ^ 32 := Nat.pow_lt_pow_right (by decide) ht
  rw [bitsL_and, h]
  have hnd := bitsL_nodup x
  rw [h, List.nodup_cons] at hnd
  have hlt : ∀ i ∈ l, i < 32 := fun i hi => bitsL_lt (x := x) (by rw [h]; exact List.mem_cons_of_mem _ hi)
  rw [List.filter_cons_of_neg (by rw [Nat.testBit_two_pow_sub_succ hp, Nat.testBit_two_pow]; simp)]
  refine List.filter_eq_self.2 fun i hi => ?_
  rw [Nat.testBit_two_pow_sub_succ hp, Nat.testBit_two_pow, decide_eq_true (hlt i hi), decide_eq_false (fun (e : t = i) => hnd.1 (by rw [e]; exact hi))]
  rfl
/-- The lowest bit alone. -/
theorem low_bit {x t : Nat} {l : List Nat} (hx : x < 4294967296) (h : bitsL x = t :: l) : x &&& (4294967296 - x) = 2 ^ t := by
  obtain ⟨ht, hb, hlo⟩ := bitsL_head h
  have hm : x % 2 ^ (t + 1) = 2 ^ t := by
    refine Nat.eq_of_testBit_eq fun j => ?_
    rw [Nat.testBit_mod_two_pow, Nat.testBit_two_pow]
    by_cases hj : j < t + 1
    · rw [decide_eq_true hj, Bool.true_and]
      by_cases he : t = j
      · rw [decide_eq_true he, ← he, hb]
      · rw [decide_eq_false he, hlo j (by omega)]
    · rw [decide_eq_false hj, decide_eq_false (by omega)]; rfl
  have hp : 0 < 2 ^ t := Nat.pow_pos (by decide)
  have hq : x = 2 ^ (t + 1) * (x / 2 ^ (t + 1)) + 2 ^ t := by have := Nat.div_add_mod x (2 ^ (t + 1)); omega
  have hq1 : x - 1 = 2 ^ (t + 1) * (x / 2 ^ (t + 1)) + (2 ^ t - 1) := by omega
  have hx0 : 0 < x := by omega
  have e1 : 4294967296 - x = 2 ^ 32 - ((x - 1) + 1) := by omega
  have hlt2 : 2 ^ t < 2 ^ (t + 1) := Nat.pow_lt_pow_right (by decide) (by omega)
  refine Nat.eq_of_testBit_eq fun i => ?_
  rw [Nat.testBit_and, e1, Nat.testBit_two_pow_sub_succ (show x - 1 < 2 ^ 32 by omega), Nat.testBit_two_pow, hq1, Nat.testBit_two_pow_mul_add _ (by omega), Nat.testBit_two_pow_sub_one]
  by_cases hi : i < t + 1
  · rw [if_pos hi]
    by_cases he : t = i
    · subst he
      rw [hb, decide_eq_true rfl, decide_eq_true ht, decide_eq_false (Nat.lt_irrefl t)]; rfl
    · rw [hlo i (by omega), decide_eq_false he]; rfl
  · rw [if_neg hi, decide_eq_false (show ¬ t = i by omega)]
    have hxi : x.testBit i = (x / 2 ^ (t + 1)).testBit (i - (t + 1)) := by
      conv => lhs; rw [hq]
      rw [Nat.testBit_two_pow_mul_add _ hlt2, if_neg hi]
    rw [hxi]
    cases (x / 2 ^ (t + 1)).testBit (i - (t + 1)) <;> simp
def cnt8 (y : Nat) : Nat := ((List.range 8).filter y.testBit).length
theorem range_32 : List.range 32 = List.range 8 ++ (List.range 8).map (8 + ·) ++ (List.range 8).map (16 + ·) ++ (List.range 8).map (24 + ·) := by decide
theorem cnt8_part (x k : Nat) : (((List.range 8).map (k + ·)).filter x.testBit).length = cnt8 (x >>> k &&& 255) := by
  unfold cnt8
  rw [List.filter_map, List.length_map]
  congr 1
  refine List.filter_congr fun i hi => ?_
  rw [Function.comp_apply, Nat.testBit_and, Nat.testBit_shiftRight]
  have : Nat.testBit 255 i = true := by
    have hi := List.mem_range.1 hi
    match i, hi with
    | 0, _ | 1, _ | 2, _ | 3, _ | 4, _ | 5, _ | 6, _ | 7, _ => rfl
  rw [this, Bool.and_true]
theorem bitsL_len (x : Nat) : (bitsL x).length = cnt8 (x >>> 24 &&& 255) + cnt8 (x >>> 16 &&& 255) + cnt8 (x >>> 8 &&& 255) + cnt8 (x &&& 255) := by
  have h0 : ((List.range 8).filter x.testBit).length = cnt8 (x &&& 255) := by
    have := cnt8_part x 0
    rw [Nat.shiftRight_zero] at this
    rw [← this]
    simp
  unfold bitsL
  rw [range_32, List.filter_append, List.filter_append, List.filter_append, List.length_append, List.length_append, List.length_append, cnt8_part, cnt8_part, cnt8_part, h0]
  omega
theorem misL_congr {sf sg : Nat → Nat → Bool} {l : List Nat} (h : ∀ x ∈ l, ∀ y ∈ l, sf x y = sg x y) : misL sf l = misL sg l := by
  have h1 := seekF_is sf l.length l 0 0 (Nat.le_refl _) (Nat.le_refl _)
  have h2 := seekF_is sg l.length l 0 0 (Nat.le_refl _) (Nat.le_refl _)
  have h3 := seekF_congr (sf := sf) (sg := sg) l.length l 0 0 h
  omega
end Go.Am
