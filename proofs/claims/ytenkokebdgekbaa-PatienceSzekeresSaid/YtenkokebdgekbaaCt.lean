/-
  Layer 13: the law that a pack of more than (a - 1)(b - 1) cards has a long row.
  Conditions: none.
-/
import Derived.Test.YtenkokebdgekbaaCn
import Derived.Test.YtenkokebdgekbaaCs
import Derived.Test.YtenkokebdgekbaaPt13
import Derived.Test.YtenkokebdgekbaaPt14
namespace Go.Am
open Go.Gr
theorem sum_le {C : Nat} : ∀ {T : List (List Int)}, (∀ R ∈ T, R.length ≤ C) → (T.map List.length).sum ≤ C * T.length := by
  intro T
  induction T with
  | nil => intro _; simp
  | cons R T ih =>
    intro h
    have h1 := ih (fun S hS => h S (by simp [hS]))
    have h2 := h R (by simp)
    rw [List.map_cons, List.sum_cons, List.length_cons, Nat.mul_succ]
    omega
theorem pack_fits {l : List Int} (hn : l.Nodup) : l.length ≤ (bestOf l false).length * (bestOf l true).length := by
  have hf := insAll_facts hn (Nat.le_refl l.length)
  rw [List.take_length] at hf
  have h1 := hf.2.2.2.length_eq
  have h2 := rowSum_all (k := (insAll l).length) (T := insAll l) (Nat.le_refl _)
  rw [rowSum, List.take_length] at h2
  have h3 := sum_le (tab_first (insAll_tab hn))
  rw [schen_rise hn, schen_fall hn]
  omega
theorem permsF_mem {k i : Nat} (hi : i < (permsF k k []).length) : ((permsF k k []).getD i []).Nodup ∧ ((permsF k k []).getD i []).length = k := by
  have hm : (permsF k k []).getD i [] ∈ permsF k k [] := by
    rw [List.getD_eq_getElem?_getD, List.getElem?_eq_getElem hi]; exact List.getElem_mem hi
  have hq := permsN_is k k []
  rw [show up ([] : List Nat).reverse = [] from rfl] at hq
  rw [hq] at hm
  obtain ⟨c, hc, he⟩ := List.mem_map.1 hm
  rw [hq, ← he]
  have h1 := permsN_nodup k k [] List.nodup_nil c hc
  refine ⟨up_nodup (List.pairwise_reverse.2 (h1.1.imp Ne.symm)), ?_⟩
  rw [up_len, List.length_reverse, h1.2, List.length_nil, Nat.zero_add]
theorem withoutS_some {k r f : Nat} : ∀ (d : Nat) {b l : List Int}, withoutS k r f d b = some l → ¬ (r ≤ (bestOf l false).length ∨ f ≤ (bestOf l true).length) := by
  intro d
  induction d with
  | zero =>
    intro b l h
    rw [withoutS] at h
    split at h
    · cases h
    · rename_i h1
      split at h
      · cases h; exact h1
      · cases h
  | succ d ih =>
    intro b l h
    rw [withoutS] at h
    split at h
    · cases h
    · rename_i h1
      split at h
      · cases h; exact h1
      · obtain ⟨i, _, hi⟩ := List.exists_of_findSome?_eq_some h
        split at hi
        · cases hi
        · exact ih hi
theorem flat_all : ([2, 3, 4].all fun r : Nat => [2, 3, 4].all fun f : Nat => decide (checkE (flatW (f : Int) (r - 1)) = 0 ∧ (flatW (f : Int) (r - 1)).length = (r - 1) * (f - 1))) = true := by decide +kernel
theorem flat_ok {r f : Int} (h1 : 2 ≤ r) (h2 : r ≤ 4) (h3 : 2 ≤ f) (h4 : f ≤ 4) : checkE (flatW f (r.toNat - 1)) = 0 ∧ (flatW f (r.toNat - 1)).length = (r.toNat - 1) * (f.toNat - 1) := by
  have h5 := List.all_eq_true.1 flat_all r.toNat (by simp only [List.mem_cons, List.not_mem_nil, or_false]; omega)
  have h6 := of_decide_eq_true (List.all_eq_true.1 h5 f.toNat (by simp only [List.mem_cons, List.not_mem_nil, or_false]; omega))
  rw [show ((f.toNat : Nat) : Int) = f by omega] at h6
  exact h6

theorem law_szekeres {h : AHeap} {a x y : Int} {c : List Int} (ha : (Lit.int .u8 a).wf = true) (hc : c.length = 9) (hw : ∀ x ∈ c, (Lit.int .u8 x).wf = true) (hx : (Lit.int .u8 x).wf = true) (hy : (Lit.int .u8 y).wf = true) : ACalls Go.Proofs.Try.prog 12 [.int .u8 a, .agg (bytes c), .int .u8 x, .int .u8 y] h (fun r _ => r = .bool true) := by
  refine KA.fn 128 [.tmp 8] Go.Proofs.Try.func12 rfl (by decide) rfl rfl (Nat.le_of_ble_eq_true rfl) ?_
  have hS := St.refl h
  have haba := wf_u8 ha
  have habx := wf_u8 hx
  have haby := wf_u8 hy
  have hta := Int.tmod_nonneg 9 haba.1
  have hua := Int.tmod_lt_of_pos a (show (0 : Int) < 9 by decide)
  have htx := Int.tmod_nonneg 3 habx.1
  have hux := Int.tmod_lt_of_pos x (show (0 : Int) < 3 by decide)
  have hty := Int.tmod_nonneg 3 haby.1
  have huy := Int.tmod_lt_of_pos y (show (0 : Int) < 3 by decide)
  show KA _ 128 _ _ [(0, .int .u8 a), (1, .agg (bytes c)), (2, .int .u8 x), (3, .int .u8 y)] _
  refine KA.seq ?_
  refine KA.region rfl ?_
  refine KOps.boxU hS ?_
  intro p5 h1 hp5 hS
  have hb : Rd h1 p5 0 (bytes c) := hS.rd 0 rfl
  refine KOps.assign ?_
  refine KOps.done ?_
  refine sqQ.normal ?_
  refine KA.sub (Sub.cons (t := 0) Look.eq (Sub.cons (t := 2) Look.eq (Sub.cons (t := 3) Look.eq (Sub.cons (t := 5) Look.eq (Sub.nil _))))) ?_
  refine KA.seq ?_
  refine KA.region rfl ?_
  refine KOps.move ?_
  refine KOps.convU habx.1 habx.2 ?_
  refine KOps.rem (by decide) (by omega) (by omega) ?_
  refine KOps.add (by first | omega | (simp only [List.length_append, List.length_singleton, List.length_set]; omega)) (by first | omega | (simp only [List.length_append, List.length_singleton, List.length_set]; omega)) ?_
  refine KOps.move ?_
  refine KOps.convU haby.1 haby.2 ?_
  refine KOps.rem (by decide) (by omega) (by omega) ?_
  refine KOps.add (by first | omega | (simp only [List.length_append, List.length_singleton, List.length_set]; omega)) (by first | omega | (simp only [List.length_append, List.length_singleton, List.length_set]; omega)) ?_
  refine KOps.assign ?_
  refine KOps.assign ?_
  refine KOps.done ?_
  refine sqQ.normal ?_
  refine KA.sub (Sub.cons (t := 0) Look.eq (Sub.cons (t := 5) Look.eq (Sub.cons (t := 9) Look.eq (Sub.cons (t := 10) Look.eq (Sub.nil _))))) ?_
  refine KA.seq ?_
  refine KA.region rfl ?_
  generalize hr0 : 2 + x.tmod 3 = r0
  generalize hf0 : 2 + y.tmod 3 = f
  have hb0 : (2 ≤ r0 ∧ r0 ≤ 4) ∧ (2 ≤ f ∧ f ≤ 4) := by omega
  refine KOps.move ?_
  refine KOps.move ?_
  refine KOps.call rfl (without_c) ?_
  rintro _ h2 ⟨vw, rfl, hK2, hw2⟩
  rw [withR_0 hb0] at hw2
  rw [withE_0 hb0]
  have hwi := withoutS_some _ (without_is hb0.1.1 hb0.1.2 hb0.2.1 hb0.2.2)
  obtain ⟨hwc, hwl⟩ := flat_ok hb0.1.1 hb0.1.2 hb0.2.1 hb0.2.2
  have hsf := fun (h6 : (r0.toNat - 1) * (f.toNat - 1) ≤ 6) (i : Nat) => short_first hb0.1.1 hb0.1.2 hb0.2.1 hb0.2.2 h6 (i := i)
  generalize flatW f (r0.toNat - 1) = W at hw2 hwi hwc hwl hsf
  have hmm := mul39 (a := r0 - 1) (b := f - 1) (by omega) (by omega) (by omega) (by omega)
  have hkk : (r0 - 1) * (f - 1) = (((r0.toNat - 1) * (f.toNat - 1) : Nat) : Int) := by rw [Int.natCast_mul, show ((r0.toNat - 1 : Nat) : Int) = r0 - 1 by omega, show ((f.toNat - 1 : Nat) : Int) = f - 1 by omega]
  rw [← hwl] at hkk hsf
  have hwn := (checkE_ok hwc).2.2.1
  have hw9 := (checkE_ok hwc).2.1
  have hb := Rd.ext hK2 hb
  refine KOps.move ?_
  refine KOps.extract ?_
  refine KOps.extract ?_
  refine KOps.assign ?_
  refine KOps.assign ?_
  refine KOps.done ?_
  refine sqQ.normal ?_
  refine KA.sub (Sub.cons (t := 0) Look.eq (Sub.cons (t := 5) Look.eq (Sub.cons (t := 9) Look.eq (Sub.cons (t := 10) Look.eq (Sub.cons (t := 11) Look.eq (Sub.cons (t := 12) Look.eq (Sub.nil _))))))) ?_
  refine KA.seq ?_
  refine KA.seq ?_
  refine KA.region rfl ?_
  refine KOps.move ?_
  refine KOps.neqF rfl ?_
  refine KOps.move ?_
  refine KOps.guardYes (dj := 36) rfl rfl ?_
  refine KOps.move ?_
  refine KOps.guardYes (dj := 36) rfl rfl ?_
  refine KOps.lenI hw2 ?_
  refine KOps.guardYes (dj := 36) rfl rfl ?_
  refine KOps.move ?_
  refine KOps.guardYes (dj := 36) rfl rfl ?_
  refine KOps.sub (by first | omega | (simp only [List.length_append, List.length_singleton, List.length_set]; omega)) (by first | omega | (simp only [List.length_append, List.length_singleton, List.length_set]; omega)) ?_
  refine KOps.guardYes (dj := 36) rfl rfl ?_
  refine KOps.move ?_
  refine KOps.guardYes (dj := 36) rfl rfl ?_
  refine KOps.sub (by first | omega | (simp only [List.length_append, List.length_singleton, List.length_set]; omega)) (by first | omega | (simp only [List.length_append, List.length_singleton, List.length_set]; omega)) ?_
  refine KOps.guardYes (dj := 36) rfl rfl ?_
  refine KOps.mul (by omega) (by omega) ?_
  rw [hkk]
  refine KOps.guardYes (dj := 36) rfl rfl ?_
  refine KOps.neqF (by rw [hwl]) ?_
  refine KOps.pickF ?_
  refine KOps.move ?_
  refine KOps.guardYes (dj := 46) rfl rfl ?_
  refine KOps.move ?_
  refine KOps.guardYes (dj := 46) rfl rfl ?_
  refine KOps.call rfl (check_c hw2) ?_
  rintro _ _ ⟨rfl, rfl⟩
  rw [hwc]
  refine KOps.guardYes (dj := 46) rfl rfl ?_
  refine KOps.neqF rfl ?_
  refine KOps.pickF ?_
  refine KOps.move ?_
  refine KOps.guardYes (dj := 51) rfl rfl ?_
  refine KOps.move ?_
  refine KOps.guardYes (dj := 51) rfl rfl ?_
  refine KOps.call rfl (longestL_c hw2 hw9 hwn) ?_
  rintro v53 h3 hS3
  have hr53 : Row h3 v53 (bestOf W false) := hS3.rd 0 rfl
  have hw2 := Rd.ext hS3.keeps hw2
  have hb := Rd.ext hS3.keeps hb
  refine KOps.guardYes (dj := 51) rfl rfl ?_
  refine KOps.lenI hr53 ?_
  refine KOps.guardYes (dj := 51) rfl rfl ?_
  refine KOps.move ?_
  refine KOps.guardYes (dj := 51) rfl rfl ?_
  refine KOps.geq ?_
  rw [decide_eq_false (by omega)]
  refine KOps.pickF ?_
  refine KOps.move ?_
  refine KOps.guardYes (dj := 58) rfl rfl ?_
  refine KOps.move ?_
  refine KOps.guardYes (dj := 58) rfl rfl ?_
  refine KOps.call rfl (longestL_c hw2 hw9 hwn) ?_
  rintro v60 h4 hS4
  have hr60 : Row h4 v60 (bestOf W true) := hS4.rd 0 rfl
  have hw2 := Rd.ext hS4.keeps hw2
  have hb := Rd.ext hS4.keeps hb
  refine KOps.guardYes (dj := 58) rfl rfl ?_
  refine KOps.lenI hr60 ?_
  refine KOps.guardYes (dj := 58) rfl rfl ?_
  refine KOps.move ?_
  refine KOps.guardYes (dj := 58) rfl rfl ?_
  refine KOps.geq ?_
  rw [decide_eq_false (by omega)]
  refine KOps.pickF ?_
  refine KOps.done ?_
  refine sqQ.normal ?_
  refine KA.sub (Sub.cons (t := 0) Look.eq (Sub.cons (t := 5) Look.eq (Sub.cons (t := 9) Look.eq (Sub.cons (t := 10) Look.eq (Sub.cons (t := 11) Look.eq (Sub.cons (t := 64) Look.eq (Sub.nil _))))))) ?_
  refine KA.condF ?_
  refine KA.skip ?_
  refine sqQ.normal ?_
  refine KA.sub (Sub.cons (t := 0) Look.eq (Sub.cons (t := 5) Look.eq (Sub.cons (t := 9) Look.eq (Sub.cons (t := 10) Look.eq (Sub.cons (t := 11) Look.eq (Sub.nil _)))))) ?_
  refine KA.meet (X := Unit) (fun _ => [(0, .int .u8 a), (5, p5)]) (fun _ h' => Rd h' p5 0 (bytes c)) ?_ ?_
  ·
    refine KA.seq ?_
    refine KA.region rfl ?_
    refine KOps.move ?_
    refine KOps.lenI hw2 ?_
    refine KOps.leq ?_
    refine KOps.done ?_
    refine sqQ.normal ?_
    refine KA.sub (Sub.cons (t := 0) Look.eq (Sub.cons (t := 5) Look.eq (Sub.cons (t := 9) Look.eq (Sub.cons (t := 10) Look.eq (Sub.cons (t := 11) Look.eq (Sub.cons (t := 67) Look.eq (Sub.nil _))))))) ?_
    refine KA.condD ?_ ?_
    · intro c67
      refine KA.seq ?_
      refine KA.region rfl ?_
      refine KOps.move ?_
      refine KOps.lenI hw2 ?_
      refine KOps.call rfl (packs_c (n := W.length) (by omega)) ?_
      rintro vq h6 ⟨hK6, hq6⟩
      obtain ⟨qs, hqs, hql, hqr⟩ := hq6
      have hpl := permsF_len W.length W.length []
      have hp9 : W.length ^ W.length ≤ 9 ^ 9 := Nat.le_trans (Nat.pow_le_pow_left hw9 _) (Nat.pow_le_pow_right (by decide) hw9)
      have hw2 := Rd.ext hK6 hw2
      have hb := Rd.ext hK6 hb
      refine KOps.lenV hqs ?_
      refine KOps.move ?_
      refine KOps.done ?_
      refine sqQ.normal ?_
      refine KA.sub (Sub.cons (t := 0) Look.eq (Sub.cons (t := 5) Look.eq (Sub.cons (t := 9) Look.eq (Sub.cons (t := 10) Look.eq (Sub.cons (t := 11) Look.eq (Sub.cons (t := 70) Look.eq (Sub.cons (t := 71) Look.eq (Sub.cons (t := 72) Look.eq (Sub.nil _))))))))) ?_
      refine KA.block ?_
      refine KA.loop (X := Nat) (fun i => [(0, .int .u8 a), (5, p5), (9, .int .i64 r0), (10, .int .i64 f), (11, vw), (70, vq), (71, .int .i64 ((permsF W.length W.length []).length : Int)), (72, .int .i64 (i : Int))]) (fun i h' => i ≤ (permsF W.length W.length []).length ∧ Keeps h6 h' ∧ ∀ j, j < i → ¬ shortB r0 f ((permsF W.length W.length []).getD j [])) (fun i => (permsF W.length W.length []).length - i) 0 (by repeat (first | exact Sub.nil _ | refine Sub.cons Look.eq ?_ | refine Sub.cons (Eq.trans Look.eq (congrArg (AV.int _) (by first | omega | (dsimp only; omega)))) ?_)) ⟨Nat.zero_le _, Keeps.refl h6, by omega⟩ ?_
      rintro i h7 ⟨hi, hk, hj⟩
      have hS := St.refl h7
      have hw7 := Row.ext hk hw2
      have hqs7 := Rd.ext hk hqs
      have hb := Rd.ext hk hb
      refine KA.seq ?_
      refine KA.region rfl ?_
      refine KOps.lss ?_
      refine KOps.done ?_
      refine sqQ.normal ?_
      refine KA.seq ?_
      refine KA.condD ?_ ?_
      · intro c73
        have hrow := Row.ext hk (hqr i (by omega))
        have hpf := permsF_mem (k := W.length) (i := i) (by omega)
        refine KA.skip ?_
        refine sqQ.normal ?_
        refine KA.sub (Sub.cons (t := 0) Look.eq (Sub.cons (t := 5) Look.eq (Sub.cons (t := 9) Look.eq (Sub.cons (t := 10) Look.eq (Sub.cons (t := 11) Look.eq (Sub.cons (t := 70) Look.eq (Sub.cons (t := 71) Look.eq (Sub.cons (t := 72) Look.eq (Sub.nil _))))))))) ?_
        refine KA.seq ?_
        refine KA.block ?_
        refine KA.seq ?_
        refine KA.region rfl ?_
        refine KOps.indexVJ hqs7 (j := i) rfl (by first | omega | (simp; omega)) ?_
        intro p74 hp74
        refine KOps.loadV hp74 hqs7 (by first | omega | (simp; omega)) ?_
        refine KOps.assign ?_
        refine KOps.done ?_
        refine sqQ.normal ?_
        refine KA.sub (Sub.cons (t := 0) Look.eq (Sub.cons (t := 5) Look.eq (Sub.cons (t := 9) Look.eq (Sub.cons (t := 10) Look.eq (Sub.cons (t := 11) Look.eq (Sub.cons (t := 14) Look.eq (Sub.cons (t := 70) Look.eq (Sub.cons (t := 71) Look.eq (Sub.cons (t := 72) Look.eq (Sub.nil _)))))))))) ?_
        refine KA.seq ?_
        refine KA.region rfl ?_
        refine KOps.move ?_
        refine KOps.call rfl (longestL_c hrow (by omega) hpf.1) ?_
        rintro v77 h8 hS8
        have hr77 : Row h8 v77 (bestOf ((permsF W.length W.length []).getD i []) false) := hS8.rd 0 rfl
        have hk := hk.trans hS8.keeps
        have hw7 := Rd.ext hS8.keeps hw7
        have hb := Rd.ext hS8.keeps hb
        have hrow := Rd.ext hS8.keeps hrow
        refine KOps.lenI hr77 ?_
        refine KOps.move ?_
        refine KOps.lss ?_
        refine KOps.move ?_
        refine KOps.guardB (dj := 81) rfl rfl true false rfl ?_ ?_
        · intro g81
          have g81 := of_decide_eq_true g81
          refine KOps.move ?_
          refine KOps.guardYes (dj := 81) rfl rfl ?_
          refine KOps.call rfl (longestL_c hrow (by omega) hpf.1) ?_
          rintro v83 h9 hS9
          have hr83 : Row h9 v83 (bestOf ((permsF W.length W.length []).getD i []) true) := hS9.rd 0 rfl
          have hk := hk.trans hS9.keeps
          have hw7 := Rd.ext hS9.keeps hw7
          have hb := Rd.ext hS9.keeps hb
          have hrow := Rd.ext hS9.keeps hrow
          refine KOps.guardYes (dj := 81) rfl rfl ?_
          refine KOps.lenI hr83 ?_
          refine KOps.guardYes (dj := 81) rfl rfl ?_
          refine KOps.move ?_
          refine KOps.guardYes (dj := 81) rfl rfl ?_
          refine KOps.lss ?_
          refine KOps.pickT ?_
          refine KOps.done ?_
          refine sqQ.normal ?_
          refine KA.sub (Sub.cons (t := 0) Look.eq (Sub.cons (t := 5) Look.eq (Sub.cons (t := 9) Look.eq (Sub.cons (t := 10) Look.eq (Sub.cons (t := 11) Look.eq (Sub.cons (t := 14) Look.eq (Sub.cons (t := 70) Look.eq (Sub.cons (t := 71) Look.eq (Sub.cons (t := 72) Look.eq (Sub.cons (t := 82) Look.eq (Sub.cons (t := 83) Look.eq (Sub.cons (t := 84) Look.eq (Sub.cons (t := 85) Look.eq (Sub.cons (t := 86) Look.eq (Sub.cons (t := 87) Look.eq (Sub.nil _)))))))))))))))) ?_
          refine KA.condD ?_ ?_
          · intro c87
            have hpw := hsf (by omega) i (by omega) hj ⟨by omega, by omega⟩
            refine KA.seq ?_
            refine KA.seq ?_
            refine KA.region rfl ?_
            refine KOps.move ?_
            refine KOps.move ?_
            refine KOps.call rfl (same_t hpw hrow hw7 (by omega)) ?_
            rintro _ _ ⟨rfl, rfl⟩
            refine KOps.not ?_
            refine KOps.done ?_
            refine sqQ.normal ?_
            refine KA.sub (Sub.cons (t := 0) Look.eq (Sub.cons (t := 5) Look.eq (Sub.cons (t := 91) Look.eq (Sub.nil _)))) ?_
            refine KA.condF ?_
            refine KA.skip ?_
            refine sqQ.normal ?_
            refine KA.sub (Sub.cons (t := 0) Look.eq (Sub.cons (t := 5) Look.eq (Sub.nil _))) ?_
            refine KA.exit ?_
            refine blQ.exit rfl ?_
            refine sqQ.exit ?_
            refine lpQ.exit ?_
            refine blQ.here ?_
            exact mtQ.normal () (by repeat (first | exact Sub.nil _ | refine Sub.cons Look.eq ?_ | refine Sub.cons (Eq.trans Look.eq (congrArg (AV.int _) (by first | omega | (dsimp only; omega)))) ?_)) hb
          · intro c87
            refine KA.skip ?_
            refine blQ.normal ?_
            refine sqQ.normal ?_
            refine KA.sub (Sub.cons (t := 0) Look.eq (Sub.cons (t := 5) Look.eq (Sub.cons (t := 9) Look.eq (Sub.cons (t := 10) Look.eq (Sub.cons (t := 11) Look.eq (Sub.cons (t := 70) Look.eq (Sub.cons (t := 71) Look.eq (Sub.cons (t := 72) Look.eq (Sub.cons (t := 82) Look.eq (Sub.cons (t := 83) Look.eq (Sub.cons (t := 84) Look.eq (Sub.cons (t := 85) Look.eq (Sub.cons (t := 86) Look.eq (Sub.nil _)))))))))))))) ?_
            refine KA.region rfl ?_
            refine KOps.add (by first | omega | (simp only [List.length_append, List.length_singleton, List.length_set]; omega)) (by first | omega | (simp only [List.length_append, List.length_singleton, List.length_set]; omega)) ?_
            refine KOps.move ?_
            refine KOps.done ?_
            refine lpQ.normal (i + 1) (by repeat (first | exact Sub.nil _ | refine Sub.cons Look.eq ?_ | refine Sub.cons (Eq.trans Look.eq (congrArg (AV.int _) (by first | omega | (dsimp only; omega)))) ?_)) ⟨by omega, hk, ?_⟩ (by omega)
            intro j hj2; rcases Nat.lt_succ_iff_lt_or_eq.1 hj2 with h1 | rfl
            · exact hj j h1
            · exact fun hq => by have hq1 := hq.1; have hq2 := hq.2; omega
        · intro g81
          have g81 := of_decide_eq_false g81
          refine KOps.guardNo (dj := 81) rfl rfl rfl ?_
          refine KOps.guardNo (dj := 81) rfl rfl rfl ?_
          refine KOps.guardNo (dj := 81) rfl rfl rfl ?_
          refine KOps.guardNo (dj := 81) rfl rfl rfl ?_
          refine KOps.pickF ?_
          refine KOps.done ?_
          refine sqQ.normal ?_
          refine KA.sub (Sub.cons (t := 0) Look.eq (Sub.cons (t := 5) Look.eq (Sub.cons (t := 9) Look.eq (Sub.cons (t := 10) Look.eq (Sub.cons (t := 11) Look.eq (Sub.cons (t := 14) Look.eq (Sub.cons (t := 70) Look.eq (Sub.cons (t := 71) Look.eq (Sub.cons (t := 72) Look.eq (Sub.cons (t := 82) Look.eq (Sub.cons (t := 83) Look.eq (Sub.cons (t := 84) Look.eq (Sub.cons (t := 85) Look.eq (Sub.cons (t := 86) Look.eq (Sub.cons (t := 87) Look.eq (Sub.nil _)))))))))))))))) ?_
          refine KA.condF ?_
          refine KA.skip ?_
          refine blQ.normal ?_
          refine sqQ.normal ?_
          refine KA.sub (Sub.cons (t := 0) Look.eq (Sub.cons (t := 5) Look.eq (Sub.cons (t := 9) Look.eq (Sub.cons (t := 10) Look.eq (Sub.cons (t := 11) Look.eq (Sub.cons (t := 70) Look.eq (Sub.cons (t := 71) Look.eq (Sub.cons (t := 72) Look.eq (Sub.cons (t := 82) Look.eq (Sub.cons (t := 83) Look.eq (Sub.cons (t := 84) Look.eq (Sub.cons (t := 85) Look.eq (Sub.cons (t := 86) Look.eq (Sub.nil _)))))))))))))) ?_
          refine KA.region rfl ?_
          refine KOps.add (by first | omega | (simp only [List.length_append, List.length_singleton, List.length_set]; omega)) (by first | omega | (simp only [List.length_append, List.length_singleton, List.length_set]; omega)) ?_
          refine KOps.move ?_
          refine KOps.done ?_
          refine lpQ.normal (i + 1) (by repeat (first | exact Sub.nil _ | refine Sub.cons Look.eq ?_ | refine Sub.cons (Eq.trans Look.eq (congrArg (AV.int _) (by first | omega | (dsimp only; omega)))) ?_)) ⟨by omega, hk, ?_⟩ (by omega)
          intro j hj2; rcases Nat.lt_succ_iff_lt_or_eq.1 hj2 with h1 | rfl
          · exact hj j h1
          · exact fun hq => by have hq1 := hq.1; have hq2 := hq.2; omega
      · intro c73
        refine KA.exit ?_
        refine sqQ.exit ?_
        refine lpQ.exit ?_
        refine blQ.here ?_
        exact mtQ.normal () (by repeat (first | exact Sub.nil _ | refine Sub.cons Look.eq ?_ | refine Sub.cons (Eq.trans Look.eq (congrArg (AV.int _) (by first | omega | (dsimp only; omega)))) ?_)) hb
    · intro c67
      refine KA.skip ?_
      exact mtQ.normal () (by repeat (first | exact Sub.nil _ | refine Sub.cons Look.eq ?_ | refine Sub.cons (Eq.trans Look.eq (congrArg (AV.int _) (by first | omega | (dsimp only; omega)))) ?_)) hb
  ·
    rintro _ h11 hb
    refine KA.seq ?_
    refine KA.region rfl ?_
    refine KOps.move ?_
    refine KOps.convU haba.1 haba.2 ?_
    refine KOps.rem (by decide) (by omega) (by omega) ?_
    refine KOps.add (by omega) (by omega) ?_
    obtain ⟨n, hn⟩ : ∃ n : Nat, 1 + a.tmod 9 = (n : Int) := ⟨(1 + a.tmod 9).toNat, by omega⟩
    rw [hn]
    refine KOps.loadAgg (z := 9) hp5 hb (by decide) (by rw [bytes_len]; omega) ?_
    rw [List.drop_zero, List.take_of_length_le (by rw [bytes_len]; omega)]
    refine KOps.call rfl (mixed_c (n := n) (by omega) (by omega) hc hw) ?_
    rintro v15 h12 ⟨l, hS12, hln, hch⟩
    have hv5 : Row h12 v15 l := hS12.rd 0 rfl
    have hpk := (checkE_ok hch).2.2
    have hl9 : l.length ≤ 9 := by omega
    have hfit := pack_fits hpk.1
    have hb0 := bestOf_len l false
    have hb1 := bestOf_len l true
    have hml := Nat.mul_le_mul (show (bestOf l false).length ≤ 9 by omega) (show (bestOf l true).length ≤ 9 by omega)
    have hm1 : ((bestOf l false).length : Int) * ((bestOf l true).length : Int) = (((bestOf l false).length * (bestOf l true).length : Nat) : Int) := (Int.natCast_mul _ _).symm
    refine KOps.assign ?_
    refine KOps.done ?_
    refine sqQ.normal ?_
    refine KA.sub (Sub.cons (t := 15) Look.eq (Sub.nil _)) ?_
    refine KA.seq ?_
    refine KA.region rfl ?_
    refine KOps.move ?_
    refine KOps.call rfl (rising_c hv5) ?_
    rintro _ h13 ⟨vr, rfl, hS13⟩
    rw [okE_yes hch] at hS13
    rw [hch]
    have hr13 : Row h13 vr (bestOf l false) := hS13.rd 0 rfl
    have hv5 := Rd.ext hS13.keeps hv5
    refine KOps.move ?_
    refine KOps.extract ?_
    refine KOps.extract ?_
    refine KOps.assign ?_
    refine KOps.assign ?_
    refine KOps.done ?_
    refine sqQ.normal ?_
    refine KA.sub (Sub.cons (t := 15) Look.eq (Sub.cons (t := 16) Look.eq (Sub.cons (t := 17) Look.eq (Sub.nil _)))) ?_
    refine KA.seq ?_
    refine KA.region rfl ?_
    refine KOps.move ?_
    refine KOps.call rfl (falling_c hv5) ?_
    rintro _ h14 ⟨vf, rfl, hS14⟩
    rw [okE_yes hch] at hS14
    rw [hch]
    have hr14 : Row h14 vf (bestOf l true) := hS14.rd 0 rfl
    have hv5 := Rd.ext hS14.keeps hv5
    have hr13 := Rd.ext hS14.keeps hr13
    refine KOps.move ?_
    refine KOps.extract ?_
    refine KOps.extract ?_
    refine KOps.assign ?_
    refine KOps.assign ?_
    refine KOps.done ?_
    refine sqQ.normal ?_
    refine KA.sub (Sub.cons (t := 15) Look.eq (Sub.cons (t := 16) Look.eq (Sub.cons (t := 17) Look.eq (Sub.cons (t := 18) Look.eq (Sub.cons (t := 19) Look.eq (Sub.nil _)))))) ?_
    refine KA.seq ?_
    refine KA.region rfl ?_
    refine KOps.move ?_
    refine KOps.eqlT rfl ?_
    refine KOps.move ?_
    refine KOps.guardYes (dj := 111) rfl rfl ?_
    refine KOps.move ?_
    refine KOps.guardYes (dj := 111) rfl rfl ?_
    refine KOps.eqlT rfl ?_
    refine KOps.pickT ?_
    refine KOps.move ?_
    refine KOps.guardYes (dj := 115) rfl rfl ?_
    refine KOps.move ?_
    refine KOps.guardYes (dj := 115) rfl rfl ?_
    refine KOps.lenI hv5 ?_
    refine KOps.guardYes (dj := 115) rfl rfl ?_
    refine KOps.move ?_
    refine KOps.guardYes (dj := 115) rfl rfl ?_
    refine KOps.lenI hr13 ?_
    refine KOps.guardYes (dj := 115) rfl rfl ?_
    refine KOps.move ?_
    refine KOps.guardYes (dj := 115) rfl rfl ?_
    refine KOps.lenI hr14 ?_
    refine KOps.guardYes (dj := 115) rfl rfl ?_
    refine KOps.mul (by rw [hm1]; omega) (by rw [hm1]; omega) ?_
    rw [hm1]
    refine KOps.guardYes (dj := 115) rfl rfl ?_
    refine KOps.leq ?_
    rw [decide_eq_true (by omega)]
    refine KOps.pickT ?_
    refine KOps.move ?_
    refine KOps.guardYes (dj := 125) rfl rfl ?_
    refine KOps.call rfl (works_c _) ?_
    rintro _ _ ⟨rfl, rfl⟩
    refine KOps.pickT ?_
    refine KOps.assign ?_
    refine KOps.done ?_
    refine sqQ.normal ?_
    refine KA.sub (Sub.cons (t := 8) Look.eq (Sub.nil _)) ?_
    refine KA.ret ?_
    refine fnQ.ret1 ?_
    rfl

end Go.Am
