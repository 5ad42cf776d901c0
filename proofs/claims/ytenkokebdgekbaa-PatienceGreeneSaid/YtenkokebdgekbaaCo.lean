/-
  Layer 13: packs that are made of small numbers.
  Conditions: none.
-/
import Derived.Test.YtenkokebdgekbaaCf
import Derived.Test.YtenkokebdgekbaaAmG
import Derived.Test.YtenkokebdgekbaaPt4
namespace Go.Am
open Go.Gr
instance arT47 : ArT Go.Proofs.Try.prog 47 9 := ArT.of (by kernel_rfl)
theorem mixed_step {p L : List Int} {a : Nat} (ha : a < L.length) : ((p ++ [L.getD a 0]) ++ (L.take a ++ L.drop (a + 1))).Perm (p ++ L) := by
  rw [List.append_assoc]
  refine List.Perm.append_left p ?_
  have e : L.take a ++ (L.getD a 0 :: L.drop (a + 1)) = L := by rw [← drop_cons ha, List.take_append_drop]
  have h := (List.perm_middle : (L.take a ++ L.getD a 0 :: L.drop (a + 1)).Perm _).symm
  rw [e] at h
  exact h
theorem mixed_pack {p : List Int} {n : Nat} (h : p.Perm (iota n)) (h1 : 1 ≤ n) (h9 : n ≤ 9) : p.length = n ∧ checkE p = 0 := by
  have hl : p.length = n := by rw [h.length_eq, iota_len]
  refine ⟨hl, checkE_of (by omega) (by omega) ⟨h.nodup_iff.2 (iota_nodup n), ?_⟩⟩
  intro x hx
  rw [hl]
  exact iota_mem.1 (h.mem_iff.1 hx)

theorem mixed_c {h : AHeap} {n : Nat} {c : List Int} (hn : 1 ≤ n) (hn9 : n ≤ 9) (hc : c.length = 9) (hw : ∀ x ∈ c, (Lit.int .u8 x).wf = true) : ACalls Go.Proofs.Try.prog 44 [.int .i64 (n : Int), .agg (bytes c)] h (fun r h' => ∃ l : List Int, St h h' [⟨r, 1, ints l, true⟩] ∧ l.length = n ∧ checkE l = 0) := by
  refine KA.fn 49 [.tmp 4] Go.Proofs.Try.func44 rfl (by decide) rfl rfl (Nat.le_of_ble_eq_true rfl) ?_
  have hS := St.refl h
  show KA _ 49 _ _ [(0, .int .i64 (n : Int)), (1, .agg (bytes c))] _
  refine KA.seq ?_
  refine KA.region rfl ?_
  refine KOps.boxU hS ?_
  intro p3 h1 hp3 hS
  refine KOps.assign ?_
  refine KOps.done ?_
  refine sqQ.normal ?_
  refine KA.sub (Sub.cons (t := 0) Look.eq (Sub.cons (t := 3) Look.eq (Sub.nil _))) ?_
  refine KA.seq ?_
  refine KA.region rfl ?_
  refine KOps.assign ?_
  refine KOps.assign ?_
  refine KOps.done ?_
  refine sqQ.normal ?_
  refine KA.seq ?_
  refine KA.seq ?_
  refine KA.region rfl ?_
  refine KOps.move ?_
  refine KOps.move ?_
  refine KOps.done ?_
  refine sqQ.normal ?_
  refine KA.block ?_
  refine KA.loop (X := Nat × AV) (fun x => [(0, .int .i64 (n : Int)), (3, p3), (5, x.2), (6, .nils), (10, .int .i64 (n : Int)), (11, .int .i64 (x.1 : Int))]) (fun x h' => x.1 ≤ n ∧ St h h' [⟨x.2, 1, ints (iota x.1), true⟩, ⟨p3, 0, bytes c, true⟩]) (fun x => n - x.1) (0, .nils) (by repeat (first | exact Sub.nil _ | refine Sub.cons Look.eq ?_ | refine Sub.cons (Eq.trans Look.eq (congrArg (AV.int _) (by first | omega | (dsimp only; omega)))) ?_)) ⟨Nat.zero_le _, St.nil hS 1⟩ ?_
  rintro ⟨i, vr⟩ h2 ⟨hi, hS⟩
  dsimp only at hi hS ⊢
  have hil := iota_len i
  refine KA.seq ?_
  refine KA.region rfl ?_
  refine KOps.lss ?_
  refine KOps.done ?_
  refine sqQ.normal ?_
  refine KA.seq ?_
  refine KA.condD ?_ ?_
  · intro c12
    refine KA.skip ?_
    refine sqQ.normal ?_
    refine KA.sub (Sub.cons (t := 0) Look.eq (Sub.cons (t := 3) Look.eq (Sub.cons (t := 5) Look.eq (Sub.cons (t := 6) Look.eq (Sub.cons (t := 10) Look.eq (Sub.cons (t := 11) Look.eq (Sub.nil _))))))) ?_
    refine KA.seq ?_
    refine KA.block ?_
    refine KA.seq ?_
    refine KA.region rfl ?_
    refine KOps.move ?_
    refine KOps.assign ?_
    refine KOps.done ?_
    refine sqQ.normal ?_
    refine KA.sub (Sub.cons (t := 0) Look.eq (Sub.cons (t := 3) Look.eq (Sub.cons (t := 5) Look.eq (Sub.cons (t := 6) Look.eq (Sub.cons (t := 7) Look.eq (Sub.cons (t := 10) Look.eq (Sub.cons (t := 11) Look.eq (Sub.nil _)))))))) ?_
    refine KA.region rfl ?_
    refine KOps.move ?_
    refine KOps.move ?_
    refine KOps.buildSlice hS rfl (by decide) rfl ?_
    intro v16 h' hS
    refine KOps.appendI hS (fun _ => rfl) (i := 0) rfl (by first | omega | (simp; omega)) ?_
    intro r17 h' hr17 hS
    refine KOps.assign ?_
    refine KOps.done ?_
    refine blQ.normal ?_
    refine sqQ.normal ?_
    refine KA.sub (Sub.cons (t := 0) Look.eq (Sub.cons (t := 3) Look.eq (Sub.cons (t := 5) Look.eq (Sub.cons (t := 6) Look.eq (Sub.cons (t := 10) Look.eq (Sub.cons (t := 11) Look.eq (Sub.nil _))))))) ?_
    refine KA.region rfl ?_
    refine KOps.add (by first | omega | (simp only [List.length_append, List.length_singleton, List.length_set]; omega)) (by first | omega | (simp only [List.length_append, List.length_singleton, List.length_set]; omega)) ?_
    refine KOps.move ?_
    refine KOps.done ?_
    rw [← iota_succ] at hS
    exact lpQ.normal (i + 1, r17) (by repeat (first | exact Sub.nil _ | refine Sub.cons Look.eq ?_ | refine Sub.cons (Eq.trans Look.eq (congrArg (AV.int _) (by first | omega | (dsimp only; omega)))) ?_)) ⟨by dsimp only; omega, hS⟩ (by dsimp only; omega)
  · intro c12
    obtain rfl : n = i := by omega
    refine KA.exit ?_
    refine sqQ.exit ?_
    refine lpQ.exit ?_
    refine blQ.here ?_
    refine sqQ.normal ?_
    refine KA.sub (Sub.cons (t := 0) Look.eq (Sub.cons (t := 3) Look.eq (Sub.cons (t := 5) Look.eq (Sub.cons (t := 6) Look.eq (Sub.nil _))))) ?_
    refine KA.seq ?_
    refine KA.seq ?_
    refine KA.region rfl ?_
    refine KOps.move ?_
    refine KOps.move ?_
    refine KOps.done ?_
    refine sqQ.normal ?_
    refine KA.sub (Sub.cons (t := 3) Look.eq (Sub.cons (t := 5) Look.eq (Sub.cons (t := 6) Look.eq (Sub.cons (t := 19) Look.eq (Sub.cons (t := 20) Look.eq (Sub.nil _)))))) ?_
    refine KA.block ?_
    refine KA.loop (X := Nat × AV × AV × List Int × List Int) (fun x => [(3, p3), (5, x.2.1), (6, x.2.2.1), (19, .int .i64 (n : Int)), (20, .int .i64 (x.1 : Int))]) (fun x h' => x.1 ≤ n ∧ x.2.2.2.1.length = n - x.1 ∧ (x.2.2.2.2 ++ x.2.2.2.1).Perm (iota n) ∧ St h h' [⟨x.2.1, 1, ints x.2.2.2.1, true⟩, ⟨x.2.2.1, 1, ints x.2.2.2.2, true⟩, ⟨p3, 0, bytes c, true⟩]) (fun x => n - x.1) (0, vr, .nils, iota n, []) (by repeat (first | exact Sub.nil _ | refine Sub.cons Look.eq ?_ | refine Sub.cons (Eq.trans Look.eq (congrArg (AV.int _) (by first | omega | (dsimp only; omega)))) ?_)) ?_ ?_
    · exact ⟨Nat.zero_le _, iota_len n, List.Perm.refl _, St.perm (List.Perm.swap _ _ _) (St.nil hS 1)⟩
    rintro ⟨i, vr, vp, L, p⟩ h2 ⟨hi, hL, hpm, hS⟩
    dsimp only at hi hL hpm hS ⊢
    have hpl := hpm.length_eq
    rw [List.length_append, iota_len] at hpl
    refine KA.seq ?_
    refine KA.region rfl ?_
    refine KOps.lss ?_
    refine KOps.done ?_
    refine sqQ.normal ?_
    refine KA.seq ?_
    refine KA.condD ?_ ?_
    · intro c21
      have hci := wf_u8 (hw _ (getD_mem (show i < c.length by omega)))
      have ht0 := Int.tmod_nonneg (L.length : Int) hci.1
      have ht1 := Int.tmod_lt_of_pos (c.getD i 0) (show 0 < (L.length : Int) by omega)
      obtain ⟨a, hat⟩ : ∃ a : Nat, (c.getD i 0).tmod (L.length : Int) = (a : Int) := ⟨((c.getD i 0).tmod (L.length : Int)).toNat, by omega⟩
      rw [hat] at ht0 ht1
      have hal : a < L.length := by omega
      refine KA.skip ?_
      refine sqQ.normal ?_
      refine KA.sub (Sub.cons (t := 3) Look.eq (Sub.cons (t := 5) Look.eq (Sub.cons (t := 6) Look.eq (Sub.cons (t := 19) Look.eq (Sub.cons (t := 20) Look.eq (Sub.nil _)))))) ?_
      refine KA.seq ?_
      refine KA.block ?_
      refine KA.seq ?_
      refine KA.region rfl ?_
      refine KOps.move ?_
      refine KOps.assign ?_
      refine KOps.done ?_
      refine sqQ.normal ?_
      refine KA.sub (Sub.cons (t := 3) Look.eq (Sub.cons (t := 5) Look.eq (Sub.cons (t := 6) Look.eq (Sub.cons (t := 8) Look.eq (Sub.cons (t := 19) Look.eq (Sub.cons (t := 20) Look.eq (Sub.nil _))))))) ?_
      refine KA.seq ?_
      refine KA.region rfl ?_
      refine KOps.move ?_
      refine KOps.indexA hp3 (j := i) rfl (by first | omega | (simp; omega)) ?_
      intro p24 hp24
      refine KOps.loadU hS (i := 2) rfl hp24 (by omega) ?_
      refine KOps.convU hci.1 hci.2 ?_
      refine KOps.move ?_
      refine KOps.lenI (hS.rd 0 rfl) ?_
      refine KOps.rem (by omega) (by rw [hat]; omega) (by rw [hat]; omega) ?_
      rw [hat]
      refine KOps.assign ?_
      refine KOps.done ?_
      refine sqQ.normal ?_
      refine KA.sub (Sub.cons (t := 3) Look.eq (Sub.cons (t := 5) Look.eq (Sub.cons (t := 6) Look.eq (Sub.cons (t := 9) Look.eq (Sub.cons (t := 19) Look.eq (Sub.cons (t := 20) Look.eq (Sub.nil _))))))) ?_
      refine KA.seq ?_
      refine KA.region rfl ?_
      refine KOps.move ?_
      refine KOps.move ?_
      refine KOps.move ?_
      refine KOps.indexIJ (hS.rd 0 rfl) (j := a) rfl (by first | omega | (simp; omega)) ?_
      intro p33 hp33
      refine KOps.loadI hp33 (hS.rd 0 rfl) (by first | omega | (simp; omega)) ?_
      refine KOps.buildSlice hS rfl (by decide) rfl ?_
      intro v35 h' hS
      refine KOps.appendI hS (fun _ => rfl) (i := 1) rfl (by first | omega | (simp; omega)) ?_
      intro r36 h' hr36 hS
      refine KOps.assign ?_
      refine KOps.done ?_
      refine sqQ.normal ?_
      refine KA.sub (Sub.cons (t := 3) Look.eq (Sub.cons (t := 5) Look.eq (Sub.cons (t := 6) Look.eq (Sub.cons (t := 9) Look.eq (Sub.cons (t := 19) Look.eq (Sub.cons (t := 20) Look.eq (Sub.nil _))))))) ?_
      refine KA.draw [4, 9] mixed rfl (by kernel_rfl) ?_
      refine KOps.buildSlice hS rfl (by decide) rfl ?_
      intro v37 h' hS
      refine KOps.move ?_
      refine KOps.move ?_
      refine KOps.sliceHi (hS.rd 1 rfl) (m := L.length) (by simp [ints]) (by omega) (by omega) ?_
      intro v40 hp40
      have hr40 : Row _ v40 (L.take a) := Row.take (hS.rd 1 rfl) hp40
      refine KOps.appendAll hS (fun _ => rfl) (i := 0) (p := []) rfl hr40 (by rw [List.length_nil, List.length_take]; omega) ?_
      intro r41 h6 hr41 hS
      simp only [List.set_cons_zero, List.nil_append] at hS
      refine KOps.move ?_
      refine KOps.move ?_
      refine KOps.add (by first | omega | (simp only [List.length_append, List.length_singleton, List.length_set]; omega)) (by first | omega | (simp only [List.length_append, List.length_singleton, List.length_set]; omega)) ?_
      refine KOps.sliceLo (hS.rd 1 rfl) (m := L.length) (by simp [ints]) (by omega) (by omega) ?_
      intro v45 hp45
      have hr45 : Row h6 v45 (L.drop (a + 1)) := by
        have h7 := Row.part (hS.rd 1 rfl : Row h6 vr L) hp45 (by omega)
        have e : ((a : Int) + 1).toNat = a + 1 := by omega
        rw [e, List.take_of_length_le (by rw [List.length_drop]; omega)] at h7
        exact h7
      refine KOps.appendAll hS (fun _ => rfl) (i := 0) rfl hr45 (by rw [List.length_take, List.length_drop]; omega) ?_
      intro r46 h7 hr46 hS
      simp only [List.set_cons_zero] at hS
      refine KOps.assign ?_
      refine KOps.done ?_
      refine blQ.normal ?_
      refine sqQ.normal ?_
      refine KA.sub (Sub.cons (t := 3) Look.eq (Sub.cons (t := 5) Look.eq (Sub.cons (t := 6) Look.eq (Sub.cons (t := 19) Look.eq (Sub.cons (t := 20) Look.eq (Sub.nil _)))))) ?_
      refine KA.region rfl ?_
      refine KOps.add (by first | omega | (simp only [List.length_append, List.length_singleton, List.length_set]; omega)) (by first | omega | (simp only [List.length_append, List.length_singleton, List.length_set]; omega)) ?_
      refine KOps.move ?_
      refine KOps.done ?_
      exact lpQ.normal (i + 1, r46, r36, L.take a ++ L.drop (a + 1), p ++ [L.getD a 0]) (by repeat (first | exact Sub.nil _ | refine Sub.cons Look.eq ?_ | refine Sub.cons (Eq.trans Look.eq (congrArg (AV.int _) (by first | omega | (dsimp only; omega)))) ?_)) ⟨by dsimp only; omega, by dsimp only; rw [List.length_append, List.length_take, List.length_drop]; omega, (mixed_step hal).trans hpm, St.pick [0, 2, 3] (by decide) rfl hS⟩ (by dsimp only; omega)
    · intro c21
      obtain rfl : n = i := by omega
      refine KA.exit ?_
      refine sqQ.exit ?_
      refine lpQ.exit ?_
      refine blQ.here ?_
      refine sqQ.normal ?_
      refine KA.sub (Sub.cons (t := 6) Look.eq (Sub.nil _)) ?_
      refine KA.seq ?_
      refine KA.region rfl ?_
      refine KOps.move ?_
      refine KOps.assign ?_
      refine KOps.done ?_
      refine sqQ.normal ?_
      refine KA.sub (Sub.cons (t := 4) Look.eq (Sub.nil _)) ?_
      refine KA.ret ?_
      refine fnQ.ret1 ?_
      have hL0 : L = [] := List.length_eq_zero_iff.1 (by omega)
      subst hL0
      rw [List.append_nil] at hpm
      have hmp := mixed_pack hpm hn hn9
      exact ⟨p, St.pick [1] (by decide) rfl hS, hmp.1, hmp.2⟩

end Go.Am
