/-
  Layer 13: all packs, made by a function that calls itself.
  Conditions: none.
-/
import Derived.Test.YtenkokebdgekbaaCo
import Derived.Test.YtenkokebdgekbaaPt5
import Derived.Test.YtenkokebdgekbaaCg
namespace Go.Am
open Go.Gr
/-- All packs that begin so. -/
def permsF (n : Nat) : Nat → List Int → List (List Int)
  | 0, r => [r]
  | d + 1, r => (List.range n).flatMap fun v : Nat => if (v : Int) ∈ r then [] else permsF n d (r ++ [(v : Int)])
def permsO (n d : Nat) (r : List Int) (i : Nat) : List (List Int) := (List.range i).flatMap fun v : Nat => if (v : Int) ∈ r then [] else permsF n d (r ++ [(v : Int)])
theorem permsO_succ (n d : Nat) (r : List Int) (i : Nat) : permsO n d r (i + 1) = permsO n d r i ++ if (i : Int) ∈ r then [] else permsF n d (r ++ [(i : Int)]) := by
  unfold permsO
  rw [List.range_succ, List.flatMap_append, List.flatMap_singleton]
theorem permsF_len (n : Nat) : ∀ (d : Nat) (r : List Int), (permsF n d r).length ≤ n ^ d := by
  intro d
  induction d with
  | zero => intro r; exact Nat.le_refl _
  | succ d ih =>
    intro r
    have key : ∀ i, (permsO n d r i).length ≤ i * n ^ d := by
      intro i
      induction i with
      | zero => simp [permsO]
      | succ i ih2 =>
        rw [permsO_succ, List.length_append, Nat.add_mul]
        have : (if (i : Int) ∈ r then [] else permsF n d (r ++ [(i : Int)])).length ≤ n ^ d := by
          split
          · exact Nat.zero_le _
          · exact ih _
        omega
    rw [Nat.pow_succ, Nat.mul_comm]
    exact key n
theorem permsO_mono (n d : Nat) (r : List Int) {i j : Nat} (h : i ≤ j) : (permsO n d r i).length ≤ (permsO n d r j).length := by
  induction j with
  | zero => rw [show i = 0 by omega]; exact Nat.le_refl _
  | succ j ih =>
    rcases Nat.lt_or_eq_of_le h with h1 | rfl
    · rw [permsO_succ, List.length_append]
      have := ih (by omega)
      omega
    · exact Nat.le_refl _
theorem St.sink {h0 h : AHeap} {a u : Obj} {A M G : List Obj} (st : St h0 h (a :: u :: (A ++ (M ++ G)))) : St h0 h (a :: (A ++ (M ++ (u :: G)))) :=
  St.perm (List.Perm.cons _ (by rw [← List.append_assoc A M (u :: G), ← List.append_assoc A M G]; exact List.perm_middle.symm)) st
theorem St.rise {h0 h : AHeap} {u : Obj} {A M G : List Obj} (st : St h0 h (A ++ (M ++ (u :: G)))) : St h0 h (u :: (A ++ (M ++ G))) :=
  St.perm (by rw [← List.append_assoc A M (u :: G), ← List.append_assoc A M G]; exact List.perm_middle) st

theorem packs1_c {h0 : AHeap} {p1 p2 p3 : AV} {n : Nat} (hp1 : AddrOf p1 p1 0 0) (hp2 : AddrOf p2 p2 0 0) (hp3 : AddrOf p3 p3 0 0) (hn : n ≤ 9) (d : Nat) : ∀ {h : AHeap} {u vo : AV} {vs : List AV} {w : List Int} {ps : List (List Int)} {G : List Obj}, w.length + d = n → vs.length = ps.length → ps.length + (permsF n d w).length ≤ 4294967295 → St h0 h (⟨u, 1, ints w, true⟩ :: ⟨p2, 0, [vo], true⟩ :: ⟨p1, 0, [.int .i64 (n : Int)], true⟩ :: ⟨p3, 0, [.fn 86 [p1, p2, p3]], true⟩ :: (matObjs true vo vs (ps) ++ G)) →
    ACalls Go.Proofs.Try.prog 86 [u, p1, p2, p3] h (fun _ h' => ∃ vo' vs', vs'.length = (ps ++ permsF n d w).length ∧ St h0 h' (⟨p2, 0, [vo'], true⟩ :: ⟨p1, 0, [.int .i64 (n : Int)], true⟩ :: ⟨p3, 0, [.fn 86 [p1, p2, p3]], true⟩ :: (matObjs true vo' vs' (ps ++ permsF n d w) ++ G))) := by
  induction d using Nat.strongRecOn
  rename_i d ih
  intro h u vo vs w ps G hwd hl hsz hS
  refine KA.fn 31 [] Go.Proofs.Try.func86 rfl (by decide) rfl rfl (Nat.le_of_ble_eq_true rfl) ?_
  have huo : u.one = true := St.one hS (k := 0) rfl
  show KA _ 31 _ _ [(0, u), (1, p1), (2, p2), (3, p3)] _
  refine KA.seq ?_
  refine KA.seq ?_
  refine KA.region rfl ?_
  refine KOps.move ?_
  refine KOps.lenI (hS.rd 0 rfl) ?_
  refine KOps.loadBox hS (i := 2) rfl hp1 ?_
  refine KOps.eql ?_
  refine KOps.done ?_
  refine sqQ.normal ?_
  refine KA.sub (Sub.cons (t := 0) Look.eq (Sub.cons (t := 1) Look.eq (Sub.cons (t := 2) Look.eq (Sub.cons (t := 3) Look.eq (Sub.cons (t := 9) Look.eq (Sub.nil _)))))) ?_
  refine KA.condD ?_ ?_
  · intro c9
    have hd0 : d = 0 := by omega
    subst hd0
    have hp0 : permsF n 0 w = [w] := rfl
    rw [hp0, List.length_singleton] at hsz
    refine KA.seq ?_
    refine KA.region rfl ?_
    refine KOps.loadBox hS (i := 1) rfl hp2 ?_
    refine KOps.move ?_
    refine KOps.buildSlice hS rfl (by decide) (by simpa using huo) ?_
    intro v12 h' hS
    refine KOps.appendRow (pre := [_, _, _]) hS (by first | assumption | omega | (simp only [List.length_set, List.length_append, List.length_singleton, List.length_replicate, List.length_take]; omega)) (by first | omega | (simp; omega)) ?_
    intro r13 h' hr13 hS
    refine KOps.storeBox hS rfl (i := 0) rfl hp2 (by first | rfl | assumption) ?_
    intro h' hS
    refine KOps.done ?_
    refine sqQ.normal ?_
    refine KA.sub (Sub.nil _) ?_
    refine KA.ret ?_
    refine sqQ.ret ?_
    refine fnQ.ret0 ?_
    refine ⟨_, _, ?_, hS⟩
    rw [List.length_append, List.length_append, hl]; rfl
  · intro c9
    obtain ⟨e, rfl⟩ : ∃ e, d = e + 1 := ⟨d - 1, by omega⟩
    refine KA.skip ?_
    refine sqQ.normal ?_
    refine KA.sub (Sub.cons (t := 0) Look.eq (Sub.cons (t := 1) Look.eq (Sub.cons (t := 3) Look.eq (Sub.nil _)))) ?_
    refine KA.seq ?_
    refine KA.region rfl ?_
    refine KOps.loadBox hS (i := 2) rfl hp1 ?_
    refine KOps.move ?_
    refine KOps.done ?_
    refine sqQ.normal ?_
    refine KA.sub (Sub.cons (t := 0) Look.eq (Sub.cons (t := 3) Look.eq (Sub.cons (t := 14) Look.eq (Sub.cons (t := 15) Look.eq (Sub.nil _))))) ?_
    refine KA.block ?_
    refine KA.loop (X := Nat × AV × List AV) (fun x => [(0, u), (3, p3), (14, .int .i64 (n : Int)), (15, .int .i64 (x.1 : Int))]) (fun x h' => x.1 ≤ n ∧ x.2.2.length = (ps ++ permsO n e w x.1).length ∧ St h0 h' (⟨u, 1, ints w, true⟩ :: ⟨p2, 0, [x.2.1], true⟩ :: ⟨p1, 0, [.int .i64 (n : Int)], true⟩ :: ⟨p3, 0, [.fn 86 [p1, p2, p3]], true⟩ :: (matObjs true x.2.1 x.2.2 (ps ++ permsO n e w x.1) ++ G))) (fun x => n - x.1) (0, vo, vs) (by repeat (first | exact Sub.nil _ | refine Sub.cons Look.eq ?_ | refine Sub.cons (Eq.trans Look.eq (congrArg (AV.int _) (by first | omega | (dsimp only; omega)))) ?_)) ?_ ?_
    · refine ⟨Nat.zero_le _, ?_, ?_⟩
      · dsimp only; rw [show permsO n e w 0 = [] from rfl, List.append_nil]; exact hl
      · dsimp only; rw [show permsO n e w 0 = [] from rfl, List.append_nil]; exact hS
    rintro ⟨i, wo, ws⟩ h5 ⟨hi, hl5, hS⟩
    dsimp only at hi hl5 hS ⊢
    refine KA.seq ?_
    refine KA.region rfl ?_
    refine KOps.lss ?_
    refine KOps.done ?_
    refine sqQ.normal ?_
    refine KA.seq ?_
    refine KA.condD ?_ ?_
    · intro c16
      refine KA.skip ?_
      refine sqQ.normal ?_
      refine KA.sub (Sub.cons (t := 0) Look.eq (Sub.cons (t := 3) Look.eq (Sub.cons (t := 14) Look.eq (Sub.cons (t := 15) Look.eq (Sub.nil _))))) ?_
      refine KA.seq ?_
      refine KA.block ?_
      refine KA.seq ?_
      refine KA.region rfl ?_
      refine KOps.move ?_
      refine KOps.assign ?_
      refine KOps.done ?_
      refine sqQ.normal ?_
      refine KA.sub (Sub.cons (t := 0) Look.eq (Sub.cons (t := 3) Look.eq (Sub.cons (t := 5) Look.eq (Sub.cons (t := 14) Look.eq (Sub.cons (t := 15) Look.eq (Sub.nil _)))))) ?_
      refine KA.seq ?_
      refine KA.region rfl ?_
      refine KOps.move ?_
      refine KOps.move ?_
      refine KOps.call rfl (contains_c (hS.rd 0 rfl) (by first | omega | (simp; omega))) ?_
      rintro _ _ ⟨rfl, rfl⟩
      refine KOps.not ?_
      refine KOps.done ?_
      refine sqQ.normal ?_
      refine KA.sub (Sub.cons (t := 0) Look.eq (Sub.cons (t := 3) Look.eq (Sub.cons (t := 5) Look.eq (Sub.cons (t := 14) Look.eq (Sub.cons (t := 15) Look.eq (Sub.cons (t := 21) Look.eq (Sub.nil _))))))) ?_
      refine KA.condN ?_ ?_
      · intro c21
        have hps := permsO_succ n e w i
        rw [if_neg c21] at hps
        have hpm := permsO_mono n e w (show i + 1 ≤ n by omega)
        rw [hps, List.length_append] at hpm
        have hpe : permsF n (e + 1) w = permsO n e w n := rfl
        rw [hpe] at hsz
        refine KA.draw [3, 6] mixed rfl (by kernel_rfl) ?_
        refine KOps.loadBox hS (i := 3) rfl hp3 ?_
        refine KOps.buildSlice hS rfl (by decide) rfl ?_
        intro v23 h' hS
        refine KOps.move ?_
        refine KOps.appendAll hS (fun _ => rfl) (i := 0) (p := []) rfl (hS.rd 1 rfl) (by rw [List.length_nil]; omega) ?_
        intro r25 h6 hr25 hS
        simp only [List.set_cons_zero, List.nil_append] at hS
        refine KOps.move ?_
        refine KOps.buildSlice hS rfl (by decide) rfl ?_
        intro v27 h' hS
        refine KOps.appendI hS (fun _ => rfl) (i := 0) rfl (by first | omega | (simp; omega)) ?_
        intro r28 h' hr28 hS
        have hS6 := St.sink (a := ⟨r28, 1, ints (w ++ [(i : Int)]), true⟩) (u := ⟨u, 1, ints w, true⟩) (A := [⟨p2, 0, [wo], true⟩, ⟨p1, 0, [.int .i64 (n : Int)], true⟩, ⟨p3, 0, [.fn 86 [p1, p2, p3]], true⟩]) (M := matObjs true wo ws (ps ++ permsO n e w i)) (G := G) hS
        refine KOps.call rfl (ih e (by omega) (vo := wo) (w := w ++ [(i : Int)]) (G := ⟨u, 1, ints w, true⟩ :: G) (by simp only [List.length_append, List.length_singleton]; omega) hl5 (by rw [List.length_append]; omega) hS6) ?_
        rintro _ h7 ⟨wo7, ws7, hl7, hS7⟩
        refine KOps.done ?_
        refine blQ.normal ?_
        refine sqQ.normal ?_
        refine KA.sub (Sub.cons (t := 0) Look.eq (Sub.cons (t := 3) Look.eq (Sub.cons (t := 14) Look.eq (Sub.cons (t := 15) Look.eq (Sub.nil _))))) ?_
        refine KA.region rfl ?_
        refine KOps.add (by first | omega | (simp only [List.length_append, List.length_singleton, List.length_set]; omega)) (by first | omega | (simp only [List.length_append, List.length_singleton, List.length_set]; omega)) ?_
        refine KOps.move ?_
        refine KOps.done ?_
        rw [List.append_assoc, ← hps] at hl7 hS7
        exact lpQ.normal (i + 1, wo7, ws7) (by repeat (first | exact Sub.nil _ | refine Sub.cons Look.eq ?_ | refine Sub.cons (Eq.trans Look.eq (congrArg (AV.int _) (by first | omega | (dsimp only; omega)))) ?_)) ⟨by dsimp only; omega, hl7, St.rise (u := ⟨u, 1, ints w, true⟩) (A := [⟨p2, 0, [wo7], true⟩, ⟨p1, 0, [.int .i64 (n : Int)], true⟩, ⟨p3, 0, [.fn 86 [p1, p2, p3]], true⟩]) (M := matObjs true wo7 ws7 (ps ++ permsO n e w (i + 1))) (G := G) hS7⟩ (by dsimp only; omega)
      · intro c21
        refine KA.skip ?_
        refine blQ.normal ?_
        refine sqQ.normal ?_
        refine KA.sub (Sub.cons (t := 0) Look.eq (Sub.cons (t := 3) Look.eq (Sub.cons (t := 14) Look.eq (Sub.cons (t := 15) Look.eq (Sub.nil _))))) ?_
        refine KA.region rfl ?_
        refine KOps.add (by first | omega | (simp only [List.length_append, List.length_singleton, List.length_set]; omega)) (by first | omega | (simp only [List.length_append, List.length_singleton, List.length_set]; omega)) ?_
        refine KOps.move ?_
        refine KOps.done ?_
        have hps := permsO_succ n e w i
        rw [if_pos c21, List.append_nil] at hps
        exact lpQ.normal (i + 1, wo, ws) (by repeat (first | exact Sub.nil _ | refine Sub.cons Look.eq ?_ | refine Sub.cons (Eq.trans Look.eq (congrArg (AV.int _) (by first | omega | (dsimp only; omega)))) ?_)) ⟨by dsimp only; omega, by dsimp only; rw [hps]; exact hl5, by dsimp only; rw [hps]; exact hS⟩ (by dsimp only; omega)
    · intro c16
      refine KA.exit ?_
      refine sqQ.exit ?_
      refine lpQ.exit ?_
      refine blQ.here ?_
      refine fnQ.norm0 ?_
      have hin : i = n := by omega
      subst hin
      exact ⟨wo, ws, hl5, St.tail hS⟩

theorem packs_c {h : AHeap} {n : Nat} (hn : n ≤ 9) : ACalls Go.Proofs.Try.prog 49 [.int .i64 (n : Int)] h (fun r h' => Keeps h h' ∧ Mat h' r (permsF n n [])) := by
  refine KA.fn 9 [.tmp 2] Go.Proofs.Try.func49 rfl (by decide) rfl rfl (Nat.le_of_ble_eq_true rfl) ?_
  have hS := St.refl h
  have hpl := permsF_len n n []
  have hp9 : n ^ n ≤ 9 ^ 9 := Nat.le_trans (Nat.pow_le_pow_left hn n) (Nat.pow_le_pow_right (by decide) hn)
  show KA _ 9 _ _ [(0, .int .i64 (n : Int))] _
  refine KA.seq ?_
  refine KA.region rfl ?_
  refine KOps.box hS (l := [.int .i64 (n : Int)]) rfl ?_
  intro p1 h1 hp1 hS
  refine KOps.assign ?_
  refine KOps.done ?_
  refine sqQ.normal ?_
  refine KA.sub (Sub.cons (t := 1) Look.eq (Sub.nil _)) ?_
  refine KA.seq ?_
  refine KA.region rfl ?_
  refine KOps.alloc hS ?_
  intro p2 h2 hp2 hS
  refine KOps.done ?_
  refine sqQ.normal ?_
  refine KA.seq ?_
  refine KA.region rfl ?_
  refine KOps.alloc hS ?_
  intro p3 h3 hp3 hS
  refine KOps.done ?_
  refine sqQ.normal ?_
  refine KA.seq ?_
  refine KA.region rfl ?_
  refine KOps.makeFunc ?_
  refine KOps.storeBox hS rfl (i := 0) rfl hp3 (by first | rfl | assumption) ?_
  intro h' hS
  simp only [List.set_cons_zero] at hS
  refine KOps.done ?_
  refine sqQ.normal ?_
  refine KA.sub (Sub.cons (t := 3) Look.eq (Sub.cons (t := 4) Look.eq (Sub.nil _))) ?_
  refine KA.seq ?_
  refine KA.region rfl ?_
  refine KOps.loadBox hS (i := 0) rfl hp3 ?_
  refine KOps.call rfl (packs1_c hp1 hp2 hp3 hn n (vo := .nils) (vs := []) (w := []) (ps := []) (G := []) (by simp) rfl (by simpa using (by omega : (permsF n n []).length ≤ 4294967295)) (St.nil (St.pick [1, 2, 0, 3] (by decide) rfl (St.addNil 1 true hS)) 1)) ?_
  rintro _ h5 ⟨vo, vs, hl, hS⟩
  rw [List.nil_append] at hl hS
  refine KOps.done ?_
  refine sqQ.normal ?_
  refine KA.sub (Sub.cons (t := 3) Look.eq (Sub.nil _)) ?_
  refine KA.seq ?_
  refine KA.region rfl ?_
  refine KOps.loadBox hS (i := 0) rfl hp2 ?_
  refine KOps.assign ?_
  refine KOps.done ?_
  refine sqQ.normal ?_
  refine KA.sub (Sub.cons (t := 2) Look.eq (Sub.nil _)) ?_
  refine KA.ret ?_
  refine fnQ.ret1 ?_
  exact ⟨hS.keeps, St.mat (pre := [_, _, _]) hl hS⟩

end Go.Am
