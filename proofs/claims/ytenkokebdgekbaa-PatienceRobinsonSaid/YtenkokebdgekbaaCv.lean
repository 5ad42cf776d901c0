/-
  Layer 13: all tables in order, made by a function that calls itself.
  Conditions: none.
-/
import Derived.Test.YtenkokebdgekbaaAmI
import Derived.Test.YtenkokebdgekbaaCo
import Derived.Test.YtenkokebdgekbaaPt5
namespace Go.Am
open Go.Gr
/-- A table with one number more at the end of list k. -/
def addAt (T : List (List Int)) (k : Nat) (x : Int) : List (List Int) := (roomy T k).set k ((roomy T k).getD k [] ++ [x])
def flatK (T : List (List Int)) (k : Nat) : Prop := (0 < k ∧ k < T.length) ∧ (T.getD k []).length = (T.getD (k - 1) []).length
instance (T : List (List Int)) (k : Nat) : Decidable (flatK T k) := by unfold flatK; infer_instance
def stdF : Nat → Int → List (List Int) → List (List (List Int))
  | 0, _, T => [T]
  | d + 1, x, T => (List.range (T.length + 1)).flatMap fun k => if flatK T k then [] else stdF d (x + 1) (addAt T k x)
def stdO (d : Nat) (x : Int) (T : List (List Int)) (i : Nat) : List (List (List Int)) := (List.range i).flatMap fun k => if flatK T k then [] else stdF d (x + 1) (addAt T k x)
theorem stdO_succ (d : Nat) (x : Int) (T : List (List Int)) (i : Nat) : stdO d x T (i + 1) = stdO d x T i ++ if flatK T i then [] else stdF d (x + 1) (addAt T i x) := by
  unfold stdO
  rw [List.range_succ, List.flatMap_append, List.flatMap_singleton]
theorem stdO_mono (d : Nat) (x : Int) (T : List (List Int)) {i j : Nat} (h : i ≤ j) : (stdO d x T i).length ≤ (stdO d x T j).length := by
  induction j with
  | zero => rw [show i = 0 by omega]; exact Nat.le_refl _
  | succ j ih =>
    rcases Nat.lt_or_eq_of_le h with h1 | rfl
    · rw [stdO_succ, List.length_append]
      have := ih (by omega)
      omega
    · exact Nat.le_refl _
/-- All tables in order of the numbers below n. -/
def stdAll (n : Nat) : List (List (List Int)) := stdF n 0 []
/-- A table is read whenever the objects behind are there. -/
def Reads (h0 : AHeap) (G : List Obj) (v : AV) (T : List (List Int)) : Prop := ∃ vs : List AV, vs.length = T.length ∧ ∀ h A, St h0 h (A ++ G) → Rd h v 1 vs ∧ ∀ i, i < T.length → Row h (vs.getD i .bot) (T.getD i [])
theorem Reads.mat {h0 h : AHeap} {A G : List Obj} {v : AV} {T : List (List Int)} (hr : Reads h0 G v T) (hS : St h0 h (A ++ G)) : Mat h v T := let ⟨vs, hl, hw⟩ := hr; ⟨vs, (hw h A hS).1, hl, (hw h A hS).2⟩
theorem Reads.more {h0 : AHeap} {G : List Obj} {v : AV} {T : List (List Int)} (hr : Reads h0 G v T) (B : List Obj) : Reads h0 (B ++ G) v T := let ⟨vs, hl, hw⟩ := hr; ⟨vs, hl, fun h A hS => hw h (A ++ B) (by rw [List.append_assoc]; exact hS)⟩
theorem Reads.one {h0 h : AHeap} {A G : List Obj} {v : AV} {T : List (List Int)} (hr : Reads h0 G v T) (hS : St h0 h (A ++ G)) : v.one = true := let ⟨_, _, hw⟩ := hr; (hw h A hS).1.one
theorem Reads.own {h0 : AHeap} {vo : AV} {vs : List AV} {T : List (List Int)} {G : List Obj} (hl : vs.length = T.length) : Reads h0 (matObjs true vo vs T ++ G) vo T :=
  ⟨vs, hl, fun _ A hS => ⟨St.outer (pre := A) hS, fun _ hi => St.rowAt (pre := A) hS hl hi⟩⟩
theorem Reads.nil {h0 : AHeap} {G : List Obj} : Reads h0 G .nils [] := ⟨[], rfl, fun _ _ _ => ⟨.inl ⟨rfl, rfl⟩, fun _ hi => absurd hi (Nat.not_lt_zero _)⟩⟩
theorem St.g0 {h0 h : AHeap} {A B G : List Obj} (hS : St h0 h (A ++ (B ++ G))) : St h0 h ((A ++ B) ++ G) := by rw [List.append_assoc]; exact hS
theorem takeR_snoc {T : List (List Int)} {j : Nat} (hj : j < T.length) : T.take (j + 1) = T.take j ++ [T.getD j []] := by
  rw [List.take_add_one, List.getElem?_eq_getElem hj, List.getD_eq_getElem?_getD, List.getElem?_eq_getElem hj]; rfl
theorem St.g1 {h0 h : AHeap} (M B : List Obj) {G : List Obj} {a b c d : Obj} (hS : St h0 h (a :: b :: c :: d :: (M ++ (B ++ G)))) : St h0 h ((a :: b :: c :: d :: (M ++ B)) ++ G) := by simpa only [List.cons_append, List.append_assoc] using hS
theorem St.g2 {h0 h : AHeap} (M B : List Obj) {G : List Obj} {a b c d e : Obj} (hS : St h0 h (a :: b :: c :: d :: e :: (M ++ (B ++ G)))) : St h0 h ((a :: b :: c :: d :: e :: (M ++ B)) ++ G) := by simpa only [List.cons_append, List.append_assoc] using hS
theorem St.nil4 {h0 h : AHeap} {T : List (List Int)} {G : List Obj} {a b c d : Obj} (hS : St h0 h (a :: b :: c :: d :: G)) : St h0 h (a :: b :: c :: d :: (matObjs true .nils [] (T.take 0) ++ G)) := by
  have h1 := St.addNil 1 true hS
  refine St.perm ?_ h1
  have : (a :: b :: c :: d :: G) ++ [(⟨.nils, 1, [], true⟩ : Obj)] = ([a, b, c, d] ++ G) ++ [(⟨.nils, 1, [], true⟩ : Obj)] := rfl
  rw [this, List.append_assoc]
  exact (List.Perm.append_left [a, b, c, d] List.perm_append_comm)
def ReadsL (h0 : AHeap) (G : List Obj) (vs : List AV) (L : List (List (List Int))) : Prop := vs.length = L.length ∧ ∀ i, i < L.length → Reads h0 G (vs.getD i .bot) (L.getD i [])
theorem ReadsL.more {h0 : AHeap} {G : List Obj} {vs : List AV} {L : List (List (List Int))} (hr : ReadsL h0 G vs L) (B : List Obj) : ReadsL h0 (B ++ G) vs L := ⟨hr.1, fun i hi => (hr.2 i hi).more B⟩
theorem ReadsL.snoc {h0 : AHeap} {G : List Obj} {vs : List AV} {L : List (List (List Int))} {v : AV} {T : List (List Int)} (hr : ReadsL h0 G vs L) (ht : Reads h0 G v T) : ReadsL h0 G (vs ++ [v]) (L ++ [T]) := by
  refine ⟨by simp [hr.1], ?_⟩
  intro i hi
  rw [List.length_append, List.length_singleton] at hi
  by_cases h : i < L.length
  · rw [List.getD_eq_getElem?_getD, List.getD_eq_getElem?_getD, List.getElem?_append_left (by rw [hr.1]; exact h), List.getElem?_append_left h, ← List.getD_eq_getElem?_getD, ← List.getD_eq_getElem?_getD]
    exact hr.2 i h
  · have : i = L.length := by omega
    subst this
    rw [List.getD_eq_getElem?_getD, List.getD_eq_getElem?_getD, ← hr.1, List.getElem?_append_right (Nat.le_refl _), Nat.sub_self, hr.1, List.getElem?_append_right (Nat.le_refl _), Nat.sub_self]
    exact ht
theorem addAt_length (T : List (List Int)) (k : Nat) (x : Int) : (addAt T k x).length ≤ T.length + 1 := by
  unfold addAt; rw [List.length_set, roomy_length]; split <;> omega
theorem addAt_row {T : List (List Int)} {k : Nat} {x : Int} {m : Int} (h : ∀ j, ((T.getD j []).length : Int) ≤ m) (j : Nat) : (((addAt T k x).getD j []).length : Int) ≤ m + 1 := by
  unfold addAt
  by_cases hk : k < (roomy T k).length
  · rw [getDL_set hk]
    split
    · rw [roomy_getD, List.length_append, List.length_singleton]; have := h k; omega
    · rw [roomy_getD]; have := h j; omega
  · rw [List.set_eq_of_length_le (by omega), roomy_getD]; have := h j; omega

theorem standard1_c {h0 : AHeap} {p2 p3 p4 : AV} {n : Int} (hp2 : AddrOf p2 p2 0 0) (hp3 : AddrOf p3 p3 0 0) (hp4 : AddrOf p4 p4 0 0) (hn : n ≤ 100) (d : Nat) : ∀ {h : AHeap} {t vo : AV} {x : Int} {vs : List AV} {T : List (List Int)} {L : List (List (List Int))} {G : List Obj}, x + d = n → 0 ≤ x → (T.length : Int) ≤ x → (∀ j, ((T.getD j []).length : Int) ≤ x) → L.length + (stdF d x T).length ≤ 4294967295 → Reads h0 G t T → ReadsL h0 G vs L → St h0 h (⟨p3, 0, [vo], true⟩ :: ⟨p2, 0, [.int .i64 n], true⟩ :: ⟨p4, 0, [.fn 85 [p2, p3, p4]], true⟩ :: ⟨vo, 1, vs, true⟩ :: G) →
    ACalls Go.Proofs.Try.prog 85 [t, .int .i64 x, p2, p3, p4] h (fun _ h' => ∃ vo' vs' G', ReadsL h0 (G' ++ G) vs' (L ++ stdF d x T) ∧ St h0 h' (⟨p3, 0, [vo'], true⟩ :: ⟨p2, 0, [.int .i64 n], true⟩ :: ⟨p4, 0, [.fn 85 [p2, p3, p4]], true⟩ :: ⟨vo', 1, vs', true⟩ :: (G' ++ G))) := by
  induction d using Nat.strongRecOn
  rename_i d ih
  intro h t vo x vs T L G hxd hx0 hTl hTr hsz hRt hRL hS
  refine KA.fn 81 [] Go.Proofs.Try.func85 rfl (by decide) rfl rfl (Nat.le_of_ble_eq_true rfl) ?_
  have hto : t.one = true := hRt.one (A := [_, _, _, _]) hS
  have hvl := hRL.1
  obtain ⟨ws, hwl, hw⟩ := id hRt
  show KA _ 81 _ _ [(0, t), (1, .int .i64 x), (2, p2), (3, p3), (4, p4)] _
  refine KA.seq ?_
  refine KA.seq ?_
  refine KA.region rfl ?_
  refine KOps.move ?_
  refine KOps.loadBox hS (i := 1) rfl hp2 ?_
  refine KOps.eql ?_
  refine KOps.done ?_
  refine sqQ.normal ?_
  refine KA.sub (Sub.cons (t := 0) Look.eq (Sub.cons (t := 1) Look.eq (Sub.cons (t := 3) Look.eq (Sub.cons (t := 4) Look.eq (Sub.cons (t := 13) Look.eq (Sub.nil _)))))) ?_
  refine KA.condD ?_ ?_
  · intro c13
    have hd0 : d = 0 := by omega
    subst hd0
    have hs0 : stdF 0 x T = [T] := rfl
    rw [hs0, List.length_singleton] at hsz
    refine KA.seq ?_
    refine KA.region rfl ?_
    refine KOps.loadBox hS (i := 0) rfl hp3 ?_
    refine KOps.move ?_
    refine KOps.buildSlice hS rfl (by decide) (by simpa using hto) ?_
    intro v16 h' hS
    refine KOps.append (s := 1) (a := L.length) (b := 1) (i := 4) hS (fun _ => rfl) rfl (by omega) (hS.rd 0 rfl) rfl (by simpa using hto) (by omega) ?_
    intro r17 h' hS
    have hr17 : r17.one = true := hS.one (k := 4) rfl
    have hS := St.tail hS
    refine KOps.storeBox hS rfl (i := 0) rfl hp3 (by first | rfl | assumption) ?_
    intro h' hS
    refine KOps.done ?_
    refine sqQ.normal ?_
    refine KA.sub (Sub.nil _) ?_
    refine KA.ret ?_
    refine sqQ.ret ?_
    refine fnQ.ret0 ?_
    refine ⟨_, _, [], ?_, hS⟩
    rw [hs0]
    exact hRL.snoc hRt
  · intro c13
    obtain ⟨e, rfl⟩ : ∃ e, d = e + 1 := ⟨d - 1, by omega⟩
    have hse : stdF (e + 1) x T = stdO e x T (T.length + 1) := rfl
    rw [hse] at hsz
    refine KA.skip ?_
    refine sqQ.normal ?_
    refine KA.sub (Sub.cons (t := 0) Look.eq (Sub.cons (t := 1) Look.eq (Sub.cons (t := 4) Look.eq (Sub.nil _)))) ?_
    refine KA.seq ?_
    refine KA.region rfl ?_
    refine KOps.assign ?_
    refine KOps.done ?_
    refine sqQ.normal ?_
    refine KA.block ?_
    refine KA.loop (X := Nat × AV × List AV × List Obj) (fun x_ => [(0, t), (1, .int .i64 x), (4, p4), (7, .int .i64 (x_.1 : Int))]) (fun x_ h' => x_.1 ≤ T.length + 1 ∧ ReadsL h0 (x_.2.2.2 ++ G) x_.2.2.1 (L ++ stdO e x T x_.1) ∧ St h0 h' (⟨p3, 0, [x_.2.1], true⟩ :: ⟨p2, 0, [.int .i64 n], true⟩ :: ⟨p4, 0, [.fn 85 [p2, p3, p4]], true⟩ :: ⟨x_.2.1, 1, x_.2.2.1, true⟩ :: (x_.2.2.2 ++ G))) (fun x_ => T.length + 1 - x_.1) (0, vo, vs, []) (by repeat (first | exact Sub.nil _ | refine Sub.cons Look.eq ?_ | refine Sub.cons (Eq.trans Look.eq (congrArg (AV.int _) (by first | omega | (dsimp only; omega)))) ?_)) ?_ ?_
    · refine ⟨Nat.zero_le _, ?_, hS⟩
      show ReadsL h0 ([] ++ G) vs (L ++ stdO e x T 0)
      rw [show stdO e x T 0 = [] from rfl, List.append_nil]; exact hRL
    rintro ⟨i, wo, zs, H⟩ h5 ⟨hi, hL5, hS⟩
    dsimp only at hi hL5 hS ⊢
    refine KA.seq ?_
    refine KA.seq ?_
    refine KA.region rfl ?_
    refine KOps.move ?_
    refine KOps.move ?_
    refine KOps.lenV (hw _ _ (St.g0 (A := [_, _, _, _]) hS)).1 ?_
    refine KOps.leq ?_
    refine KOps.done ?_
    refine sqQ.normal ?_
    refine KA.sub (Sub.cons (t := 0) Look.eq (Sub.cons (t := 1) Look.eq (Sub.cons (t := 4) Look.eq (Sub.cons (t := 7) Look.eq (Sub.cons (t := 21) Look.eq (Sub.nil _)))))) ?_
    refine KA.condD ?_ ?_
    · intro c21
      refine KA.skip ?_
      refine sqQ.normal ?_
      refine KA.sub (Sub.cons (t := 0) Look.eq (Sub.cons (t := 1) Look.eq (Sub.cons (t := 4) Look.eq (Sub.cons (t := 7) Look.eq (Sub.nil _))))) ?_
      refine KA.seq ?_
      refine KA.block ?_
      refine KA.meet (X := Unit) (fun u_ => [(0, t), (1, .int .i64 x), (4, p4), (7, .int .i64 (i : Int))]) (fun u_ h' => ¬ flatK T i ∧ St h0 h' (⟨p3, 0, [wo], true⟩ :: ⟨p2, 0, [.int .i64 n], true⟩ :: ⟨p4, 0, [.fn 85 [p2, p3, p4]], true⟩ :: ⟨wo, 1, zs, true⟩ :: (H ++ G))) ?_ ?_
      ·
        refine KA.seq ?_
        refine KA.draw [] mixed rfl (by kernel_rfl) ?_
        refine KOps.move ?_
        refine KOps.gtr ?_
        refine KOps.move ?_
        refine KOps.guardB (dj := 26) rfl rfl true false rfl ?_ ?_
        · intro g26
          have g26 := of_decide_eq_true g26
          refine KOps.move ?_
          refine KOps.guardYes (dj := 26) rfl rfl ?_
          refine KOps.move ?_
          refine KOps.guardYes (dj := 26) rfl rfl ?_
          refine KOps.lenV (hw _ _ (St.g0 (A := [_, _, _, _]) hS)).1 ?_
          refine KOps.guardYes (dj := 26) rfl rfl ?_
          refine KOps.lss ?_
          refine KOps.pickT ?_
          refine KOps.move ?_
          refine KOps.guardB (dj := 32) rfl rfl true false rfl ?_ ?_
          · intro g32
            have g32 := of_decide_eq_true g32
            have hr1 := (hw _ _ (St.g0 (A := [_, _, _, _]) hS)).2 i (by omega)
            have hr2 := (hw _ _ (St.g0 (A := [_, _, _, _]) hS)).2 (i - 1) (by omega)
            refine KOps.move ?_
            refine KOps.guardYes (dj := 32) rfl rfl ?_
            refine KOps.move ?_
            refine KOps.guardYes (dj := 32) rfl rfl ?_
            refine KOps.indexVJ (hw _ _ (St.g0 (A := [_, _, _, _]) hS)).1 (j := i) rfl (by first | omega | (simp; omega)) ?_
            intro p35 hp35
            refine KOps.guardYes (dj := 32) rfl rfl ?_
            refine KOps.loadV hp35 (hw _ _ (St.g0 (A := [_, _, _, _]) hS)).1 (by first | omega | (simp; omega)) ?_
            refine KOps.guardYes (dj := 32) rfl rfl ?_
            refine KOps.lenI (by first | assumption | exact Rd.ext hS.keeps (by assumption)) ?_
            refine KOps.guardYes (dj := 32) rfl rfl ?_
            refine KOps.move ?_
            refine KOps.guardYes (dj := 32) rfl rfl ?_
            refine KOps.move ?_
            refine KOps.guardYes (dj := 32) rfl rfl ?_
            refine KOps.sub (by first | omega | (simp only [List.length_append, List.length_singleton, List.length_set]; omega)) (by first | omega | (simp only [List.length_append, List.length_singleton, List.length_set]; omega)) ?_
            refine KOps.guardYes (dj := 32) rfl rfl ?_
            refine KOps.indexVJ (hw _ _ (St.g0 (A := [_, _, _, _]) hS)).1 (j := (i - 1)) (by first | omega | (simp only [List.length_append, List.length_singleton, List.length_set]; omega)) (by first | omega | (simp; omega)) ?_
            intro p41 hp41
            refine KOps.guardYes (dj := 32) rfl rfl ?_
            refine KOps.loadV hp41 (hw _ _ (St.g0 (A := [_, _, _, _]) hS)).1 (by first | omega | (simp; omega)) ?_
            refine KOps.guardYes (dj := 32) rfl rfl ?_
            refine KOps.lenI (by first | assumption | exact Rd.ext hS.keeps (by assumption)) ?_
            refine KOps.guardYes (dj := 32) rfl rfl ?_
            refine KOps.eql ?_
            refine KOps.pickT ?_
            refine KOps.done ?_
            refine sqQ.normal ?_
            refine KA.sub (Sub.cons (t := 0) Look.eq (Sub.cons (t := 1) Look.eq (Sub.cons (t := 4) Look.eq (Sub.cons (t := 7) Look.eq (Sub.cons (t := 27) Look.eq (Sub.cons (t := 28) Look.eq (Sub.cons (t := 29) Look.eq (Sub.cons (t := 30) Look.eq (Sub.cons (t := 33) Look.eq (Sub.cons (t := 34) Look.eq (Sub.cons (t := 35) Look.eq (Sub.cons (t := 36) Look.eq (Sub.cons (t := 37) Look.eq (Sub.cons (t := 38) Look.eq (Sub.cons (t := 39) Look.eq (Sub.cons (t := 40) Look.eq (Sub.cons (t := 41) Look.eq (Sub.cons (t := 42) Look.eq (Sub.cons (t := 43) Look.eq (Sub.cons (t := 44) Look.eq (Sub.cons (t := 45) Look.eq (Sub.nil _)))))))))))))))))))))) ?_
            refine KA.condD ?_ ?_
            · intro c45
              have hfl : flatK T i := ⟨⟨by omega, by omega⟩, by omega⟩
              have hps := stdO_succ e x T i
              rw [if_pos hfl, List.append_nil] at hps
              refine KA.exit ?_
              refine mtQ.exit ?_
              refine blQ.here ?_
              refine sqQ.normal ?_
              refine KA.sub (Sub.cons (t := 0) Look.eq (Sub.cons (t := 1) Look.eq (Sub.cons (t := 4) Look.eq (Sub.cons (t := 7) Look.eq (Sub.cons (t := 27) Look.eq (Sub.cons (t := 28) Look.eq (Sub.cons (t := 29) Look.eq (Sub.cons (t := 30) Look.eq (Sub.cons (t := 33) Look.eq (Sub.cons (t := 34) Look.eq (Sub.cons (t := 35) Look.eq (Sub.cons (t := 36) Look.eq (Sub.cons (t := 37) Look.eq (Sub.cons (t := 38) Look.eq (Sub.cons (t := 39) Look.eq (Sub.cons (t := 40) Look.eq (Sub.cons (t := 41) Look.eq (Sub.cons (t := 42) Look.eq (Sub.cons (t := 43) Look.eq (Sub.cons (t := 44) Look.eq (Sub.nil _))))))))))))))))))))) ?_
              refine KA.region rfl ?_
              refine KOps.move ?_
              refine KOps.add (by first | omega | (simp only [List.length_append, List.length_singleton, List.length_set]; omega)) (by first | omega | (simp only [List.length_append, List.length_singleton, List.length_set]; omega)) ?_
              refine KOps.assign ?_
              refine KOps.done ?_
              exact lpQ.normal (i + 1, wo, zs, H) (by repeat (first | exact Sub.nil _ | refine Sub.cons Look.eq ?_ | refine Sub.cons (Eq.trans Look.eq (congrArg (AV.int _) (by first | omega | (dsimp only; omega)))) ?_)) ⟨by dsimp only; omega, by dsimp only; rw [hps]; exact hL5, hS⟩ (by dsimp only; omega)
            · intro c45
              refine KA.skip ?_
              exact mtQ.normal () (by repeat (first | exact Sub.nil _ | refine Sub.cons Look.eq ?_ | refine Sub.cons (Eq.trans Look.eq (congrArg (AV.int _) (by first | omega | (dsimp only; omega)))) ?_)) ⟨fun hf => c45 (by have := hf.2; omega), hS⟩
          · intro g32
            have g32 := of_decide_eq_false g32
            refine KOps.guardNo (dj := 32) rfl rfl rfl ?_
            refine KOps.guardNo (dj := 32) rfl rfl rfl ?_
            refine KOps.guardNo (dj := 32) rfl rfl rfl ?_
            refine KOps.guardNo (dj := 32) rfl rfl rfl ?_
            refine KOps.guardNo (dj := 32) rfl rfl rfl ?_
            refine KOps.guardNo (dj := 32) rfl rfl rfl ?_
            refine KOps.guardNo (dj := 32) rfl rfl rfl ?_
            refine KOps.guardNo (dj := 32) rfl rfl rfl ?_
            refine KOps.guardNo (dj := 32) rfl rfl rfl ?_
            refine KOps.guardNo (dj := 32) rfl rfl rfl ?_
            refine KOps.guardNo (dj := 32) rfl rfl rfl ?_
            refine KOps.pickF ?_
            refine KOps.done ?_
            refine sqQ.normal ?_
            refine KA.sub (Sub.cons (t := 0) Look.eq (Sub.cons (t := 1) Look.eq (Sub.cons (t := 4) Look.eq (Sub.cons (t := 7) Look.eq (Sub.cons (t := 27) Look.eq (Sub.cons (t := 28) Look.eq (Sub.cons (t := 29) Look.eq (Sub.cons (t := 30) Look.eq (Sub.cons (t := 33) Look.eq (Sub.cons (t := 34) Look.eq (Sub.cons (t := 35) Look.eq (Sub.cons (t := 36) Look.eq (Sub.cons (t := 37) Look.eq (Sub.cons (t := 38) Look.eq (Sub.cons (t := 39) Look.eq (Sub.cons (t := 40) Look.eq (Sub.cons (t := 41) Look.eq (Sub.cons (t := 42) Look.eq (Sub.cons (t := 43) Look.eq (Sub.cons (t := 44) Look.eq (Sub.cons (t := 45) Look.eq (Sub.nil _)))))))))))))))))))))) ?_
            refine KA.condF ?_
            refine KA.skip ?_
            exact mtQ.normal () (by repeat (first | exact Sub.nil _ | refine Sub.cons Look.eq ?_ | refine Sub.cons (Eq.trans Look.eq (congrArg (AV.int _) (by first | omega | (dsimp only; omega)))) ?_)) ⟨fun hf => by have := hf.1; omega, hS⟩
        · intro g26
          have g26 := of_decide_eq_false g26
          refine KOps.guardNo (dj := 26) rfl rfl rfl ?_
          refine KOps.guardNo (dj := 26) rfl rfl rfl ?_
          refine KOps.guardNo (dj := 26) rfl rfl rfl ?_
          refine KOps.pickF ?_
          refine KOps.move ?_
          refine KOps.guardNo (dj := 32) rfl rfl rfl ?_
          refine KOps.guardNo (dj := 32) rfl rfl rfl ?_
          refine KOps.guardNo (dj := 32) rfl rfl rfl ?_
          refine KOps.guardNo (dj := 32) rfl rfl rfl ?_
          refine KOps.guardNo (dj := 32) rfl rfl rfl ?_
          refine KOps.guardNo (dj := 32) rfl rfl rfl ?_
          refine KOps.guardNo (dj := 32) rfl rfl rfl ?_
          refine KOps.guardNo (dj := 32) rfl rfl rfl ?_
          refine KOps.guardNo (dj := 32) rfl rfl rfl ?_
          refine KOps.guardNo (dj := 32) rfl rfl rfl ?_
          refine KOps.guardNo (dj := 32) rfl rfl rfl ?_
          refine KOps.guardNo (dj := 32) rfl rfl rfl ?_
          refine KOps.pickF ?_
          refine KOps.done ?_
          refine sqQ.normal ?_
          refine KA.sub (Sub.cons (t := 0) Look.eq (Sub.cons (t := 1) Look.eq (Sub.cons (t := 4) Look.eq (Sub.cons (t := 7) Look.eq (Sub.cons (t := 27) Look.eq (Sub.cons (t := 28) Look.eq (Sub.cons (t := 29) Look.eq (Sub.cons (t := 30) Look.eq (Sub.cons (t := 33) Look.eq (Sub.cons (t := 34) Look.eq (Sub.cons (t := 35) Look.eq (Sub.cons (t := 36) Look.eq (Sub.cons (t := 37) Look.eq (Sub.cons (t := 38) Look.eq (Sub.cons (t := 39) Look.eq (Sub.cons (t := 40) Look.eq (Sub.cons (t := 41) Look.eq (Sub.cons (t := 42) Look.eq (Sub.cons (t := 43) Look.eq (Sub.cons (t := 44) Look.eq (Sub.cons (t := 45) Look.eq (Sub.nil _)))))))))))))))))))))) ?_
          refine KA.condF ?_
          refine KA.skip ?_
          exact mtQ.normal () (by repeat (first | exact Sub.nil _ | refine Sub.cons Look.eq ?_ | refine Sub.cons (Eq.trans Look.eq (congrArg (AV.int _) (by first | omega | (dsimp only; omega)))) ?_)) ⟨fun hf => by have := hf.1; omega, hS⟩
      ·
        rintro ⟨⟩ h5 ⟨hnf, hS⟩
        refine KA.seq ?_
        refine KA.region rfl ?_
        refine KOps.assign ?_
        refine KOps.done ?_
        refine sqQ.normal ?_
        refine KA.seq ?_
        refine KA.seq ?_
        refine KA.region rfl ?_
        refine KOps.move ?_
        refine KOps.lenV (hw _ _ (St.g0 (A := [_, _, _, _]) hS)).1 ?_
        refine KOps.move ?_
        refine KOps.done ?_
        refine sqQ.normal ?_
        refine KA.block ?_
        refine KA.loop (X := Nat × AV × List AV) (fun y_ => [(0, t), (1, .int .i64 x), (4, p4), (7, .int .i64 (i : Int)), (8, y_.2.1), (46, t), (47, .int .i64 (T.length : Int)), (48, .int .i64 (y_.1 : Int))]) (fun y_ h' => y_.1 ≤ T.length ∧ y_.2.2.length = y_.1 ∧ St h0 h' (⟨p3, 0, [wo], true⟩ :: ⟨p2, 0, [.int .i64 n], true⟩ :: ⟨p4, 0, [.fn 85 [p2, p3, p4]], true⟩ :: ⟨wo, 1, zs, true⟩ :: (matObjs true y_.2.1 y_.2.2 (T.take y_.1) ++ (H ++ G)))) (fun y_ => T.length - y_.1) (0, .nils, []) (by repeat (first | exact Sub.nil _ | refine Sub.cons Look.eq ?_ | refine Sub.cons (Eq.trans Look.eq (congrArg (AV.int _) (by first | omega | (dsimp only; omega)))) ?_)) ?_ ?_
        · refine ⟨Nat.zero_le _, rfl, ?_⟩
          exact St.nil4 hS
        rintro ⟨j, vn, ns⟩ h6 ⟨hj, hnl, hS⟩
        dsimp only at hj hnl hS ⊢
        have htl : (T.take j).length = j := by rw [List.length_take]; omega
        refine KA.seq ?_
        refine KA.region rfl ?_
        refine KOps.lss ?_
        refine KOps.done ?_
        refine sqQ.normal ?_
        refine KA.seq ?_
        refine KA.condD ?_ ?_
        · intro c49
          refine KA.skip ?_
          refine sqQ.normal ?_
          refine KA.sub (Sub.cons (t := 0) Look.eq (Sub.cons (t := 1) Look.eq (Sub.cons (t := 4) Look.eq (Sub.cons (t := 7) Look.eq (Sub.cons (t := 8) Look.eq (Sub.cons (t := 46) Look.eq (Sub.cons (t := 47) Look.eq (Sub.cons (t := 48) Look.eq (Sub.nil _))))))))) ?_
          refine KA.seq ?_
          refine KA.block ?_
          refine KA.seq ?_
          refine KA.region rfl ?_
          refine KOps.indexVJ (hw _ _ (St.g1 (matObjs true vn ns (T.take j)) H hS)).1 (j := j) rfl (by first | omega | (simp; omega)) ?_
          intro p50 hp50
          refine KOps.loadV hp50 (hw _ _ (St.g1 (matObjs true vn ns (T.take j)) H hS)).1 (by first | omega | (simp; omega)) ?_
          refine KOps.assign ?_
          refine KOps.done ?_
          refine sqQ.normal ?_
          refine KA.sub (Sub.cons (t := 0) Look.eq (Sub.cons (t := 1) Look.eq (Sub.cons (t := 4) Look.eq (Sub.cons (t := 7) Look.eq (Sub.cons (t := 8) Look.eq (Sub.cons (t := 10) Look.eq (Sub.cons (t := 46) Look.eq (Sub.cons (t := 47) Look.eq (Sub.cons (t := 48) Look.eq (Sub.nil _)))))))))) ?_
          refine KA.region rfl ?_
          refine KOps.move ?_
          refine KOps.buildSlice hS rfl (by decide) rfl ?_
          intro v53 h' hS
          refine KOps.move ?_
          refine KOps.appendAll hS (fun _ => rfl) (i := 0) (p := []) rfl ((hw _ _ (St.g2 (matObjs true vn ns (T.take j)) H hS)).2 j (by omega)) (by have := hTr j; rw [List.length_nil]; omega) ?_
          intro r55 h6 hr55 hS
          simp only [List.set_cons_zero, List.nil_append] at hS
          refine KOps.buildSlice hS rfl (by decide) (by simpa using hr55) ?_
          intro v56 h' hS
          refine KOps.appendRow (pre := [_, _, _, _]) hS (by first | assumption | omega | (simp only [List.length_set, List.length_append, List.length_singleton, List.length_replicate, List.length_take]; omega)) (by first | omega | (simp; omega)) ?_
          intro r57 h' hr57 hS
          refine KOps.assign ?_
          refine KOps.done ?_
          refine blQ.normal ?_
          refine sqQ.normal ?_
          refine KA.sub (Sub.cons (t := 0) Look.eq (Sub.cons (t := 1) Look.eq (Sub.cons (t := 4) Look.eq (Sub.cons (t := 7) Look.eq (Sub.cons (t := 8) Look.eq (Sub.cons (t := 46) Look.eq (Sub.cons (t := 47) Look.eq (Sub.cons (t := 48) Look.eq (Sub.nil _))))))))) ?_
          refine KA.region rfl ?_
          refine KOps.add (by first | omega | (simp only [List.length_append, List.length_singleton, List.length_set]; omega)) (by first | omega | (simp only [List.length_append, List.length_singleton, List.length_set]; omega)) ?_
          refine KOps.move ?_
          refine KOps.done ?_
          rw [← takeR_snoc (by omega)] at hS
          exact lpQ.normal (j + 1, r57, ns ++ [r55]) (by repeat (first | exact Sub.nil _ | refine Sub.cons Look.eq ?_ | refine Sub.cons (Eq.trans Look.eq (congrArg (AV.int _) (by first | omega | (dsimp only; omega)))) ?_)) ⟨by dsimp only; omega, by simp [hnl], hS⟩ (by dsimp only; omega)
        · intro c49
          have hjT : j = T.length := by omega
          have htj : T.take j = T := by rw [hjT, List.take_length]
          refine KA.exit ?_
          refine sqQ.exit ?_
          refine lpQ.exit ?_
          refine blQ.here ?_
          refine sqQ.normal ?_
          refine KA.sub (Sub.cons (t := 0) Look.eq (Sub.cons (t := 1) Look.eq (Sub.cons (t := 4) Look.eq (Sub.cons (t := 7) Look.eq (Sub.cons (t := 8) Look.eq (Sub.nil _)))))) ?_
          refine KA.meet (X := AV × List AV) (fun N_ => [(0, t), (1, .int .i64 x), (4, p4), (7, .int .i64 (i : Int)), (8, N_.1)]) (fun N_ h' => N_.2.length = (roomy T i).length ∧ St h0 h' (⟨p3, 0, [wo], true⟩ :: ⟨p2, 0, [.int .i64 n], true⟩ :: ⟨p4, 0, [.fn 85 [p2, p3, p4]], true⟩ :: ⟨wo, 1, zs, true⟩ :: (matObjs true N_.1 N_.2 (roomy T i) ++ (H ++ G)))) ?_ ?_
          ·
            refine KA.seq ?_
            refine KA.region rfl ?_
            refine KOps.move ?_
            refine KOps.move ?_
            refine KOps.lenV (hw _ _ (St.g1 (matObjs true vn ns (T.take j)) H hS)).1 ?_
            refine KOps.eql ?_
            refine KOps.done ?_
            refine sqQ.normal ?_
            refine KA.sub (Sub.cons (t := 0) Look.eq (Sub.cons (t := 1) Look.eq (Sub.cons (t := 4) Look.eq (Sub.cons (t := 7) Look.eq (Sub.cons (t := 8) Look.eq (Sub.cons (t := 62) Look.eq (Sub.nil _))))))) ?_
            refine KA.condD ?_ ?_
            · intro c62
              refine KA.region rfl ?_
              refine KOps.move ?_
              refine KOps.buildSlice hS rfl (by decide) rfl ?_
              intro v64 h' hS
              refine KOps.appendNil (pre := [_, _, _, _]) hS (by first | assumption | omega | (simp only [List.length_set, List.length_append, List.length_singleton, List.length_replicate, List.length_take]; omega)) (by first | omega | (simp; omega)) ?_
              intro r65 h' hr65 hS
              refine KOps.assign ?_
              refine KOps.done ?_
              have hiT : i = T.length := by omega
              rw [htj] at hS
              exact mtQ.normal (r65, ns ++ [.nils]) (by repeat (first | exact Sub.nil _ | refine Sub.cons Look.eq ?_ | refine Sub.cons (Eq.trans Look.eq (congrArg (AV.int _) (by first | omega | (dsimp only; omega)))) ?_)) ⟨by rw [roomy_yes hiT]; simp [hnl, hjT], by rw [roomy_yes hiT]; exact hS⟩
            · intro c62
              refine KA.skip ?_
              have hiT : ¬ i = T.length := by omega
              rw [htj] at hS
              exact mtQ.normal (vn, ns) (by repeat (first | exact Sub.nil _ | refine Sub.cons Look.eq ?_ | refine Sub.cons (Eq.trans Look.eq (congrArg (AV.int _) (by first | omega | (dsimp only; omega)))) ?_)) ⟨by show ns.length = _; rw [roomy_no hiT]; omega, by rw [roomy_no hiT]; exact hS⟩
          ·
            rintro N2 h6 ⟨hnl, hS⟩
            have hrg := roomy_getD T i i
            have hrl := roomy_lt (ps := T) (k := i) (by omega)
            have hTi := hTr i
            refine KA.seq ?_
            refine KA.region rfl ?_
            refine KOps.move ?_
            refine KOps.move ?_
            refine KOps.move ?_
            refine KOps.move ?_
            refine KOps.indexVJ (St.outer (pre := [_, _, _, _]) hS) (j := i) rfl (by first | omega | (simp; omega)) ?_
            intro p70 hp70
            refine KOps.loadV hp70 (St.outer (pre := [_, _, _, _]) hS) (by first | omega | (simp; omega)) ?_
            refine KOps.move ?_
            refine KOps.buildSlice hS rfl (by decide) rfl ?_
            intro v73 h' hS
            refine KOps.appendAt (j := i) (pre := [_, _, _, _]) hS (fun _ => rfl) (by first | assumption | omega | (simp only [List.length_set, List.length_append, List.length_singleton, List.length_replicate, List.length_take]; omega)) (by first | omega | (simp; omega)) (by rw [hrg]; omega) ?_
            intro r74 h' hr74 hS
            refine KOps.indexVJ (St.hole (pre := [_, _, _, _]) hS) (j := i) rfl (by first | omega | (simp; omega)) ?_
            intro p75 hp75
            refine KOps.storeAt (pre := [_, _, _, _]) hS rfl hp75 (by assumption) (by first | omega | (simp; omega)) rfl ?_
            intro h' hS
            refine KOps.done ?_
            refine sqQ.normal ?_
            refine KA.sub (Sub.cons (t := 0) Look.eq (Sub.cons (t := 1) Look.eq (Sub.cons (t := 4) Look.eq (Sub.cons (t := 7) Look.eq (Sub.cons (t := 8) Look.eq (Sub.nil _)))))) ?_
            refine KA.region rfl ?_
            refine KOps.loadBox hS (i := 2) rfl hp4 ?_
            refine KOps.move ?_
            refine KOps.move ?_
            refine KOps.add (by first | omega | (simp only [List.length_append, List.length_singleton, List.length_set]; omega)) (by first | omega | (simp only [List.length_append, List.length_singleton, List.length_set]; omega)) ?_
            refine KOps.call rfl (ih e (by omega) (vo := wo) (vs := zs) (T := addAt T i x) (L := L ++ stdO e x T i) (G := matObjs true N2.1 (N2.2.set i r74) (addAt T i x) ++ (H ++ G)) (by omega) (by omega) (by have := addAt_length T i x; omega) (addAt_row hTr) (by have hps := stdO_succ e x T i; rw [if_neg hnf] at hps; have hpm := stdO_mono e x T (show i + 1 ≤ T.length + 1 by omega); rw [hps, List.length_append] at hpm; rw [List.length_append]; omega) (Reads.own (by unfold addAt; rw [List.length_set, List.length_set]; exact hnl)) (hL5.more _) hS) ?_
            rintro _ h7 ⟨wo7, ws7, G7, hL7, hS7⟩
            refine KOps.done ?_
            refine blQ.normal ?_
            refine sqQ.normal ?_
            refine KA.sub (Sub.cons (t := 0) Look.eq (Sub.cons (t := 1) Look.eq (Sub.cons (t := 4) Look.eq (Sub.cons (t := 7) Look.eq (Sub.nil _))))) ?_
            refine KA.region rfl ?_
            refine KOps.move ?_
            refine KOps.add (by first | omega | (simp only [List.length_append, List.length_singleton, List.length_set]; omega)) (by first | omega | (simp only [List.length_append, List.length_singleton, List.length_set]; omega)) ?_
            refine KOps.assign ?_
            refine KOps.done ?_
            have hps := stdO_succ e x T i
            rw [if_neg hnf] at hps
            refine lpQ.normal (i + 1, wo7, ws7, G7 ++ (matObjs true N2.1 (N2.2.set i r74) (addAt T i x) ++ H)) (by repeat (first | exact Sub.nil _ | refine Sub.cons Look.eq ?_ | refine Sub.cons (Eq.trans Look.eq (congrArg (AV.int _) (by first | omega | (dsimp only; omega)))) ?_)) ⟨by dsimp only; omega, ?_, ?_⟩ (by dsimp only; omega)
            · simpa only [hps, List.append_assoc] using hL7
            · simpa only [List.append_assoc] using hS7
    · intro c21
      refine KA.exit ?_
      refine sqQ.exit ?_
      refine lpQ.exit ?_
      refine blQ.here ?_
      refine fnQ.norm0 ?_
      have hin : i = T.length + 1 := by omega
      subst hin
      exact ⟨wo, zs, H, hL5, hS⟩

theorem standardL_c {h : AHeap} {n : Int} (h0 : 0 ≤ n) (hn : n ≤ 100) (hsz : (stdAll n.toNat).length ≤ 4294967295) : ACalls Go.Proofs.Try.prog 47 [.int .i64 n] h (fun r h' => Keeps h h' ∧ Mats h' r (stdAll n.toNat)) := by
  refine KA.fn 9 [.tmp 2] Go.Proofs.Try.func47 rfl (by decide) rfl rfl (Nat.le_of_ble_eq_true rfl) ?_
  have hS := St.refl h
  show KA _ 9 _ _ [(0, .int .i64 n)] _
  refine KA.seq ?_
  refine KA.region rfl ?_
  refine KOps.box hS (l := [.int .i64 n]) rfl ?_
  intro p1 h1 hp1 hS
  refine KOps.assign ?_
  refine KOps.done ?_
  refine sqQ.normal ?_
  refine KA.sub (Sub.cons (t := 1) Look.eq (Sub.nil _)) ?_
  refine KA.seq ?_
  refine KA.region rfl ?_
  refine KOps.alloc hS ?_
  intro p2 h2 hp2 hS
  refine KOps.done ?_
  refine sqQ.normal ?_
  refine KA.seq ?_
  refine KA.region rfl ?_
  refine KOps.alloc hS ?_
  intro p3 h3 hp3 hS
  refine KOps.done ?_
  refine sqQ.normal ?_
  refine KA.seq ?_
  refine KA.region rfl ?_
  refine KOps.makeFunc ?_
  refine KOps.storeBox hS rfl (i := 0) rfl hp3 (by first | rfl | assumption) ?_
  intro h' hS
  simp only [List.set_cons_zero] at hS
  refine KOps.done ?_
  refine sqQ.normal ?_
  refine KA.sub (Sub.cons (t := 3) Look.eq (Sub.cons (t := 4) Look.eq (Sub.nil _))) ?_
  refine KA.seq ?_
  refine KA.region rfl ?_
  refine KOps.loadBox hS (i := 0) rfl hp3 ?_
  refine KOps.call rfl (standard1_c hp1 hp2 hp3 hn n.toNat (vo := .nils) (vs := []) (T := []) (L := []) (G := []) (by omega) (by omega) (by simp) (by intro j; simp) (by simpa [stdAll] using hsz) Reads.nil ⟨rfl, fun i hi => absurd hi (Nat.not_lt_zero _)⟩ (St.pick [1, 2, 0, 3] (by decide) rfl (St.addNil 1 true hS))) ?_
  rintro _ h5 ⟨vo, vs, G, hL, hS⟩
  rw [List.nil_append, List.append_nil] at hL
  rw [List.append_nil] at hS
  refine KOps.done ?_
  refine sqQ.normal ?_
  refine KA.sub (Sub.cons (t := 3) Look.eq (Sub.nil _)) ?_
  refine KA.seq ?_
  refine KA.region rfl ?_
  refine KOps.loadBox hS (i := 0) rfl hp2 ?_
  refine KOps.assign ?_
  refine KOps.done ?_
  refine sqQ.normal ?_
  refine KA.sub (Sub.cons (t := 2) Look.eq (Sub.nil _)) ?_
  refine KA.ret ?_
  refine fnQ.ret1 ?_
  refine ⟨hS.keeps, vs, hS.rd 3 rfl, hL.1, fun i hi => (hL.2 i hi).mat (A := [_, _, _, _]) hS⟩

end Go.Am
