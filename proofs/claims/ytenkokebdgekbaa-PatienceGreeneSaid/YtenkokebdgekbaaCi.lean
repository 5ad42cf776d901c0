/-
  Contracts of layer 13: the two tables of a pack.
  Conditions: none.
-/
import Derived.Test.YtenkokebdgekbaaCf
import Derived.Test.YtenkokebdgekbaaAmE
import Derived.Test.YtenkokebdgekbaaPt6
namespace Go.Am
open Go.Gr

theorem put_c {h0 h : AHeap} {pb vo : AV} {vs : List AV} {T : List (List Int)} {rest : List Obj} {c : Int} (hp : AddrOf pb pb 0 0) (hS : St h0 h (⟨pb, 0, [vo], true⟩ :: (matObjs true vo vs T ++ rest))) (hl : vs.length = T.length) (ht : Go.Gr.Rows T) (hlen : T.length ≤ 9) (hrow : ∀ k, (T.getD k []).length ≤ 9) : ACalls Go.Proofs.Try.prog 76 [pb, .int .i64 c] h (fun r h' => ∃ vo' vs', r = .int .i64 (insRow T c : Nat) ∧ vs'.length = (ins T c).length ∧ St h0 h' (⟨pb, 0, [vo'], true⟩ :: (matObjs true vo' vs' (ins T c) ++ rest))) := by
  refine KA.fn 64 [.tmp 4] Go.Proofs.Try.func76 rfl (by decide) rfl rfl (Nat.le_of_ble_eq_true rfl) ?_
  show KA _ 64 _ _ [(0, pb), (1, .int .i64 c)] _
  refine KA.seq ?_
  refine KA.region rfl ?_
  refine KOps.assign ?_
  refine KOps.done ?_
  refine sqQ.normal ?_
  refine KA.sub (Sub.cons (t := 0) Look.eq (Sub.cons (t := 1) Look.eq (Sub.nil _))) ?_
  refine KA.seq ?_
  refine KA.seq ?_
  refine KA.region rfl ?_
  refine KOps.move ?_
  refine KOps.nilP hp ?_
  refine KOps.loadBox hS (i := 0) rfl hp ?_
  refine KOps.lenV (St.outer (pre := [_]) hS) ?_
  refine KOps.move ?_
  refine KOps.done ?_
  refine sqQ.normal ?_
  refine KA.sub (Sub.cons (t := 0) Look.eq (Sub.cons (t := 1) Look.eq (Sub.cons (t := 11) Look.eq (Sub.cons (t := 12) Look.eq (Sub.cons (t := 13) Look.eq (Sub.nil _)))))) ?_
  refine KA.block ?_
  refine KA.loop (X := Nat × List (List Int) × Int) (fun x => [(0, pb), (1, .int .i64 x.2.2), (11, vo), (12, .int .i64 (vs.length : Int)), (13, .int .i64 (x.1 : Int))]) (fun x h' => Way T c x.2.1 x.1 x.2.2 ∧ St h0 h' (⟨pb, 0, [vo], true⟩ :: (matObjs true vo vs x.2.1 ++ rest))) (fun x => T.length - x.1) (0, T, c) (by repeat (first | exact Sub.nil _ | refine Sub.cons Look.eq ?_ | refine Sub.cons (Eq.trans Look.eq (congrArg (AV.int _) (by first | omega | (dsimp only; omega)))) ?_)) ?_ ?_
  · exact ⟨Way.start T c, hS⟩
  rintro ⟨k, Tc, cc⟩ h1 ⟨w, hS⟩
  dsimp only at w hS ⊢
  have hlc := w.len
  have hkl := w.le
  have hrk : Rise (Tc.getD k []) := by rw [w.same k (Nat.le_refl _)]; exact rowT_rise ht k
  have hrl : (Tc.getD k []).length ≤ 9 := by rw [w.same k (Nat.le_refl _)]; exact hrow k
  refine KA.seq ?_
  refine KA.region rfl ?_
  refine KOps.lss ?_
  refine KOps.done ?_
  refine sqQ.normal ?_
  refine KA.seq ?_
  refine KA.condD ?_ ?_
  · intro c14
    refine KA.skip ?_
    refine sqQ.normal ?_
    refine KA.sub (Sub.cons (t := 0) Look.eq (Sub.cons (t := 1) Look.eq (Sub.cons (t := 11) Look.eq (Sub.cons (t := 12) Look.eq (Sub.cons (t := 13) Look.eq (Sub.nil _)))))) ?_
    refine KA.seq ?_
    refine KA.block ?_
    refine KA.seq ?_
    refine KA.region rfl ?_
    refine KOps.move ?_
    refine KOps.indexVJ (St.outer (pre := [_]) hS) (j := k) rfl (by first | omega | (simp; omega)) ?_
    intro p16 hp16
    refine KOps.loadV hp16 (St.outer (pre := [_]) hS) (by first | omega | (simp; omega)) ?_
    refine KOps.assign ?_
    refine KOps.assign ?_
    refine KOps.done ?_
    refine sqQ.normal ?_
    refine KA.sub (Sub.cons (t := 0) Look.eq (Sub.cons (t := 1) Look.eq (Sub.cons (t := 5) Look.eq (Sub.cons (t := 6) Look.eq (Sub.cons (t := 11) Look.eq (Sub.cons (t := 12) Look.eq (Sub.cons (t := 13) Look.eq (Sub.nil _)))))))) ?_
    refine KA.seq ?_
    refine KA.region rfl ?_
    refine KOps.move ?_
    refine KOps.move ?_
    refine KOps.call rfl (search_c (c := cc) (St.rowAt (pre := [_]) hS (by first | assumption | omega | (simp only [List.length_set, List.length_append, List.length_singleton, List.length_replicate]; omega)) (by first | omega | (simp; omega))) (by first | omega | (simp; omega)) (rise_mono hrk)) ?_
    rintro _ _ ⟨⟨b61, rfl⟩, rfl⟩
    have hpl := pos_le (Tc.getD k []) cc
    refine KOps.move ?_
    refine KOps.extract ?_
    refine KOps.extract ?_
    refine KOps.assign ?_
    refine KOps.assign ?_
    refine KOps.done ?_
    refine sqQ.normal ?_
    refine KA.sub (Sub.cons (t := 0) Look.eq (Sub.cons (t := 1) Look.eq (Sub.cons (t := 5) Look.eq (Sub.cons (t := 6) Look.eq (Sub.cons (t := 7) Look.eq (Sub.cons (t := 11) Look.eq (Sub.cons (t := 12) Look.eq (Sub.cons (t := 13) Look.eq (Sub.nil _))))))))) ?_
    refine KA.seq ?_
    refine KA.seq ?_
    refine KA.region rfl ?_
    refine KOps.move ?_
    refine KOps.move ?_
    refine KOps.lenI (St.rowAt (pre := [_]) hS (by first | assumption | omega | (simp only [List.length_set, List.length_append, List.length_singleton, List.length_replicate]; omega)) (by first | omega | (simp; omega))) ?_
    refine KOps.eql ?_
    refine KOps.done ?_
    refine sqQ.normal ?_
    refine KA.sub (Sub.cons (t := 0) Look.eq (Sub.cons (t := 1) Look.eq (Sub.cons (t := 5) Look.eq (Sub.cons (t := 6) Look.eq (Sub.cons (t := 7) Look.eq (Sub.cons (t := 11) Look.eq (Sub.cons (t := 12) Look.eq (Sub.cons (t := 13) Look.eq (Sub.cons (t := 27) Look.eq (Sub.nil _)))))))))) ?_
    refine KA.condD ?_ ?_
    · intro c27
      refine KA.seq ?_
      refine KA.draw [10] mixed rfl (by kernel_rfl) ?_
      refine KOps.move ?_
      refine KOps.nilP hp ?_
      refine KOps.loadBox hS (i := 0) rfl hp ?_
      refine KOps.move ?_
      refine KOps.move ?_
      refine KOps.move ?_
      refine KOps.move ?_
      refine KOps.cutAt (m := (pos (Tc.getD k []) cc)) (pre := [_]) hS (by first | assumption | omega | (simp only [List.length_set, List.length_append, List.length_singleton, List.length_replicate]; omega)) (by first | omega | (simp; omega)) (by first | omega | (simp only [List.length_append, List.length_singleton, List.length_set]; omega)) (by first | omega | (simp; omega)) ?_
      intro v35 hr35 hS
      refine KOps.move ?_
      refine KOps.buildSlice hS rfl (by decide) rfl ?_
      intro v37 h' hS
      refine KOps.appendHole (j := k) (pre := [_]) hS (by first | rfl | exact getDA_set (by omega)) (fun _ => rfl) (by first | assumption | omega | (simp only [List.length_set, List.length_append, List.length_singleton, List.length_replicate]; omega)) (by first | omega | (simp; omega)) (by rw [getDL_set (by omega), if_pos rfl, List.length_take]; omega) ?_
      intro r38 h' hr38 hS
      refine KOps.indexVJ (St.hole (pre := [_]) hS) (j := k) rfl (by first | omega | (simp; omega)) ?_
      intro p39 hp39
      refine KOps.storeAt (pre := [_]) hS rfl hp39 (by assumption) (by first | omega | (simp; omega)) (by rw [List.set_set]) ?_
      intro h' hS
      refine KOps.done ?_
      refine sqQ.normal ?_
      refine KA.sub (Sub.cons (t := 5) Look.eq (Sub.nil _)) ?_
      refine KA.seq ?_
      refine KA.region rfl ?_
      refine KOps.move ?_
      refine KOps.assign ?_
      refine KOps.done ?_
      refine sqQ.normal ?_
      refine KA.sub (Sub.cons (t := 4) Look.eq (Sub.nil _)) ?_
      refine KA.ret ?_
      refine sqQ.ret ?_
      refine blQ.ret ?_
      refine sqQ.ret ?_
      refine lpQ.ret ?_
      refine blQ.ret ?_
      refine sqQ.ret ?_
      refine fnQ.ret1 ?_
      obtain ⟨hw1, hw2⟩ := w.last (by omega) (by omega)
      refine ⟨vo, vs.set k r38, by rw [hw2], by rw [hw1]; simp only [List.length_set]; omega, ?_⟩
      rw [hw1]
      have e1 : (Tc.set k ((Tc.getD k []).take (pos (Tc.getD k []) cc))).set k ((Tc.set k ((Tc.getD k []).take (pos (Tc.getD k []) cc))).getD k [] ++ [cc]) = Tc.set k (Tc.getD k [] ++ [cc]) := by
        rw [getDL_set (by omega), if_pos rfl, List.set_set, List.take_of_length_le (by omega)]
      rw [e1, List.set_set] at hS
      exact hS
    · intro c27
      refine KA.skip ?_
      refine sqQ.normal ?_
      refine KA.sub (Sub.cons (t := 0) Look.eq (Sub.cons (t := 1) Look.eq (Sub.cons (t := 6) Look.eq (Sub.cons (t := 7) Look.eq (Sub.cons (t := 11) Look.eq (Sub.cons (t := 12) Look.eq (Sub.cons (t := 13) Look.eq (Sub.nil _)))))))) ?_
      refine KA.region rfl ?_
      refine KOps.move ?_
      refine KOps.move ?_
      refine KOps.move ?_
      refine KOps.move ?_
      refine KOps.move ?_
      refine KOps.indexIJ (St.rowAt (pre := [_]) hS (by first | assumption | omega | (simp only [List.length_set, List.length_append, List.length_singleton, List.length_replicate]; omega)) (by first | omega | (simp; omega))) (j := (pos (Tc.getD k []) cc)) (by first | omega | (simp only [List.length_append, List.length_singleton, List.length_set]; omega)) (by first | omega | (simp; omega)) ?_
      intro p46 hp46
      refine KOps.loadI hp46 (St.rowAt (pre := [_]) hS (by first | assumption | omega | (simp only [List.length_set, List.length_append, List.length_singleton, List.length_replicate]; omega)) (by first | omega | (simp; omega))) (by first | omega | (simp; omega)) ?_
      refine KOps.indexIJ (St.rowAt (pre := [_]) hS (by first | assumption | omega | (simp only [List.length_set, List.length_append, List.length_singleton, List.length_replicate]; omega)) (by first | omega | (simp; omega))) (j := (pos (Tc.getD k []) cc)) (by first | omega | (simp only [List.length_append, List.length_singleton, List.length_set]; omega)) (by first | omega | (simp; omega)) ?_
      intro p48 hp48
      refine KOps.setAt (pre := [_]) hS rfl (by first | assumption | omega | (simp only [List.length_set, List.length_append, List.length_singleton, List.length_replicate]; omega)) (by first | omega | (simp; omega)) hp48 (by first | omega | (simp; omega)) ?_
      intro h' hS
      refine KOps.assign ?_
      refine KOps.done ?_
      refine blQ.normal ?_
      refine sqQ.normal ?_
      refine KA.sub (Sub.cons (t := 0) Look.eq (Sub.cons (t := 1) Look.eq (Sub.cons (t := 11) Look.eq (Sub.cons (t := 12) Look.eq (Sub.cons (t := 13) Look.eq (Sub.nil _)))))) ?_
      refine KA.region rfl ?_
      refine KOps.add (by first | omega | (simp only [List.length_append, List.length_singleton, List.length_set]; omega)) (by first | omega | (simp only [List.length_append, List.length_singleton, List.length_set]; omega)) ?_
      refine KOps.move ?_
      refine KOps.done ?_
      exact lpQ.normal (k + 1, _, _) (by repeat (first | exact Sub.nil _ | refine Sub.cons Look.eq ?_ | refine Sub.cons (Eq.trans Look.eq (congrArg (AV.int _) (by first | omega | (dsimp only; omega)))) ?_)) ⟨w.next (by omega) (by omega), hS⟩ (by dsimp only; omega)
  · intro c14
    have hkk : k = T.length := by omega
    subst hkk
    obtain ⟨hw1, hw2⟩ := w.new
    refine KA.exit ?_
    refine sqQ.exit ?_
    refine lpQ.exit ?_
    refine blQ.here ?_
    refine sqQ.normal ?_
    refine KA.sub (Sub.cons (t := 0) Look.eq (Sub.cons (t := 1) Look.eq (Sub.nil _))) ?_
    refine KA.seq ?_
    refine KA.region rfl ?_
    refine KOps.move ?_
    refine KOps.move ?_
    refine KOps.nilP hp ?_
    refine KOps.loadBox hS (i := 0) rfl hp ?_
    refine KOps.move ?_
    refine KOps.buildSlice hS rfl (by decide) rfl ?_
    intro v55 h' hS
    have hone : v55.one = true := hS.one (k := 0) rfl
    refine KOps.buildSlice hS rfl (by decide) (by simp [hone]) ?_
    intro v56 h' hS
    refine KOps.appendRow (p := [cc]) (pre := [_]) hS (by first | assumption | omega | (simp only [List.length_set, List.length_append, List.length_singleton, List.length_replicate]; omega)) (by first | omega | (simp; omega)) ?_
    intro r57 h' hr57 hS
    refine KOps.nilP hp ?_
    refine KOps.storeBox hS rfl (i := 0) rfl hp (by first | rfl | assumption) ?_
    intro h' hS
    refine KOps.done ?_
    refine sqQ.normal ?_
    refine KA.sub (Sub.cons (t := 0) Look.eq (Sub.nil _)) ?_
    refine KA.seq ?_
    refine KA.region rfl ?_
    refine KOps.move ?_
    refine KOps.nilP hp ?_
    refine KOps.loadBox hS (i := 0) rfl hp ?_
    refine KOps.lenV (St.outer (pre := [_]) hS) ?_
    refine KOps.sub (by first | omega | (simp only [List.length_append, List.length_singleton, List.length_set]; omega)) (by first | omega | (simp only [List.length_append, List.length_singleton, List.length_set]; omega)) ?_
    refine KOps.assign ?_
    refine KOps.done ?_
    refine sqQ.normal ?_
    refine KA.sub (Sub.cons (t := 4) Look.eq (Sub.nil _)) ?_
    refine KA.ret ?_
    refine fnQ.ret1 ?_
    refine ⟨r57, vs ++ [v55], ?_, by rw [hw1]; simp only [List.length_append, List.length_singleton]; omega, ?_⟩
    · rw [hw2]; congr 1; simp only [List.length_append, List.length_singleton]; omega
    · rw [hw1]; exact hS

theorem tables_c {h : AHeap} {v : AV} {l : List Int} (hv : Row h v l) : ACalls Go.Proofs.Try.prog 32 [v] h (fun r h' => ∃ vo1 vs1 vo2 vs2, r = .tup [vo1, vo2, .int .i64 (checkE l)] ∧ vs1.length = (okE l [] (insAll l)).length ∧ vs2.length = (okE l [] (recOf l)).length ∧ St h h' (matObjs true vo1 vs1 (okE l [] (insAll l)) ++ (matObjs true vo2 vs2 (okE l [] (recOf l)) ++ []))) := by
  refine KA.fn 44 [.tmp 2, .tmp 3, .tmp 4] Go.Proofs.Try.func32 rfl (by decide) rfl rfl (Nat.le_of_ble_eq_true rfl) ?_
  have hS := St.refl h
  show KA _ 44 _ _ [(0, v)] _
  refine KA.seq ?_
  refine KA.region rfl ?_
  refine KOps.assign ?_
  refine KOps.assign ?_
  refine KOps.assign ?_
  refine KOps.done ?_
  refine sqQ.normal ?_
  refine KA.sub (Sub.cons (t := 0) Look.eq (Sub.cons (t := 3) Look.eq (Sub.nil _))) ?_
  refine KA.seq ?_
  refine KA.seq ?_
  refine KA.region rfl ?_
  refine KOps.move ?_
  refine KOps.call rfl (check_c (by first | assumption | exact Rd.ext hS.keeps (by assumption))) ?_
  rintro _ _ ⟨rfl, rfl⟩
  refine KOps.assign ?_
  refine KOps.done ?_
  refine sqQ.normal ?_
  refine KA.sub (Sub.cons (t := 0) Look.eq (Sub.cons (t := 3) Look.eq (Sub.cons (t := 5) Look.eq (Sub.nil _)))) ?_
  refine KA.seq ?_
  refine KA.region rfl ?_
  refine KOps.move ?_
  refine KOps.neq ?_
  refine KOps.done ?_
  refine sqQ.normal ?_
  refine KA.sub (Sub.cons (t := 0) Look.eq (Sub.cons (t := 3) Look.eq (Sub.cons (t := 5) Look.eq (Sub.cons (t := 13) Look.eq (Sub.nil _))))) ?_
  refine KA.condN ?_ ?_
  · intro c13
    refine KA.seq ?_
    refine KA.region rfl ?_
    refine KOps.move ?_
    refine KOps.assign ?_
    refine KOps.assign ?_
    refine KOps.assign ?_
    refine KOps.done ?_
    refine sqQ.normal ?_
    refine KA.sub (Sub.cons (t := 2) Look.eq (Sub.cons (t := 3) Look.eq (Sub.cons (t := 4) Look.eq (Sub.nil _)))) ?_
    refine KA.ret ?_
    refine sqQ.ret ?_
    refine fnQ.retN ?_
    refine ⟨.nils, [], .nils, [], rfl, by rw [okE_no c13]; rfl, by rw [okE_no c13]; rfl, ?_⟩
    rw [okE_no c13, okE_no c13]
    exact St.nilT (St.nilT (St.refl h) true) true
  · intro c13
    obtain ⟨hl0, hl9, hpk⟩ := checkE_ok c13
    refine KA.skip ?_
    refine sqQ.normal ?_
    refine KA.sub (Sub.cons (t := 0) Look.eq (Sub.cons (t := 3) Look.eq (Sub.nil _))) ?_
    refine KA.seq ?_
    refine KA.region rfl ?_
    refine KOps.alloc hS ?_
    intro pb h1 hp hS
    refine KOps.done ?_
    refine sqQ.normal ?_
    refine KA.seq ?_
    refine KA.seq ?_
    refine KA.region rfl ?_
    refine KOps.move ?_
    refine KOps.lenI (by first | assumption | exact Rd.ext hS.keeps (by assumption)) ?_
    refine KOps.move ?_
    refine KOps.done ?_
    refine sqQ.normal ?_
    refine KA.sub (Sub.cons (t := 3) Look.eq (Sub.cons (t := 6) Look.eq (Sub.cons (t := 15) Look.eq (Sub.cons (t := 16) Look.eq (Sub.cons (t := 17) Look.eq (Sub.nil _)))))) ?_
    refine KA.block ?_
    refine KA.loop (X := Nat × AV × List AV × AV × List AV) (fun x => [(3, x.2.2.2.1), (6, pb), (15, v), (16, .int .i64 (l.length : Int)), (17, .int .i64 (x.1 : Int))]) (fun x h' => x.1 ≤ l.length ∧ x.2.2.1.length = (insAll (l.take x.1)).length ∧ x.2.2.2.2.length = (recTo l x.1).length ∧ St h h' (⟨pb, 0, [x.2.1], true⟩ :: (matObjs true x.2.1 x.2.2.1 (insAll (l.take x.1)) ++ (matObjs true x.2.2.2.1 x.2.2.2.2 (recTo l x.1) ++ [])))) (fun x => l.length - x.1) (0, .nils, [], .nils, []) (by repeat (first | exact Sub.nil _ | refine Sub.cons Look.eq ?_ | refine Sub.cons (Eq.trans Look.eq (congrArg (AV.int _) (by first | omega | (dsimp only; omega)))) ?_)) ?_ ?_
    · refine ⟨Nat.zero_le _, rfl, rfl, ?_⟩
      have h2 := St.nilT (St.nilT hS true) true
      exact St.perm (by simp only [matObjs, rowObjs, insAll, recTo, List.cons_append, List.nil_append, List.take_zero, List.foldl_nil, List.zipWith_nil_left]; exact (List.perm_middle (a := (⟨pb, 0, [.nils], true⟩ : Obj)) (l₁ := [⟨.nils, 1, [], true⟩, ⟨.nils, 1, [], true⟩]) (l₂ := []))) h2
    rintro ⟨i, vo1, vs1, vo2, vs2⟩ h1 ⟨hi, hl1, hl2, hS⟩
    dsimp only at hi hl1 hl2 hS ⊢
    have hfa := insAll_facts hpk.1 (i := i) hi
    refine KA.seq ?_
    refine KA.region rfl ?_
    refine KOps.lss ?_
    refine KOps.done ?_
    refine sqQ.normal ?_
    refine KA.seq ?_
    refine KA.condD ?_ ?_
    · intro c18
      refine KA.skip ?_
      refine sqQ.normal ?_
      refine KA.sub (Sub.cons (t := 3) Look.eq (Sub.cons (t := 6) Look.eq (Sub.cons (t := 15) Look.eq (Sub.cons (t := 16) Look.eq (Sub.cons (t := 17) Look.eq (Sub.nil _)))))) ?_
      refine KA.seq ?_
      refine KA.block ?_
      refine KA.seq ?_
      refine KA.region rfl ?_
      refine KOps.move ?_
      refine KOps.indexIJ (by first | assumption | exact Rd.ext hS.keeps (by assumption)) (j := i) rfl (by first | omega | (simp; omega)) ?_
      intro p20 hp20
      refine KOps.loadI hp20 (by first | assumption | exact Rd.ext hS.keeps (by assumption)) (by first | omega | (simp; omega)) ?_
      refine KOps.assign ?_
      refine KOps.assign ?_
      refine KOps.done ?_
      refine sqQ.normal ?_
      refine KA.sub (Sub.cons (t := 3) Look.eq (Sub.cons (t := 6) Look.eq (Sub.cons (t := 7) Look.eq (Sub.cons (t := 8) Look.eq (Sub.cons (t := 15) Look.eq (Sub.cons (t := 16) Look.eq (Sub.cons (t := 17) Look.eq (Sub.nil _)))))))) ?_
      refine KA.seq ?_
      refine KA.region rfl ?_
      refine KOps.move ?_
      refine KOps.call rfl (put_c (c := l.getD i 0) hp hS hl1 hfa.1.rows (by omega) (fun k => by have := hfa.2.1 k; omega)) ?_
      rintro _ h2 ⟨wo1, ws1, rfl, hl3, hS⟩
      obtain ⟨hr1, hr2⟩ := shape_ins (insAll (l.take i)) (l.getD i 0)
      have hsl := shapes_len l (i := i) (by omega)
      have hsr := shapes_row l (i := i) (by omega) (insRow (insAll (l.take i)) (l.getD i 0))
      refine KOps.assign ?_
      refine KOps.done ?_
      refine sqQ.normal ?_
      refine KA.sub (Sub.cons (t := 3) Look.eq (Sub.cons (t := 6) Look.eq (Sub.cons (t := 7) Look.eq (Sub.cons (t := 9) Look.eq (Sub.cons (t := 15) Look.eq (Sub.cons (t := 16) Look.eq (Sub.cons (t := 17) Look.eq (Sub.nil _)))))))) ?_
      refine KA.meet (X := AV × List AV) (fun y => [(3, y.1), (6, pb), (7, .int .i64 (i : Int)), (9, .int .i64 ((insRow (insAll (l.take i)) (l.getD i 0)) : Nat)), (15, v), (16, .int .i64 (l.length : Int)), (17, .int .i64 (i : Int))]) (fun y h' => y.2.length = (roomy (recTo l i) (insRow (insAll (l.take i)) (l.getD i 0))).length ∧ St h h' (⟨pb, 0, [wo1], true⟩ :: (matObjs true wo1 ws1 (ins (insAll (l.take i)) (l.getD i 0)) ++ (matObjs true y.1 y.2 (roomy (recTo l i) (insRow (insAll (l.take i)) (l.getD i 0))) ++ [])))) ?_ ?_
      ·
        refine KA.seq ?_
        refine KA.region rfl ?_
        refine KOps.move ?_
        refine KOps.move ?_
        refine KOps.lenV (St.outer (pre := [_] ++ matObjs _ _ _ _) hS) ?_
        refine KOps.eql ?_
        refine KOps.done ?_
        refine sqQ.normal ?_
        refine KA.sub (Sub.cons (t := 3) Look.eq (Sub.cons (t := 6) Look.eq (Sub.cons (t := 7) Look.eq (Sub.cons (t := 9) Look.eq (Sub.cons (t := 15) Look.eq (Sub.cons (t := 16) Look.eq (Sub.cons (t := 17) Look.eq (Sub.cons (t := 27) Look.eq (Sub.nil _))))))))) ?_
        refine KA.condD ?_ ?_
        · intro c27
          refine KA.region rfl ?_
          refine KOps.move ?_
          refine KOps.buildSlice hS rfl (by decide) rfl ?_
          intro v29 h' hS
          refine KOps.appendNil (pre := [_] ++ matObjs _ _ _ _) hS (by first | assumption | omega | (simp only [List.length_set, List.length_append, List.length_singleton, List.length_replicate]; omega)) (by first | omega | (simp; omega)) ?_
          intro r30 h' hr30 hS
          refine KOps.assign ?_
          refine KOps.done ?_
          have hkq : (insRow (insAll (l.take i)) (l.getD i 0)) = (recTo l i).length := by omega
          refine mtQ.normal (r30, vs2 ++ [.nils]) (by repeat (first | exact Sub.nil _ | refine Sub.cons Look.eq ?_ | refine Sub.cons (Eq.trans Look.eq (congrArg (AV.int _) (by first | omega | (dsimp only; omega)))) ?_)) ⟨?_, ?_⟩
          · rw [roomy_yes hkq]; simp only [List.length_append, List.length_singleton]; omega
          · rw [roomy_yes hkq]; exact hS
        · intro c27
          refine KA.skip ?_
          have hkq : ¬ (insRow (insAll (l.take i)) (l.getD i 0)) = (recTo l i).length := by omega
          refine mtQ.normal (vo2, vs2) (by repeat (first | exact Sub.nil _ | refine Sub.cons Look.eq ?_ | refine Sub.cons (Eq.trans Look.eq (congrArg (AV.int _) (by first | omega | (dsimp only; omega)))) ?_)) ⟨?_, ?_⟩
          · rw [roomy_no hkq]; exact hl2
          · rw [roomy_no hkq]; exact hS
      ·
        rintro ⟨wo2, ws2⟩ h3 ⟨hl4, hS⟩
        dsimp only at hl4 hS ⊢
        have hk2 := roomy_lt (ps := (recTo l i)) (k := (insRow (insAll (l.take i)) (l.getD i 0))) (by omega)
        have hq4 := roomy_getD (recTo l i) (insRow (insAll (l.take i)) (l.getD i 0)) (insRow (insAll (l.take i)) (l.getD i 0))
        have hq5 := hfa.2.1 (insRow (insAll (l.take i)) (l.getD i 0))
        refine KA.region rfl ?_
        refine KOps.move ?_
        refine KOps.move ?_
        refine KOps.move ?_
        refine KOps.move ?_
        refine KOps.indexVJ (St.outer (pre := [_] ++ matObjs _ _ _ _) hS) (j := (insRow (insAll (l.take i)) (l.getD i 0))) rfl (by first | omega | (simp; omega)) ?_
        intro p35 hp35
        refine KOps.loadV hp35 (St.outer (pre := [_] ++ matObjs _ _ _ _) hS) (by first | omega | (simp; omega)) ?_
        refine KOps.move ?_
        refine KOps.buildSlice hS rfl (by decide) rfl ?_
        intro v38 h' hS
        refine KOps.appendAt (j := (insRow (insAll (l.take i)) (l.getD i 0))) (pre := [_] ++ matObjs _ _ _ _) hS (fun _ => rfl) (by first | assumption | omega | (simp only [List.length_set, List.length_append, List.length_singleton, List.length_replicate]; omega)) (by first | omega | (simp; omega)) (by rw [hq4]; omega) ?_
        intro r39 h' hr39 hS
        refine KOps.indexVJ (St.hole (pre := [_] ++ matObjs _ _ _ _) hS) (j := (insRow (insAll (l.take i)) (l.getD i 0))) rfl (by first | omega | (simp; omega)) ?_
        intro p40 hp40
        refine KOps.storeAt (pre := [_] ++ matObjs _ _ _ _) hS rfl hp40 (by assumption) (by first | omega | (simp; omega)) rfl ?_
        intro h' hS
        refine KOps.done ?_
        refine blQ.normal ?_
        refine sqQ.normal ?_
        refine KA.sub (Sub.cons (t := 3) Look.eq (Sub.cons (t := 6) Look.eq (Sub.cons (t := 15) Look.eq (Sub.cons (t := 16) Look.eq (Sub.cons (t := 17) Look.eq (Sub.nil _)))))) ?_
        refine KA.region rfl ?_
        refine KOps.add (by first | omega | (simp only [List.length_append, List.length_singleton, List.length_set]; omega)) (by first | omega | (simp only [List.length_append, List.length_singleton, List.length_set]; omega)) ?_
        refine KOps.move ?_
        refine KOps.done ?_
        refine lpQ.normal (i + 1, wo1, ws1, wo2, ws2.set (insRow (insAll (l.take i)) (l.getD i 0)) r39) (by repeat (first | exact Sub.nil _ | refine Sub.cons Look.eq ?_ | refine Sub.cons (Eq.trans Look.eq (congrArg (AV.int _) (by first | omega | (dsimp only; omega)))) ?_)) ⟨by dsimp only; omega, ?_, ?_, ?_⟩ (by dsimp only; omega)
        · dsimp only; rw [insAll_take (by omega)]; exact hl3
        · dsimp only; rw [recTo]; unfold recStep; simp only [List.length_set]; exact hl4
        · dsimp only; rw [insAll_take (by omega), recTo]; unfold recStep; exact hS
    · intro c18
      refine KA.exit ?_
      refine sqQ.exit ?_
      refine lpQ.exit ?_
      refine blQ.here ?_
      refine sqQ.normal ?_
      refine KA.sub (Sub.cons (t := 3) Look.eq (Sub.cons (t := 6) Look.eq (Sub.nil _))) ?_
      refine KA.seq ?_
      refine KA.region rfl ?_
      refine KOps.loadBox hS (i := 0) rfl hp ?_
      refine KOps.move ?_
      refine KOps.assign ?_
      refine KOps.assign ?_
      refine KOps.assign ?_
      refine KOps.done ?_
      refine sqQ.normal ?_
      refine KA.sub (Sub.cons (t := 2) Look.eq (Sub.cons (t := 3) Look.eq (Sub.cons (t := 4) Look.eq (Sub.nil _)))) ?_
      refine KA.ret ?_
      refine fnQ.retN ?_
      have hie : i = l.length := by omega
      subst hie
      rw [List.take_length] at hl1 hS
      refine ⟨vo1, vs1, vo2, vs2, by rw [c13], ?_, ?_, ?_⟩
      · rw [okE_yes c13]; exact hl1
      · rw [okE_yes c13]; exact hl2
      · rw [okE_yes c13, okE_yes c13]; exact St.tail hS

end Go.Am
