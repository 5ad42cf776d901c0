/-
  Contracts of layer 13: the two tables of a pack.
  Conditions: none.
-/
import Derived.Test.YtenkokebdgekbaaCf
import Derived.Test.YtenkokebdgekbaaAmE
import Derived.Test.YtenkokebdgekbaaPt6
namespace Go.Am
open Go.Gr
instance : ArT Go.Proofs.Try.prog 84 9 := ArT.of (by kernel_rfl)

theorem put_c {h0 h : AHeap} {pb vo : AV} {vs : List AV} {T : List (List Int)} {rest : List Obj} {c : Int} (hp : AddrOf pb pb 0 0) (hS : St h0 h (⟨pb, 0, [vo], true⟩ :: (matObjs true vo vs T ++ rest))) (hl : vs.length = T.length) (ht : Go.Gr.Rows T) (hlen : T.length ≤ 9) (hrow : ∀ k, (T.getD k []).length ≤ 9) : ACalls Go.Proofs.Try.prog 76 [pb, .int .i64 c] h (fun r h' => ∃ vo' vs', r = .int .i64 (insRow T c : Nat) ∧ vs'.length = (ins T c).length ∧ St h0 h' (⟨pb, 0, [vo'], true⟩ :: (matObjs true vo' vs' (ins T c) ++ rest))) := by
  refine KA.fn 64 [.tmp 4] Go.Proofs.Try.func76 rfl (by decide) rfl rfl (Nat.le_of_ble_eq_true rfl) ?_
  show KA _ 64 _ _ [(0, pb), (1, .int .i64 c)] _
  refine KA.seq ?_
  refine KA.region rfl ?_
  refine KOps.assign ?_
  refine KOps.done ?_
  refine sqQ.normal ?_
  refine KA.sub (Sub.cons (t := 0) Look.eq (Sub.cons (t := 1) Look.eq (Sub.nil _))) ?_
  refine KA.seq ?_
  refine KA.seq ?_
  refine KA.region rfl ?_
  refine KOps.move ?_
  refine KOps.nilP hp ?_
  refine KOps.loadBox hS (i := 0) rfl hp ?_
  refine KOps.lenV (St.outer (pre := [_]) hS) ?_
  refine KOps.move ?_
  refine KOps.done ?_
  refine sqQ.normal ?_
  refine KA.sub (Sub.cons (t := 0) Look.eq (Sub.cons (t := 1) Look.eq (Sub.cons (t := 11) Look.eq (Sub.cons (t := 12) Look.eq (Sub.cons (t := 13) Look.eq (Sub.nil _)))))) ?_
  refine KA.block ?_
  refine KA.loop (X := Nat × List (List Int) × Int) (fun x => [(0, pb), (1, .int .i64 x.2.2), (11, vo), (12, .int .i64 (vs.length : Int)), (13, .int .i64 (x.1 : Int))]) (fun x h' => Way T c x.2.1 x.1 x.2.2 ∧ St h0 h' (⟨pb, 0, [vo], true⟩ :: (matObjs true vo vs x.2.1 ++ rest))) (fun x => T.length - x.1) (0, T, c) (by repeat (first | exact Sub.nil _ | refine Sub.cons Look.eq ?_ | refine Sub.cons (Eq.trans Look.eq (congrArg (AV.int _) (by first | omega | (dsimp only; omega)))) ?_)) ?_ ?_
  · exact ⟨Way.start T c, hS⟩
  rintro ⟨k, Tc, cc⟩ h1 ⟨w, hS⟩
  dsimp only at w hS ⊢
  have hlc := w.len
  have hkl := w.le
  have hrk : Rise (Tc.getD k []) := by rw [w.same k (Nat.le_refl _)]; exact rowT_rise ht k
  have hrl : (Tc.getD k []).length ≤ 9 := by rw [w.same k (Nat.le_refl _)]; exact hrow k
  refine KA.seq ?_
  refine KA.region rfl ?_
  refine KOps.lss ?_
  refine KOps.done ?_
  refine sqQ.normal ?_
  refine KA.seq ?_
  refine KA.condD ?_ ?_
  · intro c14
    refine KA.skip ?_
    refine sqQ.normal ?_
    refine KA.sub (Sub.cons (t := 0) Look.eq (Sub.cons (t := 1) Look.eq (Sub.cons (t := 11) Look.eq (Sub.cons (t := 12) Look.eq (Sub.cons (t := 13) Look.eq (Sub.nil _)))))) ?_
    refine KA.seq ?_
    refine KA.block ?_
    refine KA.seq ?_
    refine KA.region rfl ?_
    refine KOps.move ?_
    refine KOps.indexVJ (St.outer (pre := [_]) hS) (j := k) rfl (by first | omega | (simp; omega)) ?_
    intro p16 hp16
    refine KOps.loadV hp16 (St.outer (pre := [_]) hS) (by first | omega | (simp; omega)) ?_
    refine KOps.assign ?_
    refine KOps.assign ?_
    refine KOps.done ?_
    refine sqQ.normal ?_
    refine KA.sub (Sub.cons (t := 0) Look.eq (Sub.cons (t := 1) Look.eq (Sub.cons (t := 5) Look.eq (Sub.cons (t := 6) Look.eq (Sub.cons (t := 11) Look.eq (Sub.cons (t := 12) Look.eq (Sub.cons (t := 13) Look.eq (Sub.nil _)))))))) ?_
    refine KA.seq ?_
    refine KA.region rfl ?_
    refine KOps.move ?_
    refine KOps.move ?_
    refine KOps.call rfl (search_c (c := cc) (St.rowAt (pre := [_]) hS (by first | assumption | omega | (simp only [List.length_set, List.length_append, List.length_singleton, List.length_replicate]; omega)) (by first | omega | (simp; omega))) (by first | omega | (simp; omega)) (rise_mono hrk)) ?_
    rintro _ _ ⟨⟨b61, rfl⟩, rfl⟩
    have hpl := pos_le (Tc.getD k []) cc
    refine KOps.move ?_
    refine KOps.extract ?_
    refine KOps.extract ?_
    refine KOps.assign ?_
    refine KOps.assign ?_
    refine KOps.done ?_
    refine sqQ.normal ?_
    refine KA.sub (Sub.cons (t := 0) Look.eq (Sub.cons (t := 1) Look.eq (Sub.cons (t := 5) Look.eq (Sub.cons (t := 6) Look.eq (Sub.cons (t := 7) Look.eq (Sub.cons (t := 11) Look.eq (Sub.cons (t := 12) Look.eq (Sub.cons (t := 13) Look.eq (Sub.nil _))))))))) ?_
    refine KA.seq ?_
    refine KA.seq ?_
    refine KA.region rfl ?_
    refine KOps.move ?_
    refine KOps.move ?_
    refine KOps.lenI (St.rowAt (pre := [_]) hS (by first | assumption | omega | (simp only [List.length_set, List.length_append, List.length_singleton, List.length_replicate]; omega)) (by first | omega | (simp; omega))) ?_
    refine KOps.eql ?_
    refine KOps.done ?_
    refine sqQ.normal ?_
    refine KA.sub (Sub.cons (t := 0) Look.eq (Sub.cons (t := 1) Look.eq (Sub.cons (t := 5) Look.eq (Sub.cons (t := 6) Look.eq (Sub.cons (t := 7) Look.eq (Sub.cons (t := 11) Look.eq (Sub.cons (t := 12) Look.eq (Sub.cons (t := 13) Look.eq (Sub.cons (t := 27) Look.eq (Sub.nil _)))))))))) ?_
    refine KA.condD ?_ ?_
    · intro c27
      refine KA.seq ?_
      refine KA.draw [10] mixed rfl (by kernel_rfl) ?_
      refine KOps.move ?_
      refine KOps.nilP hp ?_
      refine KOps.loadBox hS (i := 0) rfl hp ?_
      refine KOps.move ?_
      refine KOps.move ?_
      refine KOps.move ?_
      refine KOps.move ?_
      refine KOps.cutAt (m := (pos (Tc.getD k []) cc)) (pre := [_]) hS (by first | assumption | omega | (simp only [List.length_set, List.length_append, List.length_singleton, List.length_replicate]; omega)) (by first | omega | (simp; omega)) (by first | omega | (simp only [List.length_append, List.length_singleton, List.length_set]; omega)) (by first | omega | (simp; omega)) ?_
      intro v35 hr35 hS
      refine KOps.move ?_
      refine KOps.buildSlice hS rfl (by decide) rfl ?_
      intro v37 h' hS
      refine KOps.appendHole (j := k) (pre := [_]) hS (by first | rfl | exact getDA_set (by omega)) (fun _ => rfl) (by first | assumption | omega | (simp only [List.length_set, List.length_append, List.length_singleton, List.length_replicate]; omega)) (by first | omega | (simp; omega)) (by rw [getDL_set (by omega), if_pos rfl, List.length_take]; omega) ?_
      intro r38 h' hr38 hS
      refine KOps.indexVJ (St.hole (pre := [_]) hS) (j := k) rfl (by first | omega | (simp; omega)) ?_
      intro p39 hp39
      refine KOps.storeAt (pre := [_]) hS rfl hp39 (by assumption) (by first | omega | (simp; omega)) (by rw [List.set_set]) ?_
      intro h' hS
      refine KOps.done ?_
      refine sqQ.normal ?_
      refine KA.sub (Sub.cons (t := 5) Look.eq (Sub.nil _)) ?_
      refine KA.seq ?_
      refine KA.region rfl ?_
      refine KOps.move ?_
      refine KOps.assign ?_
      refine KOps.done ?_
      refine sqQ.normal ?_
      refine KA.sub (Sub.cons (t := 4) Look.eq (Sub.nil _)) ?_
      refine KA.ret ?_
      refine sqQ.ret ?_
      refine blQ.ret ?_
      refine sqQ.ret ?_
      refine lpQ.ret ?_
      refine blQ.ret ?_
      refine sqQ.ret ?_
      refine fnQ.ret1 ?_
      obtain ⟨hw1, hw2⟩ := w.last (by omega) (by omega)
      refine ⟨vo, vs.set k r38, by rw [hw2], by rw [hw1]; simp only [List.length_set]; omega, ?_⟩
      rw [hw1]
      have e1 : (Tc.set k ((Tc.getD k []).take (pos (Tc.getD k []) cc))).set k ((Tc.set k ((Tc.getD k []).take (pos (Tc.getD k []) cc))).getD k [] ++ [cc]) = Tc.set k (Tc.getD k [] ++ [cc]) := by
        rw [getDL_set (by omega), if_pos rfl, List.set_set, List.take_of_length_le (by omega)]
      rw [e1, List.set_set] at hS
      exact hS
    · intro c27
      refine KA.skip ?_
      refine sqQ.normal ?_
      refine KA.sub (Sub.cons (t := 0) Look.eq (Sub.cons (t := 1) Look.eq (Sub.cons (t := 6) Look.eq (Sub.cons (t := 7) Look.eq (Sub.cons (t := 11) Look.eq (Sub.cons (t := 12) Look.eq (Sub.cons (t := 13) Look.eq (Sub.nil _)))))))) ?_
      refine KA.region rfl ?_
      refine KOps.move ?_
      refine KOps.move ?_
      refine KOps.move ?_
      refine KOps.move ?_
      refine KOps.move ?_
      refine KOps.indexIJ (St.rowAt (pre := [_]) hS (by first | assumption | omega | (simp only [List.length_set, List.length_append, List.length_singleton, List.length_replicate]; omega)) (by first | omega | (simp; omega))) (j := (pos (Tc.getD k []) cc)) (by first | omega | (simp only [List.length_append, List.length_singleton, List.length_set]; omega)) (by first | omega | (simp; omega)) ?_
      intro p46 hp46
      refine KOps.loadI hp46 (St.rowAt (pre := [_]) hS (by first | assumption | omega | (simp only [List.length_set, List.length_append, List.length_singleton, List.length_replicate]; omega)) (by first | omega | (simp; omega))) (by first | omega | (simp; omega)) ?_
      refine KOps.indexIJ (St.rowAt (pre := [_]) hS (by first | assumption | omega | (simp only [List.length_set, List.length_append, List.length_singleton, List.length_replicate]; omega)) (by first | omega | (simp; omega))) (j := (pos (Tc.getD k []) cc)) (by first | omega | (simp only [List.length_append, List.length_singleton, List.length_set]; omega)) (by first | omega | (simp; omega)) ?_
      intro p48 hp48
      refine KOps.setAt (pre := [_]) hS rfl (by first | assumption | omega | (simp only [List.length_set, List.length_append, List.length_singleton, List.length_replicate]; omega)) (by first | omega | (simp; omega)) hp48 (by first | omega | (simp; omega)) ?_
      intro h' hS
      refine KOps.assign ?_
      refine KOps.done ?_
      refine blQ.normal ?_
      refine sqQ.normal ?_
      refine KA.sub (Sub.cons (t := 0) Look.eq (Sub.cons (t := 1) Look.eq (Sub.cons (t := 11) Look.eq (Sub.cons (t := 12) Look.eq (Sub.cons (t := 13) Look.eq (Sub.nil _)))))) ?_
      refine KA.region rfl ?_
      refine KOps.add (by first | omega | (simp only [List.length_append, List.length_singleton, List.length_set]; omega)) (by first | omega | (simp only [List.length_append, List.length_singleton, List.length_set]; omega)) ?_
      refine KOps.move ?_
      refine KOps.done ?_
      exact lpQ.normal (k + 1, _, _) (by repeat (first | exact Sub.nil _ | refine Sub.cons Look.eq ?_ | refine Sub.cons (Eq.trans Look.eq (congrArg (AV.int _) (by first | omega | (dsimp only; omega)))) ?_)) ⟨w.next (by omega) (by omega), hS⟩ (by dsimp only; omega)
  · intro c14
    have hkk : k = T.length := by omega
    subst hkk
    obtain ⟨hw1, hw2⟩ := w.new
    refine KA.exit ?_
    refine sqQ.exit ?_
    refine lpQ.exit ?_
    refine blQ.here ?_
    refine sqQ.normal ?_
    refine KA.sub (Sub.cons (t := 0) Look.eq (Sub.cons (t := 1) Look.eq (Sub.nil _))) ?_
    refine KA.seq ?_
    refine KA.region rfl ?_
    refine KOps.move ?_
    refine KOps.move ?_
    refine KOps.nilP hp ?_
    refine KOps.loadBox hS (i := 0) rfl hp ?_
    refine KOps.move ?_
    refine KOps.buildSlice hS rfl (by decide) rfl ?_
    intro v55 h' hS
    have hone : v55.one = true := hS.one (k := 0) rfl
    refine KOps.buildSlice hS rfl (by decide) (by simp [hone]) ?_
    intro v56 h' hS
    refine KOps.appendRow (p := [cc]) (pre := [_]) hS (by first | assumption | omega | (simp only [List.length_set, List.length_append, List.length_singleton, List.length_replicate]; omega)) (by first | omega | (simp; omega)) ?_
    intro r57 h' hr57 hS
    refine KOps.nilP hp ?_
    refine KOps.storeBox hS rfl (i := 0) rfl hp (by first | rfl | assumption) ?_
    intro h' hS
    refine KOps.done ?_
    refine sqQ.normal ?_
    refine KA.sub (Sub.cons (t := 0) Look.eq (Sub.nil _)) ?_
    refine KA.seq ?_
    refine KA.region rfl ?_
    refine KOps.move ?_
    refine KOps.nilP hp ?_
    refine KOps.loadBox hS (i := 0) rfl hp ?_
    refine KOps.lenV (St.outer (pre := [_]) hS) ?_
    refine KOps.sub (by first | omega | (simp only [List.length_append, List.length_singleton, List.length_set]; omega)) (by first | omega | (simp only [List.length_append, List.length_singleton, List.length_set]; omega)) ?_
    refine KOps.assign ?_
    refine KOps.done ?_
    refine sqQ.normal ?_
    refine KA.sub (Sub.cons (t := 4) Look.eq (Sub.nil _)) ?_
    refine KA.ret ?_
    refine fnQ.ret1 ?_
    refine ⟨r57, vs ++ [v55], ?_, by rw [hw1]; simp only [List.length_append, List.length_singleton]; omega, ?_⟩
    · rw [hw2]; congr 1; simp only [List.length_append, List.length_singleton]; omega
    · rw [hw1]; exact hS

theorem tables_c {h : AHeap} {v : AV} {l : List Int} (hv : Row h v l) : ACalls Go.Proofs.Try.prog 32 [v] h (fun r h' => ∃ vo1 vs1 vo2 vs2, r = .tup [vo1, vo2, .int .i64 (checkE l)] ∧ vs1.length = (okE l [] (insAll l)).length ∧ vs2.length = (okE l [] (recOf l)).length ∧ St h h' (matObjs true vo1 vs1 (okE l [] (insAll l)) ++ (matObjs true vo2 vs2 (okE l [] (recOf l)) ++ []))) := by
  refine KA.fn 44 [.tmp 2, .tmp 3, .tmp 4] Go.Proofs.Try.func32 rfl (by decide) rfl rfl (Nat.le_of_ble_eq_true rfl) ?_
  have hS := St.refl h
  show KA _ 44 _ _ [(0, v)] _
  refine KA.seq ?_
  refine KA.region rfl ?_
  refine KOps.assign ?_
  refine KOps.assign ?_
  refine KOps.assign ?_
  refine KOps.done ?_
  refine sqQ.normal ?_
  refine KA.sub (Sub.cons (t := 0) Look.eq (Sub.cons (t := 3) Look.eq (Sub.nil _))) ?_
  refine KA.seq ?_
  refine KA.seq ?_
  refine KA.region rfl ?_
  refine KOps.move ?_
  refine KOps.call rfl (check_c (by first | assumption | exact Rd.ext hS.keeps (by assumption))) ?_
  rintro _ _ ⟨rfl, rfl⟩
  refine KOps.assign ?_
  refine KOps.done ?_
  refine sqQ.normal ?_
  refine KA.sub (Sub.cons (t := 0) Look.eq (Sub.cons (t := 3) Look.eq (Sub.cons (t := 5) Look.eq (Sub.nil _)))) ?_
  refine KA.seq ?_
  refine KA.region rfl ?_
  refine KOps.move ?_
  refine KOps.neq ?_
  refine KOps.done ?_
  refine sqQ.normal ?_
  refine KA.sub (Sub.cons (t := 0) Look.eq (Sub.cons (t := 3) Look.eq (Sub.cons (t := 5) Look.eq (Sub.cons (t := 13) Look.eq (Sub.nil _))))) ?_
  refine KA.condN ?_ ?_
  · intro c13
    refine KA.seq ?_
    refine KA.region rfl ?_
    refine KOps.move ?_
    refine KOps.assign ?_
    refine KOps.assign ?_
    refine KOps.assign ?_
    refine KOps.done ?_
    refine sqQ.normal ?_
    refine KA.sub (Sub.cons (t := 2) Look.eq (Sub.cons (t := 3) Look.eq (Sub.cons (t := 4) Look.eq (Sub.nil _)))) ?_
    refine KA.ret ?_
    refine sqQ.ret ?_
    refine fnQ.retN ?_
    refine ⟨.nils, [], .nils, [], rfl, by rw [okE_no c13]; rfl, by rw [okE_no c13]; rfl, ?_⟩
    rw [okE_no c13, okE_no c13]
    exact St.nilT (St.nilT (St.refl h) true) true
  · intro c13
    obtain ⟨hl0, hl9, hpk⟩ := checkE_ok c13
    refine KA.skip ?_
    refine sqQ.normal ?_
    refine KA.sub (Sub.cons (t := 0) Look.eq (Sub.cons (t := 3) Look.eq (Sub.nil _))) ?_
    refine KA.seq ?_
    refine KA.region rfl ?_
    refine KOps.alloc hS ?_
    intro pb h1 hp hS
    refine KOps.done ?_
    refine sqQ.normal ?_
    refine KA.seq ?_
    refine KA.seq ?_
    refine KA.region rfl ?_
    refine KOps.move ?_
    refine KOps.lenI (by first | assumption | exact Rd.ext hS.keeps (by assumption)) ?_
    refine KOps.move ?_
    refine KOps.done ?_
    refine sqQ.normal ?_
    refine KA.sub (Sub.cons (t := 3) Look.eq (Sub.cons (t := 6) Look.eq (Sub.cons (t := 15) Look.eq (Sub.cons (t := 16) Look.eq (Sub.cons (t := 17) Look.eq (Sub.nil _)))))) ?_
    refine KA.block ?_
    refine KA.loop (X := Nat × AV × List AV × AV × List AV) (fun x => [(3, x.2.2.2.1), (6, pb), (15, v), (16, .int .i64 (l.length : Int)), (17, .int .i64 (x.1 : Int))]) (fun x h' => x.1 ≤ l.length ∧ x.2.2.1.length = (insAll (l.take x.1)).length ∧ x.2.2.2.2.length = (recTo l x.1).length ∧ St h h' (⟨pb, 0, [x.2.1], true⟩ :: (matObjs true x.2.1 x.2.2.1 (insAll (l.take x.1)) ++ (matObjs true x.2.2.2.1 x.2.2.2.2 (recTo l x.1) ++ [])))) (fun x => l.length - x.1) (0, .nils, [], .nils, []) (by repeat (first | exact Sub.nil _ | refine Sub.cons Look.eq ?_ | refine Sub.cons (Eq.trans Look.eq (congrArg (AV.int _) (by first | omega | (dsimp only; omega)))) ?_)) ?_ ?_
    · refine ⟨Nat.zero_le _, rfl, rfl, ?_⟩
      have h2 := St.nilT (St.nilT hS true) true
      exact St.perm (by simp only [matObjs, rowObjs, insAll, recTo, List.cons_append, List.nil_append, List.take_zero, List.foldl_nil, List.zipWith_nil_left]; exact (List.perm_middle (a := (⟨pb, 0, [.nils], true⟩ : Obj)) (l₁ := [⟨.nils, 1, [], true⟩, ⟨.nils, 1, [], true⟩]) (l₂ := []))) h2
    rintro ⟨i, vo1, vs1, vo2, vs2⟩ h1 ⟨hi, hl1, hl2, hS⟩
    dsimp only at hi hl1 hl2 hS ⊢
    have hfa := insAll_facts hpk.1 (i := i) hi
    refine KA.seq ?_
    refine KA.region rfl ?_
    refine KOps.lss ?_
    refine KOps.done ?_
    refine sqQ.normal ?_
    refine KA.seq ?_
    refine KA.condD ?_ ?_
    · intro c18
      refine KA.skip ?_
      refine sqQ.normal ?_
      refine KA.sub (Sub.cons (t := 3) Look.eq (Sub.cons (t := 6) Look.eq (Sub.cons (t := 15) Look.eq (Sub.cons (t := 16) Look.eq (Sub.cons (t := 17) Look.eq (Sub.nil _)))))) ?_
      refine KA.seq ?_
      refine KA.block ?_
      refine KA.seq ?_
      refine KA.region rfl ?_
      refine KOps.move ?_
      refine KOps.indexIJ (by first | assumption | exact Rd.ext hS.keeps (by assumption)) (j := i) rfl (by first | omega | (simp; omega)) ?_
      intro p20 hp20
      refine KOps.loadI hp20 (by first | assumption | exact Rd.ext hS.keeps (by assumption)) (by first | omega | (simp; omega)) ?_
      refine KOps.assign ?_
      refine KOps.assign ?_
      refine KOps.done ?_
      refine sqQ.normal ?_
      refine KA.sub (Sub.cons (t := 3) Look.eq (Sub.cons (t := 6) Look.eq (Sub.cons (t := 7) Look.eq (Sub.cons (t := 8) Look.eq (Sub.cons (t := 15) Look.eq (Sub.cons (t := 16) Look.eq (Sub.cons (t := 17) Look.eq (Sub.nil _)))))))) ?_
      refine KA.seq ?_
      refine KA.region rfl ?_
      refine KOps.move ?_
      refine KOps.call rfl (put_c (c := l.getD i 0) hp hS hl1 hfa.1.rows (by omega) (fun k => by have := hfa.2.1 k; omega)) ?_
      rintro _ h2 ⟨wo1, ws1, rfl, hl3, hS⟩
      obtain ⟨hr1, hr2⟩ := shape_ins (insAll (l.take i)) (l.getD i 0)
      have hsl := shapes_len l (i := i) (by omega)
      have hsr := shapes_row l (i := i) (by omega) (insRow (insAll (l.take i)) (l.getD i 0))
      refine KOps.assign ?_
      refine KOps.done ?_
      refine sqQ.normal ?_
      refine KA.sub (Sub.cons (t := 3) Look.eq (Sub.cons (t := 6) Look.eq (Sub.cons (t := 7) Look.eq (Sub.cons (t := 9) Look.eq (Sub.cons (t := 15) Look.eq (Sub.cons (t := 16) Look.eq (Sub.cons (t := 17) Look.eq (Sub.nil _)))))))) ?_
      refine KA.meet (X := AV × List AV) (fun y => [(3, y.1), (6, pb), (7, .int .i64 (i : Int)), (9, .int .i64 ((insRow (insAll (l.take i)) (l.getD i 0)) : Nat)), (15, v), (16, .int .i64 (l.length : Int)), (17, .int .i64 (i : Int))]) (fun y h' => y.2.length = (roomy (recTo l i) (insRow (insAll (l.take i)) (l.getD i 0))).length ∧ St h h' (⟨pb, 0, [wo1], true⟩ :: (matObjs true wo1 ws1 (ins (insAll (l.take i)) (l.getD i 0)) ++ (matObjs true y.1 y.2 (roomy (recTo l i) (insRow (insAll (l.take i)) (l.getD i 0))) ++ [])))) ?_ ?_
      ·
        refine KA.seq ?_
        refine KA.region rfl ?_
        refine KOps.move ?_
        refine KOps.move ?_
        refine KOps.lenV (St.outer (pre := [_] ++ matObjs _ _ _ _) hS) ?_
        refine KOps.eql ?_
        refine KOps.done ?_
        refine sqQ.normal ?_
        refine KA.sub (Sub.cons (t := 3) Look.eq (Sub.cons (t := 6) Look.eq (Sub.cons (t := 7) Look.eq (Sub.cons (t := 9) Look.eq (Sub.cons (t := 15) Look.eq (Sub.cons (t := 16) Look.eq (Sub.cons (t := 17) Look.eq (Sub.cons (t := 27) Look.eq (Sub.nil _))))))))) ?_
        refine KA.condD ?_ ?_
        · intro c27
          refine KA.region rfl ?_
          refine KOps.move ?_
          refine KOps.buildSlice hS rfl (by decide) rfl ?_
          intro v29 h' hS
          refine KOps.appendNil (pre := [_] ++ matObjs _ _ _ _) hS (by first | assumption | omega | (simp only [List.length_set, List.length_append, List.length_singleton, List.length_replicate]; omega)) (by first | omega | (simp; omega)) ?_
          intro r30 h' hr30 hS
          refine KOps.assign ?_
          refine KOps.done ?_
          have hkq : (insRow (insAll (l.take i)) (l.getD i 0)) = (recTo l i).length := by omega
          refine mtQ.normal (r30, vs2 ++ [.nils]) (by repeat (first | exact Sub.nil _ | refine Sub.cons Look.eq ?_ | refine Sub.cons (Eq.trans Look.eq (congrArg (AV.int _) (by first | omega | (dsimp only; omega)))) ?_)) ⟨?_, ?_⟩
          · rw [roomy_yes hkq]; simp only [List.length_append, List.length_singleton]; omega
          · rw [roomy_yes hkq]; exact hS
        · intro c27
          refine KA.skip ?_
          have hkq : ¬ (insRow (insAll (l.take i)) (l.getD i 0)) = (recTo l i).length := by omega
          refine mtQ.normal (vo2, vs2) (by repeat (first | exact Sub.nil _ | refine Sub.cons Look.eq ?_ | refine Sub.cons (Eq.trans Look.eq (congrArg (AV.int _) (by first | omega | (dsimp only; omega)))) ?_)) ⟨?_, ?_⟩
          · rw [roomy_no hkq]; exact hl2
          · rw [roomy_no hkq]; exact hS
      ·
        rintro ⟨wo2, ws2⟩ h3 ⟨hl4, hS⟩
        dsimp only at hl4 hS ⊢
        have hk2 := roomy_lt (ps := (recTo l i)) (k := (insRow (insAll (l.take i)) (l.getD i 0))) (by omega)
        have hq4 := roomy_getD (recTo l i) (insRow (insAll (l.take i)) (l.getD i 0)) (insRow (insAll (l.take i)) (l.getD i 0))
        have hq5 := hfa.2.1 (insRow (insAll (l.take i)) (l.getD i 0))
        refine KA.region rfl ?_
        refine KOps.move ?_
        refine KOps.move ?_
        refine KOps.move ?_
        refine KOps.move ?_
        refine KOps.indexVJ (St.outer (pre := [_] ++ matObjs _ _ _ _) hS) (j := (insRow (insAll (l.take i)) (l.getD i 0))) rfl (by first | omega | (simp; omega)) ?_
        intro p35 hp35
        refine KOps.loadV hp35 (St.outer (pre := [_] ++ matObjs _ _ _ _) hS) (by first | omega | (simp; omega)) ?_
        refine KOps.move ?_
        refine KOps.buildSlice hS rfl (by decide) rfl ?_
        intro v38 h' hS
        refine KOps.appendAt (j := (insRow (insAll (l.take i)) (l.getD i 0))) (pre := [_] ++ matObjs _ _ _ _) hS (fun _ => rfl) (by first | assumption | omega | (simp only [List.length_set, List.length_append, List.length_singleton, List.length_replicate]; omega)) (by first | omega | (simp; omega)) (by rw [hq4]; omega) ?_
        intro r39 h' hr39 hS
        refine KOps.indexVJ (St.hole (pre := [_] ++ matObjs _ _ _ _) hS) (j := (insRow (insAll (l.take i)) (l.getD i 0))) rfl (by first | omega | (simp; omega)) ?_
        intro p40 hp40
        refine KOps.storeAt (pre := [_] ++ matObjs _ _ _ _) hS rfl hp40 (by assumption) (by first | omega | (simp; omega)) rfl ?_
        intro h' hS
        refine KOps.done ?_
        refine blQ.normal ?_
        refine sqQ.normal ?_
        refine KA.sub (Sub.cons (t := 3) Look.eq (Sub.cons (t := 6) Look.eq (Sub.cons (t := 15) Look.eq (Sub.cons (t := 16) Look.eq (Sub.cons (t := 17) Look.eq (Sub.nil _)))))) ?_
        refine KA.region rfl ?_
        refine KOps.add (by first | omega | (simp only [List.length_append, List.length_singleton, List.length_set]; omega)) (by first | omega | (simp only [List.length_append, List.length_singleton, List.length_set]; omega)) ?_
        refine KOps.move ?_
        refine KOps.done ?_
        refine lpQ.normal (i + 1, wo1, ws1, wo2, ws2.set (insRow (insAll (l.take i)) (l.getD i 0)) r39) (by repeat (first | exact Sub.nil _ | refine Sub.cons Look.eq ?_ | refine Sub.cons (Eq.trans Look.eq (congrArg (AV.int _) (by first | omega | (dsimp only; omega)))) ?_)) ⟨by dsimp only; omega, ?_, ?_, ?_⟩ (by dsimp only; omega)
        · dsimp only; rw [insAll_take (by omega)]; exact hl3
        · dsimp only; rw [recTo]; unfold recStep; simp only [List.length_set]; exact hl4
        · dsimp only; rw [insAll_take (by omega), recTo]; unfold recStep; exact hS
    · intro c18
      refine KA.exit ?_
      refine sqQ.exit ?_
      refine lpQ.exit ?_
      refine blQ.here ?_
      refine sqQ.normal ?_
      refine KA.sub (Sub.cons (t := 3) Look.eq (Sub.cons (t := 6) Look.eq (Sub.nil _))) ?_
      refine KA.seq ?_
      refine KA.region rfl ?_
      refine KOps.loadBox hS (i := 0) rfl hp ?_
      refine KOps.move ?_
      refine KOps.assign ?_
      refine KOps.assign ?_
      refine KOps.assign ?_
      refine KOps.done ?_
      refine sqQ.normal ?_
      refine KA.sub (Sub.cons (t := 2) Look.eq (Sub.cons (t := 3) Look.eq (Sub.cons (t := 4) Look.eq (Sub.nil _)))) ?_
      refine KA.ret ?_
      refine fnQ.retN ?_
      have hie : i = l.length := by omega
      subst hie
      rw [List.take_length] at hl1 hS
      refine ⟨vo1, vs1, vo2, vs2, by rw [c13], ?_, ?_, ?_⟩
      · rw [okE_yes c13]; exact hl1
      · rw [okE_yes c13]; exact hl2
      · rw [okE_yes c13, okE_yes c13]; exact St.tail hS

theorem refTables_c {h : AHeap} {v : AV} {l : List Int} (hv : Row h v l) (hlen : l.length ≤ 4294967296) : ACalls Go.Proofs.Try.prog 33 [v] h (fun r h' => ∃ vo1 vs1 vo2 vs2, r = .tup [vo1, vo2, .int .i64 (checkE l)] ∧ vs1.length = (okE l [] (insAll l)).length ∧ vs2.length = (okE l [] (recOf l)).length ∧ St h h' (matObjs true vo1 vs1 (okE l [] (insAll l)) ++ (matObjs true vo2 vs2 (okE l [] (recOf l)) ++ []))) := by
  refine KA.fn 102 [.tmp 2, .tmp 3, .tmp 4] Go.Proofs.Try.func33 rfl (by decide) rfl rfl (Nat.le_of_ble_eq_true rfl) ?_
  have hS := St.refl h
  show KA _ 102 _ _ [(0, v)] _
  refine KA.seq ?_
  refine KA.region rfl ?_
  refine KOps.assign ?_
  refine KOps.assign ?_
  refine KOps.assign ?_
  refine KOps.done ?_
  refine sqQ.normal ?_
  refine KA.sub (Sub.cons (t := 0) Look.eq (Sub.nil _)) ?_
  refine KA.seq ?_
  refine KA.region rfl ?_
  refine KOps.move ?_
  refine KOps.call rfl (refCheck_c (by first | assumption | exact Rd.ext hS.keeps (by assumption)) (by first | omega | (simp; omega))) ?_
  rintro _ _ ⟨rfl, rfl⟩
  refine KOps.assign ?_
  refine KOps.done ?_
  refine sqQ.normal ?_
  refine KA.sub (Sub.cons (t := 0) Look.eq (Sub.cons (t := 5) Look.eq (Sub.nil _))) ?_
  refine KA.seq ?_
  refine KA.seq ?_
  refine KA.region rfl ?_
  refine KOps.move ?_
  refine KOps.neq ?_
  refine KOps.done ?_
  refine sqQ.normal ?_
  refine KA.sub (Sub.cons (t := 0) Look.eq (Sub.cons (t := 5) Look.eq (Sub.cons (t := 15) Look.eq (Sub.nil _)))) ?_
  refine KA.condN ?_ ?_
  · intro c15
    refine KA.seq ?_
    refine KA.region rfl ?_
    refine KOps.move ?_
    refine KOps.assign ?_
    refine KOps.assign ?_
    refine KOps.assign ?_
    refine KOps.done ?_
    refine sqQ.normal ?_
    refine KA.sub (Sub.cons (t := 2) Look.eq (Sub.cons (t := 3) Look.eq (Sub.cons (t := 4) Look.eq (Sub.nil _)))) ?_
    refine KA.ret ?_
    refine sqQ.ret ?_
    refine fnQ.retN ?_
    refine ⟨.nils, [], .nils, [], rfl, by rw [okE_no c15]; rfl, by rw [okE_no c15]; rfl, ?_⟩
    rw [okE_no c15, okE_no c15]
    exact St.nilT (St.nilT (St.refl h) true) true
  · intro c15
    obtain ⟨hl0, hl9, hpk⟩ := checkE_ok c15
    refine KA.skip ?_
    refine sqQ.normal ?_
    refine KA.sub (Sub.cons (t := 0) Look.eq (Sub.nil _)) ?_
    refine KA.seq ?_
    refine KA.region rfl ?_
    refine KOps.assign ?_
    refine KOps.assign ?_
    refine KOps.done ?_
    refine sqQ.normal ?_
    refine KA.seq ?_
    refine KA.seq ?_
    refine KA.region rfl ?_
    refine KOps.assign ?_
    refine KOps.done ?_
    refine sqQ.normal ?_
    refine KA.block ?_
    refine KA.loop (X := Nat × AV × List AV × AV × List AV) (fun x => [(0, v), (6, x.2.1), (7, x.2.2.2.1), (8, .int .i64 (x.1 : Int))]) (fun x h' => x.1 ≤ l.length ∧ x.2.2.1.length = (insAll (l.take x.1)).length ∧ x.2.2.2.2.length = (recTo l x.1).length ∧ St h h' (matObjs true x.2.1 x.2.2.1 (insAll (l.take x.1)) ++ (matObjs true x.2.2.2.1 x.2.2.2.2 (recTo l x.1) ++ []))) (fun x => l.length - x.1) (0, .nils, [], .nils, []) (by repeat (first | exact Sub.nil _ | refine Sub.cons Look.eq ?_ | refine Sub.cons (Eq.trans Look.eq (congrArg (AV.int _) (by first | omega | (dsimp only; omega)))) ?_)) ?_ ?_
    · exact ⟨Nat.zero_le _, rfl, rfl, St.nilT (St.nilT hS true) true⟩
    rintro ⟨i, vo1, vs1, vo2, vs2⟩ h1 ⟨hi, hl1, hl2, hS⟩
    dsimp only at hi hl1 hl2 hS ⊢
    have hfa := insAll_facts hpk.1 (i := i) hi
    refine KA.seq ?_
    refine KA.seq ?_
    refine KA.region rfl ?_
    refine KOps.move ?_
    refine KOps.move ?_
    refine KOps.lenI (by first | assumption | exact Rd.ext hS.keeps (by assumption)) ?_
    refine KOps.lss ?_
    refine KOps.done ?_
    refine sqQ.normal ?_
    refine KA.sub (Sub.cons (t := 0) Look.eq (Sub.cons (t := 6) Look.eq (Sub.cons (t := 7) Look.eq (Sub.cons (t := 8) Look.eq (Sub.cons (t := 20) Look.eq (Sub.nil _)))))) ?_
    refine KA.condD ?_ ?_
    · intro c20
      refine KA.skip ?_
      refine sqQ.normal ?_
      refine KA.sub (Sub.cons (t := 0) Look.eq (Sub.cons (t := 6) Look.eq (Sub.cons (t := 7) Look.eq (Sub.cons (t := 8) Look.eq (Sub.nil _))))) ?_
      refine KA.seq ?_
      refine KA.block ?_
      refine KA.seq ?_
      refine KA.region rfl ?_
      refine KOps.move ?_
      refine KOps.move ?_
      refine KOps.indexIJ (by first | assumption | exact Rd.ext hS.keeps (by assumption)) (j := i) rfl (by first | omega | (simp; omega)) ?_
      intro p25 hp25
      refine KOps.loadI hp25 (by first | assumption | exact Rd.ext hS.keeps (by assumption)) (by first | omega | (simp; omega)) ?_
      refine KOps.assign ?_
      refine KOps.done ?_
      refine sqQ.normal ?_
      refine KA.sub (Sub.cons (t := 0) Look.eq (Sub.cons (t := 6) Look.eq (Sub.cons (t := 7) Look.eq (Sub.cons (t := 8) Look.eq (Sub.cons (t := 9) Look.eq (Sub.nil _)))))) ?_
      refine KA.seq ?_
      refine KA.region rfl ?_
      refine KOps.assign ?_
      refine KOps.done ?_
      refine sqQ.normal ?_
      refine KA.block ?_
      refine KA.loop (X := Nat × List (List Int) × Int × AV × List AV × AV × List AV) (fun x => [(0, v), (6, x.2.2.2.1), (7, x.2.2.2.2.2.1), (8, .int .i64 (i : Int)), (9, .int .i64 x.2.2.1), (10, .int .i64 (x.1 : Int))]) (fun x h' => Way (insAll (l.take i)) (l.getD i 0) x.2.1 x.1 x.2.2.1 ∧ x.2.2.2.2.1.length = x.2.1.length ∧ x.2.2.2.2.2.2.length = (recTo l i).length ∧ St h h' (matObjs true x.2.2.2.1 x.2.2.2.2.1 x.2.1 ++ (matObjs true x.2.2.2.2.2.1 x.2.2.2.2.2.2 (recTo l i) ++ []))) (fun x => (insAll (l.take i)).length + 1 - x.1) (0, (insAll (l.take i)), (l.getD i 0), vo1, vs1, vo2, vs2) (by repeat (first | exact Sub.nil _ | refine Sub.cons Look.eq ?_ | refine Sub.cons (Eq.trans Look.eq (congrArg (AV.int _) (by first | omega | (dsimp only; omega)))) ?_)) ⟨Way.start _ _, hl1, hl2, hS⟩ ?_
      rintro ⟨k, Tc, cc, wo1, ws1, wo2, ws2⟩ h2 ⟨w, hl3, hl4, hS⟩
      dsimp only at w hl3 hl4 hS ⊢
      have hlc := w.len
      have hkl := w.le
      have hsl := shapes_len l (i := i) (by omega)
      have hrl : (Tc.getD k []).length ≤ i := by rw [w.same k (Nat.le_refl _)]; exact hfa.2.1 k
      refine KA.seq ?_
      refine KA.block ?_
      refine KA.meet (X := AV × List AV × AV × List AV) (fun y => [(0, v), (6, y.1), (7, y.2.2.1), (8, .int .i64 (i : Int)), (9, .int .i64 cc), (10, .int .i64 (k : Int))]) (fun y h' => y.2.1.length = (roomy Tc k).length ∧ y.2.2.2.length = (roomy (recTo l i) k).length ∧ St h h' (matObjs true y.1 y.2.1 (roomy Tc k) ++ (matObjs true y.2.2.1 y.2.2.2 (roomy (recTo l i) k) ++ []))) ?_ ?_
      ·
        refine KA.seq ?_
        refine KA.region rfl ?_
        refine KOps.move ?_
        refine KOps.move ?_
        refine KOps.lenV (St.outer (pre := []) hS) ?_
        refine KOps.eql ?_
        refine KOps.done ?_
        refine sqQ.normal ?_
        refine KA.sub (Sub.cons (t := 0) Look.eq (Sub.cons (t := 6) Look.eq (Sub.cons (t := 7) Look.eq (Sub.cons (t := 8) Look.eq (Sub.cons (t := 9) Look.eq (Sub.cons (t := 10) Look.eq (Sub.cons (t := 32) Look.eq (Sub.nil _)))))))) ?_
        refine KA.condD ?_ ?_
        · intro c32
          refine KA.region rfl ?_
          refine KOps.move ?_
          refine KOps.buildSlice hS rfl (by decide) rfl ?_
          intro v34 h' hS
          refine KOps.appendNil (pre := []) hS (by first | assumption | omega | (simp only [List.length_set, List.length_append, List.length_singleton, List.length_replicate]; omega)) (by first | omega | (simp; omega)) ?_
          intro r35 h' hr35 hS
          refine KOps.move ?_
          refine KOps.buildSlice hS rfl (by decide) rfl ?_
          intro v37 h' hS
          refine KOps.appendNil (pre := [] ++ matObjs _ _ _ _) hS (by first | assumption | omega | (simp only [List.length_set, List.length_append, List.length_singleton, List.length_replicate]; omega)) (by first | omega | (simp; omega)) ?_
          intro r38 h' hr38 hS
          refine KOps.assign ?_
          refine KOps.assign ?_
          refine KOps.done ?_
          have e1 : k = Tc.length := by omega
          have e2 : k = (recTo l i).length := by omega
          refine mtQ.normal (r35, ws1 ++ [.nils], r38, ws2 ++ [.nils]) (by repeat (first | exact Sub.nil _ | refine Sub.cons Look.eq ?_ | refine Sub.cons (Eq.trans Look.eq (congrArg (AV.int _) (by first | omega | (dsimp only; omega)))) ?_)) ⟨?_, ?_, ?_⟩
          · rw [roomy_yes e1]; simp only [List.length_append, List.length_singleton]; omega
          · rw [roomy_yes e2]; simp only [List.length_append, List.length_singleton]; omega
          · rw [roomy_yes e1, roomy_yes e2]; exact hS
        · intro c32
          refine KA.skip ?_
          have e1 : ¬ k = Tc.length := by omega
          have e2 : ¬ k = (recTo l i).length := by omega
          refine mtQ.normal (wo1, ws1, wo2, ws2) (by repeat (first | exact Sub.nil _ | refine Sub.cons Look.eq ?_ | refine Sub.cons (Eq.trans Look.eq (congrArg (AV.int _) (by first | omega | (dsimp only; omega)))) ?_)) ⟨?_, ?_, ?_⟩
          · rw [roomy_no e1]; exact hl3
          · rw [roomy_no e2]; exact hl4
          · rw [roomy_no e1, roomy_no e2]; exact hS
      ·
        rintro ⟨ao, as1, bo, bs1⟩ h3 ⟨hl5, hl6, hS⟩
        dsimp only at hl5 hl6 hS ⊢
        have hk2 := roomy_lt (ps := Tc) (k := k) (by omega)
        have hk3 := roomy_lt (ps := (recTo l i)) (k := k) (by omega)
        have hq1 := roomy_getD Tc k k
        have hq2 := roomy_getD (recTo l i) k k
        have hq1l : ((roomy Tc k).getD k []).length = (Tc.getD k []).length := by rw [hq1]
        have hq2l : ((roomy (recTo l i) k).getD k []).length = ((recTo l i).getD k []).length := by rw [hq2]
        have hq3 := shapes_row l (i := i) (by omega) k
        have hq4 := hfa.2.1 k
        refine KA.seq ?_
        refine KA.region rfl ?_
        refine KOps.assign ?_
        refine KOps.done ?_
        refine sqQ.normal ?_
        refine KA.meet (X := Unit) (fun _ => [(0, v), (6, ao), (7, bo), (8, .int .i64 (i : Int)), (9, .int .i64 cc), (10, .int .i64 (k : Int)), (11, .int .i64 (pos (Tc.getD k []) cc : Nat))]) (fun _ h' => h3 = h') ?_ ?_
        ·
          refine KA.block ?_
          refine KA.loop (X := Nat) (fun a => [(0, v), (6, ao), (7, bo), (8, .int .i64 (i : Int)), (9, .int .i64 cc), (10, .int .i64 (k : Int)), (11, .int .i64 (a : Int))]) (fun a h' => h3 = h' ∧ a ≤ (Tc.getD k []).length ∧ ∀ j, j < a → (Tc.getD k []).getD j 0 < cc) (fun a => (Tc.getD k []).length - a) 0 (by repeat (first | exact Sub.nil _ | refine Sub.cons Look.eq ?_ | refine Sub.cons (Eq.trans Look.eq (congrArg (AV.int _) (by first | omega | (dsimp only; omega)))) ?_)) ⟨rfl, by omega, by omega⟩ ?_
          rintro a _ ⟨rfl, ha, hlt⟩
          refine KA.seq ?_
          refine KA.seq ?_
          refine KA.region rfl ?_
          refine KOps.move ?_
          refine KOps.move ?_
          refine KOps.move ?_
          refine KOps.indexVJ (St.outer (pre := []) hS) (j := k) rfl (by first | omega | (simp; omega)) ?_
          intro p42 hp42
          refine KOps.loadV hp42 (St.outer (pre := []) hS) (by first | omega | (simp; omega)) ?_
          refine KOps.lenI (St.rowAt (pre := []) hS (by first | assumption | omega | (simp only [List.length_set, List.length_append, List.length_singleton, List.length_replicate]; omega)) (by first | omega | (simp; omega))) ?_
          refine KOps.lss ?_
          refine KOps.move ?_
          refine KOps.guardB (dj := 46) rfl rfl true false rfl ?_ ?_
          · intro g46
            have g46 := of_decide_eq_true g46
            refine KOps.move ?_
            refine KOps.guardYes (dj := 46) rfl rfl ?_
            refine KOps.move ?_
            refine KOps.guardYes (dj := 46) rfl rfl ?_
            refine KOps.indexVJ (St.outer (pre := []) hS) (j := k) rfl (by first | omega | (simp; omega)) ?_
            intro p49 hp49
            refine KOps.guardYes (dj := 46) rfl rfl ?_
            refine KOps.loadV hp49 (St.outer (pre := []) hS) (by first | omega | (simp; omega)) ?_
            refine KOps.guardYes (dj := 46) rfl rfl ?_
            refine KOps.move ?_
            refine KOps.guardYes (dj := 46) rfl rfl ?_
            refine KOps.indexIJ (St.rowAt (pre := []) hS (by first | assumption | omega | (simp only [List.length_set, List.length_append, List.length_singleton, List.length_replicate]; omega)) (by first | omega | (simp; omega))) (j := a) rfl (by first | omega | (simp; omega)) ?_
            intro p52 hp52
            refine KOps.guardYes (dj := 46) rfl rfl ?_
            refine KOps.loadI hp52 (St.rowAt (pre := []) hS (by first | assumption | omega | (simp only [List.length_set, List.length_append, List.length_singleton, List.length_replicate]; omega)) (by first | omega | (simp; omega))) (by first | omega | (simp; omega)) ?_
            refine KOps.guardYes (dj := 46) rfl rfl ?_
            refine KOps.move ?_
            refine KOps.guardYes (dj := 46) rfl rfl ?_
            refine KOps.lss ?_
            refine KOps.pickT ?_
            refine KOps.done ?_
            refine sqQ.normal ?_
            refine KA.sub (Sub.cons (t := 0) Look.eq (Sub.cons (t := 6) Look.eq (Sub.cons (t := 7) Look.eq (Sub.cons (t := 8) Look.eq (Sub.cons (t := 9) Look.eq (Sub.cons (t := 10) Look.eq (Sub.cons (t := 11) Look.eq (Sub.cons (t := 47) Look.eq (Sub.cons (t := 48) Look.eq (Sub.cons (t := 49) Look.eq (Sub.cons (t := 50) Look.eq (Sub.cons (t := 51) Look.eq (Sub.cons (t := 52) Look.eq (Sub.cons (t := 53) Look.eq (Sub.cons (t := 54) Look.eq (Sub.cons (t := 55) Look.eq (Sub.cons (t := 56) Look.eq (Sub.nil _)))))))))))))))))) ?_
            refine KA.condD ?_ ?_
            · intro c56
              refine KA.skip ?_
              refine sqQ.normal ?_
              refine KA.sub (Sub.cons (t := 0) Look.eq (Sub.cons (t := 6) Look.eq (Sub.cons (t := 7) Look.eq (Sub.cons (t := 8) Look.eq (Sub.cons (t := 9) Look.eq (Sub.cons (t := 10) Look.eq (Sub.cons (t := 11) Look.eq (Sub.cons (t := 47) Look.eq (Sub.cons (t := 48) Look.eq (Sub.cons (t := 49) Look.eq (Sub.cons (t := 50) Look.eq (Sub.cons (t := 51) Look.eq (Sub.cons (t := 52) Look.eq (Sub.cons (t := 53) Look.eq (Sub.cons (t := 54) Look.eq (Sub.cons (t := 55) Look.eq (Sub.nil _))))))))))))))))) ?_
              refine KA.block ?_
              refine KA.region rfl ?_
              refine KOps.move ?_
              refine KOps.add (by first | omega | (simp only [List.length_append, List.length_singleton, List.length_set]; omega)) (by first | omega | (simp only [List.length_append, List.length_singleton, List.length_set]; omega)) ?_
              refine KOps.assign ?_
              refine KOps.done ?_
              refine blQ.normal ?_
              refine lpQ.normal (a + 1) (by repeat (first | exact Sub.nil _ | refine Sub.cons Look.eq ?_ | refine Sub.cons (Eq.trans Look.eq (congrArg (AV.int _) (by first | omega | (dsimp only; omega)))) ?_)) ⟨rfl, by omega, ?_⟩ (by omega)
              intro j hj; rcases Nat.lt_succ_iff_lt_or_eq.1 hj with h1 | rfl
              · exact hlt j h1
              · rw [hq1] at c56; exact c56
            · intro c56
              refine KA.exit ?_
              refine sqQ.exit ?_
              refine lpQ.exit ?_
              refine blQ.here ?_
              have hpe : pos (Tc.getD k []) cc = a := pos_unique hlt (fun _ => by rw [hq1] at c56; omega) (by omega)
              exact mtQ.normal () (by repeat (first | exact Sub.nil _ | refine Sub.cons Look.eq ?_ | refine Sub.cons (Eq.trans Look.eq (congrArg (AV.int _) (by first | omega | (dsimp only; omega)))) ?_ | refine Sub.cons (Eq.trans Look.eq (congrArg (AV.int _) (by rw [hpe]))) ?_)) rfl
          · intro g46
            have g46 := of_decide_eq_false g46
            refine KOps.guardNo (dj := 46) rfl rfl rfl ?_
            refine KOps.guardNo (dj := 46) rfl rfl rfl ?_
            refine KOps.guardNo (dj := 46) rfl rfl rfl ?_
            refine KOps.guardNo (dj := 46) rfl rfl rfl ?_
            refine KOps.guardNo (dj := 46) rfl rfl rfl ?_
            refine KOps.guardNo (dj := 46) rfl rfl rfl ?_
            refine KOps.guardNo (dj := 46) rfl rfl rfl ?_
            refine KOps.guardNo (dj := 46) rfl rfl rfl ?_
            refine KOps.pickF ?_
            refine KOps.done ?_
            refine sqQ.normal ?_
            refine KA.sub (Sub.cons (t := 0) Look.eq (Sub.cons (t := 6) Look.eq (Sub.cons (t := 7) Look.eq (Sub.cons (t := 8) Look.eq (Sub.cons (t := 9) Look.eq (Sub.cons (t := 10) Look.eq (Sub.cons (t := 11) Look.eq (Sub.cons (t := 47) Look.eq (Sub.cons (t := 48) Look.eq (Sub.cons (t := 49) Look.eq (Sub.cons (t := 50) Look.eq (Sub.cons (t := 51) Look.eq (Sub.cons (t := 52) Look.eq (Sub.cons (t := 53) Look.eq (Sub.cons (t := 54) Look.eq (Sub.cons (t := 55) Look.eq (Sub.cons (t := 56) Look.eq (Sub.nil _)))))))))))))))))) ?_
            refine KA.condF ?_
            refine KA.exit ?_
            refine sqQ.exit ?_
            refine lpQ.exit ?_
            refine blQ.here ?_
            have hpe : pos (Tc.getD k []) cc = a := pos_unique hlt (fun hq => by rw [hq1] at g46; omega) (by omega)
            exact mtQ.normal () (by repeat (first | exact Sub.nil _ | refine Sub.cons Look.eq ?_ | refine Sub.cons (Eq.trans Look.eq (congrArg (AV.int _) (by first | omega | (dsimp only; omega)))) ?_ | refine Sub.cons (Eq.trans Look.eq (congrArg (AV.int _) (by rw [hpe]))) ?_)) rfl
        ·
          rintro _ _ rfl
          have hpl := pos_le (Tc.getD k []) cc
          refine KA.seq ?_
          refine KA.seq ?_
          refine KA.region rfl ?_
          refine KOps.move ?_
          refine KOps.move ?_
          refine KOps.move ?_
          refine KOps.indexVJ (St.outer (pre := []) hS) (j := k) rfl (by first | omega | (simp; omega)) ?_
          intro p62 hp62
          refine KOps.loadV hp62 (St.outer (pre := []) hS) (by first | omega | (simp; omega)) ?_
          refine KOps.lenI (St.rowAt (pre := []) hS (by first | assumption | omega | (simp only [List.length_set, List.length_append, List.length_singleton, List.length_replicate]; omega)) (by first | omega | (simp; omega))) ?_
          refine KOps.eql ?_
          refine KOps.done ?_
          refine sqQ.normal ?_
          refine KA.sub (Sub.cons (t := 0) Look.eq (Sub.cons (t := 6) Look.eq (Sub.cons (t := 7) Look.eq (Sub.cons (t := 8) Look.eq (Sub.cons (t := 9) Look.eq (Sub.cons (t := 10) Look.eq (Sub.cons (t := 11) Look.eq (Sub.cons (t := 65) Look.eq (Sub.nil _))))))))) ?_
          refine KA.condD ?_ ?_
          · intro c65
            obtain ⟨hw1, hw2⟩ := w.lastR (by omega)
            refine KA.seq ?_
            refine KA.draw [10, 17] mixed rfl (by kernel_rfl) ?_
            refine KOps.move ?_
            refine KOps.move ?_
            refine KOps.move ?_
            refine KOps.move ?_
            refine KOps.move ?_
            refine KOps.move ?_
            refine KOps.indexVJ (St.outer (pre := []) hS) (j := k) rfl (by first | omega | (simp; omega)) ?_
            intro p72 hp72
            refine KOps.loadV hp72 (St.outer (pre := []) hS) (by first | omega | (simp; omega)) ?_
            refine KOps.move ?_
            refine KOps.buildSlice hS rfl (by decide) rfl ?_
            intro v75 h' hS
            refine KOps.appendAt (j := k) (pre := []) hS (fun _ => rfl) (by first | assumption | omega | (simp only [List.length_set, List.length_append, List.length_singleton, List.length_replicate]; omega)) (by first | omega | (simp; omega)) (by rw [hq1]; omega) ?_
            intro r76 h' hr76 hS
            refine KOps.move ?_
            refine KOps.move ?_
            refine KOps.indexVJ (St.outer (pre := [] ++ (_ :: rowObjs _ _ _)) hS) (j := k) rfl (by first | omega | (simp; omega)) ?_
            intro p79 hp79
            refine KOps.loadV hp79 (St.outer (pre := [] ++ (_ :: rowObjs _ _ _)) hS) (by first | omega | (simp; omega)) ?_
            refine KOps.move ?_
            refine KOps.buildSlice hS rfl (by decide) rfl ?_
            intro v82 h' hS
            refine KOps.appendAt (j := k) (pre := [] ++ (_ :: rowObjs _ _ _)) hS (fun _ => rfl) (by first | assumption | omega | (simp only [List.length_set, List.length_append, List.length_singleton, List.length_replicate]; omega)) (by first | omega | (simp; omega)) (by rw [hq2]; omega) ?_
            intro r83 h' hr83 hS
            refine KOps.indexVJ (St.hole (pre := []) hS) (j := k) rfl (by first | omega | (simp; omega)) ?_
            intro p84 hp84
            refine KOps.storeAt (pre := []) hS rfl hp84 (by assumption) (by first | omega | (simp; omega)) rfl ?_
            intro h' hS
            refine KOps.indexVJ (St.hole (pre := [] ++ matObjs _ _ _ _) hS) (j := k) rfl (by first | omega | (simp; omega)) ?_
            intro p85 hp85
            refine KOps.storeAt (pre := [] ++ matObjs _ _ _ _) hS rfl hp85 (by assumption) (by first | omega | (simp; omega)) rfl ?_
            intro h' hS
            refine KOps.done ?_
            refine sqQ.normal ?_
            refine KA.sub (Sub.cons (t := 0) Look.eq (Sub.cons (t := 6) Look.eq (Sub.cons (t := 7) Look.eq (Sub.cons (t := 8) Look.eq (Sub.nil _))))) ?_
            refine KA.exit ?_
            refine sqQ.exit ?_
            refine blQ.exit rfl ?_
            refine sqQ.exit ?_
            refine lpQ.exit ?_
            refine blQ.here ?_
            refine blQ.normal ?_
            refine sqQ.normal ?_
            refine KA.region rfl ?_
            refine KOps.move ?_
            refine KOps.add (by first | omega | (simp only [List.length_append, List.length_singleton, List.length_set]; omega)) (by first | omega | (simp only [List.length_append, List.length_singleton, List.length_set]; omega)) ?_
            refine KOps.assign ?_
            refine KOps.done ?_
            refine lpQ.normal (i + 1, ao, as1.set k r76, bo, bs1.set k r83) (by repeat (first | exact Sub.nil _ | refine Sub.cons Look.eq ?_ | refine Sub.cons (Eq.trans Look.eq (congrArg (AV.int _) (by first | omega | (dsimp only; omega)))) ?_)) ⟨by dsimp only; omega, ?_, ?_, ?_⟩ (by dsimp only; omega)
            · dsimp only; rw [insAll_take (by omega), hw1]; simp only [List.length_set]; exact hl5
            · dsimp only; rw [recTo, hw2]; unfold recStep; simp only [List.length_set]; exact hl6
            · dsimp only; rw [insAll_take (by omega), hw1, recTo, hw2]; unfold recStep; exact hS
          · intro c65
            refine KA.skip ?_
            refine sqQ.normal ?_
            refine KA.sub (Sub.cons (t := 0) Look.eq (Sub.cons (t := 6) Look.eq (Sub.cons (t := 7) Look.eq (Sub.cons (t := 8) Look.eq (Sub.cons (t := 9) Look.eq (Sub.cons (t := 10) Look.eq (Sub.cons (t := 11) Look.eq (Sub.nil _)))))))) ?_
            refine KA.draw [] mixed rfl (by kernel_rfl) ?_
            refine KOps.move ?_
            refine KOps.move ?_
            refine KOps.indexVJ (St.outer (pre := []) hS) (j := k) rfl (by first | omega | (simp; omega)) ?_
            intro p88 hp88
            refine KOps.loadV hp88 (St.outer (pre := []) hS) (by first | omega | (simp; omega)) ?_
            refine KOps.move ?_
            refine KOps.move ?_
            refine KOps.move ?_
            refine KOps.move ?_
            refine KOps.indexVJ (St.outer (pre := []) hS) (j := k) rfl (by first | omega | (simp; omega)) ?_
            intro p94 hp94
            refine KOps.loadV hp94 (St.outer (pre := []) hS) (by first | omega | (simp; omega)) ?_
            refine KOps.move ?_
            refine KOps.indexIJ (St.rowAt (pre := []) hS (by first | assumption | omega | (simp only [List.length_set, List.length_append, List.length_singleton, List.length_replicate]; omega)) (by first | omega | (simp; omega))) (j := (pos (Tc.getD k []) cc)) rfl (by first | omega | (simp; omega)) ?_
            intro p97 hp97
            refine KOps.loadI hp97 (St.rowAt (pre := []) hS (by first | assumption | omega | (simp only [List.length_set, List.length_append, List.length_singleton, List.length_replicate]; omega)) (by first | omega | (simp; omega))) (by first | omega | (simp; omega)) ?_
            refine KOps.indexIJ (St.rowAt (pre := []) hS (by first | assumption | omega | (simp only [List.length_set, List.length_append, List.length_singleton, List.length_replicate]; omega)) (by first | omega | (simp; omega))) (j := (pos (Tc.getD k []) cc)) rfl (by first | omega | (simp; omega)) ?_
            intro p99 hp99
            refine KOps.setAt (pre := []) hS rfl (by first | assumption | omega | (simp only [List.length_set, List.length_append, List.length_singleton, List.length_replicate]; omega)) (by first | omega | (simp; omega)) hp99 (by first | omega | (simp; omega)) ?_
            intro h' hS
            refine KOps.assign ?_
            refine KOps.done ?_
            refine blQ.normal ?_
            refine sqQ.normal ?_
            refine KA.sub (Sub.cons (t := 0) Look.eq (Sub.cons (t := 6) Look.eq (Sub.cons (t := 7) Look.eq (Sub.cons (t := 8) Look.eq (Sub.cons (t := 9) Look.eq (Sub.cons (t := 10) Look.eq (Sub.nil _))))))) ?_
            refine KA.region rfl ?_
            refine KOps.move ?_
            refine KOps.add (by first | omega | (simp only [List.length_append, List.length_singleton, List.length_set]; omega)) (by first | omega | (simp only [List.length_append, List.length_singleton, List.length_set]; omega)) ?_
            refine KOps.assign ?_
            refine KOps.done ?_
            have hkT : k < Tc.length := by
              rcases Nat.lt_or_ge k Tc.length with h9 | h9
              · exact h9
              · have h8 : (Tc.getD k []).length = 0 := by rw [getDL_out h9]; rfl
                omega
            rw [roomy_no (by omega)] at hS hl5
            rw [roomy_no (by omega)] at hS hl6
            exact lpQ.normal (k + 1, Tc.set k ((Tc.getD k []).set (pos (Tc.getD k []) cc) cc), (Tc.getD k []).getD (pos (Tc.getD k []) cc) 0, ao, as1, bo, bs1) (by repeat (first | exact Sub.nil _ | refine Sub.cons Look.eq ?_ | refine Sub.cons (Eq.trans Look.eq (congrArg (AV.int _) (by first | omega | (dsimp only; omega)))) ?_ | refine Sub.cons (Eq.trans Look.eq (congrArg (AV.int _) (by rw [hq1]))) ?_)) ⟨w.next (by omega) (by omega), by dsimp only; rw [List.length_set]; exact hl5, hl6, hS⟩ (by dsimp only; omega)
    · intro c20
      refine KA.exit ?_
      refine sqQ.exit ?_
      refine lpQ.exit ?_
      refine blQ.here ?_
      refine sqQ.normal ?_
      refine KA.sub (Sub.cons (t := 6) Look.eq (Sub.cons (t := 7) Look.eq (Sub.nil _))) ?_
      refine KA.seq ?_
      refine KA.region rfl ?_
      refine KOps.move ?_
      refine KOps.move ?_
      refine KOps.assign ?_
      refine KOps.assign ?_
      refine KOps.assign ?_
      refine KOps.done ?_
      refine sqQ.normal ?_
      refine KA.sub (Sub.cons (t := 2) Look.eq (Sub.cons (t := 3) Look.eq (Sub.cons (t := 4) Look.eq (Sub.nil _)))) ?_
      refine KA.ret ?_
      refine fnQ.retN ?_
      have hie : i = l.length := by omega
      subst hie
      rw [List.take_length] at hl1 hS
      refine ⟨vo1, vs1, vo2, vs2, by rw [c15], ?_, ?_, ?_⟩
      · rw [okE_yes c15]; exact hl1
      · rw [okE_yes c15]; exact hl2
      · rw [okE_yes c15, okE_yes c15]; exact hS

end Go.Am
