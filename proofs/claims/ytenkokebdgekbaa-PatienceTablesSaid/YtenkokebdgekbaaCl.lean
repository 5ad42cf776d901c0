/-
  Layer 13: the law of the tables, over the abstract machine.
  Conditions: none.
-/
import Derived.Test.YtenkokebdgekbaaCk
namespace Go.Am
open Go.Gr
theorem okI_len (l : List Int) : (okE l [] (insAll l)).length ≤ 9 ∧ ∀ i, ((okE l [] (insAll l)).getD i []).length ≤ 9 := by
  unfold okE
  split
  · rename_i h
    obtain ⟨_, h9, hp⟩ := checkE_ok h
    have := insAll_facts hp.1 (i := l.length) (Nat.le_refl _)
    rw [List.take_length] at this
    exact ⟨by omega, fun i => by have := this.2.1 i; omega⟩
  · simp
theorem okR_len (l : List Int) : (okE l [] (recOf l)).length ≤ 9 ∧ ∀ i, ((okE l [] (recOf l)).getD i []).length ≤ 9 := by
  unfold okE
  split
  · rename_i h
    obtain ⟨_, h9, hp⟩ := checkE_ok h
    have := insAll_facts hp.1 (i := l.length) (Nat.le_refl _)
    have h1 := shapes_len l (Nat.le_refl l.length)
    have h2 := shapes_row l (Nat.le_refl l.length)
    exact ⟨by unfold recOf; omega, fun i => by have := this.2.1 i; have := h2 i; unfold recOf; omega⟩
  · simp
theorem packOf_len (T S : List (List Int)) : (packOf T S).length ≤ 9 := by
  unfold packOf
  split
  · rename_i h
    rw [unpack_len]
    exact (std_facts (packE_ok h).2.1).2.2.2
  · simp

theorem law_tables {h : AHeap} {v u w : AV} {l : List Int} {T U : List (List Int)} (hv : Row h v l) (hT : Mat h u T) (hU : Mat h w U) : ACalls Go.Proofs.Try.prog 5 [v, u, w] h (fun r _ => r = .bool true) := by
  refine KA.fn 85 [.tmp 6] Go.Proofs.Try.func5 rfl (by decide) rfl rfl (Nat.le_of_ble_eq_true rfl) ?_
  show KA _ 85 _ _ [(0, v), (1, u), (2, w)] _
  refine KA.seq ?_
  refine KA.region rfl ?_
  refine KOps.assign ?_
  refine KOps.done ?_
  refine sqQ.normal ?_
  refine KA.sub (Sub.cons (t := 0) Look.eq (Sub.cons (t := 1) Look.eq (Sub.cons (t := 2) Look.eq (Sub.nil _)))) ?_
  refine KA.seq ?_
  refine KA.seq ?_
  refine KA.region rfl ?_
  refine KOps.move ?_
  refine KOps.call rfl (large_c hv) ?_
  rintro _ _ ⟨rfl, rfl⟩
  refine KOps.move ?_
  refine KOps.guardB (dj := 19) rfl rfl false true rfl ?_ ?_
  · intro g19
    have g19 := of_decide_eq_false g19
    refine KOps.move ?_
    refine KOps.guardYes (dj := 19) rfl rfl ?_
    refine KOps.call rfl (huge_c hT) ?_
    rintro _ _ ⟨rfl, rfl⟩
    refine KOps.pickF ?_
    refine KOps.move ?_
    refine KOps.guardB (dj := 23) rfl rfl false true rfl ?_ ?_
    · intro g23
      refine KOps.move ?_
      refine KOps.guardYes (dj := 23) rfl rfl ?_
      refine KOps.call rfl (huge_c hU) ?_
      rintro _ _ ⟨rfl, rfl⟩
      refine KOps.pickF ?_
      refine KOps.done ?_
      refine sqQ.normal ?_
      refine KA.sub (Sub.cons (t := 0) Look.eq (Sub.cons (t := 1) Look.eq (Sub.cons (t := 2) Look.eq (Sub.cons (t := 26) Look.eq (Sub.nil _))))) ?_
      refine KA.condB ?_ ?_
      · intro c26
        refine KA.seq ?_
        refine KA.region rfl ?_
        refine KOps.call rfl (works_c _) ?_
        rintro _ _ ⟨rfl, rfl⟩
        refine KOps.assign ?_
        refine KOps.done ?_
        refine sqQ.normal ?_
        refine KA.sub (Sub.cons (t := 6) Look.eq (Sub.nil _)) ?_
        refine KA.ret ?_
        refine sqQ.ret ?_
        refine fnQ.ret1 ?_
        rfl
      · intro c26
        have hsT := Small.of g23
        have hsU := Small.of c26
        have hi := okI_len l
        have hr := okR_len l
        have hpl := packOf_len T U
        refine KA.skip ?_
        refine sqQ.normal ?_
        refine KA.sub (Sub.cons (t := 0) Look.eq (Sub.cons (t := 1) Look.eq (Sub.cons (t := 2) Look.eq (Sub.nil _)))) ?_
        refine KA.seq ?_
        refine KA.region rfl ?_
        refine KOps.move ?_
        refine KOps.call rfl (tables_c hv) ?_
        rintro _ h1 ⟨vo1, vs1, wo1, ws1, rfl, hl1, hm1, hS1⟩
        have hK := hS1.keeps
        have hv := hv.ext hK
        have hT := hT.ext hK
        have hU := hU.ext hK
        have ha1 := St.mat (pre := []) hl1 hS1
        have hb1 := St.mat (pre := matObjs true vo1 vs1 _) (rest := []) hm1 hS1
        refine KOps.move ?_
        refine KOps.extract ?_
        refine KOps.extract ?_
        refine KOps.extract ?_
        refine KOps.assign ?_
        refine KOps.assign ?_
        refine KOps.assign ?_
        refine KOps.done ?_
        refine sqQ.normal ?_
        refine KA.sub (Sub.cons (t := 0) Look.eq (Sub.cons (t := 1) Look.eq (Sub.cons (t := 2) Look.eq (Sub.cons (t := 7) Look.eq (Sub.cons (t := 8) Look.eq (Sub.cons (t := 9) Look.eq (Sub.nil _))))))) ?_
        refine KA.seq ?_
        refine KA.region rfl ?_
        refine KOps.move ?_
        refine KOps.call rfl (refTables_c hv (by first | omega | (simp; omega))) ?_
        rintro _ h2 ⟨vo2, vs2, wo2, ws2, rfl, hl2, hm2, hS2⟩
        have hK := hS2.keeps
        have hv := hv.ext hK
        have hT := hT.ext hK
        have hU := hU.ext hK
        have ha1 := ha1.ext hK
        have hb1 := hb1.ext hK
        have ha2 := St.mat (pre := []) hl2 hS2
        have hb2 := St.mat (pre := matObjs true vo2 vs2 _) (rest := []) hm2 hS2
        refine KOps.move ?_
        refine KOps.extract ?_
        refine KOps.extract ?_
        refine KOps.extract ?_
        refine KOps.assign ?_
        refine KOps.assign ?_
        refine KOps.assign ?_
        refine KOps.done ?_
        refine sqQ.normal ?_
        refine KA.sub (Sub.cons (t := 1) Look.eq (Sub.cons (t := 2) Look.eq (Sub.cons (t := 7) Look.eq (Sub.cons (t := 8) Look.eq (Sub.cons (t := 9) Look.eq (Sub.cons (t := 10) Look.eq (Sub.cons (t := 11) Look.eq (Sub.cons (t := 12) Look.eq (Sub.nil _))))))))) ?_
        refine KA.seq ?_
        refine KA.region rfl ?_
        refine KOps.move ?_
        refine KOps.move ?_
        refine KOps.call rfl (pack_c hT hU hsT hsU) ?_
        rintro _ h3 ⟨vo3, rfl, hK, hp3⟩
        have hv := hv.ext hK
        have hT := hT.ext hK
        have hU := hU.ext hK
        have ha1 := ha1.ext hK
        have hb1 := hb1.ext hK
        have ha2 := ha2.ext hK
        have hb2 := hb2.ext hK
        refine KOps.move ?_
        refine KOps.extract ?_
        refine KOps.extract ?_
        refine KOps.assign ?_
        refine KOps.assign ?_
        refine KOps.done ?_
        refine sqQ.normal ?_
        refine KA.sub (Sub.cons (t := 1) Look.eq (Sub.cons (t := 2) Look.eq (Sub.cons (t := 7) Look.eq (Sub.cons (t := 8) Look.eq (Sub.cons (t := 9) Look.eq (Sub.cons (t := 10) Look.eq (Sub.cons (t := 11) Look.eq (Sub.cons (t := 12) Look.eq (Sub.cons (t := 13) Look.eq (Sub.cons (t := 14) Look.eq (Sub.nil _))))))))))) ?_
        refine KA.seq ?_
        refine KA.region rfl ?_
        refine KOps.move ?_
        refine KOps.move ?_
        refine KOps.call rfl (refPack_c hT hU hsT hsU) ?_
        rintro _ h4 ⟨vo4, rfl, hK, hp4⟩
        have hv := hv.ext hK
        have hT := hT.ext hK
        have hU := hU.ext hK
        have ha1 := ha1.ext hK
        have hb1 := hb1.ext hK
        have ha2 := ha2.ext hK
        have hb2 := hb2.ext hK
        have hp3 := hp3.ext hK
        refine KOps.move ?_
        refine KOps.extract ?_
        refine KOps.extract ?_
        refine KOps.assign ?_
        refine KOps.assign ?_
        refine KOps.done ?_
        refine sqQ.normal ?_
        refine KA.sub (Sub.cons (t := 1) Look.eq (Sub.cons (t := 7) Look.eq (Sub.cons (t := 8) Look.eq (Sub.cons (t := 9) Look.eq (Sub.cons (t := 10) Look.eq (Sub.cons (t := 11) Look.eq (Sub.cons (t := 12) Look.eq (Sub.cons (t := 13) Look.eq (Sub.cons (t := 14) Look.eq (Sub.cons (t := 15) Look.eq (Sub.cons (t := 16) Look.eq (Sub.nil _)))))))))))) ?_
        refine KA.seq ?_
        refine KA.region rfl ?_
        refine KOps.move ?_
        refine KOps.move ?_
        refine KOps.call rfl (alike_t rfl ha1 ha2 (by omega) (fun i _ => by have := hi.2 i; omega)) ?_
        rintro _ _ ⟨rfl, rfl⟩
        refine KOps.move ?_
        refine KOps.guardYes (dj := 55) rfl rfl ?_
        refine KOps.move ?_
        refine KOps.guardYes (dj := 55) rfl rfl ?_
        refine KOps.move ?_
        refine KOps.guardYes (dj := 55) rfl rfl ?_
        refine KOps.call rfl (alike_t rfl hb1 hb2 (by omega) (fun i _ => by have := hr.2 i; omega)) ?_
        rintro _ _ ⟨rfl, rfl⟩
        refine KOps.pickT ?_
        refine KOps.move ?_
        refine KOps.guardYes (dj := 60) rfl rfl ?_
        refine KOps.move ?_
        refine KOps.guardYes (dj := 60) rfl rfl ?_
        refine KOps.move ?_
        refine KOps.guardYes (dj := 60) rfl rfl ?_
        refine KOps.eqlT rfl ?_
        refine KOps.pickT ?_
        refine KOps.move ?_
        refine KOps.guardYes (dj := 65) rfl rfl ?_
        refine KOps.move ?_
        refine KOps.guardYes (dj := 65) rfl rfl ?_
        refine KOps.move ?_
        refine KOps.guardYes (dj := 65) rfl rfl ?_
        refine KOps.call rfl (same_t rfl hp3 hp4 (by first | omega | (simp; omega))) ?_
        rintro _ _ ⟨rfl, rfl⟩
        refine KOps.pickT ?_
        refine KOps.move ?_
        refine KOps.guardYes (dj := 70) rfl rfl ?_
        refine KOps.move ?_
        refine KOps.guardYes (dj := 70) rfl rfl ?_
        refine KOps.move ?_
        refine KOps.guardYes (dj := 70) rfl rfl ?_
        refine KOps.eqlT rfl ?_
        refine KOps.pickT ?_
        refine KOps.move ?_
        refine KOps.guardYes (dj := 75) rfl rfl ?_
        refine KOps.move ?_
        refine KOps.guardYes (dj := 75) rfl rfl ?_
        refine KOps.call rfl (standard_c hT hsT) ?_
        rintro _ h9 ⟨rfl, hS9⟩
        have hT := hT.ext hS9.keeps
        refine KOps.guardYes (dj := 75) rfl rfl ?_
        refine KOps.move ?_
        refine KOps.guardYes (dj := 75) rfl rfl ?_
        refine KOps.call rfl (refStandard_c hT hsT) ?_
        rintro _ h10 ⟨rfl, hS10⟩
        refine KOps.guardYes (dj := 75) rfl rfl ?_
        refine KOps.eqlT rfl ?_
        refine KOps.pickT ?_
        refine KOps.move ?_
        refine KOps.guardYes (dj := 82) rfl rfl ?_
        refine KOps.call rfl (works_c _) ?_
        rintro _ _ ⟨rfl, rfl⟩
        refine KOps.pickT ?_
        refine KOps.assign ?_
        refine KOps.done ?_
        refine sqQ.normal ?_
        refine KA.sub (Sub.cons (t := 6) Look.eq (Sub.nil _)) ?_
        refine KA.ret ?_
        refine fnQ.ret1 ?_
        rfl
    · intro g23
      refine KOps.guardNo (dj := 23) rfl rfl rfl ?_
      refine KOps.pickT ?_
      refine KOps.done ?_
      refine sqQ.normal ?_
      refine KA.sub (Sub.cons (t := 0) Look.eq (Sub.cons (t := 1) Look.eq (Sub.cons (t := 2) Look.eq (Sub.cons (t := 26) Look.eq (Sub.nil _))))) ?_
      refine KA.condT ?_
      refine KA.seq ?_
      refine KA.region rfl ?_
      refine KOps.call rfl (works_c _) ?_
      rintro _ _ ⟨rfl, rfl⟩
      refine KOps.assign ?_
      refine KOps.done ?_
      refine sqQ.normal ?_
      refine KA.sub (Sub.cons (t := 6) Look.eq (Sub.nil _)) ?_
      refine KA.ret ?_
      refine sqQ.ret ?_
      refine fnQ.ret1 ?_
      rfl
  · intro g19
    have g19 := of_decide_eq_true g19
    refine KOps.guardNo (dj := 19) rfl rfl rfl ?_
    refine KOps.pickT ?_
    refine KOps.move ?_
    refine KOps.guardNo (dj := 23) rfl rfl rfl ?_
    refine KOps.guardNo (dj := 23) rfl rfl rfl ?_
    refine KOps.pickT ?_
    refine KOps.done ?_
    refine sqQ.normal ?_
    refine KA.sub (Sub.cons (t := 0) Look.eq (Sub.cons (t := 1) Look.eq (Sub.cons (t := 2) Look.eq (Sub.cons (t := 26) Look.eq (Sub.nil _))))) ?_
    refine KA.condT ?_
    refine KA.seq ?_
    refine KA.region rfl ?_
    refine KOps.call rfl (works_c _) ?_
    rintro _ _ ⟨rfl, rfl⟩
    refine KOps.assign ?_
    refine KOps.done ?_
    refine sqQ.normal ?_
    refine KA.sub (Sub.cons (t := 6) Look.eq (Sub.nil _)) ?_
    refine KA.ret ?_
    refine sqQ.ret ?_
    refine fnQ.ret1 ?_
    rfl

end Go.Am
