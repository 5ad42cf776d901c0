/-
  Tops: contracts: cards put on the first free square, upright and turned.
  Conditions: none.
-/
import Derived.Test.YtdfhmdhjeiipfaaCua
namespace Go.Am
theorem St.front {h0 h : AHeap} {A F G : List Obj} (st : St h0 h (A ++ (F ++ G))) : St h0 h (F ++ (G ++ A)) := by
  have := st.rot
  rwa [List.append_assoc] at this
theorem St.back {h0 h : AHeap} {A F G : List Obj} (st : St h0 h (F ++ (G ++ A))) : St h0 h (A ++ (F ++ G)) := by
  rw [← List.append_assoc] at st
  exact st.rot

theorem next_c {h0 h : AHeap} {s : Sht} {b : Nat} {fa : FuncId} {caps : List AV} {F G : List Obj} {Inv : Nat → List Obj → Prop} (hs : s.Ok) (hb : b < 2 ^ s.n) (hlt : s.fz b < s.n)
    (hA : ∀ i, i < 2 → (i = 1 → s.l ≠ s.w) → ∀ x, s.put b (decide (i = 1)) (s.fz b) = some x → ∀ {h0 h : AHeap} {F G : List Obj}, Inv i F → St h0 h (F ++ G) → ACalls Go.Proofs.Try.prog fa ([.agg (cdL (s.fz b / s.c) (s.fz b % s.c) (decide (i = 1))), .int .u64 (x : Int)] ++ caps) h (fun q h' => ∃ c F', q = .bool c ∧ St h0 h' (F' ++ G) ∧ (c = true → Inv (i + 1) F') ∧ (c = false → Inv 2 F')))
    (hN : ∀ i, i < 2 → (i = 1 → s.l ≠ s.w) → s.put b (decide (i = 1)) (s.fz b) = none → ∀ F, Inv i F → Inv (i + 1) F) (hE : s.l = s.w → ∀ F, Inv 1 F → Inv 2 F) (hI : Inv 0 F) (hS : St h0 h (F ++ G)) : ACalls Go.Proofs.Try.prog 18 [.agg (tbL s), .int .u64 (b : Int), .fn fa caps] h (fun q h' => q = .tup [] ∧ ∃ F', Inv 2 F' ∧ St h0 h' (F' ++ G)) := by
  refine KA.fn 55 [] Go.Proofs.Try.func18 rfl (by decide) rfl rfl (Nat.le_of_ble_eq_true rfl) ?_
  show KA _ 55 _ _ [(0, .agg (tbL s)), (1, .int .u64 (b : Int)), (2, .fn fa caps)] _
  refine KA.seq ?_
  refine KA.region rfl ?_
  refine KOps.boxAll hS (by first | rfl | (simp [AV.one]; done) | (simp [AV.one]; assumption) | (simp [AV.one, *]; done)) ?_
  intro p3 h' hp3 hS
  refine KOps.done ?_
  refine sqQ.normal ?_
  refine KA.sub (Sub.cons (t := 1) Look.eq (Sub.cons (t := 2) Look.eq (Sub.cons (t := 3) Look.eq (Sub.nil _)))) ?_
  refine KA.seq ?_
  refine KA.region rfl ?_
  refine KOps.loadAll hS (i := 0) rfl hp3 (by rfl) (by decide) ?_
  refine KOps.move ?_
  refine KOps.call rfl (cutFirst_c hs hb) ?_
  rintro _ hx ⟨rfl, hK⟩
  have hS0 : St _ _ _ := St.trans hS (St.ofK hK)
  clear hS
  have hS := hS0
  clear hS0
  simp only [List.nil_append] at hS
  refine KOps.move ?_
  refine KOps.extract ?_
  refine KOps.extract ?_
  refine KOps.assign ?_
  refine KOps.assign ?_
  refine KOps.done ?_
  refine sqQ.normal ?_
  refine KA.sub (Sub.cons (t := 1) Look.eq (Sub.cons (t := 2) Look.eq (Sub.cons (t := 3) Look.eq (Sub.cons (t := 6) Look.eq (Sub.cons (t := 7) Look.eq (Sub.nil _)))))) ?_
  refine KA.seq ?_
  refine KA.region rfl ?_
  refine KOps.buildSlice hS rfl (by decide) rfl ?_
  intro v19 h' hS
  refine KOps.lenV (hS.rd 0 rfl) ?_
  refine KOps.move ?_
  refine KOps.done ?_
  refine sqQ.normal ?_
  refine KA.block ?_
  refine KA.loop (X := Nat × List Obj) (fun x => [(1, .int .u64 (b : Int)), (2, .fn fa caps), (3, p3), (6, .int .i64 ((s.fz b / s.c : Nat) : Int)), (7, .int .i64 ((s.fz b % s.c : Nat) : Int)), (19, v19), (20, .int .i64 2), (21, .int .i64 (x.1 : Int))]) (fun x h' => x.1 ≤ 2 ∧ Inv x.1 x.2 ∧ St h0 h' (⟨v19, 1, [.bool false, .bool true], true⟩ :: ⟨p3, 0, tbL s, true⟩ :: (x.2 ++ G))) (fun x => 2 - x.1) (0, F) (by repeat (first | exact Sub.nil _ | refine Sub.cons Look.eq ?_ | refine Sub.cons (Eq.trans Look.eq (congrArg (AV.int _) (by first | omega | (dsimp only; omega)))) ?_)) ?_ ?_
  · exact ⟨Nat.zero_le _, hI, hS⟩
  rintro ⟨i, F⟩ h2 ⟨hi, hInv, hS⟩
  dsimp only at hi hInv hS ⊢
  refine KA.seq ?_
  refine KA.region rfl ?_
  refine KOps.lss ?_
  refine KOps.done ?_
  refine sqQ.normal ?_
  refine KA.seq ?_
  refine KA.condD ?_ ?_
  · intro c22
    have hget : ([.bool false, .bool true] : List AV).getD i .bot = .bool (decide (i = 1)) := by
      rcases (show i = 0 ∨ i = 1 by omega) with rfl | rfl <;> rfl
    refine KA.skip ?_
    refine sqQ.normal ?_
    refine KA.sub (Sub.cons (t := 1) Look.eq (Sub.cons (t := 2) Look.eq (Sub.cons (t := 3) Look.eq (Sub.cons (t := 6) Look.eq (Sub.cons (t := 7) Look.eq (Sub.cons (t := 19) Look.eq (Sub.cons (t := 20) Look.eq (Sub.cons (t := 21) Look.eq (Sub.nil _))))))))) ?_
    refine KA.seq ?_
    refine KA.block ?_
    refine KA.seq ?_
    refine KA.region rfl ?_
    refine KOps.indexVJ (hS.rd 0 rfl) (j := i) rfl (by first | omega | (simp; done) | (simp; omega)) ?_
    intro p23 hp23
    refine KOps.loadV hp23 (hS.rd 0 rfl) (by first | omega | (simp; done) | (simp; omega)) ?_
    rw [hget]
    refine KOps.assign ?_
    refine KOps.done ?_
    refine sqQ.normal ?_
    refine KA.sub (Sub.cons (t := 1) Look.eq (Sub.cons (t := 2) Look.eq (Sub.cons (t := 3) Look.eq (Sub.cons (t := 6) Look.eq (Sub.cons (t := 7) Look.eq (Sub.cons (t := 9) Look.eq (Sub.cons (t := 19) Look.eq (Sub.cons (t := 20) Look.eq (Sub.cons (t := 21) Look.eq (Sub.nil _)))))))))) ?_
    refine KA.seq ?_
    refine KA.region rfl ?_
    refine KOps.move ?_
    refine KOps.move ?_
    refine KOps.move ?_
    refine KOps.buildG (zs := [.int .i64 0, .int .i64 0, .bool false]) (cs := [_, _, _]) (by kernel_rfl) (by rfl) (by kernel_rfl) (.cons (off := 0) (s := 1) (by kernel_rfl) (AV.cells_one (by first | rfl | assumption)) rfl (by decide) (.cons (off := 1) (s := 1) (by kernel_rfl) (AV.cells_one (by first | rfl | assumption)) rfl (by decide) (.cons (off := 2) (s := 1) (by kernel_rfl) (AV.cells_one (by first | rfl | assumption)) rfl (by decide) .nil))) (by rfl) ?_
    refine KOps.alloc hS ?_
    intro p10 h' hp10 hS
    refine KOps.storeAll hS rfl (i := 0) rfl hp10 (by first | rfl | (simp [AV.one]; done) | (simp [AV.one]; assumption) | (simp [AV.one, *]; done)) (by rfl) (by rfl) (by decide) ?_
    intro h' hS
    simp only [List.set_cons_zero, List.set_cons_succ, Nat.zero_add] at hS
    refine KOps.done ?_
    refine sqQ.normal ?_
    refine KA.sub (Sub.cons (t := 1) Look.eq (Sub.cons (t := 2) Look.eq (Sub.cons (t := 3) Look.eq (Sub.cons (t := 6) Look.eq (Sub.cons (t := 7) Look.eq (Sub.cons (t := 9) Look.eq (Sub.cons (t := 10) Look.eq (Sub.cons (t := 19) Look.eq (Sub.cons (t := 20) Look.eq (Sub.cons (t := 21) Look.eq (Sub.nil _))))))))))) ?_
    refine KA.seq ?_
    refine KA.seq ?_
    refine KA.region rfl ?_
    refine KOps.move ?_
    refine KOps.move ?_
    refine KOps.guardB (dj := 30) rfl rfl true false rfl ?_ ?_
    · intro g30
      refine KOps.fieldAddr hp3 ?_
      intro p31 hp31
      refine KOps.guardYes (dj := 30) rfl rfl ?_
      refine KOps.fieldAddr hp31 ?_
      intro p32 hp32
      refine KOps.guardYes (dj := 30) rfl rfl ?_
      refine KOps.load hp32 (hS.rd 2 rfl) rfl ?_
      refine KOps.guardYes (dj := 30) rfl rfl ?_
      refine KOps.fieldAddr hp3 ?_
      intro p34 hp34
      refine KOps.guardYes (dj := 30) rfl rfl ?_
      refine KOps.fieldAddr hp34 ?_
      intro p35 hp35
      refine KOps.guardYes (dj := 30) rfl rfl ?_
      refine KOps.load hp35 (hS.rd 2 rfl) rfl ?_
      refine KOps.guardYes (dj := 30) rfl rfl ?_
      refine KOps.eql ?_
      refine KOps.pickT ?_
      refine KOps.done ?_
      refine sqQ.normal ?_
      refine KA.sub (Sub.cons (t := 1) Look.eq (Sub.cons (t := 2) Look.eq (Sub.cons (t := 3) Look.eq (Sub.cons (t := 6) Look.eq (Sub.cons (t := 7) Look.eq (Sub.cons (t := 10) Look.eq (Sub.cons (t := 19) Look.eq (Sub.cons (t := 20) Look.eq (Sub.cons (t := 21) Look.eq (Sub.cons (t := 31) Look.eq (Sub.cons (t := 32) Look.eq (Sub.cons (t := 33) Look.eq (Sub.cons (t := 34) Look.eq (Sub.cons (t := 35) Look.eq (Sub.cons (t := 36) Look.eq (Sub.cons (t := 37) Look.eq (Sub.cons (t := 38) Look.eq (Sub.nil _)))))))))))))))))) ?_
      refine KA.condD ?_ ?_
      · intro c38
        refine KA.ret ?_
        refine sqQ.ret ?_
        refine blQ.ret ?_
        refine sqQ.ret ?_
        refine lpQ.ret ?_
        refine blQ.ret ?_
        refine fnQ.ret0 ?_
        have hi1 : i = 1 := of_decide_eq_true g30
        subst hi1
        exact ⟨rfl, F, hE (by omega) _ hInv, St.drop (A := [_, _, _]) hS⟩
      · intro c38
        refine KA.skip ?_
        refine sqQ.normal ?_
        refine KA.sub (Sub.cons (t := 1) Look.eq (Sub.cons (t := 2) Look.eq (Sub.cons (t := 3) Look.eq (Sub.cons (t := 6) Look.eq (Sub.cons (t := 7) Look.eq (Sub.cons (t := 10) Look.eq (Sub.cons (t := 19) Look.eq (Sub.cons (t := 20) Look.eq (Sub.cons (t := 21) Look.eq (Sub.cons (t := 31) Look.eq (Sub.cons (t := 32) Look.eq (Sub.cons (t := 33) Look.eq (Sub.cons (t := 34) Look.eq (Sub.cons (t := 35) Look.eq (Sub.cons (t := 36) Look.eq (Sub.cons (t := 37) Look.eq (Sub.nil _))))))))))))))))) ?_
        refine KA.seq ?_
        refine KA.region rfl ?_
        refine KOps.loadAll hS (i := 2) rfl hp3 (by rfl) (by decide) ?_
        refine KOps.move ?_
        refine KOps.loadAll hS (i := 0) rfl hp10 (by rfl) (by decide) ?_
        refine KOps.call rfl (cutPut_c hs hb hlt rfl rfl) ?_
        rintro _ hx ⟨⟨v, rfl, hv⟩, hK⟩
        have hS0 : St _ _ _ := St.trans hS (St.ofK hK)
        clear hS
        have hS := hS0
        clear hS0
        simp only [List.nil_append] at hS
        refine KOps.move ?_
        refine KOps.extract ?_
        refine KOps.extract ?_
        refine KOps.assign ?_
        refine KOps.assign ?_
        refine KOps.done ?_
        refine sqQ.normal ?_
        refine KA.sub (Sub.cons (t := 1) Look.eq (Sub.cons (t := 2) Look.eq (Sub.cons (t := 3) Look.eq (Sub.cons (t := 6) Look.eq (Sub.cons (t := 7) Look.eq (Sub.cons (t := 10) Look.eq (Sub.cons (t := 11) Look.eq (Sub.cons (t := 12) Look.eq (Sub.cons (t := 19) Look.eq (Sub.cons (t := 20) Look.eq (Sub.cons (t := 21) Look.eq (Sub.cons (t := 31) Look.eq (Sub.cons (t := 32) Look.eq (Sub.cons (t := 33) Look.eq (Sub.cons (t := 34) Look.eq (Sub.cons (t := 35) Look.eq (Sub.cons (t := 36) Look.eq (Sub.cons (t := 37) Look.eq (Sub.nil _))))))))))))))))))) ?_
        refine KA.seq ?_
        refine KA.region rfl ?_
        have hnone : (s.put b (decide (i = 1)) (s.fz b)).isSome = false → s.put b (decide (i = 1)) (s.fz b) = none := fun q => by
          cases hp : s.put b (decide (i = 1)) (s.fz b) with
          | none => rfl
          | some x => rw [hp] at q; cases q
        refine KOps.move ?_
        refine KOps.move ?_
        refine KOps.guardB (dj := 47) rfl rfl true false rfl ?_ ?_
        · intro g47
          obtain ⟨x, hpx⟩ := Option.isSome_iff_exists.1 g47
          obtain rfl := hv x hpx
          refine KOps.move ?_
          refine KOps.guardYes (dj := 47) rfl rfl ?_
          refine KOps.loadAll hS (i := 0) rfl hp10 (by rfl) (by decide) ?_
          refine KOps.guardYes (dj := 47) rfl rfl ?_
          refine KOps.move ?_
          refine KOps.guardYes (dj := 47) rfl rfl ?_
          refine KOps.call rfl (hA i (by omega) (fun q e => by first | exact c38 (by rw [e]) | exact absurd q (of_decide_eq_false g30)) _ hpx hInv (St.front (A := [_, _, _]) hS)) ?_
          rintro _ h9 ⟨cc, F2, rfl, hS9, hct, hcf⟩
          have hS0 := St.back (A := [_, _, _]) hS9
          clear hS
          have hS := hS0
          clear hS0
          simp only [List.cons_append, List.nil_append] at hS
          refine KOps.guardYes (dj := 47) rfl rfl ?_
          refine KOps.not ?_
          refine KOps.pickT ?_
          refine KOps.done ?_
          refine sqQ.normal ?_
          refine KA.sub (Sub.cons (t := 1) Look.eq (Sub.cons (t := 2) Look.eq (Sub.cons (t := 3) Look.eq (Sub.cons (t := 6) Look.eq (Sub.cons (t := 7) Look.eq (Sub.cons (t := 19) Look.eq (Sub.cons (t := 20) Look.eq (Sub.cons (t := 21) Look.eq (Sub.cons (t := 31) Look.eq (Sub.cons (t := 32) Look.eq (Sub.cons (t := 33) Look.eq (Sub.cons (t := 34) Look.eq (Sub.cons (t := 35) Look.eq (Sub.cons (t := 36) Look.eq (Sub.cons (t := 37) Look.eq (Sub.cons (t := 48) Look.eq (Sub.cons (t := 49) Look.eq (Sub.cons (t := 50) Look.eq (Sub.cons (t := 51) Look.eq (Sub.cons (t := 52) Look.eq (Sub.cons (t := 53) Look.eq (Sub.nil _)))))))))))))))))))))) ?_
          refine KA.condB ?_ ?_
          · intro c53
            refine KA.ret ?_
            refine blQ.ret ?_
            refine sqQ.ret ?_
            refine lpQ.ret ?_
            refine blQ.ret ?_
            refine fnQ.ret0 ?_
            exact ⟨rfl, F2, hcf (by simpa using c53), St.drop (A := [_, _, _]) hS⟩
          · intro c53
            refine KA.skip ?_
            refine blQ.normal ?_
            refine sqQ.normal ?_
            refine KA.sub (Sub.cons (t := 1) Look.eq (Sub.cons (t := 2) Look.eq (Sub.cons (t := 3) Look.eq (Sub.cons (t := 6) Look.eq (Sub.cons (t := 7) Look.eq (Sub.cons (t := 19) Look.eq (Sub.cons (t := 20) Look.eq (Sub.cons (t := 21) Look.eq (Sub.cons (t := 31) Look.eq (Sub.cons (t := 32) Look.eq (Sub.cons (t := 33) Look.eq (Sub.cons (t := 34) Look.eq (Sub.cons (t := 35) Look.eq (Sub.cons (t := 36) Look.eq (Sub.cons (t := 37) Look.eq (Sub.cons (t := 48) Look.eq (Sub.cons (t := 49) Look.eq (Sub.cons (t := 50) Look.eq (Sub.cons (t := 51) Look.eq (Sub.cons (t := 52) Look.eq (Sub.nil _))))))))))))))))))))) ?_
            refine KA.region rfl ?_
            refine KOps.add (by first | omega | (simp; omega)) (by first | omega | (simp; omega)) ?_
            refine KOps.move ?_
            refine KOps.done ?_
            exact lpQ.normal (i + 1, F2) (by repeat (first | exact Sub.nil _ | refine Sub.cons Look.eq ?_ | refine Sub.cons (Eq.trans Look.eq (congrArg (AV.int _) (by first | omega | (dsimp only; omega)))) ?_)) ⟨by dsimp only; omega, hct (by simpa using c53), St.tail hS⟩ (by dsimp only; omega)
        · intro g47
          refine KOps.guardNo (dj := 47) rfl rfl rfl ?_
          refine KOps.guardNo (dj := 47) rfl rfl rfl ?_
          refine KOps.guardNo (dj := 47) rfl rfl rfl ?_
          refine KOps.guardNo (dj := 47) rfl rfl rfl ?_
          refine KOps.pickF ?_
          refine KOps.done ?_
          refine sqQ.normal ?_
          refine KA.sub (Sub.cons (t := 1) Look.eq (Sub.cons (t := 2) Look.eq (Sub.cons (t := 3) Look.eq (Sub.cons (t := 6) Look.eq (Sub.cons (t := 7) Look.eq (Sub.cons (t := 19) Look.eq (Sub.cons (t := 20) Look.eq (Sub.cons (t := 21) Look.eq (Sub.cons (t := 31) Look.eq (Sub.cons (t := 32) Look.eq (Sub.cons (t := 33) Look.eq (Sub.cons (t := 34) Look.eq (Sub.cons (t := 35) Look.eq (Sub.cons (t := 36) Look.eq (Sub.cons (t := 37) Look.eq (Sub.cons (t := 48) Look.eq (Sub.cons (t := 49) Look.eq (Sub.cons (t := 50) Look.eq (Sub.cons (t := 51) Look.eq (Sub.cons (t := 52) Look.eq (Sub.cons (t := 53) Look.eq (Sub.nil _)))))))))))))))))))))) ?_
          refine KA.condF ?_
          refine KA.skip ?_
          refine blQ.normal ?_
          refine sqQ.normal ?_
          refine KA.sub (Sub.cons (t := 1) Look.eq (Sub.cons (t := 2) Look.eq (Sub.cons (t := 3) Look.eq (Sub.cons (t := 6) Look.eq (Sub.cons (t := 7) Look.eq (Sub.cons (t := 19) Look.eq (Sub.cons (t := 20) Look.eq (Sub.cons (t := 21) Look.eq (Sub.cons (t := 31) Look.eq (Sub.cons (t := 32) Look.eq (Sub.cons (t := 33) Look.eq (Sub.cons (t := 34) Look.eq (Sub.cons (t := 35) Look.eq (Sub.cons (t := 36) Look.eq (Sub.cons (t := 37) Look.eq (Sub.cons (t := 48) Look.eq (Sub.cons (t := 49) Look.eq (Sub.cons (t := 50) Look.eq (Sub.cons (t := 51) Look.eq (Sub.cons (t := 52) Look.eq (Sub.nil _))))))))))))))))))))) ?_
          refine KA.region rfl ?_
          refine KOps.add (by first | omega | (simp; omega)) (by first | omega | (simp; omega)) ?_
          refine KOps.move ?_
          refine KOps.done ?_
          exact lpQ.normal (i + 1, F) (by repeat (first | exact Sub.nil _ | refine Sub.cons Look.eq ?_ | refine Sub.cons (Eq.trans Look.eq (congrArg (AV.int _) (by first | omega | (dsimp only; omega)))) ?_)) ⟨by dsimp only; omega, hN i (by omega) (fun q e => by first | exact c38 (by rw [e]) | exact absurd q (of_decide_eq_false g30)) (hnone g47) _ hInv, St.tail hS⟩ (by dsimp only; omega)
    · intro g30
      refine KOps.guardNo (dj := 30) rfl rfl rfl ?_
      refine KOps.guardNo (dj := 30) rfl rfl rfl ?_
      refine KOps.guardNo (dj := 30) rfl rfl rfl ?_
      refine KOps.guardNo (dj := 30) rfl rfl rfl ?_
      refine KOps.guardNo (dj := 30) rfl rfl rfl ?_
      refine KOps.guardNo (dj := 30) rfl rfl rfl ?_
      refine KOps.pickF ?_
      refine KOps.done ?_
      refine sqQ.normal ?_
      refine KA.sub (Sub.cons (t := 1) Look.eq (Sub.cons (t := 2) Look.eq (Sub.cons (t := 3) Look.eq (Sub.cons (t := 6) Look.eq (Sub.cons (t := 7) Look.eq (Sub.cons (t := 10) Look.eq (Sub.cons (t := 19) Look.eq (Sub.cons (t := 20) Look.eq (Sub.cons (t := 21) Look.eq (Sub.cons (t := 31) Look.eq (Sub.cons (t := 32) Look.eq (Sub.cons (t := 33) Look.eq (Sub.cons (t := 34) Look.eq (Sub.cons (t := 35) Look.eq (Sub.cons (t := 36) Look.eq (Sub.cons (t := 37) Look.eq (Sub.cons (t := 38) Look.eq (Sub.nil _)))))))))))))))))) ?_
      refine KA.condF ?_
      refine KA.skip ?_
      refine sqQ.normal ?_
      refine KA.sub (Sub.cons (t := 1) Look.eq (Sub.cons (t := 2) Look.eq (Sub.cons (t := 3) Look.eq (Sub.cons (t := 6) Look.eq (Sub.cons (t := 7) Look.eq (Sub.cons (t := 10) Look.eq (Sub.cons (t := 19) Look.eq (Sub.cons (t := 20) Look.eq (Sub.cons (t := 21) Look.eq (Sub.cons (t := 31) Look.eq (Sub.cons (t := 32) Look.eq (Sub.cons (t := 33) Look.eq (Sub.cons (t := 34) Look.eq (Sub.cons (t := 35) Look.eq (Sub.cons (t := 36) Look.eq (Sub.cons (t := 37) Look.eq (Sub.nil _))))))))))))))))) ?_
      refine KA.seq ?_
      refine KA.region rfl ?_
      refine KOps.loadAll hS (i := 2) rfl hp3 (by rfl) (by decide) ?_
      refine KOps.move ?_
      refine KOps.loadAll hS (i := 0) rfl hp10 (by rfl) (by decide) ?_
      refine KOps.call rfl (cutPut_c hs hb hlt rfl rfl) ?_
      rintro _ hx ⟨⟨v, rfl, hv⟩, hK⟩
      have hS0 : St _ _ _ := St.trans hS (St.ofK hK)
      clear hS
      have hS := hS0
      clear hS0
      simp only [List.nil_append] at hS
      refine KOps.move ?_
      refine KOps.extract ?_
      refine KOps.extract ?_
      refine KOps.assign ?_
      refine KOps.assign ?_
      refine KOps.done ?_
      refine sqQ.normal ?_
      refine KA.sub (Sub.cons (t := 1) Look.eq (Sub.cons (t := 2) Look.eq (Sub.cons (t := 3) Look.eq (Sub.cons (t := 6) Look.eq (Sub.cons (t := 7) Look.eq (Sub.cons (t := 10) Look.eq (Sub.cons (t := 11) Look.eq (Sub.cons (t := 12) Look.eq (Sub.cons (t := 19) Look.eq (Sub.cons (t := 20) Look.eq (Sub.cons (t := 21) Look.eq (Sub.cons (t := 31) Look.eq (Sub.cons (t := 32) Look.eq (Sub.cons (t := 33) Look.eq (Sub.cons (t := 34) Look.eq (Sub.cons (t := 35) Look.eq (Sub.cons (t := 36) Look.eq (Sub.cons (t := 37) Look.eq (Sub.nil _))))))))))))))))))) ?_
      refine KA.seq ?_
      refine KA.region rfl ?_
      have hnone : (s.put b (decide (i = 1)) (s.fz b)).isSome = false → s.put b (decide (i = 1)) (s.fz b) = none := fun q => by
        cases hp : s.put b (decide (i = 1)) (s.fz b) with
        | none => rfl
        | some x => rw [hp] at q; cases q
      refine KOps.move ?_
      refine KOps.move ?_
      refine KOps.guardB (dj := 47) rfl rfl true false rfl ?_ ?_
      · intro g47
        obtain ⟨x, hpx⟩ := Option.isSome_iff_exists.1 g47
        obtain rfl := hv x hpx
        refine KOps.move ?_
        refine KOps.guardYes (dj := 47) rfl rfl ?_
        refine KOps.loadAll hS (i := 0) rfl hp10 (by rfl) (by decide) ?_
        refine KOps.guardYes (dj := 47) rfl rfl ?_
        refine KOps.move ?_
        refine KOps.guardYes (dj := 47) rfl rfl ?_
        refine KOps.call rfl (hA i (by omega) (fun q e => by first | exact c38 (by rw [e]) | exact absurd q (of_decide_eq_false g30)) _ hpx hInv (St.front (A := [_, _, _]) hS)) ?_
        rintro _ h9 ⟨cc, F2, rfl, hS9, hct, hcf⟩
        have hS0 := St.back (A := [_, _, _]) hS9
        clear hS
        have hS := hS0
        clear hS0
        simp only [List.cons_append, List.nil_append] at hS
        refine KOps.guardYes (dj := 47) rfl rfl ?_
        refine KOps.not ?_
        refine KOps.pickT ?_
        refine KOps.done ?_
        refine sqQ.normal ?_
        refine KA.sub (Sub.cons (t := 1) Look.eq (Sub.cons (t := 2) Look.eq (Sub.cons (t := 3) Look.eq (Sub.cons (t := 6) Look.eq (Sub.cons (t := 7) Look.eq (Sub.cons (t := 19) Look.eq (Sub.cons (t := 20) Look.eq (Sub.cons (t := 21) Look.eq (Sub.cons (t := 31) Look.eq (Sub.cons (t := 32) Look.eq (Sub.cons (t := 33) Look.eq (Sub.cons (t := 34) Look.eq (Sub.cons (t := 35) Look.eq (Sub.cons (t := 36) Look.eq (Sub.cons (t := 37) Look.eq (Sub.cons (t := 48) Look.eq (Sub.cons (t := 49) Look.eq (Sub.cons (t := 50) Look.eq (Sub.cons (t := 51) Look.eq (Sub.cons (t := 52) Look.eq (Sub.cons (t := 53) Look.eq (Sub.nil _)))))))))))))))))))))) ?_
        refine KA.condB ?_ ?_
        · intro c53
          refine KA.ret ?_
          refine blQ.ret ?_
          refine sqQ.ret ?_
          refine lpQ.ret ?_
          refine blQ.ret ?_
          refine fnQ.ret0 ?_
          exact ⟨rfl, F2, hcf (by simpa using c53), St.drop (A := [_, _, _]) hS⟩
        · intro c53
          refine KA.skip ?_
          refine blQ.normal ?_
          refine sqQ.normal ?_
          refine KA.sub (Sub.cons (t := 1) Look.eq (Sub.cons (t := 2) Look.eq (Sub.cons (t := 3) Look.eq (Sub.cons (t := 6) Look.eq (Sub.cons (t := 7) Look.eq (Sub.cons (t := 19) Look.eq (Sub.cons (t := 20) Look.eq (Sub.cons (t := 21) Look.eq (Sub.cons (t := 31) Look.eq (Sub.cons (t := 32) Look.eq (Sub.cons (t := 33) Look.eq (Sub.cons (t := 34) Look.eq (Sub.cons (t := 35) Look.eq (Sub.cons (t := 36) Look.eq (Sub.cons (t := 37) Look.eq (Sub.cons (t := 48) Look.eq (Sub.cons (t := 49) Look.eq (Sub.cons (t := 50) Look.eq (Sub.cons (t := 51) Look.eq (Sub.cons (t := 52) Look.eq (Sub.nil _))))))))))))))))))))) ?_
          refine KA.region rfl ?_
          refine KOps.add (by first | omega | (simp; omega)) (by first | omega | (simp; omega)) ?_
          refine KOps.move ?_
          refine KOps.done ?_
          exact lpQ.normal (i + 1, F2) (by repeat (first | exact Sub.nil _ | refine Sub.cons Look.eq ?_ | refine Sub.cons (Eq.trans Look.eq (congrArg (AV.int _) (by first | omega | (dsimp only; omega)))) ?_)) ⟨by dsimp only; omega, hct (by simpa using c53), St.tail hS⟩ (by dsimp only; omega)
      · intro g47
        refine KOps.guardNo (dj := 47) rfl rfl rfl ?_
        refine KOps.guardNo (dj := 47) rfl rfl rfl ?_
        refine KOps.guardNo (dj := 47) rfl rfl rfl ?_
        refine KOps.guardNo (dj := 47) rfl rfl rfl ?_
        refine KOps.pickF ?_
        refine KOps.done ?_
        refine sqQ.normal ?_
        refine KA.sub (Sub.cons (t := 1) Look.eq (Sub.cons (t := 2) Look.eq (Sub.cons (t := 3) Look.eq (Sub.cons (t := 6) Look.eq (Sub.cons (t := 7) Look.eq (Sub.cons (t := 19) Look.eq (Sub.cons (t := 20) Look.eq (Sub.cons (t := 21) Look.eq (Sub.cons (t := 31) Look.eq (Sub.cons (t := 32) Look.eq (Sub.cons (t := 33) Look.eq (Sub.cons (t := 34) Look.eq (Sub.cons (t := 35) Look.eq (Sub.cons (t := 36) Look.eq (Sub.cons (t := 37) Look.eq (Sub.cons (t := 48) Look.eq (Sub.cons (t := 49) Look.eq (Sub.cons (t := 50) Look.eq (Sub.cons (t := 51) Look.eq (Sub.cons (t := 52) Look.eq (Sub.cons (t := 53) Look.eq (Sub.nil _)))))))))))))))))))))) ?_
        refine KA.condF ?_
        refine KA.skip ?_
        refine blQ.normal ?_
        refine sqQ.normal ?_
        refine KA.sub (Sub.cons (t := 1) Look.eq (Sub.cons (t := 2) Look.eq (Sub.cons (t := 3) Look.eq (Sub.cons (t := 6) Look.eq (Sub.cons (t := 7) Look.eq (Sub.cons (t := 19) Look.eq (Sub.cons (t := 20) Look.eq (Sub.cons (t := 21) Look.eq (Sub.cons (t := 31) Look.eq (Sub.cons (t := 32) Look.eq (Sub.cons (t := 33) Look.eq (Sub.cons (t := 34) Look.eq (Sub.cons (t := 35) Look.eq (Sub.cons (t := 36) Look.eq (Sub.cons (t := 37) Look.eq (Sub.cons (t := 48) Look.eq (Sub.cons (t := 49) Look.eq (Sub.cons (t := 50) Look.eq (Sub.cons (t := 51) Look.eq (Sub.cons (t := 52) Look.eq (Sub.nil _))))))))))))))))))))) ?_
        refine KA.region rfl ?_
        refine KOps.add (by first | omega | (simp; omega)) (by first | omega | (simp; omega)) ?_
        refine KOps.move ?_
        refine KOps.done ?_
        exact lpQ.normal (i + 1, F) (by repeat (first | exact Sub.nil _ | refine Sub.cons Look.eq ?_ | refine Sub.cons (Eq.trans Look.eq (congrArg (AV.int _) (by first | omega | (dsimp only; omega)))) ?_)) ⟨by dsimp only; omega, hN i (by omega) (fun q e => by first | exact c38 (by rw [e]) | exact absurd q (of_decide_eq_false g30)) (hnone g47) _ hInv, St.tail hS⟩ (by dsimp only; omega)
  · intro c22
    refine KA.exit ?_
    refine sqQ.exit ?_
    refine lpQ.exit ?_
    refine blQ.here ?_
    refine fnQ.norm0 ?_
    have hi2 : i = 2 := by omega
    subst hi2
    exact ⟨rfl, F, hInv, St.drop (A := [_, _]) hS⟩

end Go.Am

namespace Go.Am
def optN (f : Nat → Nat) : Option Nat → Nat
  | some x => f x
  | none => 0
/-- The number of fillings of what is not covered. -/
def Sht.cnt (s : Sht) : Nat → Nat → Nat
  | 0, _ => 1
  | f + 1, b => if b = s.full then 1 else
      optN (s.cnt f) (s.put b false (fzN b s.n 0)) + (if s.l = s.w then 0 else optN (s.cnt f) (s.put b true (fzN b s.n 0)))
theorem both_none_right (u : Option (Nat × Nat)) : both u none = u := by cases u <;> rfl
theorem both_none {u v : Option (Nat × Nat)} : both u v = none ↔ u = none ∧ v = none := by cases u <;> cases v <;> simp [both]
theorem oneUp_none {t : Bool} {u : Option (Nat × Nat)} : oneUp t u = none ↔ u = none := by cases t <;> cases u <;> simp [oneUp]
theorem Sht.cnt_zero (s : Sht) : ∀ f b, s.cnt f b = 0 ↔ s.upr f b = none := by
  intro f
  induction f with
  | zero => intro b; simp [Sht.cnt, Sht.upr]
  | succ f ih =>
    intro b
    rw [Sht.cnt, Sht.upr]
    by_cases hb : b = s.full
    · rw [if_pos hb, if_pos hb]; simp
    · rw [if_neg hb, if_neg hb]
      have key : ∀ t, optN (s.cnt f) (s.put b t (fzN b s.n 0)) = 0 ↔ (match s.put b t (fzN b s.n 0) with | some x => oneUp t (s.upr f x) | none => none) = none := by
        intro t
        cases s.put b t (fzN b s.n 0) with
        | none => simp [optN]
        | some x => simp only [optN, ih, oneUp_none]
      refine Nat.add_eq_zero_iff.trans (Iff.trans (and_congr (key false) ?_) both_none.symm)
      by_cases hl : s.l = s.w
      · rw [if_pos hl, if_pos hl]; simp
      · rw [if_neg hl, if_neg hl]; exact key true
theorem Sht.cnt_le (s : Sht) : ∀ f b, s.cnt f b ≤ 2 ^ f := by
  intro f
  induction f with
  | zero => intro b; exact Nat.le_refl _
  | succ f ih =>
    intro b
    rw [Sht.cnt]
    have hp := Nat.two_pow_pos f
    have key : ∀ t, optN (s.cnt f) (s.put b t (fzN b s.n 0)) ≤ 2 ^ f := by
      intro t
      cases s.put b t (fzN b s.n 0) with
      | none => exact Nat.zero_le _
      | some x => exact ih x
    rw [Nat.pow_succ]
    split
    · omega
    · have h1 := key false
      have h2 := key true
      split <;> omega
def le2 (m : Nat) : Option (Nat × Nat) → Prop
  | none => True
  | some (a, c) => a ≤ m ∧ c ≤ m
theorem le2_both {m : Nat} {u v : Option (Nat × Nat)} (hu : le2 m u) (hv : le2 m v) : le2 m (both u v) := by
  rcases u with _ | ⟨a, c⟩ <;> rcases v with _ | ⟨e, f⟩ <;> simp only [both, le2] at * <;> omega
theorem le2_oneUp {m : Nat} {t : Bool} {u : Option (Nat × Nat)} (hu : le2 m u) : le2 (m + 1) (oneUp t u) := by
  rcases u with _ | ⟨a, c⟩ <;> cases t <;> simp only [oneUp, le2] at * <;> omega
theorem Sht.upr_le (s : Sht) : ∀ f b, le2 f (s.upr f b) := by
  intro f
  induction f with
  | zero => intro b; exact ⟨Nat.le_refl _, Nat.le_refl _⟩
  | succ f ih =>
    intro b
    rw [Sht.upr]
    split
    · exact ⟨Nat.zero_le _, Nat.zero_le _⟩
    · refine le2_both ?_ ?_
      · cases s.put b false (fzN b s.n 0) with
        | none => trivial
        | some x => exact le2_oneUp (ih x)
      · split
        · trivial
        · cases s.put b true (fzN b s.n 0) with
          | none => trivial
          | some x => exact le2_oneUp (ih x)
def Sht.uprS (s : Sht) (b : Nat) : Option (Nat × Nat) := s.upr 40 b
def Sht.cntS (s : Sht) (b : Nat) : Nat := s.cnt 40 b
theorem Sht.uprS_le (s : Sht) (b : Nat) : le2 40 (s.uprS b) := s.upr_le 40 b
theorem Sht.cntS_le (s : Sht) (b : Nat) : s.cntS b ≤ 2 ^ 40 := s.cnt_le 40 b
theorem Sht.cntS_zero (s : Sht) (b : Nat) : s.cntS b = 0 ↔ s.uprS b = none := s.cnt_zero 40 b
theorem Sht.cnt_fuel {s : Sht} (h : s.Ok) : ∀ (d b : Nat), b < 2 ^ s.n → s.n - s.fz b = d → ∀ f g, d ≤ f → d ≤ g → s.cnt f b = s.cnt g b := by
  intro d
  induction d using Nat.strongRecOn with
  | _ d ih =>
    intro b hb hd f g hf hg
    have hle := s.fz_le b
    by_cases hfull : b = s.full
    · have e : ∀ f, s.cnt f b = 1 := fun f => by
        cases f with
        | zero => rfl
        | succ f => rw [Sht.cnt, if_pos hfull]
      rw [e, e]
    · have hlt : s.fz b < s.n := by
        rcases Nat.lt_or_eq_of_le hle with q | q
        · exact q
        · exact absurd (Sht.fz_full hb q) hfull
      obtain ⟨f, rfl⟩ : ∃ k, f = k + 1 := ⟨f - 1, by omega⟩
      obtain ⟨g, rfl⟩ : ∃ k, g = k + 1 := ⟨g - 1, by omega⟩
      rw [Sht.cnt, Sht.cnt, if_neg hfull, if_neg hfull]
      have key : ∀ t, optN (s.cnt f) (s.put b t (fzN b s.n 0)) = optN (s.cnt g) (s.put b t (fzN b s.n 0)) := fun t => by
        cases hp : s.put b t (fzN b s.n 0) with
        | none => rfl
        | some x =>
          obtain ⟨h1, h2⟩ := Sht.put_fz h hb hlt hp
          exact ih (s.n - s.fz x) (by omega) x h1 rfl f g (by omega) (by omega)
      rw [key false, key true]
/-- What one card more gives. -/
def Sht.up1 (s : Sht) (b : Nat) (t : Bool) : Option (Nat × Nat) := match s.put b t (s.fz b) with | some x => oneUp t (s.uprS x) | none => none
def Sht.ct1 (s : Sht) (b : Nat) (t : Bool) : Nat := optN s.cntS (s.put b t (s.fz b))
theorem Sht.uprS_full {s : Sht} : s.uprS s.full = some (0, 0) := by unfold Sht.uprS; rw [Sht.upr, if_pos rfl]
theorem Sht.cntS_full {s : Sht} : s.cntS s.full = 1 := by unfold Sht.cntS; rw [Sht.cnt, if_pos rfl]
theorem Sht.fz_lt {s : Sht} {b : Nat} (hb : b < 2 ^ s.n) (hf : b ≠ s.full) : s.fz b < s.n := by
  rcases Nat.lt_or_eq_of_le (s.fz_le b) with q | q
  · exact q
  · exact absurd (Sht.fz_full hb q) hf
theorem Sht.upr_step {s : Sht} (h : s.Ok) {b : Nat} (hb : b < 2 ^ s.n) (hf : b ≠ s.full) (f : Nat) (hn : s.n ≤ f) :
    s.upr (f + 1) b = both (match s.put b false (s.fz b) with | some x => oneUp false (s.upr (f + 1) x) | none => none) (if s.l = s.w then none else match s.put b true (s.fz b) with | some x => oneUp true (s.upr (f + 1) x) | none => none) := by
  have hlt := Sht.fz_lt hb hf
  rw [Sht.upr, if_neg hf]
  have k1 : ∀ x, s.put b false (s.fz b) = some x → s.upr f x = s.upr (f + 1) x := fun x hx => by
    obtain ⟨h1, h2⟩ := Sht.put_fz h hb hlt hx
    exact Sht.upr_fuel h (s.n - s.fz x) x h1 rfl _ _ (by omega) (by omega)
  have k2 : ∀ x, s.put b true (s.fz b) = some x → s.upr f x = s.upr (f + 1) x := fun x hx => by
    obtain ⟨h1, h2⟩ := Sht.put_fz h hb hlt hx
    exact Sht.upr_fuel h (s.n - s.fz x) x h1 rfl _ _ (by omega) (by omega)
  show both (match s.put b false (s.fz b) with | some x => oneUp false (s.upr f x) | none => none) (if s.l = s.w then none else match s.put b true (s.fz b) with | some x => oneUp true (s.upr f x) | none => none) = _
  refine both_congr ?_ (ite_congr rfl (fun _ => rfl) fun _ => ?_)
  · cases hp : s.put b false (s.fz b) with
    | none => rfl
    | some x => simp only; rw [k1 x hp]
  · cases hp : s.put b true (s.fz b) with
    | none => rfl
    | some x => simp only; rw [k2 x hp]
theorem Sht.uprS_step {s : Sht} (h : s.Ok) {b : Nat} (hb : b < 2 ^ s.n) (hf : b ≠ s.full) : s.uprS b = both (s.up1 b false) (if s.l = s.w then none else s.up1 b true) :=
  Sht.upr_step h hb hf 39 (by have := h.n; omega)
theorem Sht.cnt_step {s : Sht} (h : s.Ok) {b : Nat} (hb : b < 2 ^ s.n) (hf : b ≠ s.full) (f : Nat) (hn : s.n ≤ f) :
    s.cnt (f + 1) b = optN (s.cnt (f + 1)) (s.put b false (s.fz b)) + (if s.l = s.w then 0 else optN (s.cnt (f + 1)) (s.put b true (s.fz b))) := by
  have hlt := Sht.fz_lt hb hf
  have key : ∀ t, optN (s.cnt f) (s.put b t (s.fz b)) = optN (s.cnt (f + 1)) (s.put b t (s.fz b)) := fun t => by
    cases hp : s.put b t (s.fz b) with
    | none => rfl
    | some x =>
      obtain ⟨h1, h2⟩ := Sht.put_fz h hb hlt hp
      exact Sht.cnt_fuel h (s.n - s.fz x) x h1 rfl f (f + 1) (by omega) (by omega)
  rw [← key, ← key, Sht.cnt, if_neg hf]
  rfl
theorem Sht.cntS_step {s : Sht} (h : s.Ok) {b : Nat} (hb : b < 2 ^ s.n) (hf : b ≠ s.full) : s.cntS b = s.ct1 b false + (if s.l = s.w then 0 else s.ct1 b true) :=
  Sht.cnt_step h hb hf 39 (by have := h.n; omega)
/-- Spans as cells; what is known of boards. -/
abbrev spL (o : Option (Nat × Nat)) : List AV := [.int .i64 ((o.getD (0, 0)).1 : Int), .int .i64 ((o.getD (0, 0)).2 : Int), .bool o.isSome]
abbrev spA (o : Option (Nat × Nat)) : AV := .agg (spL o)
abbrev ctA (m : Nat) : AV := .int .i64 (m : Int)
def OkL {V : Type} (n : Nat) (f : Nat → V) (L : List (Int × V)) : Prop := ∀ (b : Nat) (v : V), b < 2 ^ n → mget L (b : Int) = some v → v = f b
theorem OkL.nil {V : Type} {n : Nat} {f : Nat → V} : OkL n f [] := fun _ _ _ h => by cases h
theorem OkL.put {V : Type} {n : Nat} {f : Nat → V} {L : List (Int × V)} (h : OkL n f L) (b : Nat) : OkL n f (mput L (b : Int) (f b)) := by
  intro c v hc hv
  rw [mget_mput] at hv
  split at hv
  · rename_i e
    cases hv
    rw [Int.ofNat_inj.1 e]
  · exact h c v hc hv
theorem St.cells {h0 h : AHeap} {p : AV} {s : Nat} {cs cs' : List AV} {tip : Bool} {rest : List Obj} (e : cs = cs') (st : St h0 h (⟨p, s, cs, tip⟩ :: rest)) : St h0 h (⟨p, s, cs', tip⟩ :: rest) := e ▸ st
end Go.Am

namespace Go.Am
/-- What upright does with a board. -/
def UprC (s : Sht) (x : Nat) : Prop := ∀ {h0 h : AHeap} {vm : AV} {L : List (Int × Option (Nat × Nat))} {G : List Obj}, IsMp vm → OkL s.n s.uprS L → St h0 h (mapO vm (entL (AV.int .u64) spA L) :: G) →
  ACalls Go.Proofs.Try.prog 17 [.agg (tbL s), .int .u64 (x : Int), .agg [vm]] h (fun q h' => ∃ L', OkL s.n s.uprS L' ∧ q = spA (s.uprS x) ∧ St h0 h' (mapO vm (entL (AV.int .u64) spA L') :: G))
theorem le2_get {m : Nat} {u : Option (Nat × Nat)} (h : le2 m u) : (u.getD (0, 0)).1 ≤ m ∧ (u.getD (0, 0)).2 ≤ m := by
  cases u with
  | none => exact ⟨Nat.zero_le _, Nat.zero_le _⟩
  | some p => exact h
theorem sp_no {o u : Option (Nat × Nat)} {t : Bool} (h : (!u.isSome) = true) : spL o = spL (both o (oneUp t u)) := by
  cases u with
  | none => rw [oneUp_none.2 rfl, both_none_right]
  | some p => cases h
theorem sp_u1 {o u : Option (Nat × Nat)} {t : Bool} (h : (!u.isSome) = false) (ht : (!t) = true) (ho : (!o.isSome) = true) :
    [.int .i64 (Min.min (((u.getD (0, 0)).1 : Int) + 1) (((u.getD (0, 0)).1 : Int) + 1)), .int .i64 (Max.max (((u.getD (0, 0)).2 : Int) + 1) (((u.getD (0, 0)).2 : Int) + 1)), .bool u.isSome] = spL (both o (oneUp t u)) := by
  rcases u with _ | ⟨e, f⟩
  · cases h
  · cases o with
    | some p => cases ho
    | none => cases t with
      | true => cases ht
      | false => simp [spL, both, oneUp]
theorem sp_u2 {o u : Option (Nat × Nat)} {t : Bool} (h : (!u.isSome) = false) (ht : (!t) = true) (ho : (!o.isSome) = false) :
    [.int .i64 (Min.min ((o.getD (0, 0)).1 : Int) (((u.getD (0, 0)).1 : Int) + 1)), .int .i64 (Max.max ((o.getD (0, 0)).2 : Int) (((u.getD (0, 0)).2 : Int) + 1)), .bool o.isSome] = spL (both o (oneUp t u)) := by
  rcases u with _ | ⟨e, f⟩
  · cases h
  · rcases o with _ | ⟨a, c⟩
    · cases ho
    · cases t with
      | true => cases ht
      | false => simp [spL, both, oneUp]; omega
theorem sp_t1 {o u : Option (Nat × Nat)} {t : Bool} (h : (!u.isSome) = false) (ht : (!t) = false) (ho : (!o.isSome) = true) :
    [.int .i64 (Min.min (((u.getD (0, 0)).1 : Int)) (((u.getD (0, 0)).1 : Int))), .int .i64 (Max.max (((u.getD (0, 0)).2 : Int)) (((u.getD (0, 0)).2 : Int))), .bool u.isSome] = spL (both o (oneUp t u)) := by
  rcases u with _ | ⟨e, f⟩
  · cases h
  · cases o with
    | some p => cases ho
    | none => cases t with
      | false => cases ht
      | true => simp [spL, both, oneUp]
theorem sp_t2 {o u : Option (Nat × Nat)} {t : Bool} (h : (!u.isSome) = false) (ht : (!t) = false) (ho : (!o.isSome) = false) :
    [.int .i64 (Min.min ((o.getD (0, 0)).1 : Int) (((u.getD (0, 0)).1 : Int))), .int .i64 (Max.max ((o.getD (0, 0)).2 : Int) (((u.getD (0, 0)).2 : Int))), .bool o.isSome] = spL (both o (oneUp t u)) := by
  rcases u with _ | ⟨e, f⟩
  · cases h
  · rcases o with _ | ⟨a, c⟩
    · cases ho
    · cases t with
      | false => cases ht
      | true => simp [spL, both, oneUp]; omega

theorem upr1_c {h0 h : AHeap} {s : Sht} {x row col : Nat} {t : Bool} {p0 p2 p4 vm : AV} {o : Option (Nat × Nat)} {L : List (Int × Option (Nat × Nat))} {G : List Obj} (hIH : UprC s x) (hp0 : AddrOf p0 p0 0 0) (hp2 : AddrOf p2 p2 0 0) (hp4 : AddrOf p4 p4 0 0) (hvm : IsMp vm) (hL : OkL s.n s.uprS L) (ho : le2 100 o) (hS : St h0 h (⟨p4, 0, spL (o), true⟩ :: ⟨p0, 0, tbL s, true⟩ :: ⟨p2, 0, [vm], true⟩ :: mapO vm (entL (AV.int .u64) spA L) :: G)) : ACalls Go.Proofs.Try.prog 44 [.agg (cdL row col t), .int .u64 (x : Int), p0, p2, p4] h (fun q h' => q = .bool true ∧ ∃ L', OkL s.n s.uprS L' ∧ St h0 h' (⟨p4, 0, spL (both o (oneUp t (s.uprS x))), true⟩ :: ⟨p0, 0, tbL s, true⟩ :: ⟨p2, 0, [vm], true⟩ :: mapO vm (entL (AV.int .u64) spA L') :: G)) := by
  refine KA.fn 43 [.tmp 7] Go.Proofs.Try.func44 rfl (by decide) rfl rfl (Nat.le_of_ble_eq_true rfl) ?_
  have hle := le2_get (s.uprS_le x)
  have hlo := le2_get ho
  have hvo : vm.one = true := by obtain ⟨b, rfl⟩ := hvm; rfl
  show KA _ 43 _ _ [(0, .agg (cdL row col t)), (1, .int .u64 (x : Int)), (2, p0), (3, p2), (4, p4)] _
  refine KA.seq ?_
  refine KA.region rfl ?_
  refine KOps.boxAll hS (by first | rfl | (simp [AV.one]; done) | (simp [AV.one]; assumption) | (simp [AV.one, *]; done)) ?_
  intro p5 h' hp5 hS
  refine KOps.assign ?_
  refine KOps.done ?_
  refine sqQ.normal ?_
  refine KA.sub (Sub.cons (t := 1) Look.eq (Sub.cons (t := 2) Look.eq (Sub.cons (t := 3) Look.eq (Sub.cons (t := 4) Look.eq (Sub.cons (t := 5) Look.eq (Sub.nil _)))))) ?_
  refine KA.seq ?_
  refine KA.region rfl ?_
  refine KOps.loadAll hS (i := 2) rfl hp0 (by rfl) (by decide) ?_
  refine KOps.move ?_
  refine KOps.loadAll hS (i := 3) rfl hp2 (by rfl) (by decide) ?_
  refine KOps.call rfl (hIH hvm hL (St.pickF (A := [_, _, _, _, _]) (A' := [_, _, _, _, _]) 5 [4, 0, 1, 2, 3] rfl (by decide) (by decide) rfl hS)) ?_
  rintro _ h9 ⟨L2, hL2, rfl, hS9⟩
  have hS0 := (St.pickF (A := [_, _, _, _, _]) (A' := [_, _, _, _, _]) 5 [1, 2, 3, 4, 0] rfl (by decide) (by decide) rfl hS9)
  clear hS
  have hS := hS0
  clear hS0
  simp only [List.cons_append, List.nil_append] at hS
  refine KOps.alloc hS ?_
  intro p8 h' hp8 hS
  refine KOps.storeAll hS rfl (i := 0) rfl hp8 (by first | rfl | (simp [AV.one]; done) | (simp [AV.one]; assumption) | (simp [AV.one, *]; done)) (by rfl) (by rfl) (by decide) ?_
  intro h' hS
  simp only [List.set_cons_zero, List.set_cons_succ, Nat.zero_add] at hS
  refine KOps.done ?_
  refine sqQ.normal ?_
  refine KA.sub (Sub.cons (t := 4) Look.eq (Sub.cons (t := 5) Look.eq (Sub.cons (t := 8) Look.eq (Sub.nil _)))) ?_
  refine KA.seq ?_
  refine KA.seq ?_
  refine KA.region rfl ?_
  refine KOps.fieldAddr hp8 ?_
  intro p13 hp13
  refine KOps.load hp13 (hS.rd 0 rfl) rfl ?_
  refine KOps.not ?_
  refine KOps.done ?_
  refine sqQ.normal ?_
  refine KA.sub (Sub.cons (t := 4) Look.eq (Sub.cons (t := 5) Look.eq (Sub.cons (t := 8) Look.eq (Sub.cons (t := 15) Look.eq (Sub.nil _))))) ?_
  refine KA.condB ?_ ?_
  · intro c15
    refine KA.seq ?_
    refine KA.region rfl ?_
    refine KOps.assign ?_
    refine KOps.done ?_
    refine sqQ.normal ?_
    refine KA.sub (Sub.cons (t := 7) Look.eq (Sub.nil _)) ?_
    refine KA.ret ?_
    refine sqQ.ret ?_
    refine fnQ.ret1 ?_
    exact ⟨rfl, L2, hL2, St.cells (sp_no c15) (St.drop (A := [_, _]) hS)⟩
  · intro c15
    refine KA.skip ?_
    refine sqQ.normal ?_
    refine KA.sub (Sub.cons (t := 4) Look.eq (Sub.cons (t := 5) Look.eq (Sub.cons (t := 8) Look.eq (Sub.nil _)))) ?_
    refine KA.seq ?_
    refine KA.seq ?_
    refine KA.region rfl ?_
    refine KOps.fieldAddr hp5 ?_
    intro p16 hp16
    refine KOps.load hp16 (hS.rd 1 rfl) rfl ?_
    refine KOps.not ?_
    refine KOps.done ?_
    refine sqQ.normal ?_
    refine KA.sub (Sub.cons (t := 4) Look.eq (Sub.cons (t := 8) Look.eq (Sub.cons (t := 18) Look.eq (Sub.nil _)))) ?_
    refine KA.condB ?_ ?_
    · intro c18
      refine KA.region rfl ?_
      refine KOps.fieldAddr hp8 ?_
      intro p19 hp19
      refine KOps.load hp19 (hS.rd 0 rfl) rfl ?_
      refine KOps.add (by first | omega | (simp; omega)) (by first | omega | (simp; omega)) ?_
      refine KOps.fieldAddr hp8 ?_
      intro p22 hp22
      refine KOps.load hp22 (hS.rd 0 rfl) rfl ?_
      refine KOps.add (by first | omega | (simp; omega)) (by first | omega | (simp; omega)) ?_
      refine KOps.fieldAddr hp8 ?_
      intro p25 hp25
      refine KOps.store hS rfl (i := 0) rfl hp25 (by first | rfl | assumption) (by first | decide | simp) ?_
      intro h' hS
      simp only [List.set_cons_zero, List.set_cons_succ, Nat.zero_add] at hS
      refine KOps.fieldAddr hp8 ?_
      intro p26 hp26
      refine KOps.store hS rfl (i := 0) rfl hp26 (by first | rfl | assumption) (by first | decide | simp) ?_
      intro h' hS
      simp only [List.set_cons_zero, List.set_cons_succ, Nat.zero_add] at hS
      refine KOps.done ?_
      refine sqQ.normal ?_
      refine KA.sub (Sub.cons (t := 4) Look.eq (Sub.cons (t := 8) Look.eq (Sub.nil _))) ?_
      refine KA.seq ?_
      refine KA.seq ?_
      refine KA.region rfl ?_
      refine KOps.fieldAddr hp4 ?_
      intro p27 hp27
      refine KOps.load hp27 (hS.rd 2 rfl) rfl ?_
      refine KOps.not ?_
      refine KOps.done ?_
      refine sqQ.normal ?_
      refine KA.sub (Sub.cons (t := 4) Look.eq (Sub.cons (t := 8) Look.eq (Sub.cons (t := 29) Look.eq (Sub.nil _)))) ?_
      refine KA.condB ?_ ?_
      · intro c29
        refine KA.region rfl ?_
        refine KOps.loadAll hS (i := 0) rfl hp8 (by rfl) (by decide) ?_
        refine KOps.storeAll hS rfl (i := 2) rfl hp4 (by first | rfl | (simp [AV.one]; done) | (simp [AV.one]; assumption) | (simp [AV.one, *]; done)) (by rfl) (by rfl) (by decide) ?_
        intro h' hS
        simp only [List.set_cons_zero, List.set_cons_succ, Nat.zero_add] at hS
        refine KOps.done ?_
        refine sqQ.normal ?_
        refine KA.sub (Sub.cons (t := 4) Look.eq (Sub.cons (t := 8) Look.eq (Sub.nil _))) ?_
        refine KA.seq ?_
        refine KA.drawS (c := 11) (r := 8) (t := 3) (a := 38) (d := 39) [] mixed rfl rfl rfl (by kernel_rfl) rfl rfl rfl (by decide) (by decide) (by kernel_rfl) ?_
        refine KOps.fieldAddr hp4 ?_
        intro p31 hp31
        refine KOps.load hp31 (hS.rd 2 rfl) rfl ?_
        refine KOps.fieldAddr hp8 ?_
        intro p33 hp33
        refine KOps.load hp33 (hS.rd 0 rfl) rfl ?_
        refine KOps.min ?_
        refine KOps.fieldAddr hp4 ?_
        intro p36 hp36
        refine KOps.load hp36 (hS.rd 2 rfl) rfl ?_
        refine KOps.fieldAddr hp8 ?_
        intro p38 hp38
        refine KOps.load hp38 (hS.rd 0 rfl) rfl ?_
        refine KOps.max ?_
        refine KOps.fieldAddr hp4 ?_
        intro p41 hp41
        refine KOps.store hS rfl (i := 2) rfl hp41 (by first | rfl | assumption) (by first | decide | simp) ?_
        intro h' hS
        simp only [List.set_cons_zero, List.set_cons_succ, Nat.zero_add] at hS
        refine KOps.doneS rfl rfl hp38 (hS.rd 0 rfl) rfl ?_
        refine KOps.fieldAddr hp4 ?_
        intro p42 hp42
        refine KOps.store hS rfl (i := 2) rfl hp42 (by first | rfl | assumption) (by first | decide | simp) ?_
        intro h' hS
        simp only [List.set_cons_zero, List.set_cons_succ, Nat.zero_add] at hS
        refine KOps.done ?_
        refine sqQ.normal ?_
        refine KA.sub (Sub.nil _) ?_
        refine KA.seq ?_
        refine KA.region rfl ?_
        refine KOps.assign ?_
        refine KOps.done ?_
        refine sqQ.normal ?_
        refine KA.ret ?_
        refine fnQ.ret1 ?_
        exact ⟨rfl, L2, hL2, St.cells (sp_u1 (by simpa using c15) (by simpa using c18) (by simpa using c29)) (St.drop (A := [_, _]) hS)⟩
      · intro c29
        refine KA.skip ?_
        refine sqQ.normal ?_
        refine KA.sub (Sub.cons (t := 4) Look.eq (Sub.cons (t := 8) Look.eq (Sub.nil _))) ?_
        refine KA.seq ?_
        refine KA.drawS (c := 11) (r := 8) (t := 3) (a := 38) (d := 39) [] mixed rfl rfl rfl (by kernel_rfl) rfl rfl rfl (by decide) (by decide) (by kernel_rfl) ?_
        refine KOps.fieldAddr hp4 ?_
        intro p31 hp31
        refine KOps.load hp31 (hS.rd 2 rfl) rfl ?_
        refine KOps.fieldAddr hp8 ?_
        intro p33 hp33
        refine KOps.load hp33 (hS.rd 0 rfl) rfl ?_
        refine KOps.min ?_
        refine KOps.fieldAddr hp4 ?_
        intro p36 hp36
        refine KOps.load hp36 (hS.rd 2 rfl) rfl ?_
        refine KOps.fieldAddr hp8 ?_
        intro p38 hp38
        refine KOps.load hp38 (hS.rd 0 rfl) rfl ?_
        refine KOps.max ?_
        refine KOps.fieldAddr hp4 ?_
        intro p41 hp41
        refine KOps.store hS rfl (i := 2) rfl hp41 (by first | rfl | assumption) (by first | decide | simp) ?_
        intro h' hS
        simp only [List.set_cons_zero, List.set_cons_succ, Nat.zero_add] at hS
        refine KOps.doneS rfl rfl hp38 (hS.rd 0 rfl) rfl ?_
        refine KOps.fieldAddr hp4 ?_
        intro p42 hp42
        refine KOps.store hS rfl (i := 2) rfl hp42 (by first | rfl | assumption) (by first | decide | simp) ?_
        intro h' hS
        simp only [List.set_cons_zero, List.set_cons_succ, Nat.zero_add] at hS
        refine KOps.done ?_
        refine sqQ.normal ?_
        refine KA.sub (Sub.nil _) ?_
        refine KA.seq ?_
        refine KA.region rfl ?_
        refine KOps.assign ?_
        refine KOps.done ?_
        refine sqQ.normal ?_
        refine KA.ret ?_
        refine fnQ.ret1 ?_
        exact ⟨rfl, L2, hL2, St.cells (sp_u2 (by simpa using c15) (by simpa using c18) (by simpa using c29)) (St.drop (A := [_, _]) hS)⟩
    · intro c18
      refine KA.skip ?_
      refine sqQ.normal ?_
      refine KA.sub (Sub.cons (t := 4) Look.eq (Sub.cons (t := 8) Look.eq (Sub.nil _))) ?_
      refine KA.seq ?_
      refine KA.seq ?_
      refine KA.region rfl ?_
      refine KOps.fieldAddr hp4 ?_
      intro p27 hp27
      refine KOps.load hp27 (hS.rd 2 rfl) rfl ?_
      refine KOps.not ?_
      refine KOps.done ?_
      refine sqQ.normal ?_
      refine KA.sub (Sub.cons (t := 4) Look.eq (Sub.cons (t := 8) Look.eq (Sub.cons (t := 29) Look.eq (Sub.nil _)))) ?_
      refine KA.condB ?_ ?_
      · intro c29
        refine KA.region rfl ?_
        refine KOps.loadAll hS (i := 0) rfl hp8 (by rfl) (by decide) ?_
        refine KOps.storeAll hS rfl (i := 2) rfl hp4 (by first | rfl | (simp [AV.one]; done) | (simp [AV.one]; assumption) | (simp [AV.one, *]; done)) (by rfl) (by rfl) (by decide) ?_
        intro h' hS
        simp only [List.set_cons_zero, List.set_cons_succ, Nat.zero_add] at hS
        refine KOps.done ?_
        refine sqQ.normal ?_
        refine KA.sub (Sub.cons (t := 4) Look.eq (Sub.cons (t := 8) Look.eq (Sub.nil _))) ?_
        refine KA.seq ?_
        refine KA.drawS (c := 11) (r := 8) (t := 3) (a := 38) (d := 39) [] mixed rfl rfl rfl (by kernel_rfl) rfl rfl rfl (by decide) (by decide) (by kernel_rfl) ?_
        refine KOps.fieldAddr hp4 ?_
        intro p31 hp31
        refine KOps.load hp31 (hS.rd 2 rfl) rfl ?_
        refine KOps.fieldAddr hp8 ?_
        intro p33 hp33
        refine KOps.load hp33 (hS.rd 0 rfl) rfl ?_
        refine KOps.min ?_
        refine KOps.fieldAddr hp4 ?_
        intro p36 hp36
        refine KOps.load hp36 (hS.rd 2 rfl) rfl ?_
        refine KOps.fieldAddr hp8 ?_
        intro p38 hp38
        refine KOps.load hp38 (hS.rd 0 rfl) rfl ?_
        refine KOps.max ?_
        refine KOps.fieldAddr hp4 ?_
        intro p41 hp41
        refine KOps.store hS rfl (i := 2) rfl hp41 (by first | rfl | assumption) (by first | decide | simp) ?_
        intro h' hS
        simp only [List.set_cons_zero, List.set_cons_succ, Nat.zero_add] at hS
        refine KOps.doneS rfl rfl hp38 (hS.rd 0 rfl) rfl ?_
        refine KOps.fieldAddr hp4 ?_
        intro p42 hp42
        refine KOps.store hS rfl (i := 2) rfl hp42 (by first | rfl | assumption) (by first | decide | simp) ?_
        intro h' hS
        simp only [List.set_cons_zero, List.set_cons_succ, Nat.zero_add] at hS
        refine KOps.done ?_
        refine sqQ.normal ?_
        refine KA.sub (Sub.nil _) ?_
        refine KA.seq ?_
        refine KA.region rfl ?_
        refine KOps.assign ?_
        refine KOps.done ?_
        refine sqQ.normal ?_
        refine KA.ret ?_
        refine fnQ.ret1 ?_
        exact ⟨rfl, L2, hL2, St.cells (sp_t1 (by simpa using c15) (by simpa using c18) (by simpa using c29)) (St.drop (A := [_, _]) hS)⟩
      · intro c29
        refine KA.skip ?_
        refine sqQ.normal ?_
        refine KA.sub (Sub.cons (t := 4) Look.eq (Sub.cons (t := 8) Look.eq (Sub.nil _))) ?_
        refine KA.seq ?_
        refine KA.drawS (c := 11) (r := 8) (t := 3) (a := 38) (d := 39) [] mixed rfl rfl rfl (by kernel_rfl) rfl rfl rfl (by decide) (by decide) (by kernel_rfl) ?_
        refine KOps.fieldAddr hp4 ?_
        intro p31 hp31
        refine KOps.load hp31 (hS.rd 2 rfl) rfl ?_
        refine KOps.fieldAddr hp8 ?_
        intro p33 hp33
        refine KOps.load hp33 (hS.rd 0 rfl) rfl ?_
        refine KOps.min ?_
        refine KOps.fieldAddr hp4 ?_
        intro p36 hp36
        refine KOps.load hp36 (hS.rd 2 rfl) rfl ?_
        refine KOps.fieldAddr hp8 ?_
        intro p38 hp38
        refine KOps.load hp38 (hS.rd 0 rfl) rfl ?_
        refine KOps.max ?_
        refine KOps.fieldAddr hp4 ?_
        intro p41 hp41
        refine KOps.store hS rfl (i := 2) rfl hp41 (by first | rfl | assumption) (by first | decide | simp) ?_
        intro h' hS
        simp only [List.set_cons_zero, List.set_cons_succ, Nat.zero_add] at hS
        refine KOps.doneS rfl rfl hp38 (hS.rd 0 rfl) rfl ?_
        refine KOps.fieldAddr hp4 ?_
        intro p42 hp42
        refine KOps.store hS rfl (i := 2) rfl hp42 (by first | rfl | assumption) (by first | decide | simp) ?_
        intro h' hS
        simp only [List.set_cons_zero, List.set_cons_succ, Nat.zero_add] at hS
        refine KOps.done ?_
        refine sqQ.normal ?_
        refine KA.sub (Sub.nil _) ?_
        refine KA.seq ?_
        refine KA.region rfl ?_
        refine KOps.assign ?_
        refine KOps.done ?_
        refine sqQ.normal ?_
        refine KA.ret ?_
        refine fnQ.ret1 ?_
        exact ⟨rfl, L2, hL2, St.cells (sp_t2 (by simpa using c15) (by simpa using c18) (by simpa using c29)) (St.drop (A := [_, _]) hS)⟩

end Go.Am

namespace Go.Am
/-- The span while cards are put on the first free square. -/
def Sht.upI (s : Sht) (b : Nat) : Nat → Option (Nat × Nat)
  | 0 => none
  | 1 => s.up1 b false
  | _ => s.uprS b
theorem Sht.up1_le (s : Sht) (b : Nat) (t : Bool) : le2 100 (s.up1 b t) := by
  unfold Sht.up1
  cases s.put b t (s.fz b) with
  | none => trivial
  | some x => 
    have := le2_oneUp (t := t) (s.uprS_le x)
    revert this
    show le2 41 (oneUp t (s.uprS x)) → le2 100 (oneUp t (s.uprS x))
    cases oneUp t (s.uprS x) with
    | none => exact id
    | some p => rintro ⟨h1, h2⟩; exact ⟨by omega, by omega⟩
theorem Sht.upI_le (s : Sht) (b i : Nat) : le2 100 (s.upI b i) := by
  rcases i with _ | _ | i
  · trivial
  · exact s.up1_le b false
  · have := s.uprS_le b
    revert this
    show le2 40 (s.uprS b) → le2 100 (s.uprS b)
    cases s.uprS b with
    | none => exact id
    | some p => rintro ⟨h1, h2⟩; exact ⟨by omega, by omega⟩
theorem Sht.up1_some {s : Sht} {b x : Nat} {t : Bool} (h : s.put b t (s.fz b) = some x) : s.up1 b t = oneUp t (s.uprS x) := by unfold Sht.up1; rw [h]
theorem Sht.up1_none {s : Sht} {b : Nat} {t : Bool} (h : s.put b t (s.fz b) = none) : s.up1 b t = none := by unfold Sht.up1; rw [h]
section
variable {s : Sht} {b : Nat} (hs : s.Ok) (hb : b < 2 ^ s.n) (hf : b ≠ s.full)
include hs hb hf
theorem Sht.upI_step {i x : Nat} (hi : i < 2) (hl : i = 1 → s.l ≠ s.w) (hx : s.put b (decide (i = 1)) (s.fz b) = some x) : s.upI b (i + 1) = both (s.upI b i) (oneUp (decide (i = 1)) (s.uprS x)) := by
  rcases (show i = 0 ∨ i = 1 by omega) with rfl | rfl
  · exact Sht.up1_some hx
  · show s.uprS b = both (s.up1 b false) _
    rw [Sht.uprS_step hs hb hf, if_neg (hl rfl), Sht.up1_some (t := true) hx]
    rfl
theorem Sht.upI_skip {i : Nat} (hi : i < 2) (hl : i = 1 → s.l ≠ s.w) (hx : s.put b (decide (i = 1)) (s.fz b) = none) : s.upI b (i + 1) = s.upI b i := by
  rcases (show i = 0 ∨ i = 1 by omega) with rfl | rfl
  · exact Sht.up1_none hx
  · show s.uprS b = s.up1 b false
    rw [Sht.uprS_step hs hb hf, if_neg (hl rfl), Sht.up1_none (t := true) hx, both_none_right]
theorem Sht.upI_end (hl : s.l = s.w) : s.upI b 2 = s.upI b 1 := by
  show s.uprS b = s.up1 b false
  rw [Sht.uprS_step hs hb hf, if_pos hl, both_none_right]
end
def upI (s : Sht) (b : Nat) (p0 p2 p4 vm : AV) (i : Nat) (F : List Obj) : Prop := ∃ L, OkL s.n s.uprS L ∧ F = [⟨p4, 0, spL (s.upI b i), true⟩, ⟨p0, 0, tbL s, true⟩, ⟨p2, 0, [vm], true⟩, mapO vm (entL (AV.int .u64) spA L)]
theorem upr2_c {h0 h : AHeap} {s : Sht} {b : Nat} {p0 p1 p2 vm : AV} {L : List (Int × Option (Nat × Nat))} {G : List Obj} (hs : s.Ok) (hb : b < 2 ^ s.n) (hf : b ≠ s.full) (hIH : ∀ t x, s.put b t (s.fz b) = some x → UprC s x) (hp0 : AddrOf p0 p0 0 0) (hp1 : AddrOf p1 p1 0 0) (hp2 : AddrOf p2 p2 0 0) (hvm : IsMp vm) (hL : OkL s.n s.uprS L) (hS : St h0 h (⟨p0, 0, tbL s, true⟩ :: ⟨p1, 0, [.int .u64 (b : Int)], true⟩ :: ⟨p2, 0, [vm], true⟩ :: mapO vm (entL (AV.int .u64) spA L) :: G)) : ACalls Go.Proofs.Try.prog 43 [p0, p1, p2] h (fun q h' => ∃ L', OkL s.n s.uprS L' ∧ q = spA (s.uprS b) ∧ St h0 h' (⟨p0, 0, tbL s, true⟩ :: ⟨p1, 0, [.int .u64 (b : Int)], true⟩ :: ⟨p2, 0, [vm], true⟩ :: mapO vm (entL (AV.int .u64) spA L') :: G)) := by
  refine KA.fnH 11 [.cell 3 65] Go.Proofs.Try.func43 rfl (by decide) rfl rfl (Nat.le_of_ble_eq_true rfl) ?_
  have hvo : vm.one = true := by obtain ⟨b, rfl⟩ := hvm; rfl
  show KA _ 11 _ _ [(0, p0), (1, p1), (2, p2)] _
  refine KA.seq ?_
  refine KA.region rfl ?_
  refine KOps.alloc hS ?_
  intro p3 h' hp3 hS
  refine KOps.done ?_
  refine sqQ.normal ?_
  refine KA.seq ?_
  refine KA.region rfl ?_
  refine KOps.buildG (zs := [.int .i64 0, .int .i64 0, .bool false]) (cs := [_, _, _]) (by kernel_rfl) (by rfl) (by kernel_rfl) .nil (by rfl) ?_
  refine KOps.alloc hS ?_
  intro p4 h' hp4 hS
  refine KOps.storeAll hS rfl (i := 0) rfl hp4 (by first | rfl | (simp [AV.one]; done) | (simp [AV.one]; assumption) | (simp [AV.one, *]; done)) (by rfl) (by rfl) (by decide) ?_
  intro h' hS
  simp only [List.set_cons_zero, List.set_cons_succ, Nat.zero_add] at hS
  refine KOps.done ?_
  refine sqQ.normal ?_
  refine KA.sub (Sub.cons (t := 0) Look.eq (Sub.cons (t := 1) Look.eq (Sub.cons (t := 2) Look.eq (Sub.cons (t := 3) Look.eq (Sub.cons (t := 4) Look.eq (Sub.nil _)))))) ?_
  refine KA.seq ?_
  refine KA.region rfl ?_
  refine KOps.loadAll hS (i := 2) rfl hp0 (by rfl) (by decide) ?_
  refine KOps.loadBox hS (i := 3) rfl hp1 ?_
  refine KOps.makeFunc ?_
  refine KOps.call rfl (next_c (fa := 44) (caps := [p0, p2, p4]) (Inv := upI s b p0 p2 p4 vm) (F := [_, _, _, _]) hs hb (Sht.fz_lt hb hf)
      (fun i hi hl x hx {h0 h F G} => by
        rintro ⟨L, hL, rfl⟩ hS
        refine ACalls.mono (upr1_c (hIH _ _ hx) hp0 hp2 hp4 hvm hL (s.upI_le b i) hS) ?_
        rintro q h' ⟨rfl, L', hL', hS'⟩
        exact ⟨true, _, rfl, hS', fun _ => ⟨L', hL', by rw [Sht.upI_step hs hb hf hi hl hx]⟩, fun e => by cases e⟩)
      (fun i hi hl hx F => by
        rintro ⟨L, hL, rfl⟩
        exact ⟨L, hL, by rw [Sht.upI_skip hs hb hf hi hl hx]⟩)
      (fun hl F => by
        rintro ⟨L, hL, rfl⟩
        exact ⟨L, hL, by rw [Sht.upI_end hs hb hf hl]⟩) ⟨L, hL, rfl⟩ (St.pickF (A := [_, _, _, _, _, _]) (A' := [_, _, _, _, _, _]) 6 [0, 2, 4, 5, 1, 3] rfl (by decide) (by decide) rfl hS)) ?_
  rintro _ h9 ⟨rfl, F9, ⟨L2, hL2, rfl⟩, hS9⟩
  have hS0 := (St.pickF (A := [_, _, _, _, _, _]) (A' := [_, _, _, _, _, _]) 6 [0, 4, 1, 5, 2, 3] rfl (by decide) (by decide) rfl hS9)
  clear hS
  have hS := hS0
  clear hS0
  simp only [List.cons_append, List.nil_append] at hS
  refine KOps.done ?_
  refine sqQ.normal ?_
  refine KA.sub (Sub.cons (t := 3) Look.eq (Sub.cons (t := 4) Look.eq (Sub.nil _))) ?_
  refine KA.seq ?_
  refine KA.region rfl ?_
  refine KOps.loadAll hS (i := 0) rfl hp4 (by rfl) (by decide) ?_
  refine KOps.storeAll hS rfl (i := 1) rfl hp3 (by first | rfl | (simp [AV.one]; done) | (simp [AV.one]; assumption) | (simp [AV.one, *]; done)) (by rfl) (by rfl) (by decide) ?_
  intro h' hS
  simp only [List.set_cons_zero, List.set_cons_succ, Nat.zero_add] at hS
  refine KOps.done ?_
  refine sqQ.normal ?_
  refine KA.sub (Sub.cons (t := 3) Look.eq (Sub.nil _)) ?_
  refine KA.ret ?_
  refine fnC.retC hS (i := 1) rfl hp3 (by rfl) (by simp) ?_
  exact ⟨L2, hL2, rfl, St.drop (A := [_, _]) hS⟩

theorem uprAsk_c {h0 h : AHeap} {s : Sht} {b : Nat} {p0 p1 p2 vm : AV} {L : List (Int × Option (Nat × Nat))} {G : List Obj} (hs : s.Ok) (hb : b < 2 ^ s.n) (hf : b ≠ s.full) (hIH : ∀ t x, s.put b t (s.fz b) = some x → UprC s x) (hp0 : AddrOf p0 p0 0 0) (hp1 : AddrOf p1 p1 0 0) (hp2 : AddrOf p2 p2 0 0) (hvm : IsMp vm) (hL : OkL s.n s.uprS L) (hS : St h0 h (⟨p0, 0, tbL s, true⟩ :: ⟨p1, 0, [.int .u64 (b : Int)], true⟩ :: ⟨p2, 0, [vm], true⟩ :: mapO vm (entL (AV.int .u64) spA L) :: G)) : ACalls Go.Proofs.Try.prog 42 [.agg [vm], .int .u64 (b : Int), .fn 43 [p0, p1, p2]] h (fun q h' => ∃ L', OkL s.n s.uprS L' ∧ q = spA (s.uprS b) ∧ St h0 h' (⟨p0, 0, tbL s, true⟩ :: ⟨p1, 0, [.int .u64 (b : Int)], true⟩ :: ⟨p2, 0, [vm], true⟩ :: mapO vm (entL (AV.int .u64) spA L') :: G)) := by
  refine KA.fnH 26 [.cell 6 65] Go.Proofs.Try.func42 rfl (by decide) rfl rfl (Nat.le_of_ble_eq_true rfl) ?_
  have hvo : vm.one = true := by obtain ⟨b, rfl⟩ := hvm; rfl
  show KA _ 26 _ _ [(0, .agg [vm]), (1, .int .u64 (b : Int)), (2, .fn 43 [p0, p1, p2])] _
  refine KA.seq ?_
  refine KA.region rfl ?_
  refine KOps.boxAll hS (by first | rfl | (simp [AV.one]; done) | (simp [AV.one]; assumption) | (simp [AV.one, *]; done)) ?_
  intro p3 h' hp3 hS
  refine KOps.alloc hS ?_
  intro p6 h' hp6 hS
  refine KOps.done ?_
  refine sqQ.normal ?_
  refine KA.sub (Sub.cons (t := 1) Look.eq (Sub.cons (t := 2) Look.eq (Sub.cons (t := 3) Look.eq (Sub.cons (t := 6) Look.eq (Sub.nil _))))) ?_
  refine KA.seq ?_
  refine KA.seq ?_
  refine KA.region rfl ?_
  refine KOps.fieldAddr hp3 ?_
  intro p11 hp11
  refine KOps.load hp11 (hS.rd 1 rfl) rfl ?_
  refine KOps.move ?_
  refine KOps.lookupD2 (kf := AV.int .u64) (vf := spA) (w := none) EvK.eq (St.rdM hS 5 rfl hvm) rfl rfl ?_
  refine KOps.move ?_
  refine KOps.extract ?_
  refine KOps.extract ?_
  refine KOps.alloc hS ?_
  intro p7 h' hp7 hS
  refine KOps.storeAll hS rfl (i := 0) rfl hp7 (by first | rfl | (simp [AV.one]; done) | (simp [AV.one]; assumption) | (simp [AV.one, *]; done)) (by rfl) (by rfl) (by decide) ?_
  intro h' hS
  simp only [List.set_cons_zero, List.set_cons_succ, Nat.zero_add] at hS
  refine KOps.assign ?_
  refine KOps.done ?_
  refine sqQ.normal ?_
  refine KA.sub (Sub.cons (t := 1) Look.eq (Sub.cons (t := 2) Look.eq (Sub.cons (t := 3) Look.eq (Sub.cons (t := 6) Look.eq (Sub.cons (t := 7) Look.eq (Sub.cons (t := 8) Look.eq (Sub.nil _))))))) ?_
  refine KA.seq ?_
  refine KA.region rfl ?_
  refine KOps.move ?_
  refine KOps.done ?_
  refine sqQ.normal ?_
  refine KA.sub (Sub.cons (t := 1) Look.eq (Sub.cons (t := 2) Look.eq (Sub.cons (t := 3) Look.eq (Sub.cons (t := 6) Look.eq (Sub.cons (t := 7) Look.eq (Sub.cons (t := 17) Look.eq (Sub.nil _))))))) ?_
  refine KA.condB ?_ ?_
  · intro c17
    refine KA.seq ?_
    refine KA.region rfl ?_
    refine KOps.loadAll hS (i := 0) rfl hp7 (by rfl) (by decide) ?_
    refine KOps.storeAll hS rfl (i := 1) rfl hp6 (by first | rfl | (simp [AV.one]; done) | (simp [AV.one]; assumption) | (simp [AV.one, *]; done)) (by rfl) (by rfl) (by decide) ?_
    intro h' hS
    simp only [List.set_cons_zero, List.set_cons_succ, Nat.zero_add] at hS
    refine KOps.done ?_
    refine sqQ.normal ?_
    refine KA.sub (Sub.cons (t := 6) Look.eq (Sub.nil _)) ?_
    refine KA.ret ?_
    refine sqQ.ret ?_
    refine fnC.retC hS (i := 1) rfl hp6 (by rfl) (by simp) ?_
    obtain ⟨v, hv⟩ := Option.isSome_iff_exists.1 c17
    rw [hv]
    exact ⟨L, hL, by rw [Option.getD_some, hL b v hb hv], St.drop (A := [_, _, _]) hS⟩
  · intro c17
    refine KA.skip ?_
    refine sqQ.normal ?_
    refine KA.sub (Sub.cons (t := 1) Look.eq (Sub.cons (t := 2) Look.eq (Sub.cons (t := 3) Look.eq (Sub.cons (t := 6) Look.eq (Sub.nil _))))) ?_
    refine KA.seq ?_
    refine KA.region rfl ?_
    refine KOps.move ?_
    refine KOps.call rfl (upr2_c hs hb hf hIH hp0 hp1 hp2 hvm hL (St.pickF (A := [_, _, _, _, _, _, _]) (A' := [_, _, _, _, _, _, _]) 7 [3, 4, 5, 6, 0, 1, 2] rfl (by decide) (by decide) rfl hS)) ?_
    rintro _ h9 ⟨L2, hL2, rfl, hS9⟩
    have hS0 := (St.pickF (A := [_, _, _, _, _, _, _]) (A' := [_, _, _, _, _, _, _]) 7 [4, 5, 6, 0, 1, 2, 3] rfl (by decide) (by decide) rfl hS9)
    clear hS
    have hS := hS0
    clear hS0
    simp only [List.cons_append, List.nil_append] at hS
    refine KOps.alloc hS ?_
    intro p9 h' hp9 hS
    refine KOps.storeAll hS rfl (i := 0) rfl hp9 (by first | rfl | (simp [AV.one]; done) | (simp [AV.one]; assumption) | (simp [AV.one, *]; done)) (by rfl) (by rfl) (by decide) ?_
    intro h' hS
    simp only [List.set_cons_zero, List.set_cons_succ, Nat.zero_add] at hS
    refine KOps.done ?_
    refine sqQ.normal ?_
    refine KA.sub (Sub.cons (t := 1) Look.eq (Sub.cons (t := 3) Look.eq (Sub.cons (t := 6) Look.eq (Sub.cons (t := 9) Look.eq (Sub.nil _))))) ?_
    refine KA.seq ?_
    refine KA.region rfl ?_
    refine KOps.fieldAddr hp3 ?_
    intro p21 hp21
    refine KOps.load hp21 (hS.rd 3 rfl) rfl ?_
    refine KOps.move ?_
    refine KOps.loadAll hS (i := 0) rfl hp9 (by rfl) (by decide) ?_
    refine KOps.mapPutK (kf := AV.int .u64) (vf := spA) (i := 7) (b := s.uprS b) EvK.eq rfl hS hvm rfl rfl ?_
    intro h' hS
    simp only [List.set_cons_zero, List.set_cons_succ, Nat.zero_add] at hS
    refine KOps.done ?_
    refine sqQ.normal ?_
    refine KA.sub (Sub.cons (t := 6) Look.eq (Sub.cons (t := 9) Look.eq (Sub.nil _))) ?_
    refine KA.seq ?_
    refine KA.region rfl ?_
    refine KOps.loadAll hS (i := 0) rfl hp9 (by rfl) (by decide) ?_
    refine KOps.storeAll hS rfl (i := 2) rfl hp6 (by first | rfl | (simp [AV.one]; done) | (simp [AV.one]; assumption) | (simp [AV.one, *]; done)) (by rfl) (by rfl) (by decide) ?_
    intro h' hS
    simp only [List.set_cons_zero, List.set_cons_succ, Nat.zero_add] at hS
    refine KOps.done ?_
    refine sqQ.normal ?_
    refine KA.sub (Sub.cons (t := 6) Look.eq (Sub.nil _)) ?_
    refine KA.ret ?_
    refine fnC.retC hS (i := 2) rfl hp6 (by rfl) (by simp) ?_
    exact ⟨_, hL2.put b, rfl, St.drop (A := [_, _, _, _]) hS⟩

theorem uprN_c {h0 h : AHeap} {s : Sht} {b : Nat} {vm : AV} {L : List (Int × Option (Nat × Nat))} {G : List Obj} (hs : s.Ok) (hb : b < 2 ^ s.n) (hIH : ∀ t x, s.fz b < s.n → s.put b t (s.fz b) = some x → UprC s x) (hvm : IsMp vm) (hL : OkL s.n s.uprS L) (hS : St h0 h (mapO vm (entL (AV.int .u64) spA L) :: G)) : ACalls Go.Proofs.Try.prog 17 [.agg (tbL s), .int .u64 (b : Int), .agg [vm]] h (fun q h' => ∃ L', OkL s.n s.uprS L' ∧ q = spA (s.uprS b) ∧ St h0 h' (mapO vm (entL (AV.int .u64) spA L') :: G)) := by
  refine KA.fnH 16 [.cell 6 65] Go.Proofs.Try.func17 rfl (by decide) rfl rfl (Nat.le_of_ble_eq_true rfl) ?_
  have hvo : vm.one = true := by obtain ⟨b, rfl⟩ := hvm; rfl
  show KA _ 16 _ _ [(0, .agg (tbL s)), (1, .int .u64 (b : Int)), (2, .agg [vm])] _
  refine KA.seq ?_
  refine KA.region rfl ?_
  refine KOps.boxAll hS (by first | rfl | (simp [AV.one]; done) | (simp [AV.one]; assumption) | (simp [AV.one, *]; done)) ?_
  intro p3 h' hp3 hS
  refine KOps.box hS (l := [_]) rfl ?_
  intro p4 h' hp4 hS
  refine KOps.boxAll hS (by first | rfl | (simp [AV.one]; done) | (simp [AV.one]; assumption) | (simp [AV.one, *]; done)) ?_
  intro p5 h' hp5 hS
  refine KOps.alloc hS ?_
  intro p6 h' hp6 hS
  refine KOps.done ?_
  refine sqQ.normal ?_
  refine KA.sub (Sub.cons (t := 3) Look.eq (Sub.cons (t := 4) Look.eq (Sub.cons (t := 5) Look.eq (Sub.cons (t := 6) Look.eq (Sub.nil _))))) ?_
  refine KA.seq ?_
  refine KA.seq ?_
  refine KA.region rfl ?_
  refine KOps.loadBox hS (i := 2) rfl hp4 ?_
  refine KOps.fieldAddr hp3 ?_
  intro p8 hp8
  refine KOps.load hp8 (hS.rd 3 rfl) rfl ?_
  refine KOps.eql ?_
  refine KOps.done ?_
  refine sqQ.normal ?_
  refine KA.sub (Sub.cons (t := 3) Look.eq (Sub.cons (t := 4) Look.eq (Sub.cons (t := 5) Look.eq (Sub.cons (t := 6) Look.eq (Sub.cons (t := 10) Look.eq (Sub.nil _)))))) ?_
  refine KA.condD ?_ ?_
  · intro c10
    have hbf : b = s.full := by omega
    subst hbf
    refine KA.seq ?_
    refine KA.region rfl ?_
    refine KOps.buildG (zs := [.int .i64 0, .int .i64 0, .bool false]) (cs := [_, _, _]) (by kernel_rfl) (by rfl) (by kernel_rfl) (.cons (off := 0) (s := 1) (by kernel_rfl) (AV.cells_one (by first | rfl | assumption)) rfl (by decide) (.cons (off := 1) (s := 1) (by kernel_rfl) (AV.cells_one (by first | rfl | assumption)) rfl (by decide) (.cons (off := 2) (s := 1) (by kernel_rfl) (AV.cells_one (by first | rfl | assumption)) rfl (by decide) .nil))) (by rfl) ?_
    refine KOps.storeAll hS rfl (i := 0) rfl hp6 (by first | rfl | (simp [AV.one]; done) | (simp [AV.one]; assumption) | (simp [AV.one, *]; done)) (by rfl) (by rfl) (by decide) ?_
    intro h' hS
    simp only [List.set_cons_zero, List.set_cons_succ, Nat.zero_add] at hS
    refine KOps.done ?_
    refine sqQ.normal ?_
    refine KA.sub (Sub.cons (t := 6) Look.eq (Sub.nil _)) ?_
    refine KA.ret ?_
    refine sqQ.ret ?_
    refine fnC.retC hS (i := 0) rfl hp6 (by rfl) (by simp) ?_
    exact ⟨L, hL, by rw [Sht.uprS_full]; rfl, St.drop (A := [_, _, _, _]) hS⟩
  · intro c10
    have hf : b ≠ s.full := fun e => c10 (by rw [e])
    refine KA.skip ?_
    refine sqQ.normal ?_
    refine KA.sub (Sub.cons (t := 3) Look.eq (Sub.cons (t := 4) Look.eq (Sub.cons (t := 5) Look.eq (Sub.cons (t := 6) Look.eq (Sub.nil _))))) ?_
    refine KA.seq ?_
    refine KA.region rfl ?_
    refine KOps.loadAll hS (i := 1) rfl hp5 (by rfl) (by decide) ?_
    refine KOps.loadBox hS (i := 2) rfl hp4 ?_
    refine KOps.makeFunc ?_
    refine KOps.call rfl (uprAsk_c hs hb hf (fun t x hx => hIH t x (Sht.fz_lt hb hf) hx) hp3 hp4 hp5 hvm hL (St.pickF (A := [_, _, _, _, _]) (A' := [_, _, _, _, _]) 5 [3, 2, 1, 4, 0] rfl (by decide) (by decide) rfl hS)) ?_
    rintro _ h9 ⟨L2, hL2, rfl, hS9⟩
    have hS0 := (St.pickF (A := [_, _, _, _, _]) (A' := [_, _, _, _, _]) 5 [4, 2, 1, 0, 3] rfl (by decide) (by decide) rfl hS9)
    clear hS
    have hS := hS0
    clear hS0
    simp only [List.cons_append, List.nil_append] at hS
    refine KOps.storeAll hS rfl (i := 0) rfl hp6 (by first | rfl | (simp [AV.one]; done) | (simp [AV.one]; assumption) | (simp [AV.one, *]; done)) (by rfl) (by rfl) (by decide) ?_
    intro h' hS
    simp only [List.set_cons_zero, List.set_cons_succ, Nat.zero_add] at hS
    refine KOps.done ?_
    refine sqQ.normal ?_
    refine KA.sub (Sub.cons (t := 6) Look.eq (Sub.nil _)) ?_
    refine KA.ret ?_
    refine fnC.retC hS (i := 0) rfl hp6 (by rfl) (by simp) ?_
    exact ⟨L2, hL2, rfl, St.drop (A := [_, _, _, _]) hS⟩

theorem upr_c {s : Sht} (hs : s.Ok) : ∀ (d b : Nat), b < 2 ^ s.n → s.n - s.fz b = d → UprC s b := by
  intro d
  induction d using Nat.strongRecOn with
  | _ d ih =>
    intro b hb hd h0 h vm L G hvm hL hS
    refine uprN_c hs hb (fun t x hlt hx => ?_) hvm hL hS
    obtain ⟨h1, h2⟩ := Sht.put_fz hs hb hlt hx
    exact ih (s.n - s.fz x) (by omega) x h1 rfl
end Go.Am

namespace Go.Am
/-- What count does with a board. -/
def CntC (s : Sht) (x : Nat) : Prop := ∀ {h0 h : AHeap} {vm : AV} {L : List (Int × Nat)} {G : List Obj}, IsMp vm → OkL s.n s.cntS L → St h0 h (mapO vm (entL (AV.int .u64) ctA L) :: G) →
  ACalls Go.Proofs.Try.prog 20 [.agg (tbL s), .int .u64 (x : Int), .agg [vm]] h (fun q h' => ∃ L', OkL s.n s.cntS L' ∧ q = ctA (s.cntS x) ∧ St h0 h' (mapO vm (entL (AV.int .u64) ctA L') :: G))
/-- The number while cards are put on the first free square. -/
def Sht.ctI (s : Sht) (b : Nat) : Nat → Nat
  | 0 => 0
  | 1 => s.ct1 b false
  | _ => s.cntS b
theorem Sht.ct1_le (s : Sht) (b : Nat) (t : Bool) : s.ct1 b t ≤ 2 ^ 40 := by
  unfold Sht.ct1
  cases s.put b t (s.fz b) with
  | none => exact Nat.zero_le _
  | some x => exact s.cntS_le x
theorem Sht.ctI_le (s : Sht) (b i : Nat) : s.ctI b i ≤ 2 ^ 40 := by
  rcases i with _ | _ | i
  · exact Nat.zero_le _
  · exact s.ct1_le b false
  · exact s.cntS_le b
theorem Sht.ct1_some {s : Sht} {b x : Nat} {t : Bool} (h : s.put b t (s.fz b) = some x) : s.ct1 b t = s.cntS x := by unfold Sht.ct1; rw [h]; rfl
theorem Sht.ct1_none {s : Sht} {b : Nat} {t : Bool} (h : s.put b t (s.fz b) = none) : s.ct1 b t = 0 := by unfold Sht.ct1; rw [h]; rfl
section
variable {s : Sht} {b : Nat} (hs : s.Ok) (hb : b < 2 ^ s.n) (hf : b ≠ s.full)
include hs hb hf
theorem Sht.ctI_step {i x : Nat} (hi : i < 2) (hl : i = 1 → s.l ≠ s.w) (hx : s.put b (decide (i = 1)) (s.fz b) = some x) : s.ctI b (i + 1) = s.ctI b i + s.cntS x := by
  rcases (show i = 0 ∨ i = 1 by omega) with rfl | rfl
  · show s.ct1 b false = 0 + s.cntS x
    rw [Nat.zero_add]; exact Sht.ct1_some hx
  · show s.cntS b = s.ct1 b false + _
    rw [Sht.cntS_step hs hb hf, if_neg (hl rfl), Sht.ct1_some (t := true) hx]
theorem Sht.ctI_skip {i : Nat} (hi : i < 2) (hl : i = 1 → s.l ≠ s.w) (hx : s.put b (decide (i = 1)) (s.fz b) = none) : s.ctI b (i + 1) = s.ctI b i := by
  rcases (show i = 0 ∨ i = 1 by omega) with rfl | rfl
  · exact Sht.ct1_none hx
  · show s.cntS b = s.ct1 b false
    rw [Sht.cntS_step hs hb hf, if_neg (hl rfl), Sht.ct1_none (t := true) hx, Nat.add_zero]
theorem Sht.ctI_end (hl : s.l = s.w) : s.ctI b 2 = s.ctI b 1 := by
  show s.cntS b = s.ct1 b false
  rw [Sht.cntS_step hs hb hf, if_pos hl, Nat.add_zero]
end
def ctI (s : Sht) (b : Nat) (p0 p2 p4 vm : AV) (i : Nat) (F : List Obj) : Prop := ∃ L, OkL s.n s.cntS L ∧ F = [⟨p4, 0, [ctA (s.ctI b i)], true⟩, ⟨p0, 0, tbL s, true⟩, ⟨p2, 0, [vm], true⟩, mapO vm (entL (AV.int .u64) ctA L)]
theorem cnt1_c {h0 h : AHeap} {s : Sht} {x row col : Nat} {t : Bool} {p0 p2 p4 vm : AV} {o : Nat} {L : List (Int × Nat)} {G : List Obj} (hIH : CntC s x) (hp0 : AddrOf p0 p0 0 0) (hp2 : AddrOf p2 p2 0 0) (hp4 : AddrOf p4 p4 0 0) (hvm : IsMp vm) (hL : OkL s.n s.cntS L) (ho : o ≤ 2 ^ 40) (hS : St h0 h (⟨p4, 0, [ctA (o)], true⟩ :: ⟨p0, 0, tbL s, true⟩ :: ⟨p2, 0, [vm], true⟩ :: mapO vm (entL (AV.int .u64) ctA L) :: G)) : ACalls Go.Proofs.Try.prog 49 [.agg (cdL row col t), .int .u64 (x : Int), p4, p0, p2] h (fun q h' => q = .bool true ∧ ∃ L', OkL s.n s.cntS L' ∧ St h0 h' (⟨p4, 0, [ctA (o + s.cntS x)], true⟩ :: ⟨p0, 0, tbL s, true⟩ :: ⟨p2, 0, [vm], true⟩ :: mapO vm (entL (AV.int .u64) ctA L') :: G)) := by
  refine KA.fn 14 [.tmp 7] Go.Proofs.Try.func49 rfl (by decide) rfl rfl (Nat.le_of_ble_eq_true rfl) ?_
  have hle := s.cntS_le x
  have hvo : vm.one = true := by obtain ⟨b, rfl⟩ := hvm; rfl
  show KA _ 14 _ _ [(0, .agg (cdL row col t)), (1, .int .u64 (x : Int)), (2, p4), (3, p0), (4, p2)] _
  refine KA.seq ?_
  refine KA.region rfl ?_
  refine KOps.boxAll hS (by first | rfl | (simp [AV.one]; done) | (simp [AV.one]; assumption) | (simp [AV.one, *]; done)) ?_
  intro p5 h' hp5 hS
  refine KOps.assign ?_
  refine KOps.done ?_
  refine sqQ.normal ?_
  refine KA.sub (Sub.cons (t := 1) Look.eq (Sub.cons (t := 2) Look.eq (Sub.cons (t := 3) Look.eq (Sub.cons (t := 4) Look.eq (Sub.nil _))))) ?_
  refine KA.seq ?_
  refine KA.drawS (c := 4) (r := 0) (t := 3) (a := 2) (d := 8) [] mixed rfl rfl rfl (by kernel_rfl) rfl rfl rfl (by decide) (by decide) (by kernel_rfl) ?_
  refine KOps.loadBox hS (i := 1) rfl hp4 ?_
  refine KOps.loadAll hS (i := 2) rfl hp0 (by rfl) (by decide) ?_
  refine KOps.move ?_
  refine KOps.loadAll hS (i := 3) rfl hp2 (by rfl) (by decide) ?_
  refine KOps.call rfl (hIH hvm hL (St.pickF (A := [_, _, _, _, _]) (A' := [_, _, _, _, _]) 5 [4, 0, 1, 2, 3] rfl (by decide) (by decide) rfl hS)) ?_
  rintro _ h9 ⟨L2, hL2, rfl, hS9⟩
  have hS0 := (St.pickF (A := [_, _, _, _, _]) (A' := [_, _, _, _, _]) 5 [1, 2, 3, 4, 0] rfl (by decide) (by decide) rfl hS9)
  clear hS
  have hS := hS0
  clear hS0
  simp only [List.cons_append, List.nil_append] at hS
  refine KOps.doneS rfl rfl hp4 (hS.rd 1 rfl) rfl ?_
  refine KOps.add (by first | omega | (simp; omega)) (by first | omega | (simp; omega)) ?_
  refine KOps.storeBox hS rfl (i := 1) rfl hp4 (by first | rfl | assumption) ?_
  intro h' hS
  refine KOps.done ?_
  refine sqQ.normal ?_
  refine KA.sub (Sub.nil _) ?_
  refine KA.seq ?_
  refine KA.region rfl ?_
  refine KOps.assign ?_
  refine KOps.done ?_
  refine sqQ.normal ?_
  refine KA.ret ?_
  refine fnQ.ret1 ?_
  refine ⟨rfl, L2, hL2, St.cells (congrArg (fun z => [AV.int .i64 z]) (Int.natCast_add ..).symm) (St.drop (A := [_]) hS)⟩

theorem cnt2_c {h0 h : AHeap} {s : Sht} {b : Nat} {p0 p1 p2 vm : AV} {L : List (Int × Nat)} {G : List Obj} (hs : s.Ok) (hb : b < 2 ^ s.n) (hf : b ≠ s.full) (hIH : ∀ t x, s.put b t (s.fz b) = some x → CntC s x) (hp0 : AddrOf p0 p0 0 0) (hp1 : AddrOf p1 p1 0 0) (hp2 : AddrOf p2 p2 0 0) (hvm : IsMp vm) (hL : OkL s.n s.cntS L) (hS : St h0 h (⟨p0, 0, tbL s, true⟩ :: ⟨p1, 0, [.int .u64 (b : Int)], true⟩ :: ⟨p2, 0, [vm], true⟩ :: mapO vm (entL (AV.int .u64) ctA L) :: G)) : ACalls Go.Proofs.Try.prog 48 [p0, p1, p2] h (fun q h' => ∃ L', OkL s.n s.cntS L' ∧ q = ctA (s.cntS b) ∧ St h0 h' (⟨p0, 0, tbL s, true⟩ :: ⟨p1, 0, [.int .u64 (b : Int)], true⟩ :: ⟨p2, 0, [vm], true⟩ :: mapO vm (entL (AV.int .u64) ctA L') :: G)) := by
  refine KA.fn 10 [.tmp 3] Go.Proofs.Try.func48 rfl (by decide) rfl rfl (Nat.le_of_ble_eq_true rfl) ?_
  have hvo : vm.one = true := by obtain ⟨b, rfl⟩ := hvm; rfl
  show KA _ 10 _ _ [(0, p0), (1, p1), (2, p2)] _
  refine KA.seq ?_
  refine KA.region rfl ?_
  refine KOps.assign ?_
  refine KOps.done ?_
  refine sqQ.normal ?_
  refine KA.sub (Sub.cons (t := 0) Look.eq (Sub.cons (t := 1) Look.eq (Sub.cons (t := 2) Look.eq (Sub.nil _)))) ?_
  refine KA.seq ?_
  refine KA.region rfl ?_
  refine KOps.alloc hS ?_
  intro p4 h' hp4 hS
  refine KOps.storeBox hS rfl (i := 0) rfl hp4 (by first | rfl | assumption) ?_
  intro h' hS
  refine KOps.done ?_
  refine sqQ.normal ?_
  refine KA.seq ?_
  refine KA.region rfl ?_
  refine KOps.loadAll hS (i := 1) rfl hp0 (by rfl) (by decide) ?_
  refine KOps.loadBox hS (i := 2) rfl hp1 ?_
  refine KOps.makeFunc ?_
  refine KOps.call rfl (next_c (fa := 49) (caps := [p4, p0, p2]) (Inv := ctI s b p0 p2 p4 vm) (F := [_, _, _, _]) hs hb (Sht.fz_lt hb hf)
      (fun i hi hl x hx {h0 h F G} => by
        rintro ⟨L, hL, rfl⟩ hS
        refine ACalls.mono (cnt1_c (hIH _ _ hx) hp0 hp2 hp4 hvm hL (s.ctI_le b i) hS) ?_
        rintro q h' ⟨rfl, L', hL', hS'⟩
        exact ⟨true, _, rfl, hS', fun _ => ⟨L', hL', by rw [Sht.ctI_step hs hb hf hi hl hx]⟩, fun e => by cases e⟩)
      (fun i hi hl hx F => by
        rintro ⟨L, hL, rfl⟩
        exact ⟨L, hL, by rw [Sht.ctI_skip hs hb hf hi hl hx]⟩)
      (fun hl F => by
        rintro ⟨L, hL, rfl⟩
        exact ⟨L, hL, by rw [Sht.ctI_end hs hb hf hl]⟩) ⟨L, hL, rfl⟩ (St.pickF (A := [_, _, _, _, _]) (A' := [_, _, _, _, _]) 5 [0, 1, 3, 4, 2] rfl (by decide) (by decide) rfl hS)) ?_
  rintro _ h9 ⟨rfl, F9, ⟨L2, hL2, rfl⟩, hS9⟩
  have hS0 := (St.pickF (A := [_, _, _, _, _]) (A' := [_, _, _, _, _]) 5 [0, 1, 4, 2, 3] rfl (by decide) (by decide) rfl hS9)
  clear hS
  have hS := hS0
  clear hS0
  simp only [List.cons_append, List.nil_append] at hS
  refine KOps.done ?_
  refine sqQ.normal ?_
  refine KA.sub (Sub.cons (t := 4) Look.eq (Sub.nil _)) ?_
  refine KA.seq ?_
  refine KA.region rfl ?_
  refine KOps.loadBox hS (i := 0) rfl hp4 ?_
  refine KOps.assign ?_
  refine KOps.done ?_
  refine sqQ.normal ?_
  refine KA.sub (Sub.cons (t := 3) Look.eq (Sub.nil _)) ?_
  refine KA.ret ?_
  refine fnQ.ret1 ?_
  exact ⟨L2, hL2, rfl, St.drop (A := [_]) hS⟩

theorem cntAsk_c {h0 h : AHeap} {s : Sht} {b : Nat} {p0 p1 p2 vm : AV} {L : List (Int × Nat)} {G : List Obj} (hs : s.Ok) (hb : b < 2 ^ s.n) (hf : b ≠ s.full) (hIH : ∀ t x, s.put b t (s.fz b) = some x → CntC s x) (hp0 : AddrOf p0 p0 0 0) (hp1 : AddrOf p1 p1 0 0) (hp2 : AddrOf p2 p2 0 0) (hvm : IsMp vm) (hL : OkL s.n s.cntS L) (hS : St h0 h (⟨p0, 0, tbL s, true⟩ :: ⟨p1, 0, [.int .u64 (b : Int)], true⟩ :: ⟨p2, 0, [vm], true⟩ :: mapO vm (entL (AV.int .u64) ctA L) :: G)) : ACalls Go.Proofs.Try.prog 47 [.agg [vm], .int .u64 (b : Int), .fn 48 [p0, p1, p2]] h (fun q h' => ∃ L', OkL s.n s.cntS L' ∧ q = ctA (s.cntS b) ∧ St h0 h' (⟨p0, 0, tbL s, true⟩ :: ⟨p1, 0, [.int .u64 (b : Int)], true⟩ :: ⟨p2, 0, [vm], true⟩ :: mapO vm (entL (AV.int .u64) ctA L') :: G)) := by
  refine KA.fn 26 [.tmp 6] Go.Proofs.Try.func47 rfl (by decide) rfl rfl (Nat.le_of_ble_eq_true rfl) ?_
  have hvo : vm.one = true := by obtain ⟨b, rfl⟩ := hvm; rfl
  show KA _ 26 _ _ [(0, .agg [vm]), (1, .int .u64 (b : Int)), (2, .fn 48 [p0, p1, p2])] _
  refine KA.seq ?_
  refine KA.region rfl ?_
  refine KOps.boxAll hS (by first | rfl | (simp [AV.one]; done) | (simp [AV.one]; assumption) | (simp [AV.one, *]; done)) ?_
  intro p3 h' hp3 hS
  refine KOps.assign ?_
  refine KOps.done ?_
  refine sqQ.normal ?_
  refine KA.sub (Sub.cons (t := 1) Look.eq (Sub.cons (t := 2) Look.eq (Sub.cons (t := 3) Look.eq (Sub.nil _)))) ?_
  refine KA.seq ?_
  refine KA.seq ?_
  refine KA.region rfl ?_
  refine KOps.fieldAddr hp3 ?_
  intro p11 hp11
  refine KOps.load hp11 (hS.rd 0 rfl) rfl ?_
  refine KOps.move ?_
  refine KOps.lookupD2 (kf := AV.int .u64) (vf := ctA) (w := 0) EvK.eq (St.rdM hS 4 rfl hvm) rfl rfl ?_
  refine KOps.move ?_
  refine KOps.extract ?_
  refine KOps.extract ?_
  refine KOps.assign ?_
  refine KOps.assign ?_
  refine KOps.done ?_
  refine sqQ.normal ?_
  refine KA.sub (Sub.cons (t := 1) Look.eq (Sub.cons (t := 2) Look.eq (Sub.cons (t := 3) Look.eq (Sub.cons (t := 7) Look.eq (Sub.cons (t := 8) Look.eq (Sub.nil _)))))) ?_
  refine KA.seq ?_
  refine KA.region rfl ?_
  refine KOps.move ?_
  refine KOps.done ?_
  refine sqQ.normal ?_
  refine KA.sub (Sub.cons (t := 1) Look.eq (Sub.cons (t := 2) Look.eq (Sub.cons (t := 3) Look.eq (Sub.cons (t := 7) Look.eq (Sub.cons (t := 17) Look.eq (Sub.nil _)))))) ?_
  refine KA.condB ?_ ?_
  · intro c17
    refine KA.seq ?_
    refine KA.region rfl ?_
    refine KOps.move ?_
    refine KOps.assign ?_
    refine KOps.done ?_
    refine sqQ.normal ?_
    refine KA.sub (Sub.cons (t := 6) Look.eq (Sub.nil _)) ?_
    refine KA.ret ?_
    refine sqQ.ret ?_
    refine fnQ.ret1 ?_
    obtain ⟨v, hv⟩ := Option.isSome_iff_exists.1 c17
    rw [hv]
    exact ⟨L, hL, by rw [Option.getD_some, hL b v hb hv], St.drop (A := [_]) hS⟩
  · intro c17
    refine KA.skip ?_
    refine sqQ.normal ?_
    refine KA.sub (Sub.cons (t := 1) Look.eq (Sub.cons (t := 2) Look.eq (Sub.cons (t := 3) Look.eq (Sub.nil _)))) ?_
    refine KA.seq ?_
    refine KA.region rfl ?_
    refine KOps.move ?_
    refine KOps.call rfl (cnt2_c hs hb hf hIH hp0 hp1 hp2 hvm hL (St.pickF (A := [_, _, _, _, _]) (A' := [_, _, _, _, _]) 5 [1, 2, 3, 4, 0] rfl (by decide) (by decide) rfl hS)) ?_
    rintro _ h9 ⟨L2, hL2, rfl, hS9⟩
    have hS0 := (St.pickF (A := [_, _, _, _, _]) (A' := [_, _, _, _, _]) 5 [4, 0, 1, 2, 3] rfl (by decide) (by decide) rfl hS9)
    clear hS
    have hS := hS0
    clear hS0
    simp only [List.cons_append, List.nil_append] at hS
    refine KOps.assign ?_
    refine KOps.done ?_
    refine sqQ.normal ?_
    refine KA.sub (Sub.cons (t := 1) Look.eq (Sub.cons (t := 3) Look.eq (Sub.cons (t := 9) Look.eq (Sub.nil _)))) ?_
    refine KA.seq ?_
    refine KA.region rfl ?_
    refine KOps.fieldAddr hp3 ?_
    intro p21 hp21
    refine KOps.load hp21 (hS.rd 0 rfl) rfl ?_
    refine KOps.move ?_
    refine KOps.move ?_
    refine KOps.mapPutK (kf := AV.int .u64) (vf := ctA) (i := 4) (b := s.cntS b) EvK.eq rfl hS hvm rfl rfl ?_
    intro h' hS
    simp only [List.set_cons_zero, List.set_cons_succ, Nat.zero_add] at hS
    refine KOps.done ?_
    refine sqQ.normal ?_
    refine KA.sub (Sub.cons (t := 9) Look.eq (Sub.nil _)) ?_
    refine KA.seq ?_
    refine KA.region rfl ?_
    refine KOps.move ?_
    refine KOps.assign ?_
    refine KOps.done ?_
    refine sqQ.normal ?_
    refine KA.sub (Sub.cons (t := 6) Look.eq (Sub.nil _)) ?_
    refine KA.ret ?_
    refine fnQ.ret1 ?_
    exact ⟨_, hL2.put b, rfl, St.drop (A := [_]) hS⟩

theorem cntN_c {h0 h : AHeap} {s : Sht} {b : Nat} {vm : AV} {L : List (Int × Nat)} {G : List Obj} (hs : s.Ok) (hb : b < 2 ^ s.n) (hIH : ∀ t x, s.fz b < s.n → s.put b t (s.fz b) = some x → CntC s x) (hvm : IsMp vm) (hL : OkL s.n s.cntS L) (hS : St h0 h (mapO vm (entL (AV.int .u64) ctA L) :: G)) : ACalls Go.Proofs.Try.prog 20 [.agg (tbL s), .int .u64 (b : Int), .agg [vm]] h (fun q h' => ∃ L', OkL s.n s.cntS L' ∧ q = ctA (s.cntS b) ∧ St h0 h' (mapO vm (entL (AV.int .u64) ctA L') :: G)) := by
  refine KA.fn 15 [.tmp 6] Go.Proofs.Try.func20 rfl (by decide) rfl rfl (Nat.le_of_ble_eq_true rfl) ?_
  have hvo : vm.one = true := by obtain ⟨b, rfl⟩ := hvm; rfl
  show KA _ 15 _ _ [(0, .agg (tbL s)), (1, .int .u64 (b : Int)), (2, .agg [vm])] _
  refine KA.seq ?_
  refine KA.region rfl ?_
  refine KOps.boxAll hS (by first | rfl | (simp [AV.one]; done) | (simp [AV.one]; assumption) | (simp [AV.one, *]; done)) ?_
  intro p3 h' hp3 hS
  refine KOps.box hS (l := [_]) rfl ?_
  intro p4 h' hp4 hS
  refine KOps.boxAll hS (by first | rfl | (simp [AV.one]; done) | (simp [AV.one]; assumption) | (simp [AV.one, *]; done)) ?_
  intro p5 h' hp5 hS
  refine KOps.assign ?_
  refine KOps.done ?_
  refine sqQ.normal ?_
  refine KA.sub (Sub.cons (t := 3) Look.eq (Sub.cons (t := 4) Look.eq (Sub.cons (t := 5) Look.eq (Sub.nil _)))) ?_
  refine KA.seq ?_
  refine KA.seq ?_
  refine KA.region rfl ?_
  refine KOps.loadBox hS (i := 1) rfl hp4 ?_
  refine KOps.fieldAddr hp3 ?_
  intro p8 hp8
  refine KOps.load hp8 (hS.rd 2 rfl) rfl ?_
  refine KOps.eql ?_
  refine KOps.done ?_
  refine sqQ.normal ?_
  refine KA.sub (Sub.cons (t := 3) Look.eq (Sub.cons (t := 4) Look.eq (Sub.cons (t := 5) Look.eq (Sub.cons (t := 10) Look.eq (Sub.nil _))))) ?_
  refine KA.condD ?_ ?_
  · intro c10
    have hbf : b = s.full := by omega
    subst hbf
    refine KA.seq ?_
    refine KA.region rfl ?_
    refine KOps.assign ?_
    refine KOps.done ?_
    refine sqQ.normal ?_
    refine KA.sub (Sub.cons (t := 6) Look.eq (Sub.nil _)) ?_
    refine KA.ret ?_
    refine sqQ.ret ?_
    refine fnQ.ret1 ?_
    exact ⟨L, hL, by rw [Sht.cntS_full]; rfl, St.drop (A := [_, _, _]) hS⟩
  · intro c10
    have hf : b ≠ s.full := fun e => c10 (by rw [e])
    refine KA.skip ?_
    refine sqQ.normal ?_
    refine KA.sub (Sub.cons (t := 3) Look.eq (Sub.cons (t := 4) Look.eq (Sub.cons (t := 5) Look.eq (Sub.nil _)))) ?_
    refine KA.seq ?_
    refine KA.region rfl ?_
    refine KOps.loadAll hS (i := 0) rfl hp5 (by rfl) (by decide) ?_
    refine KOps.loadBox hS (i := 1) rfl hp4 ?_
    refine KOps.makeFunc ?_
    refine KOps.call rfl (cntAsk_c hs hb hf (fun t x hx => hIH t x (Sht.fz_lt hb hf) hx) hp3 hp4 hp5 hvm hL (St.pickF (A := [_, _, _, _]) (A' := [_, _, _, _]) 4 [2, 1, 0, 3] rfl (by decide) (by decide) rfl hS)) ?_
    rintro _ h9 ⟨L2, hL2, rfl, hS9⟩
    have hS0 := (St.pickF (A := [_, _, _, _]) (A' := [_, _, _, _]) 4 [2, 1, 0, 3] rfl (by decide) (by decide) rfl hS9)
    clear hS
    have hS := hS0
    clear hS0
    simp only [List.cons_append, List.nil_append] at hS
    refine KOps.assign ?_
    refine KOps.done ?_
    refine sqQ.normal ?_
    refine KA.sub (Sub.cons (t := 6) Look.eq (Sub.nil _)) ?_
    refine KA.ret ?_
    refine fnQ.ret1 ?_
    exact ⟨L2, hL2, rfl, St.drop (A := [_, _, _]) hS⟩

theorem cnt_c {s : Sht} (hs : s.Ok) : ∀ (d b : Nat), b < 2 ^ s.n → s.n - s.fz b = d → CntC s b := by
  intro d
  induction d using Nat.strongRecOn with
  | _ d ih =>
    intro b hb hd h0 h vm L G hvm hL hS
    refine cntN_c hs hb (fun t x hlt hx => ?_) hvm hL hS
    obtain ⟨h1, h2⟩ := Sht.put_fz hs hb hlt hx
    exact ih (s.n - s.fz x) (by omega) x h1 rfl
end Go.Am

namespace Go.Am
theorem fnC.retC1 {P : Program} {n a m i b : Nat} {t : TypeId} {K : KF} {h0 h : AHeap} {R : AV → AHeap → Prop} {p v : AV} {xs : List AV} {tip : Bool} {objs : List Obj} (st : St h0 h objs) (hk : objs[i]? = some ⟨p, 0, xs, tip⟩) (ha : AddrOf p p 0 0) [hb : Eqb (Nat.ble n a) false] [hl : Look K a p] [hb2 : Eqb (Nat.ble n b) false] [hl2 : Look K b v] [ht : AgT P t m] (hx : xs.length = m) (hm : 0 < m) (hR : R (.tup [.agg xs, v]) h) : fnC P n [.cell a t, .tmp b] R .ret K h := by
  have hld := Rd.loadAgg (P := P) (t := t) (st.rd i hk) ha hm (by dsimp only; omega)
  refine ⟨.inr rfl, [.agg xs, v], ?_, hR⟩
  simp only [resKH, hb.eq, cond_false, hl.eq, hb2.eq, hl2.eq]
  rw [hld, List.drop_zero, List.take_of_length_le (by dsimp only; omega)]
  rfl
section
variable {P : Program} {n : Nat} {ops : Array Oper} {ex : List Nat} {Q : KF → AHeap → Prop} {k : Nat} {os : List Oper} {K : KF} {h : AHeap} {d : Nat} {ty : TypeId} {pos : String} {after : Array Edge}
theorem KOps.subN {t t' : TypeId} {x y : Operand} {kd : IntKind} {a b : Int} (i j : Nat) [hx : EvK h.globs n K x (.int kd a)] [hy : EvK h.globs n K y (.int kd b)] (ha : a = (i : Int)) (hb : b = (j : Int)) (hle : j ≤ i) (hi : i < topK kd) (hk : KOps P n ops ex Q (k + 1) os ((d, .int kd ((i - j : Nat) : Int)) :: K) h) :
    KOps P n ops ex Q k (⟨some d, .binOp .sub t x y t', ty, pos, after, none⟩ :: os) K h := by
  subst ha hb
  refine KOps.int (.inr (.inr rfl)) ?_ hk
  simp only [aint]
  rw [show (i : Int) - (j : Int) = ((i - j : Nat) : Int) by omega, wrapN (Nat.lt_of_le_of_lt (Nat.sub_le ..) hi)]
theorem KOps.addN {t t' : TypeId} {x y : Operand} {kd : IntKind} {a b : Int} (i j : Nat) [hx : EvK h.globs n K x (.int kd a)] [hy : EvK h.globs n K y (.int kd b)] (ha : a = (i : Int)) (hb : b = (j : Int)) (hi : i + j < topK kd) (hk : KOps P n ops ex Q (k + 1) os ((d, .int kd ((i + j : Nat) : Int)) :: K) h) :
    KOps P n ops ex Q k (⟨some d, .binOp .add t x y t', ty, pos, after, none⟩ :: os) K h := by
  subst ha hb
  refine KOps.int (.inr (.inr rfl)) ?_ hk
  simp only [aint]
  rw [show (i : Int) + (j : Int) = ((i + j : Nat) : Int) by omega, wrapN hi]
theorem KOps.mulN {t t' : TypeId} {x y : Operand} {kd : IntKind} {a b : Int} (i j : Nat) [hx : EvK h.globs n K x (.int kd a)] [hy : EvK h.globs n K y (.int kd b)] (ha : a = (i : Int)) (hb : b = (j : Int)) (hi : i * j < topK kd) (hk : KOps P n ops ex Q (k + 1) os ((d, .int kd ((i * j : Nat) : Int)) :: K) h) :
    KOps P n ops ex Q k (⟨some d, .binOp .mul t x y t', ty, pos, after, none⟩ :: os) K h := by
  subst ha hb
  refine KOps.int (.inr (.inr rfl)) ?_ hk
  simp only [aint]
  rw [show (i : Int) * (j : Int) = ((i * j : Nat) : Int) from (Int.natCast_mul ..).symm, wrapN hi]
end
end Go.Am

namespace Go.Am
theorem blk_shl {w c i : Nat} (hw : w ≤ 6) (hc : c ≤ 6) (hi : i < 6) : blkN w c i <<< c < topK .u64 := by
  rw [Nat.shiftLeft_eq]
  have h1 := blkN_lt w c i
  have h2 : (i - 1) * c ≤ 5 * 6 := Nat.mul_le_mul (by omega) hc
  have h3 : 2 ^ ((i - 1) * c + w) ≤ 2 ^ 36 := Nat.pow_le_pow_right (by decide) (by omega)
  have h4 : 2 ^ c ≤ 2 ^ 6 := Nat.pow_le_pow_right (by decide) hc
  calc blkN w c i * 2 ^ c ≤ 2 ^ 36 * 2 ^ 6 := Nat.mul_le_mul (by omega) h4
    _ < topK .u64 := by decide
theorem pow_ones {w : Nat} (hw : w ≤ 36) : 1 <<< w < topK .u64 := by
  rw [Nat.one_shiftLeft]
  have h4 : 2 ^ w ≤ 2 ^ 36 := Nat.pow_le_pow_right (by decide) hw
  exact Nat.lt_of_le_of_lt h4 (by decide)
theorem pow_ones' {w : Nat} (hw : w ≤ 36) : 2 ^ w - 1 < topK .u64 := by
  have := pow_ones hw
  rw [Nat.one_shiftLeft] at this
  have := Nat.two_pow_pos w
  omega
theorem cutCheck_c {h : AHeap} {s : Sht} (hs : s.Ok) : ACalls Go.Proofs.Try.prog 40 [.agg (shL s)] h (fun q h' => q = .int .i64 0 ∧ Keeps h h') := by
  refine KA.fn 29 [.tmp 2] Go.Proofs.Try.func40 rfl (by decide) rfl rfl (Nat.le_of_ble_eq_true rfl) ?_
  have hS := St.refl h
  have hsr := hs.r
  have hsc := hs.c
  have hsl := hs.l
  have hsw := hs.w
  show KA _ 29 _ _ [(0, .agg (shL s))] _
  refine KA.seq ?_
  refine KA.region rfl ?_
  refine KOps.boxAll hS (by first | rfl | (simp [AV.one]; done) | (simp [AV.one]; assumption) | (simp [AV.one, *]; done)) ?_
  intro p1 h' hp1 hS
  refine KOps.assign ?_
  refine KOps.done ?_
  refine sqQ.normal ?_
  refine KA.sub (Sub.cons (t := 1) Look.eq (Sub.nil _)) ?_
  refine KA.seq ?_
  refine KA.seq ?_
  refine KA.draw [] mixed rfl (by kernel_rfl) ?_
  refine KOps.fieldAddr hp1 ?_
  intro p5 hp5
  refine KOps.load hp5 (hS.rd 0 rfl) rfl ?_
  refine KOps.fieldAddr hp1 ?_
  intro p7 hp7
  refine KOps.load hp7 (hS.rd 0 rfl) rfl ?_
  refine KOps.fieldAddr hp1 ?_
  intro p9 hp9
  refine KOps.load hp9 (hS.rd 0 rfl) rfl ?_
  refine KOps.fieldAddr hp1 ?_
  intro p11 hp11
  refine KOps.load hp11 (hS.rd 0 rfl) rfl ?_
  refine KOps.min4 ?_
  refine KOps.fieldAddr hp1 ?_
  intro p14 hp14
  refine KOps.load hp14 (hS.rd 0 rfl) rfl ?_
  refine KOps.fieldAddr hp1 ?_
  intro p16 hp16
  refine KOps.load hp16 (hS.rd 0 rfl) rfl ?_
  refine KOps.fieldAddr hp1 ?_
  intro p18 hp18
  refine KOps.load hp18 (hS.rd 0 rfl) rfl ?_
  refine KOps.fieldAddr hp1 ?_
  intro p20 hp20
  refine KOps.load hp20 (hS.rd 0 rfl) rfl ?_
  refine KOps.max4 ?_
  refine KOps.assign ?_
  refine KOps.assign ?_
  refine KOps.done ?_
  refine sqQ.normal ?_
  refine KA.sub (Sub.cons (t := 3) Look.eq (Sub.cons (t := 4) Look.eq (Sub.nil _))) ?_
  refine KA.seq ?_
  refine KA.region rfl ?_
  refine KOps.move ?_
  refine KOps.lss ?_
  refine KOps.move ?_
  refine KOps.guardB (dj := 25) rfl rfl false true rfl ?_ ?_
  · intro g25
    have g25 := of_decide_eq_false g25
    refine KOps.move ?_
    refine KOps.guardYes (dj := 25) rfl rfl ?_
    refine KOps.gtr ?_
    refine KOps.pickF ?_
    refine KOps.done ?_
    refine sqQ.normal ?_
    refine KA.sub (Sub.cons (t := 28) Look.eq (Sub.nil _)) ?_
    refine KA.condD ?_ ?_
    · intro c28
      exfalso
      omega
    · intro c28
      refine KA.skip ?_
      refine sqQ.normal ?_
      refine KA.sub (Sub.nil _) ?_
      refine KA.seq ?_
      refine KA.region rfl ?_
      refine KOps.assign ?_
      refine KOps.done ?_
      refine sqQ.normal ?_
      refine KA.ret ?_
      refine fnQ.ret1 ?_
      exact ⟨rfl, hS.keeps⟩
  · intro g25
    have g25 := of_decide_eq_true g25
    exfalso
    omega

theorem block_c {h : AHeap} {hh w c : Nat} (hhh : hh ≤ 6) (hw : w ≤ 6) (hc : c ≤ 6) : ACalls Go.Proofs.Try.prog 41 [.int .i64 (hh : Int), .int .i64 (w : Int), .int .i64 (c : Int)] h (fun q h' => q = .int .u64 (blkN w c hh : Int) ∧ h = h') := by
  refine KA.fn 22 [.tmp 6] Go.Proofs.Try.func41 rfl (by decide) rfl rfl (Nat.le_of_ble_eq_true rfl) ?_
  show KA _ 22 _ _ [(0, .int .i64 (hh : Int)), (1, .int .i64 (w : Int)), (2, .int .i64 (c : Int))] _
  refine KA.seq ?_
  refine KA.region rfl ?_
  refine KOps.assign ?_
  refine KOps.done ?_
  refine sqQ.normal ?_
  refine KA.sub (Sub.cons (t := 0) Look.eq (Sub.cons (t := 1) Look.eq (Sub.cons (t := 2) Look.eq (Sub.nil _)))) ?_
  refine KA.seq ?_
  refine KA.draw [] mixed rfl (by kernel_rfl) ?_
  refine KOps.move ?_
  refine KOps.shlN (1) (w) rfl rfl (by show w ≤ 64; omega) (pow_ones (by omega)) ?_
  refine KOps.subN (1 <<< w) (1) rfl rfl (by rw [Nat.one_shiftLeft]; exact Nat.two_pow_pos w) (pow_ones (by omega)) ?_
  rw [Nat.one_shiftLeft]
  refine KOps.assign ?_
  refine KOps.assign ?_
  refine KOps.done ?_
  refine sqQ.normal ?_
  refine KA.sub (Sub.cons (t := 0) Look.eq (Sub.cons (t := 2) Look.eq (Sub.cons (t := 7) Look.eq (Sub.cons (t := 8) Look.eq (Sub.nil _))))) ?_
  refine KA.seq ?_
  refine KA.seq ?_
  refine KA.region rfl ?_
  refine KOps.move ?_
  refine KOps.move ?_
  refine KOps.done ?_
  refine sqQ.normal ?_
  refine KA.sub (Sub.cons (t := 2) Look.eq (Sub.cons (t := 7) Look.eq (Sub.cons (t := 8) Look.eq (Sub.cons (t := 12) Look.eq (Sub.cons (t := 13) Look.eq (Sub.nil _)))))) ?_
  refine KA.block ?_
  refine KA.loop (X := Nat) (fun i => [(2, .int .i64 (c : Int)), (7, .int .u64 (blkN w c i : Int)), (8, .int .u64 ((2 ^ w - 1 : Nat) : Int)), (12, .int .i64 (hh : Int)), (13, .int .i64 (i : Int))]) (fun i h' => i ≤ hh ∧ h = h') (fun i => hh - i) 0 (by repeat (first | exact Sub.nil _ | refine Sub.cons Look.eq ?_ | refine Sub.cons (Eq.trans Look.eq (congrArg (AV.int _) (by first | omega | (dsimp only; omega)))) ?_)) ?_ ?_
  · exact ⟨Nat.zero_le _, rfl⟩
  rintro i h2 ⟨hi, rfl⟩
  refine KA.seq ?_
  refine KA.region rfl ?_
  refine KOps.lss ?_
  refine KOps.done ?_
  refine sqQ.normal ?_
  refine KA.seq ?_
  refine KA.condD ?_ ?_
  · intro c14
    refine KA.skip ?_
    refine sqQ.normal ?_
    refine KA.sub (Sub.cons (t := 2) Look.eq (Sub.cons (t := 7) Look.eq (Sub.cons (t := 8) Look.eq (Sub.cons (t := 12) Look.eq (Sub.cons (t := 13) Look.eq (Sub.nil _)))))) ?_
    refine KA.seq ?_
    refine KA.block ?_
    refine KA.region rfl ?_
    refine KOps.move ?_
    refine KOps.move ?_
    refine KOps.shlN (blkN w c i) (c) rfl rfl (by show c ≤ 64; omega) (blk_shl hw hc (by omega)) ?_
    refine KOps.move ?_
    refine KOps.orN (blkN w c i <<< c) (2 ^ w - 1) rfl rfl (blk_shl hw hc (by omega)) (pow_ones' (by omega)) ?_
    refine KOps.assign ?_
    refine KOps.done ?_
    refine blQ.normal ?_
    refine sqQ.normal ?_
    refine KA.sub (Sub.cons (t := 2) Look.eq (Sub.cons (t := 7) Look.eq (Sub.cons (t := 8) Look.eq (Sub.cons (t := 12) Look.eq (Sub.cons (t := 13) Look.eq (Sub.nil _)))))) ?_
    refine KA.region rfl ?_
    refine KOps.add (by first | omega | (simp; omega)) (by first | omega | (simp; omega)) ?_
    refine KOps.move ?_
    refine KOps.done ?_
    exact lpQ.normal (i + 1) (by repeat (first | exact Sub.nil _ | refine Sub.cons Look.eq ?_ | refine Sub.cons (Eq.trans Look.eq (congrArg (AV.int _) (by first | omega | (dsimp only; omega)))) ?_)) ⟨by omega, rfl⟩ (by omega)
  · intro c14
    refine KA.exit ?_
    refine sqQ.exit ?_
    refine lpQ.exit ?_
    refine blQ.here ?_
    refine sqQ.normal ?_
    refine KA.sub (Sub.cons (t := 7) Look.eq (Sub.nil _)) ?_
    refine KA.seq ?_
    refine KA.region rfl ?_
    refine KOps.move ?_
    refine KOps.assign ?_
    refine KOps.done ?_
    refine sqQ.normal ?_
    refine KA.sub (Sub.cons (t := 6) Look.eq (Sub.nil _)) ?_
    refine KA.ret ?_
    refine fnQ.ret1 ?_
    obtain rfl : i = hh := by omega
    exact ⟨rfl, rfl⟩

theorem opened_c {h : AHeap} {s : Sht} (hs : s.Ok) : ACalls Go.Proofs.Try.prog 16 [.agg (shL s)] h (fun q h' => q = .tup [.agg (tbL s), .int .i64 0] ∧ Keeps h h') := by
  refine KA.fnH 35 [.cell 2 61, .tmp 3] Go.Proofs.Try.func16 rfl (by decide) rfl rfl (Nat.le_of_ble_eq_true rfl) ?_
  have hS := St.refl h
  have hsr := hs.r
  have hsc := hs.c
  have hsl := hs.l
  have hsw := hs.w
  have hsn := hs.n
  show KA _ 35 _ _ [(0, .agg (shL s))] _
  refine KA.seq ?_
  refine KA.region rfl ?_
  refine KOps.boxAll hS (by first | rfl | (simp [AV.one]; done) | (simp [AV.one]; assumption) | (simp [AV.one, *]; done)) ?_
  intro p1 h' hp1 hS
  refine KOps.alloc hS ?_
  intro p2 h' hp2 hS
  refine KOps.assign ?_
  refine KOps.done ?_
  refine sqQ.normal ?_
  refine KA.sub (Sub.cons (t := 1) Look.eq (Sub.cons (t := 2) Look.eq (Sub.nil _))) ?_
  refine KA.seq ?_
  refine KA.seq ?_
  refine KA.region rfl ?_
  refine KOps.loadAll hS (i := 1) rfl hp1 (by rfl) (by decide) ?_
  refine KOps.call rfl (cutCheck_c hs) ?_
  rintro _ hx ⟨rfl, hK⟩
  have hS0 : St _ _ _ := St.trans hS (St.ofK hK)
  clear hS
  have hS := hS0
  clear hS0
  simp only [List.nil_append] at hS
  refine KOps.assign ?_
  refine KOps.done ?_
  refine sqQ.normal ?_
  refine KA.sub (Sub.cons (t := 1) Look.eq (Sub.cons (t := 2) Look.eq (Sub.cons (t := 4) Look.eq (Sub.nil _)))) ?_
  refine KA.seq ?_
  refine KA.region rfl ?_
  refine KOps.move ?_
  refine KOps.neq ?_
  refine KOps.done ?_
  refine sqQ.normal ?_
  refine KA.sub (Sub.cons (t := 1) Look.eq (Sub.cons (t := 2) Look.eq (Sub.cons (t := 4) Look.eq (Sub.cons (t := 8) Look.eq (Sub.nil _))))) ?_
  refine KA.condN ?_ ?_
  · intro c8
    exact absurd rfl c8
  · intro c8
    refine KA.skip ?_
    refine sqQ.normal ?_
    refine KA.sub (Sub.cons (t := 1) Look.eq (Sub.cons (t := 2) Look.eq (Sub.nil _))) ?_
    refine KA.seq ?_
    refine KA.draw [7, 14] mixed rfl (by kernel_rfl) ?_
    refine KOps.loadAll hS (i := 1) rfl hp1 (by rfl) (by decide) ?_
    refine KOps.fieldAddr hp1 ?_
    intro p12 hp12
    refine KOps.load hp12 (hS.rd 1 rfl) rfl ?_
    refine KOps.fieldAddr hp1 ?_
    intro p14 hp14
    refine KOps.load hp14 (hS.rd 1 rfl) rfl ?_
    refine KOps.fieldAddr hp1 ?_
    intro p16 hp16
    refine KOps.load hp16 (hS.rd 1 rfl) rfl ?_
    refine KOps.callK (by rintro _ _ ⟨_, rfl⟩; exact Keeps.refl _) (block_c (by omega) (by omega) (by omega)) ?_
    rintro _ _ ⟨rfl, rfl⟩
    refine KOps.fieldAddr hp1 ?_
    intro p19 hp19
    refine KOps.load hp19 (hS.rd 1 rfl) rfl ?_
    refine KOps.fieldAddr hp1 ?_
    intro p21 hp21
    refine KOps.load hp21 (hS.rd 1 rfl) rfl ?_
    refine KOps.fieldAddr hp1 ?_
    intro p23 hp23
    refine KOps.load hp23 (hS.rd 1 rfl) rfl ?_
    refine KOps.callK (by rintro _ _ ⟨_, rfl⟩; exact Keeps.refl _) (block_c (by omega) (by omega) (by omega)) ?_
    rintro _ _ ⟨rfl, rfl⟩
    refine KOps.buildG (zs := [.int .u64 0, .int .u64 0]) (cs := [_, _]) (by kernel_rfl) (by rfl) (by kernel_rfl) (.cons (off := 0) (s := 1) (by kernel_rfl) (AV.cells_one (by first | rfl | assumption)) rfl (by decide) (.cons (off := 1) (s := 1) (by kernel_rfl) (AV.cells_one (by first | rfl | assumption)) rfl (by decide) .nil)) (by rfl) ?_
    refine KOps.fieldAddr hp1 ?_
    intro p27 hp27
    refine KOps.load hp27 (hS.rd 1 rfl) rfl ?_
    refine KOps.fieldAddr hp1 ?_
    intro p29 hp29
    refine KOps.load hp29 (hS.rd 1 rfl) rfl ?_
    refine KOps.mulN (s.r) (s.c) rfl rfl (Nat.lt_of_le_of_lt hsn.2 (by decide)) ?_
    refine KOps.shlN (1) (s.n) rfl rfl (by show s.n ≤ 64; omega) (pow_ones (by omega)) ?_
    refine KOps.subN (1 <<< s.n) (1) rfl rfl (by rw [Nat.one_shiftLeft]; exact Nat.two_pow_pos _) (pow_ones (by omega)) ?_
    rw [Nat.one_shiftLeft]
    refine KOps.buildG (zs := [.int .i64 0, .int .i64 0, .int .i64 0, .int .i64 0, .int .u64 0, .int .u64 0, .int .u64 0]) (cs := [_, _, _, _, _, _, _]) (by kernel_rfl) (by rfl) (by kernel_rfl) (.cons (off := 0) (s := 4) (by kernel_rfl) (cells_agg (by first | rfl | (simp [AV.one]; done) | (simp [AV.one, *]; done))) rfl (by decide) (.cons (off := 4) (s := 2) (by kernel_rfl) (cells_agg (by first | rfl | (simp [AV.one]; done) | (simp [AV.one, *]; done))) rfl (by decide) (.cons (off := 6) (s := 1) (by kernel_rfl) (AV.cells_one (by first | rfl | assumption)) rfl (by decide) .nil))) (by rfl) ?_
    refine KOps.storeAll hS rfl (i := 0) rfl hp2 (by first | rfl | (simp [AV.one]; done) | (simp [AV.one]; assumption) | (simp [AV.one, *]; done)) (by rfl) (by rfl) (by decide) ?_
    intro h' hS
    simp only [List.set_cons_zero, List.set_cons_succ, Nat.zero_add] at hS
    refine KOps.assign ?_
    refine KOps.done ?_
    refine sqQ.normal ?_
    refine KA.sub (Sub.cons (t := 2) Look.eq (Sub.cons (t := 3) Look.eq (Sub.nil _))) ?_
    refine KA.ret ?_
    refine fnC.retC1 hS (i := 0) rfl hp2 (by rfl) (by simp) ?_
    exact ⟨rfl, hS.keeps⟩

theorem uprightP_c {h : AHeap} {s : Sht} (hs : s.Ok) : ACalls Go.Proofs.Try.prog 5 [.agg (shL s)] h (fun q h' => q = .tup [.int .i64 (((s.uprS 0).getD (0, 0)).1 : Int), .int .i64 (((s.uprS 0).getD (0, 0)).2 : Int), .int .i64 (if (s.uprS 0).isSome = true then 0 else 12)] ∧ Keeps h h') := by
  refine KA.fn 26 [.tmp 2, .tmp 3, .tmp 4] Go.Proofs.Try.func5 rfl (by decide) rfl rfl (Nat.le_of_ble_eq_true rfl) ?_
  have hS := St.refl h
  show KA _ 26 _ _ [(0, .agg (shL s))] _
  refine KA.seq ?_
  refine KA.region rfl ?_
  refine KOps.boxAll hS (by first | rfl | (simp [AV.one]; done) | (simp [AV.one]; assumption) | (simp [AV.one, *]; done)) ?_
  intro p1 h' hp1 hS
  refine KOps.assign ?_
  refine KOps.assign ?_
  refine KOps.assign ?_
  refine KOps.done ?_
  refine sqQ.normal ?_
  refine KA.sub (Sub.cons (t := 1) Look.eq (Sub.nil _)) ?_
  refine KA.seq ?_
  refine KA.region rfl ?_
  refine KOps.loadAll hS (i := 0) rfl hp1 (by rfl) (by decide) ?_
  refine KOps.call rfl (opened_c hs) ?_
  rintro _ hx ⟨rfl, hK⟩
  have hS0 : St _ _ _ := St.trans hS (St.ofK hK)
  clear hS
  have hS := hS0
  clear hS0
  simp only [List.nil_append] at hS
  refine KOps.move ?_
  refine KOps.extract ?_
  refine KOps.extract ?_
  refine KOps.alloc hS ?_
  intro p5 h' hp5 hS
  refine KOps.storeAll hS rfl (i := 0) rfl hp5 (by first | rfl | (simp [AV.one]; done) | (simp [AV.one]; assumption) | (simp [AV.one, *]; done)) (by rfl) (by rfl) (by decide) ?_
  intro h' hS
  simp only [List.set_cons_zero, List.set_cons_succ, Nat.zero_add] at hS
  refine KOps.assign ?_
  refine KOps.done ?_
  refine sqQ.normal ?_
  refine KA.sub (Sub.cons (t := 4) Look.eq (Sub.cons (t := 5) Look.eq (Sub.nil _))) ?_
  refine KA.seq ?_
  refine KA.seq ?_
  refine KA.region rfl ?_
  refine KOps.move ?_
  refine KOps.neq ?_
  refine KOps.done ?_
  refine sqQ.normal ?_
  refine KA.sub (Sub.cons (t := 4) Look.eq (Sub.cons (t := 5) Look.eq (Sub.cons (t := 13) Look.eq (Sub.nil _)))) ?_
  refine KA.condN ?_ ?_
  · intro c13
    exact absurd rfl c13
  · intro c13
    refine KA.skip ?_
    refine sqQ.normal ?_
    refine KA.sub (Sub.cons (t := 5) Look.eq (Sub.nil _)) ?_
    refine KA.seq ?_
    refine KA.region rfl ?_
    refine KOps.loadAll hS (i := 0) rfl hp5 (by rfl) (by decide) ?_
    refine KOps.makeMap hS rfl ?_
    intro v16 h' hv16 hS
    have hv16o : v16.one = true := by obtain ⟨_, rfl⟩ := hv16; rfl
    refine KOps.buildG (zs := [.nilm]) (cs := [_]) (by kernel_rfl) (by rfl) (by kernel_rfl) (.cons (off := 0) (s := 1) (by kernel_rfl) (AV.cells_one (by first | rfl | assumption)) rfl (by decide) .nil) (by rfl) ?_
    refine KOps.call rfl (upr_c hs _ 0 (Nat.two_pow_pos _) rfl hv16 OkL.nil hS) ?_
    rintro _ h9 ⟨L2, hL2, rfl, hS9⟩
    have hS0 := hS9
    clear hS
    have hS := hS0
    clear hS0
    refine KOps.alloc hS ?_
    intro p6 h' hp6 hS
    refine KOps.storeAll hS rfl (i := 0) rfl hp6 (by first | rfl | (simp [AV.one]; done) | (simp [AV.one]; assumption) | (simp [AV.one, *]; done)) (by rfl) (by rfl) (by decide) ?_
    intro h' hS
    simp only [List.set_cons_zero, List.set_cons_succ, Nat.zero_add] at hS
    refine KOps.done ?_
    refine sqQ.normal ?_
    refine KA.sub (Sub.cons (t := 6) Look.eq (Sub.nil _)) ?_
    refine KA.seq ?_
    refine KA.seq ?_
    refine KA.region rfl ?_
    refine KOps.fieldAddr hp6 ?_
    intro p19 hp19
    refine KOps.load hp19 (hS.rd 0 rfl) rfl ?_
    refine KOps.not ?_
    refine KOps.done ?_
    refine sqQ.normal ?_
    refine KA.sub (Sub.cons (t := 6) Look.eq (Sub.cons (t := 21) Look.eq (Sub.nil _))) ?_
    refine KA.condB ?_ ?_
    · intro c21
      have hno : s.uprS 0 = none := by simpa using c21
      refine KA.seq ?_
      refine KA.region rfl ?_
      refine KOps.assign ?_
      refine KOps.assign ?_
      refine KOps.assign ?_
      refine KOps.done ?_
      refine sqQ.normal ?_
      refine KA.sub (Sub.cons (t := 2) Look.eq (Sub.cons (t := 3) Look.eq (Sub.cons (t := 4) Look.eq (Sub.nil _)))) ?_
      refine KA.ret ?_
      refine sqQ.ret ?_
      refine fnQ.retN ?_
      rw [hno]
      exact ⟨rfl, hS.keeps⟩
    · intro c21
      have hso : (s.uprS 0).isSome = true := by simpa using c21
      refine KA.skip ?_
      refine sqQ.normal ?_
      refine KA.sub (Sub.cons (t := 6) Look.eq (Sub.nil _)) ?_
      refine KA.seq ?_
      refine KA.draw [] mixed rfl (by kernel_rfl) ?_
      refine KOps.fieldAddr hp6 ?_
      intro p22 hp22
      refine KOps.load hp22 (hS.rd 0 rfl) rfl ?_
      refine KOps.fieldAddr hp6 ?_
      intro p24 hp24
      refine KOps.load hp24 (hS.rd 0 rfl) rfl ?_
      refine KOps.assign ?_
      refine KOps.assign ?_
      refine KOps.assign ?_
      refine KOps.done ?_
      refine sqQ.normal ?_
      refine KA.sub (Sub.cons (t := 2) Look.eq (Sub.cons (t := 3) Look.eq (Sub.cons (t := 4) Look.eq (Sub.nil _)))) ?_
      refine KA.ret ?_
      refine fnQ.retN ?_
      rw [if_pos hso]
      exact ⟨rfl, hS.keeps⟩

theorem ways_c {h : AHeap} {s : Sht} (hs : s.Ok) : ACalls Go.Proofs.Try.prog 50 [.agg (tbL s)] h (fun q h' => q = ctA (s.cntS 0) ∧ Keeps h h') := by
  refine KA.fn 7 [.tmp 2] Go.Proofs.Try.func50 rfl (by decide) rfl rfl (Nat.le_of_ble_eq_true rfl) ?_
  have hS := St.refl h
  show KA _ 7 _ _ [(0, .agg (tbL s))] _
  refine KA.seq ?_
  refine KA.region rfl ?_
  refine KOps.boxAll hS (by first | rfl | (simp [AV.one]; done) | (simp [AV.one]; assumption) | (simp [AV.one, *]; done)) ?_
  intro p1 h' hp1 hS
  refine KOps.assign ?_
  refine KOps.done ?_
  refine sqQ.normal ?_
  refine KA.sub (Sub.cons (t := 1) Look.eq (Sub.nil _)) ?_
  refine KA.seq ?_
  refine KA.region rfl ?_
  refine KOps.loadAll hS (i := 0) rfl hp1 (by rfl) (by decide) ?_
  refine KOps.makeMap hS rfl ?_
  intro v4 h' hv4 hS
  have hv4o : v4.one = true := by obtain ⟨_, rfl⟩ := hv4; rfl
  refine KOps.buildG (zs := [.nilm]) (cs := [_]) (by kernel_rfl) (by rfl) (by kernel_rfl) (.cons (off := 0) (s := 1) (by kernel_rfl) (AV.cells_one (by first | rfl | assumption)) rfl (by decide) .nil) (by rfl) ?_
  refine KOps.call rfl (cnt_c hs _ 0 (Nat.two_pow_pos _) rfl hv4 OkL.nil hS) ?_
  rintro _ h9 ⟨L2, hL2, rfl, hS9⟩
  have hS0 := hS9
  clear hS
  have hS := hS0
  clear hS0
  refine KOps.assign ?_
  refine KOps.done ?_
  refine sqQ.normal ?_
  refine KA.sub (Sub.cons (t := 2) Look.eq (Sub.nil _)) ?_
  refine KA.ret ?_
  refine fnQ.ret1 ?_
  exact ⟨rfl, hS.keeps⟩

theorem cutCount_c {h : AHeap} {s : Sht} (hs : s.Ok) : ACalls Go.Proofs.Try.prog 21 [.agg (shL s)] h (fun q h' => q = .tup [ctA (s.cntS 0), .int .i64 0] ∧ Keeps h h') := by
  refine KA.fn 16 [.tmp 2, .tmp 3] Go.Proofs.Try.func21 rfl (by decide) rfl rfl (Nat.le_of_ble_eq_true rfl) ?_
  have hS := St.refl h
  show KA _ 16 _ _ [(0, .agg (shL s))] _
  refine KA.seq ?_
  refine KA.region rfl ?_
  refine KOps.boxAll hS (by first | rfl | (simp [AV.one]; done) | (simp [AV.one]; assumption) | (simp [AV.one, *]; done)) ?_
  intro p1 h' hp1 hS
  refine KOps.assign ?_
  refine KOps.assign ?_
  refine KOps.done ?_
  refine sqQ.normal ?_
  refine KA.sub (Sub.cons (t := 1) Look.eq (Sub.nil _)) ?_
  refine KA.seq ?_
  refine KA.region rfl ?_
  refine KOps.loadAll hS (i := 0) rfl hp1 (by rfl) (by decide) ?_
  refine KOps.call rfl (opened_c hs) ?_
  rintro _ hx ⟨rfl, hK⟩
  have hS0 : St _ _ _ := St.trans hS (St.ofK hK)
  clear hS
  have hS := hS0
  clear hS0
  simp only [List.nil_append] at hS
  refine KOps.move ?_
  refine KOps.extract ?_
  refine KOps.extract ?_
  refine KOps.alloc hS ?_
  intro p4 h' hp4 hS
  refine KOps.storeAll hS rfl (i := 0) rfl hp4 (by first | rfl | (simp [AV.one]; done) | (simp [AV.one]; assumption) | (simp [AV.one, *]; done)) (by rfl) (by rfl) (by decide) ?_
  intro h' hS
  simp only [List.set_cons_zero, List.set_cons_succ, Nat.zero_add] at hS
  refine KOps.assign ?_
  refine KOps.done ?_
  refine sqQ.normal ?_
  refine KA.sub (Sub.cons (t := 4) Look.eq (Sub.cons (t := 5) Look.eq (Sub.nil _))) ?_
  refine KA.seq ?_
  refine KA.seq ?_
  refine KA.region rfl ?_
  refine KOps.move ?_
  refine KOps.neq ?_
  refine KOps.done ?_
  refine sqQ.normal ?_
  refine KA.sub (Sub.cons (t := 4) Look.eq (Sub.cons (t := 5) Look.eq (Sub.cons (t := 12) Look.eq (Sub.nil _)))) ?_
  refine KA.condN ?_ ?_
  · intro c12
    exact absurd rfl c12
  · intro c12
    refine KA.skip ?_
    refine sqQ.normal ?_
    refine KA.sub (Sub.cons (t := 4) Look.eq (Sub.nil _)) ?_
    refine KA.seq ?_
    refine KA.region rfl ?_
    refine KOps.loadAll hS (i := 0) rfl hp4 (by rfl) (by decide) ?_
    refine KOps.call rfl (ways_c hs) ?_
    rintro _ hx ⟨rfl, hK⟩
    have hS0 : St _ _ _ := St.trans hS (St.ofK hK)
    clear hS
    have hS := hS0
    clear hS0
    simp only [List.nil_append] at hS
    refine KOps.assign ?_
    refine KOps.assign ?_
    refine KOps.done ?_
    refine sqQ.normal ?_
    refine KA.sub (Sub.cons (t := 2) Look.eq (Sub.cons (t := 3) Look.eq (Sub.nil _))) ?_
    refine KA.ret ?_
    refine fnQ.retN ?_
    exact ⟨rfl, hS.keeps⟩

end Go.Am

namespace Go.Am
/-- A card as cells: its first square, and whether it is turned. -/
def cdF (c : Nat) (p : Nat × Bool) : List AV := cdL (p.1 / c) (p.1 % c) p.2
theorem cdF_len {c : Nat} (p : Nat × Bool) : (cdF c p).length = 3 := rfl
/-- No card that stands so leads to a filling. -/
def Sht.nof (s : Sht) (b : Nat) (t : Bool) : Prop := ∀ x, s.put b t (s.fz b) = some x → s.cntS x = 0
theorem Sht.nof_up {s : Sht} {b : Nat} {t : Bool} : s.nof b t ↔ s.up1 b t = none := by
  unfold Sht.nof Sht.up1
  cases s.put b t (s.fz b) with
  | none => simp
  | some x => simp only [Option.some.injEq, forall_eq', Sht.cntS_zero, oneUp_none]
/-- The card that is put. -/
def Sht.Goes (s : Sht) (b : Nat) (t : Bool) (x : Nat) : Prop := s.put b t (s.fz b) = some x ∧ s.cntS x ≠ 0 ∧ (t = true → s.l ≠ s.w ∧ s.nof b false)
theorem Sht.Goes.some {s : Sht} (h : s.Ok) {b x : Nat} {t : Bool} (hb : b < 2 ^ s.n) (hf : b ≠ s.full) (g : s.Goes b t x) : s.uprS b ≠ none := by
  obtain ⟨h1, h2, h3⟩ := g
  have hu : s.up1 b t ≠ none := fun e => h2 (Sht.nof_up.2 e x h1)
  rw [Sht.uprS_step h hb hf]
  intro e
  obtain ⟨e1, e2⟩ := both_none.1 e
  cases t with
  | false => exact hu e1
  | true => rw [if_neg (h3 rfl).1] at e2; exact hu e2
theorem Sht.stuck {s : Sht} (h : s.Ok) {b : Nat} (hb : b < 2 ^ s.n) (hf : b ≠ s.full) (h1 : s.nof b false) (h2 : s.l ≠ s.w → s.nof b true) : s.uprS b = none := by
  rw [Sht.uprS_step h hb hf, Sht.nof_up.1 h1]
  by_cases hl : s.l = s.w
  · rw [if_pos hl]; rfl
  · rw [if_neg hl, Sht.nof_up.1 (h2 hl)]; rfl
theorem Sht.Goes.fill {s : Sht} (h : s.Ok) {b x f : Nat} {t : Bool} (hb : b < 2 ^ s.n) (hf : b ≠ s.full) (hn : s.n - s.fz b ≤ f + 1) (g : s.Goes b t x) (hn40 : s.n ≤ 40) : s.fill (f + 1) b = (s.fz b, t) :: s.fill f x := by
  obtain ⟨h1, h2, h3⟩ := g
  have hlt := Sht.fz_lt hb hf
  have key : ∀ {t y}, s.put b t (s.fz b) = .some y → s.upr f y = s.uprS y := fun {t y} hy => by
    obtain ⟨q1, q2⟩ := Sht.put_fz h hb hlt hy
    exact Sht.upr_fuel h (s.n - s.fz y) y q1 rfl _ _ (by omega) (by omega)
  have e : s.fill (f + 1) b = (match s.put b false (s.fz b) with
      | .some x => if (s.upr f x).isSome = true then (s.fz b, false) :: s.fill f x else
          (match s.put b true (s.fz b) with | .some y => (s.fz b, true) :: s.fill f y | none => [])
      | none => match s.put b true (s.fz b) with | .some y => (s.fz b, true) :: s.fill f y | none => []) := by
    rw [Sht.fill, if_neg hf]; rfl
  rw [e]
  cases t with
  | false =>
    rw [h1]
    simp only
    rw [key h1, if_pos]
    rw [Option.isSome_iff_ne_none]
    exact fun q => h2 ((s.cntS_zero x).2 q)
  | true =>
    have hno := (h3 rfl).2
    cases hp : s.put b false (s.fz b) with
    | none => simp only; rw [h1]
    | some y =>
      simp only
      have hy : s.uprS y = none := (s.cntS_zero y).1 (hno y hp)
      rw [key hp, hy, h1]
      rfl
theorem Sht.fill_full {s : Sht} (f : Nat) : s.fill f s.full = [] := by
  cases f with
  | zero => rfl
  | succ f => rw [Sht.fill, if_pos rfl]
/-- A state of the search, after some tries. -/
def Sht.tried (s : Sht) (b : Nat) (l : List (Nat × Bool)) : Nat → List (Nat × Bool) → Nat → Bool → Prop
  | 0, l', b', d' => l' = l ∧ b' = b ∧ d' = true
  | 1, l', b', d' => (l' = l ∧ b' = b ∧ d' = true) ∧ s.nof b false
  | _, l', b', d' => ((l' = l ∧ b' = b ∧ d' = true) ∧ s.nof b false ∧ (s.l ≠ s.w → s.nof b true)) ∨ ∃ t x, s.Goes b t x ∧ l' = l ++ [(s.fz b, t)] ∧ b' = x ∧ d' = false
section
variable {s : Sht} {b : Nat} {l l' : List (Nat × Bool)} {b' : Nat} {d' : Bool} {i : Nat}
theorem Sht.tried_is (h : s.tried b l i l' b' d') (hi : i < 2) : l' = l ∧ b' = b ∧ d' = true := by
  rcases (show i = 0 ∨ i = 1 by omega) with rfl | rfl
  · exact h
  · exact h.1
theorem Sht.tried_next (h : s.tried b l i l' b' d') (hi : i < 2) (hl : i = 1 → s.l ≠ s.w) (hno : s.nof b (decide (i = 1))) : s.tried b l (i + 1) l' b' d' := by
  rcases (show i = 0 ∨ i = 1 by omega) with rfl | rfl
  · exact ⟨h, hno⟩
  · exact .inl ⟨h.1, h.2, fun _ => hno⟩
theorem Sht.tried_end (h : s.tried b l 1 l' b' d') (hl : s.l = s.w) : s.tried b l 2 l' b' d' := .inl ⟨h.1, h.2, fun q => absurd hl q⟩
theorem Sht.tried_goes (h : s.tried b l i l' b' d') {x : Nat} (hi : i < 2) (hl : i = 1 → s.l ≠ s.w) (hx : s.put b (decide (i = 1)) (s.fz b) = some x) (hc : s.cntS x ≠ 0) : s.tried b l 2 (l ++ [(s.fz b, decide (i = 1))]) x false := by
  refine .inr ⟨_, x, ⟨hx, hc, fun q => ?_⟩, rfl, rfl, rfl⟩
  have hi1 : i = 1 := of_decide_eq_true q
  subst hi1
  exact ⟨hl rfl, h.2⟩
end
end Go.Am
