/-
  Layer 01: spans and open ways are what all flows say.
  Conditions: none.
-/
import Derived.Test.YtildfacbjdhbnaaDoorPp
namespace Go.Am
section
variable {P : Program} {n : Nat} {ops : Array Oper} {ex : List Nat} {Q : KF → AHeap → Prop} {k : Nat} {os : List Oper} {K : KF} {h : AHeap} {d : Nat} {ty : TypeId} {pos : String} {after : Array Edge}
/-- A place of an array that is a value. -/
theorem KOps.indexG {x ix : Operand} {t e : TypeId} {m : Nat} {kd : IntKind} {i : Int} {j : Nat} {xs : List AV} {v : AV} [hx : EvK h.globs n K x (.agg xs)] [hi : EvK h.globs n K ix (.int kd i)] (ht : arrA P t = some (m, e)) [hs : ScT P e] (hj : i = (j : Int)) (hlt : j < m) (hv : xs[j]? = some v)
    (hk : KOps P n ops ex Q (k + 1) os ((d, v) :: K) h) : KOps P n ops ex Q k (⟨some d, .index t x ix, ty, pos, after, none⟩ :: os) K h := by
  subst hj
  refine KOps.pure rfl (v := v) ?_ hk
  simp only [apure, hx.eq, hi.eq, aindex, ht, hs.sz, apart, hs.sc, Option.bind_eq_bind, Option.bind_some]
  rw [if_pos ⟨by omega, by omega⟩, Int.toNat_natCast, Nat.mul_one, if_neg (by decide)]
  exact hv
theorem KOps.eqlBT {t t' : TypeId} {x y : Operand} {a b : Bool} [hx : EvK h.globs n K x (.bool a)] [hy : EvK h.globs n K y (.bool b)] (ht : isBoolA P t = true) (hab : a = b) (hk : KOps P n ops ex Q (k + 1) os ((d, .bool true) :: K) h) : KOps P n ops ex Q k (⟨some d, .binOp .eql t x y t', ty, pos, after, none⟩ :: os) K h := KOps.eqlB ht (by subst hab; rw [beq_self_eq_true]; exact hk)
end
theorem ask_in {r : Nat} {ws : List W} (h : agreeE (r : Int) ws = 0) (hB : BOk (r : Int) ws) {i : Nat} (hi : i < ws.length) : askE (r : Int) ws (i : Int) = 0 := by
  rw [askE, if_pos (chk_of_B hB), if_pos (by omega)]; exact h

theorem law_true {h : AHeap} {a : Int} {vH : AV} {hs : List H4} (hv : Rd h vH 4 (flr hc hs)) (ha0 : 0 ≤ a) (ha1 : a ≤ 255) (hx : ∀ i, i < hs.length → (hs.getD i default).Ok) (hSz : Sizes h) : ACalls Go.Proofs.Tryd.prog 9 [.agg [.int .u8 a, vH]] h (fun q h' => q = .bool true) := by
  refine KA.fn 169 [.tmp 2] Go.Proofs.Tryd.func9 rfl (by decide) rfl rfl (Nat.le_of_ble_eq_true rfl) ?_
  have hS := St.refl h
  have hvo : vH.one = true := hv.one
  show KA _ 169 _ _ [(0, .agg [.int .u8 a, vH])] _
  refine KA.seq ?_
  refine KA.region rfl ?_
  refine KOps.boxAll hS (by first | rfl | (simp [AV.one]; done) | (simp [AV.one]; assumption) | (simp [AV.one, *]; done)) ?_
  intro p1 h' hp1 hS
  refine KOps.assign ?_
  refine KOps.done ?_
  refine sqQ.normal ?_
  refine KA.sub (Sub.cons (t := 1) Look.eq (Sub.nil _)) ?_
  refine KA.seq ?_
  refine KA.region rfl ?_
  refine KOps.loadAll hS (i := 0) rfl hp1 (by rfl) (by decide) ?_
  refine KOps.call rfl (made_c (m := 5) (Rd.ext hS.keeps hv) ha0 ha1 hx (by decide)) ?_
  rintro _ h2 ⟨vB, rfl, hSM⟩
  have hS0 : St _ _ (_ :: _) := St.trans hS hSM
  clear hS
  have hS := hS0
  clear hS0
  have hvB : vB.one = true := St.one hS (k := 0) rfl
  have hrb := roomsOf_b ha0
  have hB := made_ok (hs := hs) (k := 5) hrb.1 (by omega) (by decide) hx
  have hT := made_thin (roomsOf a) hs 5 hx
  have hwl5 : (madeW (roomsOf a) hs 5).length ≤ 5 := by rw [madeW_len]; omega
  have hF4 := made_four (roomsOf a) hs 5
  generalize madeW (roomsOf a) hs 5 = ws at hB hT hF4 hS hwl5 ⊢
  obtain ⟨r, hr⟩ : ∃ r : Nat, roomsOf a = (r : Int) := ⟨(roomsOf a).toNat, by omega⟩
  rw [hr] at hB hrb ⊢
  have hpw : 2 ^ r ≤ 2 ^ 6 := Nat.pow_le_pow_right (by decide) (by omega)
  have hsh := shl64 r (by omega)
  have hc0 := chk_of_B hB
  have hwl := hB.len
  refine KOps.alloc hS ?_
  intro p3 h' hp3 hS
  refine KOps.storeAll hS rfl (i := 0) rfl hp3 (by show (true && (vB.one && true)) = true; rw [hvB]; rfl) (by rfl) (by rfl) (by decide) ?_
  intro h' hS
  simp only [List.set_cons_zero, List.set_cons_succ, Nat.zero_add] at hS
  refine KOps.done ?_
  refine sqQ.normal ?_
  refine KA.sub (Sub.cons (t := 3) Look.eq (Sub.nil _)) ?_
  refine KA.seq ?_
  refine KA.region rfl ?_
  refine KOps.loadAll hS (i := 0) rfl hp3 (by rfl) (by decide) ?_
  refine KOps.call rfl (flows_c (hS.rd 1 rfl) hB hT) ?_
  rintro vA h3 ⟨vs, hvl, hF⟩
  have hS0 := St.rot (A := matObjs true vA vs (allF ws) ++ []) (St.trans hS hF)
  clear hS
  have hS := hS0
  clear hS0
  have hal := allF_len hT hwl
  refine KOps.assign ?_
  refine KOps.done ?_
  refine sqQ.normal ?_
  refine KA.sub (Sub.cons (t := 3) Look.eq (Sub.cons (t := 4) Look.eq (Sub.nil _))) ?_
  refine KA.seq ?_
  refine KA.region rfl ?_
  refine KOps.loadAll hS (i := 0) rfl hp3 (by rfl) (by decide) ?_
  refine KOps.call rfl (stSpans_c (hS.rd 1 rfl)) ?_
  rintro _ hrR ⟨vR, rfl, hSN⟩
  have hS0 : St _ _ (_ :: _) := St.trans hS hSN
  clear hS
  have hS := hS0
  clear hS0

  refine KOps.move ?_
  refine KOps.extract ?_
  refine KOps.extract ?_
  refine KOps.assign ?_
  refine KOps.assign ?_
  refine KOps.done ?_
  refine sqQ.normal ?_
  refine KA.sub (Sub.cons (t := 3) Look.eq (Sub.cons (t := 4) Look.eq (Sub.cons (t := 5) Look.eq (Sub.cons (t := 6) Look.eq (Sub.nil _))))) ?_
  refine KA.seq ?_
  refine KA.region rfl ?_
  refine KOps.loadAll hS (i := 1) rfl hp3 (by rfl) (by decide) ?_
  refine KOps.call rfl (stOpen_c (hS.rd 2 rfl)) ?_
  rintro _ hrQ ⟨vQ, rfl, hSN⟩
  have hS0 : St _ _ (_ :: _) := St.trans hS hSN
  clear hS
  have hS := hS0
  clear hS0

  refine KOps.move ?_
  refine KOps.extract ?_
  refine KOps.extract ?_
  refine KOps.assign ?_
  refine KOps.assign ?_
  refine KOps.done ?_
  refine sqQ.normal ?_
  refine KA.sub (Sub.cons (t := 3) Look.eq (Sub.cons (t := 4) Look.eq (Sub.cons (t := 5) Look.eq (Sub.cons (t := 6) Look.eq (Sub.cons (t := 7) Look.eq (Sub.cons (t := 8) Look.eq (Sub.nil _))))))) ?_
  refine KA.seq ?_
  refine KA.seq ?_
  refine KA.region rfl ?_
  refine KOps.move ?_
  refine KOps.lenV (St.outer (pre := [_, _, _, _, _]) hS) ?_
  refine KOps.eql ?_
  refine KOps.done ?_
  refine sqQ.normal ?_
  refine KA.sub (Sub.cons (t := 3) Look.eq (Sub.cons (t := 4) Look.eq (Sub.cons (t := 5) Look.eq (Sub.cons (t := 6) Look.eq (Sub.cons (t := 7) Look.eq (Sub.cons (t := 8) Look.eq (Sub.cons (t := 35) Look.eq (Sub.nil _)))))))) ?_
  refine KA.condD ?_ ?_
  · intro c35
    have hag : agreeE (r : Int) ws = 12 := by rw [agree_all hB, can_all hB, decide_eq_false (by omega)] <;> rfl
    rw [hag] at hS ⊢
    rw [if_neg (by decide), if_neg (by decide)] at hS
    refine KA.seq ?_
    refine KA.region rfl ?_
    refine KOps.move ?_
    refine KOps.eqlT rfl ?_
    refine KOps.move ?_
    refine KOps.guardYes (dj := 38) rfl rfl ?_
    refine KOps.move ?_
    refine KOps.guardYes (dj := 38) rfl rfl ?_
    refine KOps.eqlT rfl ?_
    refine KOps.pickT ?_
    refine KOps.move ?_
    refine KOps.guardYes (dj := 42) rfl rfl ?_
    refine KOps.move ?_
    refine KOps.guardYes (dj := 42) rfl rfl ?_
    refine KOps.lenF pc_len (hS.rd 1 rfl) ?_
    refine KOps.guardYes (dj := 42) rfl rfl ?_
    refine KOps.move ?_
    refine KOps.guardYes (dj := 42) rfl rfl ?_
    refine KOps.lenI (hS.rd 0 rfl) ?_
    refine KOps.guardYes (dj := 42) rfl rfl ?_
    refine KOps.add (by simp) (by simp) ?_
    refine KOps.guardYes (dj := 42) rfl rfl ?_
    refine KOps.eqlT rfl ?_
    refine KOps.pickT ?_
    refine KOps.move ?_
    refine KOps.guardYes (dj := 50) rfl rfl ?_
    refine KOps.call rfl (works_c (hSz.ext hS.keeps)) ?_
    rintro _ hwk ⟨rfl, hK⟩
    refine KOps.pickT ?_
    refine KOps.assign ?_
    refine KOps.done ?_
    refine sqQ.normal ?_
    refine KA.sub (Sub.cons (t := 2) Look.eq (Sub.nil _)) ?_
    refine KA.ret ?_
    refine sqQ.ret ?_
    refine fnQ.ret1 ?_
    exact rfl
  · intro c35
    have hag : agreeE (r : Int) ws = 0 := by rw [agree_all hB, can_all hB, decide_eq_true (by omega)] <;> rfl
    rw [hag] at hS ⊢
    rw [if_pos rfl, if_pos rfl] at hS
    have hex := (agree_ok hag).2
    have hsl := spansTo_len ws ws.length
    have hol := openTo_len ws ws.length
    refine KA.skip ?_
    refine sqQ.normal ?_
    refine KA.sub (Sub.cons (t := 3) Look.eq (Sub.cons (t := 4) Look.eq (Sub.cons (t := 5) Look.eq (Sub.cons (t := 6) Look.eq (Sub.cons (t := 7) Look.eq (Sub.cons (t := 8) Look.eq (Sub.nil _))))))) ?_
    refine KA.seq ?_
    refine KA.seq ?_
    refine KA.region rfl ?_
    refine KOps.move ?_
    refine KOps.neqF rfl ?_
    refine KOps.move ?_
    refine KOps.guardYes (dj := 55) rfl rfl ?_
    refine KOps.move ?_
    refine KOps.guardYes (dj := 55) rfl rfl ?_
    refine KOps.neqF rfl ?_
    refine KOps.pickF ?_
    refine KOps.move ?_
    refine KOps.guardYes (dj := 59) rfl rfl ?_
    refine KOps.move ?_
    refine KOps.guardYes (dj := 59) rfl rfl ?_
    refine KOps.lenF pc_len (hS.rd 1 rfl) ?_
    refine KOps.guardYes (dj := 59) rfl rfl ?_
    refine KOps.fieldAddr hp3 ?_
    intro p62 hp62
    refine KOps.guardYes (dj := 59) rfl rfl ?_
    refine KOps.load hp62 (hS.rd 2 rfl) rfl ?_
    refine KOps.guardYes (dj := 59) rfl rfl ?_
    refine KOps.lenF wc_len (hS.rd 3 rfl) ?_
    refine KOps.guardYes (dj := 59) rfl rfl ?_
    refine KOps.neqF (by rw [spansTo_len]) ?_
    refine KOps.pickF ?_
    refine KOps.done ?_
    refine sqQ.normal ?_
    refine KA.sub (Sub.cons (t := 3) Look.eq (Sub.cons (t := 4) Look.eq (Sub.cons (t := 5) Look.eq (Sub.cons (t := 7) Look.eq (Sub.cons (t := 66) Look.eq (Sub.nil _)))))) ?_
    refine KA.condF ?_
    refine KA.skip ?_
    refine sqQ.normal ?_
    refine KA.sub (Sub.cons (t := 3) Look.eq (Sub.cons (t := 4) Look.eq (Sub.cons (t := 5) Look.eq (Sub.cons (t := 7) Look.eq (Sub.nil _))))) ?_
    refine KA.seq ?_
    refine KA.region rfl ?_
    refine KOps.assign ?_
    refine KOps.done ?_
    refine sqQ.normal ?_
    refine KA.seq ?_
    refine KA.seq ?_
    refine KA.region rfl ?_
    refine KOps.fieldAddr hp3 ?_
    intro p67 hp67
    refine KOps.load hp67 (hS.rd 2 rfl) rfl ?_
    refine KOps.lenF wc_len (hS.rd 3 rfl) ?_
    refine KOps.move ?_
    refine KOps.done ?_
    refine sqQ.normal ?_
    refine KA.sub (Sub.cons (t := 3) Look.eq (Sub.cons (t := 4) Look.eq (Sub.cons (t := 5) Look.eq (Sub.cons (t := 7) Look.eq (Sub.cons (t := 9) Look.eq (Sub.cons (t := 69) Look.eq (Sub.cons (t := 70) Look.eq (Sub.nil _)))))))) ?_
    refine KA.block ?_
    refine KA.loop (X := Nat) (fun i => [(3, p3), (4, vA), (5, vR), (7, vQ), (9, .int .i64 ((openTo ws i).length : Int)), (69, .int .i64 (ws.length : Int)), (70, .int .i64 (i : Int))]) (fun i h' => i ≤ ws.length ∧ St h h' ([⟨vQ, 1, ints (openTo ws ws.length), true⟩, ⟨vR, 2, flr pc (spansTo ws ws.length), true⟩, ⟨p3, 0, [.int .i64 (r : Int), vB], true⟩, ⟨vB, 4, flr wc ws, true⟩, ⟨p1, 0, [.int .u8 a, vH], true⟩] ++ (matObjs true vA vs (allF ws) ++ []))) (fun i => ws.length - i) 0 (by repeat (first | exact Sub.nil _ | refine Sub.cons Look.eq ?_ | refine Sub.cons (Eq.trans Look.eq (congrArg (AV.int _) (by first | omega | (dsimp only; omega)))) ?_)) ?_ ?_
    · exact ⟨Nat.zero_le _, hS⟩
    rintro i h6 ⟨hi, hS⟩
    refine KA.seq ?_
    refine KA.region rfl ?_
    have hole := open_le ws hi
    refine KOps.lss ?_
    refine KOps.done ?_
    refine sqQ.normal ?_
    refine KA.seq ?_
    refine KA.condD ?_ ?_
    · intro c71
      have hask := ask_in hag hB (i := i) (by omega)
      have hg := spansTo_get (ws := ws) (k := ws.length) (i := i) (by omega)
      refine KA.skip ?_
      refine sqQ.normal ?_
      refine KA.sub (Sub.cons (t := 3) Look.eq (Sub.cons (t := 4) Look.eq (Sub.cons (t := 5) Look.eq (Sub.cons (t := 7) Look.eq (Sub.cons (t := 9) Look.eq (Sub.cons (t := 69) Look.eq (Sub.cons (t := 70) Look.eq (Sub.nil _)))))))) ?_
      refine KA.seq ?_
      refine KA.block ?_
      refine KA.seq ?_
      refine KA.region rfl ?_
      refine KOps.move ?_
      refine KOps.assign ?_
      refine KOps.done ?_
      refine sqQ.normal ?_
      refine KA.sub (Sub.cons (t := 3) Look.eq (Sub.cons (t := 4) Look.eq (Sub.cons (t := 5) Look.eq (Sub.cons (t := 7) Look.eq (Sub.cons (t := 9) Look.eq (Sub.cons (t := 10) Look.eq (Sub.cons (t := 69) Look.eq (Sub.cons (t := 70) Look.eq (Sub.nil _))))))))) ?_
      refine KA.seq ?_
      refine KA.region rfl ?_
      refine KOps.alloc hS ?_
      intro p11 h7 hp11 hS
      refine KOps.done ?_
      refine sqQ.normal ?_
      refine KA.seq ?_
      refine KA.seq ?_
      refine KA.region rfl ?_
      refine KOps.move ?_
      refine KOps.lenV (St.outer (pre := [_, _, _, _, _, _]) hS) ?_
      refine KOps.move ?_
      refine KOps.done ?_
      refine sqQ.normal ?_
      refine KA.block ?_
      refine KA.loop (X := Nat) (fun k => [(3, p3), (4, vA), (5, vR), (7, vQ), (9, .int .i64 ((openTo ws i).length : Int)), (10, .int .i64 (i : Int)), (69, .int .i64 (ws.length : Int)), (70, .int .i64 (i : Int)), (11, p11), (73, vA), (74, .int .i64 (vs.length : Int)), (75, .int .i64 (k : Int))]) (fun k h' => k ≤ (allF ws).length ∧ St h h' ([⟨p11, 0, (seenTo (allF ws) i k).map AV.bool, true⟩, ⟨vQ, 1, ints (openTo ws ws.length), true⟩, ⟨vR, 2, flr pc (spansTo ws ws.length), true⟩, ⟨p3, 0, [.int .i64 (r : Int), vB], true⟩, ⟨vB, 4, flr wc ws, true⟩, ⟨p1, 0, [.int .u8 a, vH], true⟩] ++ (matObjs true vA vs (allF ws) ++ []))) (fun k => (allF ws).length - k) 0 (by repeat (first | exact Sub.nil _ | refine Sub.cons Look.eq ?_ | refine Sub.cons (Eq.trans Look.eq (congrArg (AV.int _) (by first | omega | (dsimp only; omega)))) ?_)) ?_ ?_
      · exact ⟨Nat.zero_le _, hS⟩
      rintro k h8 ⟨hk, hS⟩
      refine KA.seq ?_
      refine KA.region rfl ?_
      refine KOps.lss ?_
      refine KOps.done ?_
      refine sqQ.normal ?_
      refine KA.seq ?_
      refine KA.condD ?_ ?_
      · intro c76
        have hkl : k < (allF ws).length := by omega
        have hfk := all_get hB hkl
        have hfl := hfk.len
        have hf1 := hfk.lo i (by omega)
        have hf2 := hfk.hi i (by omega)
        have hf3 := hF4 i (by omega)
        have hf4 := (hB.way i (by omega)).l0
        obtain ⟨v, hve, hv5⟩ : ∃ v : Nat, ((allF ws).getD k []).getD i 0 = (v : Int) ∧ v < 5 := ⟨(((allF ws).getD k []).getD i 0).toNat, by omega, by omega⟩
        refine KA.skip ?_
        refine sqQ.normal ?_
        refine KA.sub (Sub.cons (t := 3) Look.eq (Sub.cons (t := 4) Look.eq (Sub.cons (t := 5) Look.eq (Sub.cons (t := 7) Look.eq (Sub.cons (t := 9) Look.eq (Sub.cons (t := 10) Look.eq (Sub.cons (t := 11) Look.eq (Sub.cons (t := 69) Look.eq (Sub.cons (t := 70) Look.eq (Sub.cons (t := 73) Look.eq (Sub.cons (t := 74) Look.eq (Sub.cons (t := 75) Look.eq (Sub.nil _))))))))))))) ?_
        refine KA.seq ?_
        refine KA.block ?_
        refine KA.seq ?_
        refine KA.region rfl ?_
        refine KOps.indexVJ (St.outer (pre := [_, _, _, _, _, _]) hS) (j := k) (by first | omega | (simp; omega)) (by first | omega | (simp; omega)) ?_
        intro p77 hp77
        refine KOps.loadV hp77 (St.outer (pre := [_, _, _, _, _, _]) hS) (by first | omega | (simp; omega)) ?_
        refine KOps.assign ?_
        refine KOps.done ?_
        refine sqQ.normal ?_
        refine KA.sub (Sub.cons (t := 3) Look.eq (Sub.cons (t := 4) Look.eq (Sub.cons (t := 5) Look.eq (Sub.cons (t := 7) Look.eq (Sub.cons (t := 9) Look.eq (Sub.cons (t := 10) Look.eq (Sub.cons (t := 11) Look.eq (Sub.cons (t := 13) Look.eq (Sub.cons (t := 69) Look.eq (Sub.cons (t := 70) Look.eq (Sub.cons (t := 73) Look.eq (Sub.cons (t := 74) Look.eq (Sub.cons (t := 75) Look.eq (Sub.nil _)))))))))))))) ?_
        refine KA.region rfl ?_
        refine KOps.move ?_
        refine KOps.move ?_
        refine KOps.indexIJ (St.rowAt (pre := [_, _, _, _, _, _]) hS (by first | assumption | omega | (simp only [List.length_set, List.length_append, List.length_singleton, List.length_replicate, List.length_take]; omega)) (by first | omega | (simp; omega))) (j := i) (by first | omega | (simp; omega)) (by first | omega | (simp; omega)) ?_
        intro p81 hp81
        refine KOps.loadI hp81 (St.rowAt (pre := [_, _, _, _, _, _]) hS (by first | assumption | omega | (simp only [List.length_set, List.length_append, List.length_singleton, List.length_replicate, List.length_take]; omega)) (by first | omega | (simp; omega))) (by first | omega | (simp; omega)) ?_
        refine KOps.indexA hp11 (j := v) hve hv5 ?_
        intro p83 hp83
        refine KOps.store hS (by decide) (i := 0) rfl hp83 rfl (by rw [List.length_map, seenTo_len]; exact hv5) ?_
        intro h9 hS
        simp only [List.set_cons_zero] at hS
        rw [← List.map_set, seenTo_set hkl hv5 hve] at hS
        refine KOps.done ?_
        refine blQ.normal ?_
        refine sqQ.normal ?_
        refine KA.sub (Sub.cons (t := 3) Look.eq (Sub.cons (t := 4) Look.eq (Sub.cons (t := 5) Look.eq (Sub.cons (t := 7) Look.eq (Sub.cons (t := 9) Look.eq (Sub.cons (t := 10) Look.eq (Sub.cons (t := 11) Look.eq (Sub.cons (t := 69) Look.eq (Sub.cons (t := 70) Look.eq (Sub.cons (t := 73) Look.eq (Sub.cons (t := 74) Look.eq (Sub.cons (t := 75) Look.eq (Sub.nil _))))))))))))) ?_
        refine KA.region rfl ?_
        refine KOps.add (by first | omega | (simp; omega)) (by first | omega | (simp; omega)) ?_
        refine KOps.move ?_
        refine KOps.done ?_
        refine lpQ.normal (k + 1) (by repeat (first | exact Sub.nil _ | refine Sub.cons Look.eq ?_ | refine Sub.cons (Eq.trans Look.eq (congrArg (AV.int _) (by first | omega | (dsimp only; omega)))) ?_)) ⟨by omega, hS⟩ (by omega)
      · intro c76
        obtain rfl : k = (allF ws).length := by omega
        refine KA.exit ?_
        refine sqQ.exit ?_
        refine lpQ.exit ?_
        refine blQ.here ?_
        refine sqQ.normal ?_
        refine KA.sub (Sub.cons (t := 3) Look.eq (Sub.cons (t := 4) Look.eq (Sub.cons (t := 5) Look.eq (Sub.cons (t := 7) Look.eq (Sub.cons (t := 9) Look.eq (Sub.cons (t := 10) Look.eq (Sub.cons (t := 11) Look.eq (Sub.cons (t := 69) Look.eq (Sub.cons (t := 70) Look.eq (Sub.nil _)))))))))) ?_
        refine KA.seq ?_
        refine KA.seq ?_
        refine KA.region rfl ?_
        refine KOps.loadAll hS (i := 0) rfl hp11 (by rw [List.length_map, seenTo_len]) (by decide) ?_
        refine KOps.move ?_
        refine KOps.done ?_
        refine sqQ.normal ?_
        refine KA.sub (Sub.cons (t := 3) Look.eq (Sub.cons (t := 4) Look.eq (Sub.cons (t := 5) Look.eq (Sub.cons (t := 7) Look.eq (Sub.cons (t := 9) Look.eq (Sub.cons (t := 10) Look.eq (Sub.cons (t := 69) Look.eq (Sub.cons (t := 70) Look.eq (Sub.cons (t := 85) Look.eq (Sub.cons (t := 86) Look.eq (Sub.nil _))))))))))) ?_
        refine KA.block ?_
        refine KA.loop (X := Nat) (fun v => [(3, p3), (4, vA), (5, vR), (7, vQ), (9, .int .i64 ((openTo ws i).length : Int)), (10, .int .i64 (i : Int)), (69, .int .i64 (ws.length : Int)), (70, .int .i64 (i : Int)), (85, .agg ((seenTo (allF ws) i (allF ws).length).map AV.bool)), (86, .int .i64 (v : Int))]) (fun v h' => v ≤ 5 ∧ St h h' ([⟨vQ, 1, ints (openTo ws ws.length), true⟩, ⟨vR, 2, flr pc (spansTo ws ws.length), true⟩, ⟨p3, 0, [.int .i64 (r : Int), vB], true⟩, ⟨vB, 4, flr wc ws, true⟩, ⟨p1, 0, [.int .u8 a, vH], true⟩] ++ (matObjs true vA vs (allF ws) ++ []))) (fun v => 5 - v) 0 (by repeat (first | exact Sub.nil _ | refine Sub.cons Look.eq ?_ | refine Sub.cons (Eq.trans Look.eq (congrArg (AV.int _) (by first | omega | (dsimp only; omega)))) ?_)) ?_ ?_
        · exact ⟨Nat.zero_le _, St.tail hS⟩
        rintro v h10 ⟨hv5, hS⟩
        refine KA.seq ?_
        refine KA.region rfl ?_
        refine KOps.lss ?_
        refine KOps.done ?_
        refine sqQ.normal ?_
        refine KA.seq ?_
        refine KA.condD ?_ ?_
        · intro c87
          refine KA.skip ?_
          refine sqQ.normal ?_
          refine KA.sub (Sub.cons (t := 3) Look.eq (Sub.cons (t := 4) Look.eq (Sub.cons (t := 5) Look.eq (Sub.cons (t := 7) Look.eq (Sub.cons (t := 9) Look.eq (Sub.cons (t := 10) Look.eq (Sub.cons (t := 69) Look.eq (Sub.cons (t := 70) Look.eq (Sub.cons (t := 85) Look.eq (Sub.cons (t := 86) Look.eq (Sub.nil _))))))))))) ?_
          refine KA.seq ?_
          refine KA.block ?_
          refine KA.seq ?_
          refine KA.region rfl ?_
          refine KOps.move ?_
          refine KOps.indexG (m := 5) (e := 4) (j := v) (by kernel_rfl) rfl (by omega) (by rw [List.getElem?_map, seen_all hB hex (by omega) (by omega)]; rfl) ?_
          refine KOps.assign ?_
          refine KOps.assign ?_
          refine KOps.done ?_
          refine sqQ.normal ?_
          refine KA.sub (Sub.cons (t := 3) Look.eq (Sub.cons (t := 4) Look.eq (Sub.cons (t := 5) Look.eq (Sub.cons (t := 7) Look.eq (Sub.cons (t := 9) Look.eq (Sub.cons (t := 10) Look.eq (Sub.cons (t := 14) Look.eq (Sub.cons (t := 15) Look.eq (Sub.cons (t := 69) Look.eq (Sub.cons (t := 70) Look.eq (Sub.cons (t := 85) Look.eq (Sub.cons (t := 86) Look.eq (Sub.nil _))))))))))))) ?_
          refine KA.seq ?_
          refine KA.region rfl ?_
          refine KOps.move ?_
          refine KOps.move ?_
          refine KOps.move ?_
          refine KOps.move ?_
          refine KOps.indexF pc_len (hS.rd 1 rfl) (j := i) (by first | omega | (simp; omega)) (by first | omega | (simp; omega)) ?_
          intro p94 hp94
          refine KOps.indexAt hp94 (j := 0) rfl (by decide) ?_
          intro p95 hp95
          refine KOps.loadFc pc_len (by decide) hp95 (hS.rd 1 rfl) (by first | omega | (simp; omega)) rfl ?_
          rw [hg]
          refine KOps.geq ?_
          refine KOps.move ?_
          refine KOps.guardB (dj := 98) rfl rfl true false rfl ?_ ?_
          · intro g98
            have g98 := of_decide_eq_true g98
            refine KOps.move ?_
            refine KOps.guardYes (dj := 98) rfl rfl ?_
            refine KOps.move ?_
            refine KOps.guardYes (dj := 98) rfl rfl ?_
            refine KOps.move ?_
            refine KOps.guardYes (dj := 98) rfl rfl ?_
            refine KOps.indexF pc_len (hS.rd 1 rfl) (j := i) (by first | omega | (simp; omega)) (by first | omega | (simp; omega)) ?_
            intro p102 hp102
            refine KOps.guardYes (dj := 98) rfl rfl ?_
            refine KOps.indexAt hp102 (j := 1) rfl (by decide) ?_
            intro p103 hp103
            refine KOps.guardYes (dj := 98) rfl rfl ?_
            refine KOps.loadFc pc_len (by decide) hp103 (hS.rd 1 rfl) (by first | omega | (simp; omega)) rfl ?_
            rw [hg]
            refine KOps.guardYes (dj := 98) rfl rfl ?_
            refine KOps.leq ?_
            refine KOps.pickT ?_
            refine KOps.neqBF (by kernel_rfl) (by first | (rw [decide_eq_true g98, Bool.true_and]; done) | (rw [decide_eq_false g98, Bool.false_and]; done)) ?_
            refine KOps.done ?_
            refine sqQ.normal ?_
            refine KA.sub (Sub.cons (t := 3) Look.eq (Sub.cons (t := 4) Look.eq (Sub.cons (t := 5) Look.eq (Sub.cons (t := 7) Look.eq (Sub.cons (t := 9) Look.eq (Sub.cons (t := 10) Look.eq (Sub.cons (t := 69) Look.eq (Sub.cons (t := 70) Look.eq (Sub.cons (t := 85) Look.eq (Sub.cons (t := 86) Look.eq (Sub.cons (t := 99) Look.eq (Sub.cons (t := 100) Look.eq (Sub.cons (t := 101) Look.eq (Sub.cons (t := 102) Look.eq (Sub.cons (t := 103) Look.eq (Sub.cons (t := 104) Look.eq (Sub.cons (t := 105) Look.eq (Sub.cons (t := 107) Look.eq (Sub.nil _))))))))))))))))))) ?_
            refine KA.condF ?_
            refine KA.skip ?_
            refine blQ.normal ?_
            refine sqQ.normal ?_
            refine KA.sub (Sub.cons (t := 3) Look.eq (Sub.cons (t := 4) Look.eq (Sub.cons (t := 5) Look.eq (Sub.cons (t := 7) Look.eq (Sub.cons (t := 9) Look.eq (Sub.cons (t := 10) Look.eq (Sub.cons (t := 69) Look.eq (Sub.cons (t := 70) Look.eq (Sub.cons (t := 85) Look.eq (Sub.cons (t := 86) Look.eq (Sub.cons (t := 99) Look.eq (Sub.cons (t := 100) Look.eq (Sub.cons (t := 101) Look.eq (Sub.cons (t := 102) Look.eq (Sub.cons (t := 103) Look.eq (Sub.cons (t := 104) Look.eq (Sub.cons (t := 105) Look.eq (Sub.nil _)))))))))))))))))) ?_
            refine KA.region rfl ?_
            refine KOps.add (by first | omega | (simp; omega)) (by first | omega | (simp; omega)) ?_
            refine KOps.move ?_
            refine KOps.done ?_
            refine lpQ.normal (v + 1) (by repeat (first | exact Sub.nil _ | refine Sub.cons Look.eq ?_ | refine Sub.cons (Eq.trans Look.eq (congrArg (AV.int _) (by first | omega | (dsimp only; omega)))) ?_)) ⟨by omega, hS⟩ (by omega)
          · intro g98
            have g98 := of_decide_eq_false g98
            refine KOps.guardNo (dj := 98) rfl rfl rfl ?_
            refine KOps.guardNo (dj := 98) rfl rfl rfl ?_
            refine KOps.guardNo (dj := 98) rfl rfl rfl ?_
            refine KOps.guardNo (dj := 98) rfl rfl rfl ?_
            refine KOps.guardNo (dj := 98) rfl rfl rfl ?_
            refine KOps.guardNo (dj := 98) rfl rfl rfl ?_
            refine KOps.pickF ?_
            refine KOps.neqBF (by kernel_rfl) (by first | (rw [decide_eq_true g98, Bool.true_and]; done) | (rw [decide_eq_false g98, Bool.false_and]; done)) ?_
            refine KOps.done ?_
            refine sqQ.normal ?_
            refine KA.sub (Sub.cons (t := 3) Look.eq (Sub.cons (t := 4) Look.eq (Sub.cons (t := 5) Look.eq (Sub.cons (t := 7) Look.eq (Sub.cons (t := 9) Look.eq (Sub.cons (t := 10) Look.eq (Sub.cons (t := 69) Look.eq (Sub.cons (t := 70) Look.eq (Sub.cons (t := 85) Look.eq (Sub.cons (t := 86) Look.eq (Sub.cons (t := 99) Look.eq (Sub.cons (t := 100) Look.eq (Sub.cons (t := 101) Look.eq (Sub.cons (t := 102) Look.eq (Sub.cons (t := 103) Look.eq (Sub.cons (t := 104) Look.eq (Sub.cons (t := 105) Look.eq (Sub.cons (t := 107) Look.eq (Sub.nil _))))))))))))))))))) ?_
            refine KA.condF ?_
            refine KA.skip ?_
            refine blQ.normal ?_
            refine sqQ.normal ?_
            refine KA.sub (Sub.cons (t := 3) Look.eq (Sub.cons (t := 4) Look.eq (Sub.cons (t := 5) Look.eq (Sub.cons (t := 7) Look.eq (Sub.cons (t := 9) Look.eq (Sub.cons (t := 10) Look.eq (Sub.cons (t := 69) Look.eq (Sub.cons (t := 70) Look.eq (Sub.cons (t := 85) Look.eq (Sub.cons (t := 86) Look.eq (Sub.cons (t := 99) Look.eq (Sub.cons (t := 100) Look.eq (Sub.cons (t := 101) Look.eq (Sub.cons (t := 102) Look.eq (Sub.cons (t := 103) Look.eq (Sub.cons (t := 104) Look.eq (Sub.cons (t := 105) Look.eq (Sub.nil _)))))))))))))))))) ?_
            refine KA.region rfl ?_
            refine KOps.add (by first | omega | (simp; omega)) (by first | omega | (simp; omega)) ?_
            refine KOps.move ?_
            refine KOps.done ?_
            refine lpQ.normal (v + 1) (by repeat (first | exact Sub.nil _ | refine Sub.cons Look.eq ?_ | refine Sub.cons (Eq.trans Look.eq (congrArg (AV.int _) (by first | omega | (dsimp only; omega)))) ?_)) ⟨by omega, hS⟩ (by omega)
        · intro c87
          refine KA.exit ?_
          refine sqQ.exit ?_
          refine lpQ.exit ?_
          refine blQ.here ?_
          refine sqQ.normal ?_
          refine KA.sub (Sub.cons (t := 3) Look.eq (Sub.cons (t := 4) Look.eq (Sub.cons (t := 5) Look.eq (Sub.cons (t := 7) Look.eq (Sub.cons (t := 9) Look.eq (Sub.cons (t := 10) Look.eq (Sub.cons (t := 69) Look.eq (Sub.cons (t := 70) Look.eq (Sub.nil _))))))))) ?_
          refine KA.seq ?_
          refine KA.region rfl ?_
          refine KOps.loadAll hS (i := 2) rfl hp3 (by rfl) (by decide) ?_
          refine KOps.move ?_
          refine KOps.call rfl (stSpan_c (hS.rd 3 rfl)) ?_
          rintro _ h12 ⟨rfl, hK⟩
          have hS0 : St _ _ (_ :: _) := St.trans hS (St.ofK hK)
          clear hS
          have hS := hS0
          clear hS0
          rw [hask, if_pos rfl, if_pos rfl, Int.toNat_natCast]
          refine KOps.move ?_
          refine KOps.extract ?_
          refine KOps.extract ?_
          refine KOps.extract ?_
          refine KOps.assign ?_
          refine KOps.assign ?_
          refine KOps.assign ?_
          refine KOps.done ?_
          refine sqQ.normal ?_
          refine KA.sub (Sub.cons (t := 3) Look.eq (Sub.cons (t := 4) Look.eq (Sub.cons (t := 5) Look.eq (Sub.cons (t := 7) Look.eq (Sub.cons (t := 9) Look.eq (Sub.cons (t := 10) Look.eq (Sub.cons (t := 16) Look.eq (Sub.cons (t := 17) Look.eq (Sub.cons (t := 18) Look.eq (Sub.cons (t := 69) Look.eq (Sub.cons (t := 70) Look.eq (Sub.nil _)))))))))))) ?_
          refine KA.seq ?_
          refine KA.seq ?_
          refine KA.region rfl ?_
          refine KOps.move ?_
          refine KOps.neqF rfl ?_
          refine KOps.move ?_
          refine KOps.guardYes (dj := 118) rfl rfl ?_
          refine KOps.move ?_
          refine KOps.guardYes (dj := 118) rfl rfl ?_
          refine KOps.move ?_
          refine KOps.guardYes (dj := 118) rfl rfl ?_
          refine KOps.move ?_
          refine KOps.guardYes (dj := 118) rfl rfl ?_
          refine KOps.indexF pc_len (hS.rd 1 rfl) (j := i) (by first | omega | (simp; omega)) (by first | omega | (simp; omega)) ?_
          intro p122 hp122
          refine KOps.guardYes (dj := 118) rfl rfl ?_
          refine KOps.indexAt hp122 (j := 0) rfl (by decide) ?_
          intro p123 hp123
          refine KOps.guardYes (dj := 118) rfl rfl ?_
          refine KOps.loadFc pc_len (by decide) hp123 (hS.rd 1 rfl) (by first | omega | (simp; omega)) rfl ?_
          rw [hg]
          refine KOps.guardYes (dj := 118) rfl rfl ?_
          refine KOps.neqF rfl ?_
          refine KOps.pickF ?_
          refine KOps.move ?_
          refine KOps.guardYes (dj := 127) rfl rfl ?_
          refine KOps.move ?_
          refine KOps.guardYes (dj := 127) rfl rfl ?_
          refine KOps.move ?_
          refine KOps.guardYes (dj := 127) rfl rfl ?_
          refine KOps.move ?_
          refine KOps.guardYes (dj := 127) rfl rfl ?_
          refine KOps.indexF pc_len (hS.rd 1 rfl) (j := i) (by first | omega | (simp; omega)) (by first | omega | (simp; omega)) ?_
          intro p131 hp131
          refine KOps.guardYes (dj := 127) rfl rfl ?_
          refine KOps.indexAt hp131 (j := 1) rfl (by decide) ?_
          intro p132 hp132
          refine KOps.guardYes (dj := 127) rfl rfl ?_
          refine KOps.loadFc pc_len (by decide) hp132 (hS.rd 1 rfl) (by first | omega | (simp; omega)) rfl ?_
          rw [hg]
          refine KOps.guardYes (dj := 127) rfl rfl ?_
          refine KOps.neqF rfl ?_
          refine KOps.pickF ?_
          refine KOps.done ?_
          refine sqQ.normal ?_
          refine KA.sub (Sub.cons (t := 3) Look.eq (Sub.cons (t := 4) Look.eq (Sub.cons (t := 5) Look.eq (Sub.cons (t := 7) Look.eq (Sub.cons (t := 9) Look.eq (Sub.cons (t := 10) Look.eq (Sub.cons (t := 16) Look.eq (Sub.cons (t := 17) Look.eq (Sub.cons (t := 69) Look.eq (Sub.cons (t := 70) Look.eq (Sub.cons (t := 119) Look.eq (Sub.cons (t := 120) Look.eq (Sub.cons (t := 121) Look.eq (Sub.cons (t := 122) Look.eq (Sub.cons (t := 123) Look.eq (Sub.cons (t := 124) Look.eq (Sub.cons (t := 125) Look.eq (Sub.cons (t := 128) Look.eq (Sub.cons (t := 129) Look.eq (Sub.cons (t := 130) Look.eq (Sub.cons (t := 131) Look.eq (Sub.cons (t := 132) Look.eq (Sub.cons (t := 133) Look.eq (Sub.cons (t := 134) Look.eq (Sub.cons (t := 135) Look.eq (Sub.nil _)))))))))))))))))))))))))) ?_
          refine KA.condF ?_
          refine KA.skip ?_
          refine sqQ.normal ?_
          refine KA.sub (Sub.cons (t := 3) Look.eq (Sub.cons (t := 4) Look.eq (Sub.cons (t := 5) Look.eq (Sub.cons (t := 7) Look.eq (Sub.cons (t := 9) Look.eq (Sub.cons (t := 10) Look.eq (Sub.cons (t := 16) Look.eq (Sub.cons (t := 17) Look.eq (Sub.cons (t := 69) Look.eq (Sub.cons (t := 70) Look.eq (Sub.cons (t := 119) Look.eq (Sub.cons (t := 120) Look.eq (Sub.cons (t := 121) Look.eq (Sub.cons (t := 122) Look.eq (Sub.cons (t := 123) Look.eq (Sub.cons (t := 124) Look.eq (Sub.cons (t := 125) Look.eq (Sub.cons (t := 128) Look.eq (Sub.cons (t := 129) Look.eq (Sub.cons (t := 130) Look.eq (Sub.cons (t := 131) Look.eq (Sub.cons (t := 132) Look.eq (Sub.cons (t := 133) Look.eq (Sub.cons (t := 134) Look.eq (Sub.nil _))))))))))))))))))))))))) ?_
          refine KA.seq ?_
          refine KA.region rfl ?_
          refine KOps.move ?_
          refine KOps.move ?_
          refine KOps.lss ?_
          refine KOps.done ?_
          refine sqQ.normal ?_
          refine KA.sub (Sub.cons (t := 3) Look.eq (Sub.cons (t := 4) Look.eq (Sub.cons (t := 5) Look.eq (Sub.cons (t := 7) Look.eq (Sub.cons (t := 9) Look.eq (Sub.cons (t := 10) Look.eq (Sub.cons (t := 69) Look.eq (Sub.cons (t := 70) Look.eq (Sub.cons (t := 119) Look.eq (Sub.cons (t := 120) Look.eq (Sub.cons (t := 121) Look.eq (Sub.cons (t := 122) Look.eq (Sub.cons (t := 123) Look.eq (Sub.cons (t := 124) Look.eq (Sub.cons (t := 125) Look.eq (Sub.cons (t := 128) Look.eq (Sub.cons (t := 129) Look.eq (Sub.cons (t := 130) Look.eq (Sub.cons (t := 131) Look.eq (Sub.cons (t := 132) Look.eq (Sub.cons (t := 133) Look.eq (Sub.cons (t := 134) Look.eq (Sub.cons (t := 138) Look.eq (Sub.nil _)))))))))))))))))))))))) ?_
          refine KA.condD ?_ ?_
          · intro c138
            have hoa := open_at c138 (n := ws.length) (by omega)
            refine KA.seq ?_
            refine KA.seq ?_
            refine KA.region rfl ?_
            refine KOps.move ?_
            refine KOps.move ?_
            refine KOps.lenI (hS.rd 0 rfl) ?_
            refine KOps.geq ?_
            rw [decide_eq_false (by omega)]
            refine KOps.move ?_
            refine KOps.guardYes (dj := 143) rfl rfl ?_
            refine KOps.move ?_
            refine KOps.guardYes (dj := 143) rfl rfl ?_
            refine KOps.move ?_
            refine KOps.guardYes (dj := 143) rfl rfl ?_
            refine KOps.indexIJ (hS.rd 0 rfl) (j := (openTo ws i).length) (by first | omega | (simp; omega)) (by first | omega | (simp; omega)) ?_
            intro p146 hp146
            refine KOps.guardYes (dj := 143) rfl rfl ?_
            refine KOps.loadI hp146 (hS.rd 0 rfl) (by first | omega | (simp; omega)) ?_
            refine KOps.guardYes (dj := 143) rfl rfl ?_
            refine KOps.move ?_
            refine KOps.guardYes (dj := 143) rfl rfl ?_
            refine KOps.neqF hoa.2 ?_
            refine KOps.pickF ?_
            refine KOps.done ?_
            refine sqQ.normal ?_
            refine KA.sub (Sub.cons (t := 3) Look.eq (Sub.cons (t := 4) Look.eq (Sub.cons (t := 5) Look.eq (Sub.cons (t := 7) Look.eq (Sub.cons (t := 9) Look.eq (Sub.cons (t := 69) Look.eq (Sub.cons (t := 70) Look.eq (Sub.cons (t := 119) Look.eq (Sub.cons (t := 120) Look.eq (Sub.cons (t := 121) Look.eq (Sub.cons (t := 122) Look.eq (Sub.cons (t := 123) Look.eq (Sub.cons (t := 124) Look.eq (Sub.cons (t := 125) Look.eq (Sub.cons (t := 128) Look.eq (Sub.cons (t := 129) Look.eq (Sub.cons (t := 130) Look.eq (Sub.cons (t := 131) Look.eq (Sub.cons (t := 132) Look.eq (Sub.cons (t := 133) Look.eq (Sub.cons (t := 134) Look.eq (Sub.cons (t := 144) Look.eq (Sub.cons (t := 145) Look.eq (Sub.cons (t := 146) Look.eq (Sub.cons (t := 147) Look.eq (Sub.cons (t := 148) Look.eq (Sub.cons (t := 149) Look.eq (Sub.cons (t := 150) Look.eq (Sub.nil _))))))))))))))))))))))))))))) ?_
            refine KA.condF ?_
            refine KA.skip ?_
            refine sqQ.normal ?_
            refine KA.sub (Sub.cons (t := 3) Look.eq (Sub.cons (t := 4) Look.eq (Sub.cons (t := 5) Look.eq (Sub.cons (t := 7) Look.eq (Sub.cons (t := 9) Look.eq (Sub.cons (t := 69) Look.eq (Sub.cons (t := 70) Look.eq (Sub.cons (t := 119) Look.eq (Sub.cons (t := 120) Look.eq (Sub.cons (t := 121) Look.eq (Sub.cons (t := 122) Look.eq (Sub.cons (t := 123) Look.eq (Sub.cons (t := 124) Look.eq (Sub.cons (t := 125) Look.eq (Sub.cons (t := 128) Look.eq (Sub.cons (t := 129) Look.eq (Sub.cons (t := 130) Look.eq (Sub.cons (t := 131) Look.eq (Sub.cons (t := 132) Look.eq (Sub.cons (t := 133) Look.eq (Sub.cons (t := 134) Look.eq (Sub.cons (t := 144) Look.eq (Sub.cons (t := 145) Look.eq (Sub.cons (t := 146) Look.eq (Sub.cons (t := 147) Look.eq (Sub.cons (t := 148) Look.eq (Sub.cons (t := 149) Look.eq (Sub.nil _)))))))))))))))))))))))))))) ?_
            refine KA.region rfl ?_
            refine KOps.move ?_
            refine KOps.add (by first | omega | (simp; omega)) (by first | omega | (simp; omega)) ?_
            refine KOps.assign ?_
            refine KOps.done ?_
            refine blQ.normal ?_
            refine sqQ.normal ?_
            refine KA.sub (Sub.cons (t := 3) Look.eq (Sub.cons (t := 4) Look.eq (Sub.cons (t := 5) Look.eq (Sub.cons (t := 7) Look.eq (Sub.cons (t := 9) Look.eq (Sub.cons (t := 69) Look.eq (Sub.cons (t := 70) Look.eq (Sub.cons (t := 119) Look.eq (Sub.cons (t := 120) Look.eq (Sub.cons (t := 121) Look.eq (Sub.cons (t := 122) Look.eq (Sub.cons (t := 123) Look.eq (Sub.cons (t := 124) Look.eq (Sub.cons (t := 125) Look.eq (Sub.cons (t := 128) Look.eq (Sub.cons (t := 129) Look.eq (Sub.cons (t := 130) Look.eq (Sub.cons (t := 131) Look.eq (Sub.cons (t := 132) Look.eq (Sub.cons (t := 133) Look.eq (Sub.cons (t := 134) Look.eq (Sub.cons (t := 144) Look.eq (Sub.cons (t := 145) Look.eq (Sub.cons (t := 146) Look.eq (Sub.cons (t := 147) Look.eq (Sub.cons (t := 148) Look.eq (Sub.cons (t := 149) Look.eq (Sub.nil _)))))))))))))))))))))))))))) ?_
            refine KA.region rfl ?_
            refine KOps.add (by first | omega | (simp; omega)) (by first | omega | (simp; omega)) ?_
            refine KOps.move ?_
            refine KOps.done ?_
            refine lpQ.normal (i + 1) (by repeat (first | exact Sub.nil _ | refine Sub.cons Look.eq ?_ | refine Sub.cons (Eq.trans Look.eq (congrArg (AV.int _) (by first | omega | (dsimp only; omega)))) ?_ | refine Sub.cons (Eq.trans Look.eq (congrArg (AV.int _) (by rw [openTo_succ, if_pos c138, List.length_append]; rfl))) ?_)) ⟨by omega, hS⟩ (by omega)
          · intro c138
            refine KA.skip ?_
            refine blQ.normal ?_
            refine sqQ.normal ?_
            refine KA.sub (Sub.cons (t := 3) Look.eq (Sub.cons (t := 4) Look.eq (Sub.cons (t := 5) Look.eq (Sub.cons (t := 7) Look.eq (Sub.cons (t := 9) Look.eq (Sub.cons (t := 69) Look.eq (Sub.cons (t := 70) Look.eq (Sub.cons (t := 119) Look.eq (Sub.cons (t := 120) Look.eq (Sub.cons (t := 121) Look.eq (Sub.cons (t := 122) Look.eq (Sub.cons (t := 123) Look.eq (Sub.cons (t := 124) Look.eq (Sub.cons (t := 125) Look.eq (Sub.cons (t := 128) Look.eq (Sub.cons (t := 129) Look.eq (Sub.cons (t := 130) Look.eq (Sub.cons (t := 131) Look.eq (Sub.cons (t := 132) Look.eq (Sub.cons (t := 133) Look.eq (Sub.cons (t := 134) Look.eq (Sub.nil _)))))))))))))))))))))) ?_
            refine KA.region rfl ?_
            refine KOps.add (by first | omega | (simp; omega)) (by first | omega | (simp; omega)) ?_
            refine KOps.move ?_
            refine KOps.done ?_
            refine lpQ.normal (i + 1) (by repeat (first | exact Sub.nil _ | refine Sub.cons Look.eq ?_ | refine Sub.cons (Eq.trans Look.eq (congrArg (AV.int _) (by first | omega | (dsimp only; omega)))) ?_ | refine Sub.cons (Eq.trans Look.eq (congrArg (AV.int _) (by rw [openTo_succ, if_neg c138]))) ?_)) ⟨by omega, hS⟩ (by omega)
    · intro c71
      obtain rfl : i = ws.length := by omega
      refine KA.exit ?_
      refine sqQ.exit ?_
      refine lpQ.exit ?_
      refine blQ.here ?_
      refine sqQ.normal ?_
      refine KA.sub (Sub.cons (t := 4) Look.eq (Sub.cons (t := 7) Look.eq (Sub.cons (t := 9) Look.eq (Sub.nil _)))) ?_
      refine KA.seq ?_
      refine KA.region rfl ?_
      refine KOps.move ?_
      refine KOps.move ?_
      refine KOps.lenI (hS.rd 0 rfl) ?_
      refine KOps.eqlT rfl ?_
      refine KOps.move ?_
      refine KOps.guardYes (dj := 158) rfl rfl ?_
      refine KOps.move ?_
      refine KOps.guardYes (dj := 158) rfl rfl ?_
      refine KOps.eql ?_
      refine KOps.guardYes (dj := 158) rfl rfl ?_
      refine KOps.move ?_
      refine KOps.guardYes (dj := 158) rfl rfl ?_
      refine KOps.lenV (St.outer (pre := [_, _, _, _, _]) hS) ?_
      refine KOps.guardYes (dj := 158) rfl rfl ?_
      refine KOps.eql ?_
      refine KOps.guardYes (dj := 158) rfl rfl ?_
      refine KOps.eqlBT (by kernel_rfl) (decide_eq_decide.2 (by have := open_one hB hex; omega)) ?_
      refine KOps.pickT ?_
      refine KOps.move ?_
      refine KOps.guardYes (dj := 166) rfl rfl ?_
      refine KOps.call rfl (works_c (hSz.ext hS.keeps)) ?_
      rintro _ hwk ⟨rfl, hK⟩
      refine KOps.pickT ?_
      refine KOps.assign ?_
      refine KOps.done ?_
      refine sqQ.normal ?_
      refine KA.sub (Sub.cons (t := 2) Look.eq (Sub.nil _)) ?_
      refine KA.ret ?_
      refine fnQ.ret1 ?_
      exact rfl

end Go.Am
