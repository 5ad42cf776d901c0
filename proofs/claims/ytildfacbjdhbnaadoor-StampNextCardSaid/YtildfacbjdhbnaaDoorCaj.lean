/-
  Layer 01: another flow is the next one in the list.
  Conditions: none.
-/
import Derived.Test.YtildfacbjdhbnaaDoorPo
namespace Go.Am
theorem at_mod {a : Int} {n : Nat} (h : 0 ≤ a) (hn : 0 < n) : ∃ j : Nat, a.tmod (n : Int) = (j : Int) ∧ j < n := by
  have := tmod_b h (show (0 : Int) < (n : Int) by omega)
  exact ⟨(a.tmod (n : Int)).toNat, by omega, by omega⟩
theorem allF_len {ws : List W} (ht : Thin ws) (hwl : ws.length ≤ 12) : (allF ws).length ≤ 244140625 :=
  Nat.le_trans (flowsF_len ht ws.length [] (by simp)) (Nat.pow_le_pow_right (show 0 < 5 by decide) hwl)
theorem all_get {rm : Int} {ws : List W} (hB : BOk rm ws) {j : Nat} (hj : j < (allF ws).length) : Flow ws ((allF ws).getD j []) := by
  refine (mem_all hB).1 ?_
  rw [List.getD_eq_getElem?_getD, List.getElem?_eq_getElem hj]
  exact List.getElem_mem hj
theorem all_lex {ws : List W} {i j : Nat} (hij : i < j) (hj : j < (allF ws).length) : LexLt ((allF ws).getD i []) ((allF ws).getD j []) := by
  rw [List.getD_eq_getElem?_getD, List.getD_eq_getElem?_getD, List.getElem?_eq_getElem hj, List.getElem?_eq_getElem (show i < (allF ws).length by omega)]
  exact List.pairwise_iff_getElem.1 (allF_sorted ws) i j (by omega) hj hij
theorem next_only {rm : Int} {ws : List W} {x : List Int} (hB : BOk rm ws) (h : allF ws = [x]) : nextOf ws x = none := by
  cases hn : nextOf ws x with
  | none => rfl
  | some y =>
    unfold nextOf at hn
    split at hn
    · rename_i hx
      cases hn
      obtain ⟨i, hi⟩ := Classical.choose_spec hx
      have hm := (mem_all hB).2 hi.fl
      rw [h] at hm
      have he : Classical.choose hx = x := by simpa using hm
      have h1 := hi.up
      rw [he] at h1
      omega
    · cases hn
theorem other_at {r : Nat} {ws : List W} (hB : BOk (r : Int) ws) {j : Nat} (hj : j < (allF ws).length) : otherE (r : Int) ws ((allF ws).getD j []) = (if (allF ws).length = 1 then 12 else 0) ∧ otherL (r : Int) ws ((allF ws).getD j []) = (if (allF ws).length = 1 then [] else (allF ws).getD (if j = 0 then 1 else 0) []) := by
  have hf := all_get hB hj
  have hv : verE (r : Int) ws ((allF ws).getD j []) = 0 := by
    rw [verE_end (chk_of_B hB) hf.len (fun i hi => ⟨hf.lo i hi, hf.hi i hi⟩), zeroB_iff.2 (fun x _ => hf.kp x), if_neg (by decide)]
  unfold otherE otherL
  rw [if_pos hv, if_pos hv]
  match hall : allF ws, hj with
  | [x], hj =>
    have hj0 : j = 0 := by simpa using hj
    subst hj0
    have hfo := all_first hB hall
    rw [show ([x] : List (List Int)).getD 0 [] = x from rfl, hfo, if_pos rfl, if_pos rfl, next_only hB hall]
    exact ⟨rfl, rfl⟩
  | x :: z :: t, hj =>
    have hfo := all_first hB hall
    have h1 : ¬ (x :: z :: t).length = 1 := by simp
    rw [if_neg h1, if_neg h1]
    by_cases hj0 : j = 0
    · subst hj0
      rw [show (x :: z :: t).getD 0 [] = x from rfl, if_pos hfo, if_pos hfo, all_next hB hall]
      exact ⟨rfl, rfl⟩
    · have hne := (all_lex (ws := ws) (show 0 < j by omega) (by rw [hall]; exact hj)).ne
      rw [hall] at hne
      rw [if_neg (by rw [hfo]; exact hne), if_neg (by rw [hfo]; exact hne), if_neg hj0]
      exact ⟨rfl, hfo⟩
theorem other_short2 {r : Nat} {ws : List W} (hB : BOk (r : Int) ws) {j : Nat} (hj : j < (allF ws).length) : (otherL (r : Int) ws ((allF ws).getD j [])).length ≤ 12 := by
  have hwl := hB.len
  rw [(other_at hB hj).2]
  split
  · simp
  · by_cases h : (if j = 0 then 1 else 0) < (allF ws).length
    · have := (all_get hB h).len
      omega
    · rw [List.getD_eq_getElem?_getD, List.getElem?_eq_none (by omega)]; simp

theorem law_next {h : AHeap} {a : Int} {vH : AV} {hs : List H4} (hv : Rd h vH 4 (flr hc hs)) (ha0 : 0 ≤ a) (ha1 : a ≤ 255) (hx : ∀ i, i < hs.length → (hs.getD i default).Ok) (hSz : Sizes h) {kk : Int} (hk0 : 0 ≤ kk) (hk1 : kk ≤ 255) : ACalls Go.Proofs.Tryd.prog 11 [.agg [.int .u8 a, vH], .int .u8 kk] h (fun q h' => q = .bool true) := by
  refine KA.fn 89 [.tmp 4] Go.Proofs.Tryd.func11 rfl (by decide) rfl rfl (Nat.le_of_ble_eq_true rfl) ?_
  have hS := St.refl h
  have hvo : vH.one = true := hv.one
  show KA _ 89 _ _ [(0, .agg [.int .u8 a, vH]), (1, .int .u8 kk)] _
  refine KA.seq ?_
  refine KA.region rfl ?_
  refine KOps.boxAll hS (by first | rfl | (simp [AV.one]; done) | (simp [AV.one]; assumption) | (simp [AV.one, *]; done)) ?_
  intro p2 h' hp2 hS
  refine KOps.assign ?_
  refine KOps.done ?_
  refine sqQ.normal ?_
  refine KA.sub (Sub.cons (t := 1) Look.eq (Sub.cons (t := 2) Look.eq (Sub.nil _))) ?_
  refine KA.seq ?_
  refine KA.region rfl ?_
  refine KOps.loadAll hS (i := 0) rfl hp2 (by rfl) (by decide) ?_
  refine KOps.call rfl (made_c (m := 5) (Rd.ext hS.keeps hv) ha0 ha1 hx (by decide)) ?_
  rintro _ h2 ⟨vB, rfl, hSM⟩
  have hS0 : St _ _ (_ :: _) := St.trans hS hSM
  clear hS
  have hS := hS0
  clear hS0
  have hvB : vB.one = true := St.one hS (k := 0) rfl
  have hrb := roomsOf_b ha0
  have hB := made_ok (hs := hs) (k := 5) hrb.1 (by omega) (by decide) hx
  have hT := made_thin (roomsOf a) hs 5 hx
  have hwl5 : (madeW (roomsOf a) hs 5).length ≤ 5 := by rw [madeW_len]; omega
  generalize madeW (roomsOf a) hs 5 = ws at hB hT hS hwl5 ⊢
  obtain ⟨r, hr⟩ : ∃ r : Nat, roomsOf a = (r : Int) := ⟨(roomsOf a).toNat, by omega⟩
  rw [hr] at hB hrb ⊢
  have hpw : 2 ^ r ≤ 2 ^ 6 := Nat.pow_le_pow_right (by decide) (by omega)
  have hsh := shl64 r (by omega)
  have hc0 := chk_of_B hB
  have hwl := hB.len
  refine KOps.alloc hS ?_
  intro p5 h' hp5 hS
  refine KOps.storeAll hS rfl (i := 0) rfl hp5 (by show (true && (vB.one && true)) = true; rw [hvB]; rfl) (by rfl) (by rfl) (by decide) ?_
  intro h' hS
  simp only [List.set_cons_zero, List.set_cons_succ, Nat.zero_add] at hS
  refine KOps.done ?_
  refine sqQ.normal ?_
  refine KA.sub (Sub.cons (t := 1) Look.eq (Sub.cons (t := 5) Look.eq (Sub.nil _))) ?_
  refine KA.seq ?_
  refine KA.region rfl ?_
  refine KOps.loadAll hS (i := 0) rfl hp5 (by rfl) (by decide) ?_
  refine KOps.call rfl (flows_c (hS.rd 1 rfl) hB hT) ?_
  rintro vA h3 ⟨vs, hvl, hF⟩
  have hS0 := St.rot (A := matObjs true vA vs (allF ws) ++ []) (St.trans hS hF)
  clear hS
  have hS := hS0
  clear hS0
  have hal := allF_len hT hwl
  refine KOps.assign ?_
  refine KOps.done ?_
  refine sqQ.normal ?_
  refine KA.sub (Sub.cons (t := 1) Look.eq (Sub.cons (t := 5) Look.eq (Sub.cons (t := 6) Look.eq (Sub.nil _)))) ?_
  refine KA.seq ?_
  refine KA.seq ?_
  refine KA.region rfl ?_
  refine KOps.move ?_
  refine KOps.lenV (St.outer (pre := [_, _, _]) hS) ?_
  refine KOps.eql ?_
  refine KOps.done ?_
  refine sqQ.normal ?_
  refine KA.sub (Sub.cons (t := 1) Look.eq (Sub.cons (t := 5) Look.eq (Sub.cons (t := 6) Look.eq (Sub.cons (t := 19) Look.eq (Sub.nil _))))) ?_
  refine KA.condD ?_ ?_
  · intro c19
    refine KA.seq ?_
    refine KA.region rfl ?_
    refine KOps.call rfl (works_c (hSz.ext hS.keeps)) ?_
    rintro _ hwk ⟨rfl, hK⟩
    refine KOps.assign ?_
    refine KOps.done ?_
    refine sqQ.normal ?_
    refine KA.sub (Sub.cons (t := 4) Look.eq (Sub.nil _)) ?_
    refine KA.ret ?_
    refine sqQ.ret ?_
    refine fnQ.ret1 ?_
    exact rfl
  · intro c19
    obtain ⟨j, hj, hjl⟩ := at_mod hk0 (show 0 < vs.length by omega)
    rw [hvl] at hjl
    have hfj := all_get hB hjl
    have hoa := other_at hB hjl
    have hos := other_short2 hB hjl
    have hjn := hfj.len
    refine KA.skip ?_
    refine sqQ.normal ?_
    refine KA.sub (Sub.cons (t := 1) Look.eq (Sub.cons (t := 5) Look.eq (Sub.cons (t := 6) Look.eq (Sub.nil _)))) ?_
    refine KA.seq ?_
    refine KA.region rfl ?_
    refine KOps.move ?_
    refine KOps.convU hk0 hk1 ?_
    refine KOps.move ?_
    refine KOps.lenV (St.outer (pre := [_, _, _]) hS) ?_
    refine KOps.rem (by omega) (by omega) (by omega) ?_
    rw [hj]
    refine KOps.assign ?_
    refine KOps.done ?_
    refine sqQ.normal ?_
    refine KA.sub (Sub.cons (t := 5) Look.eq (Sub.cons (t := 6) Look.eq (Sub.cons (t := 7) Look.eq (Sub.nil _)))) ?_
    refine KA.seq ?_
    refine KA.draw [5] mixed rfl (by kernel_rfl) ?_
    refine KOps.loadAll hS (i := 0) rfl hp5 (by rfl) (by decide) ?_
    refine KOps.move ?_
    refine KOps.move ?_
    refine KOps.indexVJ (St.outer (pre := [_, _, _]) hS) (j := j) (by first | omega | (simp; omega)) (by first | omega | (simp; omega)) ?_
    intro p30 hp30
    refine KOps.loadV hp30 (St.outer (pre := [_, _, _]) hS) (by first | omega | (simp; omega)) ?_
    refine KOps.callK (by rintro _ _ ⟨_, _, hr⟩; exact hr.keeps) (other_c (hS.rd 1 rfl) (St.rowAt (pre := [_, _, _]) hS (by first | assumption | omega | (simp only [List.length_set, List.length_append, List.length_singleton, List.length_replicate, List.length_take]; omega)) (by first | omega | (simp; omega)))) ?_
    rintro _ hrO ⟨vO, rfl, hSN⟩
    have hS0 : St _ _ (_ :: _) := St.trans hS hSN
    clear hS
    have hS := hS0
    clear hS0
    obtain ⟨hoe, hol⟩ := hoa
    generalize otherE (r : Int) ws ((allF ws).getD j []) = oe at hoe ⊢
    generalize otherL (r : Int) ws ((allF ws).getD j []) = lo at hol hos hS
    refine KOps.move ?_
    refine KOps.extract ?_
    refine KOps.extract ?_
    refine KOps.assign ?_
    refine KOps.assign ?_
    refine KOps.done ?_
    refine sqQ.normal ?_
    refine KA.sub (Sub.cons (t := 6) Look.eq (Sub.cons (t := 7) Look.eq (Sub.cons (t := 8) Look.eq (Sub.cons (t := 9) Look.eq (Sub.nil _))))) ?_
    refine KA.seq ?_
    refine KA.seq ?_
    refine KA.region rfl ?_
    refine KOps.move ?_
    refine KOps.lenV (St.outer (pre := [_, _, _, _]) hS) ?_
    refine KOps.eql ?_
    refine KOps.done ?_
    refine sqQ.normal ?_
    refine KA.sub (Sub.cons (t := 6) Look.eq (Sub.cons (t := 7) Look.eq (Sub.cons (t := 8) Look.eq (Sub.cons (t := 9) Look.eq (Sub.cons (t := 37) Look.eq (Sub.nil _)))))) ?_
    refine KA.condD ?_ ?_
    · intro c37
      rw [if_pos (by omega)] at hoe hol
      subst hoe hol
      refine KA.seq ?_
      refine KA.region rfl ?_
      refine KOps.move ?_
      refine KOps.eqlT rfl ?_
      refine KOps.move ?_
      refine KOps.guardYes (dj := 40) rfl rfl ?_
      refine KOps.move ?_
      refine KOps.guardYes (dj := 40) rfl rfl ?_
      refine KOps.lenI (hS.rd 0 rfl) ?_
      refine KOps.guardYes (dj := 40) rfl rfl ?_
      refine KOps.eqlT (by rfl) ?_
      refine KOps.pickT ?_
      refine KOps.move ?_
      refine KOps.guardYes (dj := 45) rfl rfl ?_
      refine KOps.call rfl (works_c (hSz.ext hS.keeps)) ?_
      rintro _ hwk ⟨rfl, hK⟩
      refine KOps.pickT ?_
      refine KOps.assign ?_
      refine KOps.done ?_
      refine sqQ.normal ?_
      refine KA.sub (Sub.cons (t := 4) Look.eq (Sub.nil _)) ?_
      refine KA.ret ?_
      refine sqQ.ret ?_
      refine fnQ.ret1 ?_
      exact rfl
    · intro c37
      rw [if_neg (by omega)] at hoe hol
      subst hoe
      refine KA.skip ?_
      refine sqQ.normal ?_
      refine KA.sub (Sub.cons (t := 6) Look.eq (Sub.cons (t := 7) Look.eq (Sub.cons (t := 8) Look.eq (Sub.cons (t := 9) Look.eq (Sub.nil _))))) ?_
      refine KA.seq ?_
      refine KA.region rfl ?_
      refine KOps.move ?_
      refine KOps.indexVJ (St.outer (pre := [_, _, _, _]) hS) (j := 0) rfl (by first | omega | (simp; omega)) ?_
      intro p49 hp49
      refine KOps.loadV hp49 (St.outer (pre := [_, _, _, _]) hS) (by first | omega | (simp; omega)) ?_
      refine KOps.assign ?_
      refine KOps.done ?_
      refine sqQ.normal ?_
      refine KA.sub (Sub.cons (t := 6) Look.eq (Sub.cons (t := 7) Look.eq (Sub.cons (t := 8) Look.eq (Sub.cons (t := 9) Look.eq (Sub.cons (t := 10) Look.eq (Sub.nil _)))))) ?_
      refine KA.seq ?_
      refine KA.seq ?_
      refine KA.region rfl ?_
      refine KOps.move ?_
      refine KOps.eql ?_
      refine KOps.done ?_
      refine sqQ.normal ?_
      refine KA.sub (Sub.cons (t := 6) Look.eq (Sub.cons (t := 7) Look.eq (Sub.cons (t := 8) Look.eq (Sub.cons (t := 9) Look.eq (Sub.cons (t := 10) Look.eq (Sub.cons (t := 52) Look.eq (Sub.nil _))))))) ?_
      refine KA.condD ?_ ?_
      · intro c52
        rw [if_pos (by omega)] at hol
        have hlof : Flow ws lo := by rw [hol]; exact all_get hB (by omega)
        have hll := hlof.len
        have hdd := dif_two hB hlof hfj (by rw [hol]; exact fun e => (all_lex (ws := ws) (show 0 < 1 by decide) (by omega)).ne (by rw [e]; congr 1; omega))
        have hdl := difTo_le lo ((allF ws).getD j [])
        refine KA.region rfl ?_
        refine KOps.move ?_
        refine KOps.indexVJ (St.outer (pre := [_, _, _, _]) hS) (j := 1) rfl (by first | omega | (simp; omega)) ?_
        intro p54 hp54
        refine KOps.loadV hp54 (St.outer (pre := [_, _, _, _]) hS) (by first | omega | (simp; omega)) ?_
        refine KOps.assign ?_
        refine KOps.done ?_
        refine sqQ.normal ?_
        refine KA.sub (Sub.cons (t := 6) Look.eq (Sub.cons (t := 7) Look.eq (Sub.cons (t := 8) Look.eq (Sub.cons (t := 9) Look.eq (Sub.cons (t := 10) Look.eq (Sub.nil _)))))) ?_
        refine KA.seq ?_
        refine KA.seq ?_
        refine KA.region rfl ?_
        refine KOps.move ?_
        refine KOps.neqF rfl ?_
        refine KOps.move ?_
        refine KOps.guardYes (dj := 58) rfl rfl ?_
        refine KOps.move ?_
        refine KOps.guardYes (dj := 58) rfl rfl ?_
        refine KOps.move ?_
        refine KOps.guardYes (dj := 58) rfl rfl ?_
        refine KOps.call rfl (same_c (hS.rd 0 rfl) (St.rowAt (pre := [_, _, _, _]) hS (by first | assumption | omega | (simp only [List.length_set, List.length_append, List.length_singleton, List.length_replicate, List.length_take]; omega)) (by first | omega | (simp; omega))) (by omega)) ?_
        rintro _ _ ⟨rfl, rfl⟩
        rw [decide_eq_true hol]
        refine KOps.guardYes (dj := 58) rfl rfl ?_
        refine KOps.not ?_
        refine KOps.pickF ?_
        refine KOps.done ?_
        refine sqQ.normal ?_
        refine KA.sub (Sub.cons (t := 6) Look.eq (Sub.cons (t := 7) Look.eq (Sub.cons (t := 8) Look.eq (Sub.cons (t := 63) Look.eq (Sub.nil _))))) ?_
        refine KA.condF ?_
        refine KA.skip ?_
        refine sqQ.normal ?_
        refine KA.sub (Sub.cons (t := 6) Look.eq (Sub.cons (t := 7) Look.eq (Sub.cons (t := 8) Look.eq (Sub.nil _)))) ?_
        refine KA.seq ?_
        refine KA.region rfl ?_
        refine KOps.assign ?_
        refine KOps.done ?_
        refine sqQ.normal ?_
        refine KA.seq ?_
        refine KA.seq ?_
        refine KA.region rfl ?_
        refine KOps.move ?_
        refine KOps.lenI (hS.rd 0 rfl) ?_
        refine KOps.move ?_
        refine KOps.done ?_
        refine sqQ.normal ?_
        refine KA.sub (Sub.cons (t := 6) Look.eq (Sub.cons (t := 7) Look.eq (Sub.cons (t := 8) Look.eq (Sub.cons (t := 11) Look.eq (Sub.cons (t := 65) Look.eq (Sub.cons (t := 66) Look.eq (Sub.nil _))))))) ?_
        refine KA.block ?_
        refine KA.loop (X := Nat) (fun i => [(6, vA), (7, .int .i64 (j : Int)), (8, vO), (11, .int .i64 ((difTo lo ((allF ws).getD j []) i : Nat) : Int)), (65, .int .i64 (lo.length : Int)), (66, .int .i64 (i : Int))]) (fun i h' => i ≤ lo.length ∧ St h h' ([⟨vO, 1, ints lo, true⟩, ⟨p5, 0, [.int .i64 (r : Int), vB], true⟩, ⟨vB, 4, flr wc ws, true⟩, ⟨p2, 0, [.int .u8 a, vH], true⟩] ++ (matObjs true vA vs (allF ws) ++ []))) (fun i => lo.length - i) 0 (by repeat (first | exact Sub.nil _ | refine Sub.cons Look.eq ?_ | refine Sub.cons (Eq.trans Look.eq (congrArg (AV.int _) (by first | omega | (dsimp only; omega)))) ?_)) ?_ ?_
        · exact ⟨Nat.zero_le _, hS⟩
        rintro i h6 ⟨hi, hS⟩
        have hdi := hdl i
        refine KA.seq ?_
        refine KA.region rfl ?_
        refine KOps.lss ?_
        refine KOps.done ?_
        refine sqQ.normal ?_
        refine KA.seq ?_
        refine KA.condD ?_ ?_
        · intro c67
          refine KA.skip ?_
          refine sqQ.normal ?_
          refine KA.sub (Sub.cons (t := 6) Look.eq (Sub.cons (t := 7) Look.eq (Sub.cons (t := 8) Look.eq (Sub.cons (t := 11) Look.eq (Sub.cons (t := 65) Look.eq (Sub.cons (t := 66) Look.eq (Sub.nil _))))))) ?_
          refine KA.seq ?_
          refine KA.block ?_
          refine KA.seq ?_
          refine KA.region rfl ?_
          refine KOps.move ?_
          refine KOps.assign ?_
          refine KOps.done ?_
          refine sqQ.normal ?_
          refine KA.sub (Sub.cons (t := 6) Look.eq (Sub.cons (t := 7) Look.eq (Sub.cons (t := 8) Look.eq (Sub.cons (t := 11) Look.eq (Sub.cons (t := 12) Look.eq (Sub.cons (t := 65) Look.eq (Sub.cons (t := 66) Look.eq (Sub.nil _)))))))) ?_
          refine KA.seq ?_
          refine KA.draw [] mixed rfl (by kernel_rfl) ?_
          refine KOps.move ?_
          refine KOps.move ?_
          refine KOps.indexIJ (hS.rd 0 rfl) (j := i) (by first | omega | (simp; omega)) (by first | omega | (simp; omega)) ?_
          intro p71 hp71
          refine KOps.loadI hp71 (hS.rd 0 rfl) (by first | omega | (simp; omega)) ?_
          refine KOps.move ?_
          refine KOps.move ?_
          refine KOps.indexVJ (St.outer (pre := [_, _, _, _]) hS) (j := j) (by first | omega | (simp; omega)) (by first | omega | (simp; omega)) ?_
          intro p75 hp75
          refine KOps.loadV hp75 (St.outer (pre := [_, _, _, _]) hS) (by first | omega | (simp; omega)) ?_
          refine KOps.move ?_
          refine KOps.indexIJ (St.rowAt (pre := [_, _, _, _]) hS (by first | assumption | omega | (simp only [List.length_set, List.length_append, List.length_singleton, List.length_replicate, List.length_take]; omega)) (by first | omega | (simp; omega))) (j := i) (by first | omega | (simp; omega)) (by first | omega | (simp; omega)) ?_
          intro p78 hp78
          refine KOps.loadI hp78 (St.rowAt (pre := [_, _, _, _]) hS (by first | assumption | omega | (simp only [List.length_set, List.length_append, List.length_singleton, List.length_replicate, List.length_take]; omega)) (by first | omega | (simp; omega))) (by first | omega | (simp; omega)) ?_
          refine KOps.neq ?_
          refine KOps.done ?_
          refine sqQ.normal ?_
          refine KA.sub (Sub.cons (t := 6) Look.eq (Sub.cons (t := 7) Look.eq (Sub.cons (t := 8) Look.eq (Sub.cons (t := 11) Look.eq (Sub.cons (t := 65) Look.eq (Sub.cons (t := 66) Look.eq (Sub.cons (t := 80) Look.eq (Sub.nil _)))))))) ?_
          refine KA.condN ?_ ?_
          · intro c80
            refine KA.region rfl ?_
            refine KOps.move ?_
            refine KOps.add (by first | omega | (simp; omega)) (by first | omega | (simp; omega)) ?_
            refine KOps.assign ?_
            refine KOps.done ?_
            refine blQ.normal ?_
            refine sqQ.normal ?_
            refine KA.sub (Sub.cons (t := 6) Look.eq (Sub.cons (t := 7) Look.eq (Sub.cons (t := 8) Look.eq (Sub.cons (t := 11) Look.eq (Sub.cons (t := 65) Look.eq (Sub.cons (t := 66) Look.eq (Sub.nil _))))))) ?_
            refine KA.region rfl ?_
            refine KOps.add (by first | omega | (simp; omega)) (by first | omega | (simp; omega)) ?_
            refine KOps.move ?_
            refine KOps.done ?_
            refine lpQ.normal (i + 1) (by repeat (first | exact Sub.nil _ | refine Sub.cons Look.eq ?_ | refine Sub.cons (Eq.trans Look.eq (congrArg (AV.int _) (by first | omega | (dsimp only; omega)))) ?_ | refine Sub.cons (Eq.trans Look.eq (congrArg (AV.int _) (by rw [difTo, if_pos c80] <;> omega))) ?_)) ⟨by omega, hS⟩ (by omega)
          · intro c80
            refine KA.skip ?_
            refine blQ.normal ?_
            refine sqQ.normal ?_
            refine KA.sub (Sub.cons (t := 6) Look.eq (Sub.cons (t := 7) Look.eq (Sub.cons (t := 8) Look.eq (Sub.cons (t := 11) Look.eq (Sub.cons (t := 65) Look.eq (Sub.cons (t := 66) Look.eq (Sub.nil _))))))) ?_
            refine KA.region rfl ?_
            refine KOps.add (by first | omega | (simp; omega)) (by first | omega | (simp; omega)) ?_
            refine KOps.move ?_
            refine KOps.done ?_
            refine lpQ.normal (i + 1) (by repeat (first | exact Sub.nil _ | refine Sub.cons Look.eq ?_ | refine Sub.cons (Eq.trans Look.eq (congrArg (AV.int _) (by first | omega | (dsimp only; omega)))) ?_ | refine Sub.cons (Eq.trans Look.eq (congrArg (AV.int _) (by rw [difTo, if_neg (fun h => h c80)] <;> omega))) ?_)) ⟨by omega, hS⟩ (by omega)
        · intro c67
          obtain rfl : i = lo.length := by omega
          refine KA.exit ?_
          refine sqQ.exit ?_
          refine lpQ.exit ?_
          refine blQ.here ?_
          refine sqQ.normal ?_
          refine KA.sub (Sub.cons (t := 11) Look.eq (Sub.nil _)) ?_
          refine KA.seq ?_
          refine KA.region rfl ?_
          refine KOps.move ?_
          refine KOps.gtr ?_
          rw [decide_eq_true (by omega)]
          refine KOps.move ?_
          refine KOps.guardYes (dj := 86) rfl rfl ?_
          refine KOps.call rfl (works_c (hSz.ext hS.keeps)) ?_
          rintro _ hwk ⟨rfl, hK⟩
          refine KOps.pickT ?_
          refine KOps.assign ?_
          refine KOps.done ?_
          refine sqQ.normal ?_
          refine KA.sub (Sub.cons (t := 4) Look.eq (Sub.nil _)) ?_
          refine KA.ret ?_
          refine fnQ.ret1 ?_
          exact rfl
      · intro c52
        rw [if_neg (by omega)] at hol
        have hlof : Flow ws lo := by rw [hol]; exact all_get hB (by omega)
        have hll := hlof.len
        have hdd := dif_two hB hlof hfj (by rw [hol]; exact (all_lex (ws := ws) (show 0 < j by omega) (by omega)).ne)
        have hdl := difTo_le lo ((allF ws).getD j [])
        refine KA.skip ?_
        refine sqQ.normal ?_
        refine KA.sub (Sub.cons (t := 6) Look.eq (Sub.cons (t := 7) Look.eq (Sub.cons (t := 8) Look.eq (Sub.cons (t := 9) Look.eq (Sub.cons (t := 10) Look.eq (Sub.nil _)))))) ?_
        refine KA.seq ?_
        refine KA.seq ?_
        refine KA.region rfl ?_
        refine KOps.move ?_
        refine KOps.neqF rfl ?_
        refine KOps.move ?_
        refine KOps.guardYes (dj := 58) rfl rfl ?_
        refine KOps.move ?_
        refine KOps.guardYes (dj := 58) rfl rfl ?_
        refine KOps.move ?_
        refine KOps.guardYes (dj := 58) rfl rfl ?_
        refine KOps.call rfl (same_c (hS.rd 0 rfl) (St.rowAt (pre := [_, _, _, _]) hS (by first | assumption | omega | (simp only [List.length_set, List.length_append, List.length_singleton, List.length_replicate, List.length_take]; omega)) (by first | omega | (simp; omega))) (by omega)) ?_
        rintro _ _ ⟨rfl, rfl⟩
        rw [decide_eq_true hol]
        refine KOps.guardYes (dj := 58) rfl rfl ?_
        refine KOps.not ?_
        refine KOps.pickF ?_
        refine KOps.done ?_
        refine sqQ.normal ?_
        refine KA.sub (Sub.cons (t := 6) Look.eq (Sub.cons (t := 7) Look.eq (Sub.cons (t := 8) Look.eq (Sub.cons (t := 63) Look.eq (Sub.nil _))))) ?_
        refine KA.condF ?_
        refine KA.skip ?_
        refine sqQ.normal ?_
        refine KA.sub (Sub.cons (t := 6) Look.eq (Sub.cons (t := 7) Look.eq (Sub.cons (t := 8) Look.eq (Sub.nil _)))) ?_
        refine KA.seq ?_
        refine KA.region rfl ?_
        refine KOps.assign ?_
        refine KOps.done ?_
        refine sqQ.normal ?_
        refine KA.seq ?_
        refine KA.seq ?_
        refine KA.region rfl ?_
        refine KOps.move ?_
        refine KOps.lenI (hS.rd 0 rfl) ?_
        refine KOps.move ?_
        refine KOps.done ?_
        refine sqQ.normal ?_
        refine KA.sub (Sub.cons (t := 6) Look.eq (Sub.cons (t := 7) Look.eq (Sub.cons (t := 8) Look.eq (Sub.cons (t := 11) Look.eq (Sub.cons (t := 65) Look.eq (Sub.cons (t := 66) Look.eq (Sub.nil _))))))) ?_
        refine KA.block ?_
        refine KA.loop (X := Nat) (fun i => [(6, vA), (7, .int .i64 (j : Int)), (8, vO), (11, .int .i64 ((difTo lo ((allF ws).getD j []) i : Nat) : Int)), (65, .int .i64 (lo.length : Int)), (66, .int .i64 (i : Int))]) (fun i h' => i ≤ lo.length ∧ St h h' ([⟨vO, 1, ints lo, true⟩, ⟨p5, 0, [.int .i64 (r : Int), vB], true⟩, ⟨vB, 4, flr wc ws, true⟩, ⟨p2, 0, [.int .u8 a, vH], true⟩] ++ (matObjs true vA vs (allF ws) ++ []))) (fun i => lo.length - i) 0 (by repeat (first | exact Sub.nil _ | refine Sub.cons Look.eq ?_ | refine Sub.cons (Eq.trans Look.eq (congrArg (AV.int _) (by first | omega | (dsimp only; omega)))) ?_)) ?_ ?_
        · exact ⟨Nat.zero_le _, hS⟩
        rintro i h6 ⟨hi, hS⟩
        have hdi := hdl i
        refine KA.seq ?_
        refine KA.region rfl ?_
        refine KOps.lss ?_
        refine KOps.done ?_
        refine sqQ.normal ?_
        refine KA.seq ?_
        refine KA.condD ?_ ?_
        · intro c67
          refine KA.skip ?_
          refine sqQ.normal ?_
          refine KA.sub (Sub.cons (t := 6) Look.eq (Sub.cons (t := 7) Look.eq (Sub.cons (t := 8) Look.eq (Sub.cons (t := 11) Look.eq (Sub.cons (t := 65) Look.eq (Sub.cons (t := 66) Look.eq (Sub.nil _))))))) ?_
          refine KA.seq ?_
          refine KA.block ?_
          refine KA.seq ?_
          refine KA.region rfl ?_
          refine KOps.move ?_
          refine KOps.assign ?_
          refine KOps.done ?_
          refine sqQ.normal ?_
          refine KA.sub (Sub.cons (t := 6) Look.eq (Sub.cons (t := 7) Look.eq (Sub.cons (t := 8) Look.eq (Sub.cons (t := 11) Look.eq (Sub.cons (t := 12) Look.eq (Sub.cons (t := 65) Look.eq (Sub.cons (t := 66) Look.eq (Sub.nil _)))))))) ?_
          refine KA.seq ?_
          refine KA.draw [] mixed rfl (by kernel_rfl) ?_
          refine KOps.move ?_
          refine KOps.move ?_
          refine KOps.indexIJ (hS.rd 0 rfl) (j := i) (by first | omega | (simp; omega)) (by first | omega | (simp; omega)) ?_
          intro p71 hp71
          refine KOps.loadI hp71 (hS.rd 0 rfl) (by first | omega | (simp; omega)) ?_
          refine KOps.move ?_
          refine KOps.move ?_
          refine KOps.indexVJ (St.outer (pre := [_, _, _, _]) hS) (j := j) (by first | omega | (simp; omega)) (by first | omega | (simp; omega)) ?_
          intro p75 hp75
          refine KOps.loadV hp75 (St.outer (pre := [_, _, _, _]) hS) (by first | omega | (simp; omega)) ?_
          refine KOps.move ?_
          refine KOps.indexIJ (St.rowAt (pre := [_, _, _, _]) hS (by first | assumption | omega | (simp only [List.length_set, List.length_append, List.length_singleton, List.length_replicate, List.length_take]; omega)) (by first | omega | (simp; omega))) (j := i) (by first | omega | (simp; omega)) (by first | omega | (simp; omega)) ?_
          intro p78 hp78
          refine KOps.loadI hp78 (St.rowAt (pre := [_, _, _, _]) hS (by first | assumption | omega | (simp only [List.length_set, List.length_append, List.length_singleton, List.length_replicate, List.length_take]; omega)) (by first | omega | (simp; omega))) (by first | omega | (simp; omega)) ?_
          refine KOps.neq ?_
          refine KOps.done ?_
          refine sqQ.normal ?_
          refine KA.sub (Sub.cons (t := 6) Look.eq (Sub.cons (t := 7) Look.eq (Sub.cons (t := 8) Look.eq (Sub.cons (t := 11) Look.eq (Sub.cons (t := 65) Look.eq (Sub.cons (t := 66) Look.eq (Sub.cons (t := 80) Look.eq (Sub.nil _)))))))) ?_
          refine KA.condN ?_ ?_
          · intro c80
            refine KA.region rfl ?_
            refine KOps.move ?_
            refine KOps.add (by first | omega | (simp; omega)) (by first | omega | (simp; omega)) ?_
            refine KOps.assign ?_
            refine KOps.done ?_
            refine blQ.normal ?_
            refine sqQ.normal ?_
            refine KA.sub (Sub.cons (t := 6) Look.eq (Sub.cons (t := 7) Look.eq (Sub.cons (t := 8) Look.eq (Sub.cons (t := 11) Look.eq (Sub.cons (t := 65) Look.eq (Sub.cons (t := 66) Look.eq (Sub.nil _))))))) ?_
            refine KA.region rfl ?_
            refine KOps.add (by first | omega | (simp; omega)) (by first | omega | (simp; omega)) ?_
            refine KOps.move ?_
            refine KOps.done ?_
            refine lpQ.normal (i + 1) (by repeat (first | exact Sub.nil _ | refine Sub.cons Look.eq ?_ | refine Sub.cons (Eq.trans Look.eq (congrArg (AV.int _) (by first | omega | (dsimp only; omega)))) ?_ | refine Sub.cons (Eq.trans Look.eq (congrArg (AV.int _) (by rw [difTo, if_pos c80] <;> omega))) ?_)) ⟨by omega, hS⟩ (by omega)
          · intro c80
            refine KA.skip ?_
            refine blQ.normal ?_
            refine sqQ.normal ?_
            refine KA.sub (Sub.cons (t := 6) Look.eq (Sub.cons (t := 7) Look.eq (Sub.cons (t := 8) Look.eq (Sub.cons (t := 11) Look.eq (Sub.cons (t := 65) Look.eq (Sub.cons (t := 66) Look.eq (Sub.nil _))))))) ?_
            refine KA.region rfl ?_
            refine KOps.add (by first | omega | (simp; omega)) (by first | omega | (simp; omega)) ?_
            refine KOps.move ?_
            refine KOps.done ?_
            refine lpQ.normal (i + 1) (by repeat (first | exact Sub.nil _ | refine Sub.cons Look.eq ?_ | refine Sub.cons (Eq.trans Look.eq (congrArg (AV.int _) (by first | omega | (dsimp only; omega)))) ?_ | refine Sub.cons (Eq.trans Look.eq (congrArg (AV.int _) (by rw [difTo, if_neg (fun h => h c80)] <;> omega))) ?_)) ⟨by omega, hS⟩ (by omega)
        · intro c67
          obtain rfl : i = lo.length := by omega
          refine KA.exit ?_
          refine sqQ.exit ?_
          refine lpQ.exit ?_
          refine blQ.here ?_
          refine sqQ.normal ?_
          refine KA.sub (Sub.cons (t := 11) Look.eq (Sub.nil _)) ?_
          refine KA.seq ?_
          refine KA.region rfl ?_
          refine KOps.move ?_
          refine KOps.gtr ?_
          rw [decide_eq_true (by omega)]
          refine KOps.move ?_
          refine KOps.guardYes (dj := 86) rfl rfl ?_
          refine KOps.call rfl (works_c (hSz.ext hS.keeps)) ?_
          rintro _ hwk ⟨rfl, hK⟩
          refine KOps.pickT ?_
          refine KOps.assign ?_
          refine KOps.done ?_
          refine sqQ.normal ?_
          refine KA.sub (Sub.cons (t := 4) Look.eq (Sub.nil _)) ?_
          refine KA.ret ?_
          refine fnQ.ret1 ?_
          exact rfl

end Go.Am
