/-
  Tops: stamps that go by several ways, and backs: the law.
  Conditions: none.
-/
import Derived.Test.YtdfhmdhjeiipfaaKe
import Derived.Test.YtdfhmdhjeiipfaaAmW
namespace Go.Am
open Go.RowKit
section
variable {P : Program} {n : Nat} {ops : Array Oper} {ex : List Nat} {Q : KF → AHeap → Prop} {k : Nat} {os : List Oper} {K : KF} {h : AHeap} {d : Nat} {ty : TypeId} {pos : String} {after : Array Edge}
theorem KOps.eqlY {t t' : TypeId} {x y : Operand} {kd : IntKind} {a b : Int} [hx : EvK h.globs n K x (.int kd a)] [hy : EvK h.globs n K y (.int kd b)] (hab : a = b) (hk : KOps P n ops ex Q (k + 1) os ((d, .bool true) :: K) h) : KOps P n ops ex Q k (⟨some d, .binOp .eql t x y t', ty, pos, after, none⟩ :: os) K h :=
  KOps.eql (a := a) (b := b) (by rw [decide_eq_true hab]; exact hk)
theorem KOps.neqPairZ {t t' e : TypeId} {x y : Operand} {a b c f : Int} [hx : EvK h.globs n K x (.agg [.int .i64 a, .int .i64 b])] [hy : EvK h.globs n K y (.agg [.int .i64 c, .int .i64 f])] (h1 : arrA P t = some (2, e)) (h2 : intA P e = some .i64) (h3 : P.eqGuardType P.depth t = false) (h4 : szA P e = some 1) (hac : a = c) (hbf : b = f)
    (hk : KOps P n ops ex Q (k + 1) os ((d, .bool false) :: K) h) : KOps P n ops ex Q k (⟨some d, .binOp .neq t x y t', ty, pos, after, none⟩ :: os) K h := by
  subst hac hbf
  refine KOps.pure rfl ?_ hk
  simp only [apure, hx.eq, hy.eq, abin, aarr, h1, h2, h3, h4, alits, if_true, Option.map_some, List.length_cons, List.length_nil, true_and, and_self]
  rw [show (([a, b] : List Int) == [a, b]) = true from beq_self_eq_true _]
  rfl
end
theorem with_all {c k : Nat} (hc : c < 3) (hk : k ≤ cN c) : withOk c k = true := by
  unfold cN at hk
  have key : ∀ {l : List Nat} {m : Nat}, l.all (withOk m) = true → k ∈ l → withOk m k = true := fun h1 h2 => List.all_eq_true.1 h1 k h2
  rcases (show c = 0 ∨ c = 1 ∨ c = 2 by omega) with rfl | rfl | rfl
  · exact key with0 (List.mem_range.2 (by omega))
  · have hm : k ∈ (List.range 7).take 4 ++ (List.range 7).drop 4 := by rw [List.take_append_drop]; exact List.mem_range.2 (by omega)
    rcases List.mem_append.1 hm with hm | hm
    · exact key with1a hm
    · exact key with1b hm
  · have hs : ∀ k, k < 10 → k ∈ ((List.range 10).drop 0).take 2 ∨ k ∈ ((List.range 10).drop 2).take 2 ∨ k ∈ ((List.range 10).drop 4).take 2 ∨ k ∈ ((List.range 10).drop 6).take 2 ∨ k ∈ ((List.range 10).drop 8).take 2 := by decide +kernel
    rcases hs k (by omega) with hm | hm | hm | hm | hm
    · exact key with2_0 hm
    · exact key with2_2 hm
    · exact key with2_4 hm
    · exact key with2_6 hm
    · exact key with2_8 hm
theorem with_c {h : AHeap} {c n k : Nat} {vT vC : AV} (hc : c < 3) (hn : n = cN c) (hk : k ≤ n) (hT : Row h vT [0]) (hC : Row h vC [(n : Int) - (k : Int), (k : Int)]) : ACalls Go.Proofs.Try.prog 12 [.agg [.int .i64 3, .int .i64 ((1 + c : Nat) : Int), .int .i64 2, vT], vC] h (fun q h' => q = .tup [.int .i64 ((cntC n k (2 ^ n) : Nat) : Int), .int .i64 0] ∧ Keeps h h') := by
  subst hn
  exact over_plainG mixed 20000 [.agg [.int .i64 3, .int .i64 ((1 + c : Nat) : Int), .int .i64 2, .slc 0 0 1 1 false], .slc 1 0 2 1 false] [⟨vT, 1, ints [0], ints [0]⟩, ⟨vC, 1, ints [(cN c : Int) - (k : Int), (k : Int)], ints [(cN c : Int) - (k : Int), (k : Int)]⟩] []
    (okGs_cons (okG_row hT rfl rfl) (okGs_cons (okG_row hC rfl rfl) okGs_nil)) hgs_nil rfl
    (imG_cons (.agg _ _ rfl (imG_cons (.plain _ rfl) (imG_cons (.plain _ rfl) (imG_cons (.plain _ rfl) (imG_cons (imG_slc rfl (by decide) rfl) imG_nil))))) (imG_cons (imG_slc rfl (by decide) rfl) imG_nil)) (with_all hc hk) (shm_tup2 rfl rfl)
theorem backCount_run : runsG Go.Proofs.Try.prog 4000 38 [.agg [.int .i64 2, .int .i64 2, .int .i64 2, .slc 0 0 4 1 false]] [ints [0, 1, 2, 3]] [] (fun r _ => AV.isP 3 r (.tup [.int .i64 6, .int .i64 0])) = true := by kernel_rfl
theorem backCountL_c {h : AHeap} {v : AV} (hv : Row h v [0, 1, 2, 3]) : ACalls Go.Proofs.Try.prog 38 [.agg [.int .i64 2, .int .i64 2, .int .i64 2, v]] h (fun q h' => q = .tup [.int .i64 6, .int .i64 0] ∧ Keeps h h') :=
  over_plainG mixed 4000 [.agg [.int .i64 2, .int .i64 2, .int .i64 2, .slc 0 0 4 1 false]] [⟨v, 1, ints [0, 1, 2, 3], ints [0, 1, 2, 3]⟩] [] (okGs_cons (okG_row hv rfl rfl) okGs_nil) hgs_nil rfl
    (imG_cons (.agg _ _ rfl (imG_cons (.plain _ rfl) (imG_cons (.plain _ rfl) (imG_cons (.plain _ rfl) (imG_cons (imG_slc rfl (by decide) rfl) imG_nil))))) imG_nil) backCount_run (shm_tup2 rfl rfl)
theorem ok23 : (⟨2, 3, 2, 1⟩ : Sht).Ok := ⟨by decide, by decide, by decide, by decide⟩
theorem cnt23 : (⟨2, 3, 2, 1⟩ : Sht).cntS 0 = 3 := by decide +kernel
theorem cut23_c {h : AHeap} : ACalls Go.Proofs.Try.prog 21 [.agg [.int .i64 2, .int .i64 3, .int .i64 2, .int .i64 1]] h (fun q h' => q = .tup [.int .i64 3, .int .i64 0] ∧ Keeps h h') := by
  refine ACalls.mono (cutCount_c ok23) ?_
  rintro q h' ⟨rfl, hk⟩
  rw [cnt23]
  exact ⟨rfl, hk⟩
theorem bok_WT : BOk ((3 : Nat) : Int) wT := (agree_ok agrWT).1
theorem askWT : askE 3 wT 0 = 0 := by decide +kernel
theorem loWT : loOf wT 0 = 5 := (loOf_is (agree_ok agrWT).2 (by decide)).uniq (lo_chk bok_WT (by decide) (by decide +kernel))
theorem hiWT : hiOf wT 0 = 6 := (hiOf_is (agree_ok agrWT).2 (by decide)).uniq (hi_chk bok_WT (by decide) (by decide +kernel))
theorem spanWT_c {h : AHeap} {v : AV} (hv : Rd h v 4 (flr wc wT)) : ACalls Go.Proofs.Try.prog 39 [.agg [.int .i64 3, v], .int .i64 0] h (fun q h' => q = .tup [.int .i64 5, .int .i64 6, .int .i64 0] ∧ Keeps h h') := by
  refine ACalls.mono (stSpan_c (rm := 3) (i := 0) (ws := wT) hv) ?_
  rintro q h' ⟨rfl, hk⟩
  rw [askWT, if_pos rfl, if_pos rfl, show (0 : Int).toNat = 0 from rfl, loWT, hiWT]
  exact ⟨rfl, hk⟩

theorem turnedWorks_c {h : AHeap} : ACalls Go.Proofs.Try.prog 15 [] h (fun q h' => q = .bool true ∧ Keeps h h') := by
  refine KA.fn 56 [.tmp 0] Go.Proofs.Try.func15 rfl (by decide) rfl rfl (Nat.le_of_ble_eq_true rfl) ?_
  have hS := St.refl h
  show KA _ 56 _ _ [] _
  refine KA.seq ?_
  refine KA.region rfl ?_
  refine KOps.assign ?_
  refine KOps.done ?_
  refine sqQ.normal ?_
  refine KA.sub (Sub.nil _) ?_
  refine KA.seq ?_
  refine KA.region rfl ?_
  refine KOps.buildSlice hS rfl (by decide) rfl ?_
  intro v9 h' hS
  have hv9 : v9.one = true := St.one hS (k := 0) rfl
  refine KOps.call rfl list_c ?_
  rintro _ _ ⟨rfl, rfl⟩
  refine KOps.buildG (zs := [.int .i64 0, .int .i64 0, .int .i64 0, .nils]) (cs := [_, _, _, _]) (by kernel_rfl) (by rfl) (by kernel_rfl) (.cons (off := 0) (s := 1) (by kernel_rfl) (AV.cells_one (by first | rfl | assumption)) rfl (by decide) (.cons (off := 1) (s := 1) (by kernel_rfl) (AV.cells_one (by first | rfl | assumption)) rfl (by decide) (.cons (off := 2) (s := 1) (by kernel_rfl) (AV.cells_one (by first | rfl | assumption)) rfl (by decide) (.cons (off := 3) (s := 1) (by kernel_rfl) (AV.cells_one (by first | rfl | assumption)) rfl (by decide) .nil)))) (by rfl) ?_
  refine KOps.call rfl (backCountL_c (hS.rd 0 rfl)) ?_
  rintro _ hx ⟨rfl, hK⟩
  have hS0 : St _ _ _ := St.trans hS (St.ofK hK)
  clear hS
  have hS := hS0
  clear hS0
  simp only [List.nil_append] at hS
  refine KOps.move ?_
  refine KOps.extract ?_
  refine KOps.extract ?_
  refine KOps.assign ?_
  refine KOps.assign ?_
  refine KOps.done ?_
  refine sqQ.normal ?_
  refine KA.sub (Sub.cons (t := 1) Look.eq (Sub.cons (t := 2) Look.eq (Sub.nil _))) ?_
  refine KA.seq ?_
  refine KA.region rfl ?_
  refine KOps.buildG (zs := [.int .i64 0, .int .i64 0, .int .i64 0, .int .i64 0]) (cs := [_, _, _, _]) (by kernel_rfl) (by rfl) (by kernel_rfl) (.cons (off := 0) (s := 1) (by kernel_rfl) (AV.cells_one (by first | rfl | assumption)) rfl (by decide) (.cons (off := 1) (s := 1) (by kernel_rfl) (AV.cells_one (by first | rfl | assumption)) rfl (by decide) (.cons (off := 2) (s := 1) (by kernel_rfl) (AV.cells_one (by first | rfl | assumption)) rfl (by decide) (.cons (off := 3) (s := 1) (by kernel_rfl) (AV.cells_one (by first | rfl | assumption)) rfl (by decide) .nil)))) (by rfl) ?_
  refine KOps.call rfl (cut23_c) ?_
  rintro _ hx ⟨rfl, hK⟩
  have hS0 : St _ _ _ := St.trans hS (St.ofK hK)
  clear hS
  have hS := hS0
  clear hS0
  simp only [List.nil_append] at hS
  refine KOps.move ?_
  refine KOps.extract ?_
  refine KOps.extract ?_
  refine KOps.assign ?_
  refine KOps.assign ?_
  refine KOps.done ?_
  refine sqQ.normal ?_
  refine KA.sub (Sub.cons (t := 1) Look.eq (Sub.cons (t := 2) Look.eq (Sub.cons (t := 3) Look.eq (Sub.cons (t := 4) Look.eq (Sub.nil _))))) ?_
  refine KA.seq ?_
  refine KA.region rfl ?_
  refine KOps.buildG (zs := [.int .i64 0, .int .i64 0, .int .i64 0, .int .i64 0]) (cs := [_, _, _, _]) (by kernel_rfl) (by rfl) (by kernel_rfl) (.cons (off := 0) (s := 1) (by kernel_rfl) (AV.cells_one (by first | rfl | assumption)) rfl (by decide) (.cons (off := 1) (s := 1) (by kernel_rfl) (AV.cells_one (by first | rfl | assumption)) rfl (by decide) (.cons (off := 2) (s := 1) (by kernel_rfl) (AV.cells_one (by first | rfl | assumption)) rfl (by decide) (.cons (off := 3) (s := 1) (by kernel_rfl) (AV.cells_one (by first | rfl | assumption)) rfl (by decide) .nil)))) (by rfl) ?_
  refine KOps.buildG (zs := [.int .i64 0, .int .i64 0, .int .i64 0, .int .i64 0]) (cs := [_, _, _, _]) (by kernel_rfl) (by rfl) (by kernel_rfl) (.cons (off := 0) (s := 1) (by kernel_rfl) (AV.cells_one (by first | rfl | assumption)) rfl (by decide) (.cons (off := 1) (s := 1) (by kernel_rfl) (AV.cells_one (by first | rfl | assumption)) rfl (by decide) (.cons (off := 2) (s := 1) (by kernel_rfl) (AV.cells_one (by first | rfl | assumption)) rfl (by decide) (.cons (off := 3) (s := 1) (by kernel_rfl) (AV.cells_one (by first | rfl | assumption)) rfl (by decide) .nil)))) (by rfl) ?_
  refine KOps.buildG (zs := [.int .i64 0, .int .i64 0, .int .i64 0, .int .i64 0]) (cs := [_, _, _, _]) (by kernel_rfl) (by rfl) (by kernel_rfl) (.cons (off := 0) (s := 1) (by kernel_rfl) (AV.cells_one (by first | rfl | assumption)) rfl (by decide) (.cons (off := 1) (s := 1) (by kernel_rfl) (AV.cells_one (by first | rfl | assumption)) rfl (by decide) (.cons (off := 2) (s := 1) (by kernel_rfl) (AV.cells_one (by first | rfl | assumption)) rfl (by decide) (.cons (off := 3) (s := 1) (by kernel_rfl) (AV.cells_one (by first | rfl | assumption)) rfl (by decide) .nil)))) (by rfl) ?_
  refine KOps.buildSliceS (cs := flr wc wT) hS rfl rfl rfl (by decide) ?_
  intro v24 h' hS
  have hv24 : v24.one = true := St.one hS (k := 0) rfl
  refine KOps.buildG (zs := [.int .i64 0, .nils]) (cs := [_, _]) (by kernel_rfl) (by rfl) (by kernel_rfl) (.cons (off := 0) (s := 1) (by kernel_rfl) (AV.cells_one (by first | rfl | assumption)) rfl (by decide) (.cons (off := 1) (s := 1) (by kernel_rfl) (AV.cells_one (by first | rfl | assumption)) rfl (by decide) .nil)) (by rfl) ?_
  refine KOps.call rfl (spanWT_c (hS.rd 0 rfl)) ?_
  rintro _ hx ⟨rfl, hK⟩
  have hS0 : St _ _ _ := St.trans hS (St.ofK hK)
  clear hS
  have hS := hS0
  clear hS0
  simp only [List.nil_append] at hS
  refine KOps.move ?_
  refine KOps.extract ?_
  refine KOps.extract ?_
  refine KOps.extract ?_
  refine KOps.assign ?_
  refine KOps.assign ?_
  refine KOps.assign ?_
  refine KOps.done ?_
  refine sqQ.normal ?_
  refine KA.sub (Sub.cons (t := 1) Look.eq (Sub.cons (t := 2) Look.eq (Sub.cons (t := 3) Look.eq (Sub.cons (t := 4) Look.eq (Sub.cons (t := 5) Look.eq (Sub.cons (t := 6) Look.eq (Sub.cons (t := 7) Look.eq (Sub.nil _)))))))) ?_
  refine KA.seq ?_
  refine KA.region rfl ?_
  refine KOps.move ?_
  refine KOps.eql ?_
  refine KOps.move ?_
  refine KOps.guardB (dj := 32) rfl rfl true false rfl ?_ ?_
  · intro g32
    have g32 := of_decide_eq_true g32
    refine KOps.move ?_
    refine KOps.guardYes (dj := 32) rfl rfl ?_
    refine KOps.eql ?_
    refine KOps.pickT ?_
    refine KOps.move ?_
    refine KOps.guardB (dj := 36) rfl rfl true false rfl ?_ ?_
    · intro g36
      have g36 := of_decide_eq_true g36
      refine KOps.move ?_
      refine KOps.guardYes (dj := 36) rfl rfl ?_
      refine KOps.eql ?_
      refine KOps.pickT ?_
      refine KOps.move ?_
      refine KOps.guardB (dj := 40) rfl rfl true false rfl ?_ ?_
      · intro g40
        have g40 := of_decide_eq_true g40
        refine KOps.move ?_
        refine KOps.guardYes (dj := 40) rfl rfl ?_
        refine KOps.eql ?_
        refine KOps.pickT ?_
        refine KOps.move ?_
        refine KOps.guardB (dj := 44) rfl rfl true false rfl ?_ ?_
        · intro g44
          have g44 := of_decide_eq_true g44
          refine KOps.move ?_
          refine KOps.guardYes (dj := 44) rfl rfl ?_
          refine KOps.eql ?_
          refine KOps.pickT ?_
          refine KOps.move ?_
          refine KOps.guardB (dj := 48) rfl rfl true false rfl ?_ ?_
          · intro g48
            have g48 := of_decide_eq_true g48
            refine KOps.move ?_
            refine KOps.guardYes (dj := 48) rfl rfl ?_
            refine KOps.eql ?_
            refine KOps.pickT ?_
            refine KOps.move ?_
            refine KOps.guardB (dj := 52) rfl rfl true false rfl ?_ ?_
            · intro g52
              have g52 := of_decide_eq_true g52
              refine KOps.move ?_
              refine KOps.guardYes (dj := 52) rfl rfl ?_
              refine KOps.eql ?_
              refine KOps.pickT ?_
              refine KOps.assign ?_
              refine KOps.done ?_
              refine sqQ.normal ?_
              refine KA.sub (Sub.cons (t := 0) Look.eq (Sub.nil _)) ?_
              refine KA.ret ?_
              refine fnQ.ret1 ?_
              exact ⟨rfl, hS.keeps⟩
            · intro g52
              have g52 := of_decide_eq_false g52
              exact absurd rfl g52
          · intro g48
            have g48 := of_decide_eq_false g48
            exact absurd rfl g48
        · intro g44
          have g44 := of_decide_eq_false g44
          exact absurd rfl g44
      · intro g40
        have g40 := of_decide_eq_false g40
        exact absurd rfl g40
    · intro g36
      have g36 := of_decide_eq_false g36
      exact absurd rfl g36
  · intro g32
    have g32 := of_decide_eq_false g32
    exact absurd rfl g32

theorem x0C_len {n k : Nat} (hk : k ≤ n) : (x0C n k).length = n := by simp [x0C]; omega
theorem sum_le {l : List Int} (h : ∀ x ∈ l, x = 0 ∨ x = 1) : 0 ≤ l.sum ∧ l.sum ≤ l.length := by
  induction l with
  | nil => simp
  | cons a l ih =>
    have h1 := h a List.mem_cons_self
    have h2 := ih (fun x hx => h x (List.mem_cons_of_mem _ hx))
    rw [List.sum_cons, List.length_cons]
    push_cast
    omega
theorem sum_take {l : List Int} {j : Nat} (h : j < l.length) : (l.take (j + 1)).sum = (l.take j).sum + l.getD j 0 := by
  rw [List.take_add_one, List.getElem?_eq_getElem h, List.sum_append, List.getD_eq_getElem?_getD, List.getElem?_eq_getElem h]
  simp
theorem wsC_next (i : Nat) : flr wc (List.replicate i (⟨0, 1, 0, 1⟩ : W)) ++ wc ⟨0, 1, 0, 1⟩ = flr wc (List.replicate (i + 1) (⟨0, 1, 0, 1⟩ : W)) := by
  rw [flr_snoc, List.replicate_succ']
theorem wsC_last (n k : Nat) : flr wc (List.replicate n (⟨0, 1, 0, 1⟩ : W)) ++ wc ⟨1, 0, (k : Int), (k : Int)⟩ = flr wc (wsC n k) := by
  rw [flr_snoc]; rfl

theorem spansTo_getK {ws : List W} {k i : Nat} (h : i < k) : (spansTo ws k).getD i default = (loOf ws i, hiOf ws i) := by
  rw [spansTo, List.getD_eq_getElem?_getD, List.getElem?_map, List.getElem?_range h]; rfl
theorem getDB_mem {l : List (List Int)} {i : Nat} (h : i < l.length) : l.getD i [] ∈ l := by
  rw [List.getD_eq_getElem?_getD, List.getElem?_eq_getElem h]; exact List.getElem_mem h

theorem counted_c {h : AHeap} {a b : Nat} (ha : a ≤ 255) (hb : b ≤ 255) : ACalls Go.Proofs.Try.prog 4 [.int .u8 (a : Int), .int .u8 (b : Int)] h (fun q _ => q = .bool true) := by
  refine KA.fn 185 [.tmp 4] Go.Proofs.Try.func4 rfl (by decide) rfl rfl (Nat.le_of_ble_eq_true rfl) ?_
  have hS := St.refl h
  have ham : a % 3 < 3 := Nat.mod_lt _ (by decide)
  show KA _ 185 _ _ [(0, .int .u8 (a : Int)), (1, .int .u8 (b : Int))] _
  refine KA.seq ?_
  refine KA.region rfl ?_
  refine KOps.assign ?_
  refine KOps.done ?_
  refine sqQ.normal ?_
  refine KA.sub (Sub.cons (t := 0) Look.eq (Sub.cons (t := 1) Look.eq (Sub.nil _))) ?_
  refine KA.seq ?_
  refine KA.region rfl ?_
  refine KOps.move ?_
  refine KOps.convIn (wrap64 (by omega) (by omega)) ?_
  refine KOps.modN a 3 rfl rfl (by decide) (by omega) ?_
  refine KOps.addN (1) (a % 3) rfl rfl (Nat.lt_of_le_of_lt (show 1 + a % 3 ≤ 3 by omega) (by decide)) ?_
  refine KOps.mulN (3) (1 + a % 3) rfl rfl (Nat.lt_of_le_of_lt (show 3 * (1 + a % 3) ≤ 9 by omega) (by decide)) ?_
  refine KOps.assign ?_
  refine KOps.done ?_
  refine sqQ.normal ?_
  refine KA.sub (Sub.cons (t := 1) Look.eq (Sub.cons (t := 5) Look.eq (Sub.nil _))) ?_
  refine KA.seq ?_
  refine KA.region rfl ?_
  obtain ⟨n, hn⟩ : ∃ n, 3 * (1 + a % 3) = n := ⟨_, rfl⟩
  rw [hn]
  refine KOps.move ?_
  refine KOps.convIn (wrap64 (by omega) (by omega)) ?_
  refine KOps.move ?_
  refine KOps.addN (n) (1) rfl rfl (Nat.lt_of_le_of_lt (show n + 1 ≤ 10 by omega) (by decide)) ?_
  refine KOps.modN b (n + 1) rfl rfl (by omega) (by omega) ?_
  refine KOps.assign ?_
  refine KOps.done ?_
  refine sqQ.normal ?_
  refine KA.sub (Sub.cons (t := 5) Look.eq (Sub.cons (t := 6) Look.eq (Sub.nil _))) ?_
  refine KA.seq ?_
  refine KA.region rfl ?_
  obtain ⟨k, hk⟩ : ∃ k, b % (n + 1) = k := ⟨_, rfl⟩
  rw [hk]
  have hkn : k ≤ n := by have := Nat.mod_lt b (show 0 < n + 1 by omega); omega
  have C : CK n k := by
    have q := ck (c := a % 3) (k := k) ham (by unfold cN; omega)
    unfold cN at q
    rw [hn] at q
    exact q
  refine KOps.buildG (zs := [.int .i64 0, .nils]) (cs := [_, _]) (by kernel_rfl) (by rfl) (by kernel_rfl) (.cons (off := 0) (s := 1) (by kernel_rfl) (AV.cells_one (by first | rfl | assumption)) rfl (by decide) .nil) (by rfl) ?_
  refine KOps.alloc hS ?_
  intro p7 h' hp7 hS
  refine KOps.storeAll hS rfl (i := 0) rfl hp7 rfl (by rfl) (by rfl) (by decide) ?_
  intro h' hS
  simp only [List.set_cons_zero, List.set_cons_succ, Nat.zero_add] at hS
  refine KOps.done ?_
  refine sqQ.normal ?_
  refine KA.sub (Sub.cons (t := 5) Look.eq (Sub.cons (t := 6) Look.eq (Sub.cons (t := 7) Look.eq (Sub.nil _)))) ?_
  refine KA.seq ?_
  refine KA.seq ?_
  refine KA.region rfl ?_
  refine KOps.move ?_
  refine KOps.move ?_
  refine KOps.done ?_
  refine sqQ.normal ?_
  refine KA.block ?_
  refine KA.loop (X := Nat × AV) (fun x => [(5, .int .i64 ((n : Nat) : Int)), (6, .int .i64 ((k : Nat) : Int)), (7, p7), (39, .int .i64 ((n : Nat) : Int)), (40, .int .i64 ((x.1 : Nat) : Int))]) (fun x h' => x.1 ≤ n ∧ St h h' [⟨p7, 0, [.int .i64 2, x.2], true⟩, ⟨x.2, 4, flr wc (List.replicate x.1 (⟨0, 1, 0, 1⟩ : W)), true⟩]) (fun x => n - x.1) (0, .nils) (by repeat (first | exact Sub.nil _ | refine Sub.cons Look.eq ?_ | refine Sub.cons (Eq.trans Look.eq (congrArg (AV.int _) (by first | omega | (dsimp only; omega)))) ?_)) ?_ ?_
  · exact ⟨Nat.zero_le _, St.addNil 4 true hS⟩
  rintro ⟨i, vw⟩ h3 ⟨hi, hS⟩
  dsimp only at hi hS ⊢
  refine KA.seq ?_
  refine KA.region rfl ?_
  refine KOps.lss ?_
  refine KOps.done ?_
  refine sqQ.normal ?_
  refine KA.seq ?_
  refine KA.condD ?_ ?_
  · intro c41
    refine KA.skip ?_
    refine sqQ.normal ?_
    refine KA.sub (Sub.cons (t := 5) Look.eq (Sub.cons (t := 6) Look.eq (Sub.cons (t := 7) Look.eq (Sub.cons (t := 39) Look.eq (Sub.cons (t := 40) Look.eq (Sub.nil _)))))) ?_
    refine KA.seq ?_
    refine KA.block ?_
    refine KA.region rfl ?_
    refine KOps.fieldAddr hp7 ?_
    intro p42 hp42
    refine KOps.load hp42 (hS.rd 0 rfl) rfl ?_
    refine KOps.buildG (zs := [.int .i64 0, .int .i64 0, .int .i64 0, .int .i64 0]) (cs := [_, _, _, _]) (by kernel_rfl) (by rfl) (by kernel_rfl) (.cons (off := 0) (s := 1) (by kernel_rfl) (AV.cells_one (by first | rfl | assumption)) rfl (by decide) (.cons (off := 1) (s := 1) (by kernel_rfl) (AV.cells_one (by first | rfl | assumption)) rfl (by decide) (.cons (off := 2) (s := 1) (by kernel_rfl) (AV.cells_one (by first | rfl | assumption)) rfl (by decide) (.cons (off := 3) (s := 1) (by kernel_rfl) (AV.cells_one (by first | rfl | assumption)) rfl (by decide) .nil)))) (by rfl) ?_
    refine KOps.buildSliceS (cs := wc ⟨0, 1, 0, 1⟩) hS rfl rfl rfl (by decide) ?_
    intro v45 h' hS
    refine KOps.append hS (fun _ => rfl) (i := 2) rfl (a := i) (by rw [flr_len wc_len]; simp) (hS.rd 0 rfl) (b := 1) rfl rfl (by omega) ?_
    intro r46 h' hS
    simp only [List.set_cons_zero, List.set_cons_succ, Nat.zero_add] at hS
    have hr46 : r46.one = true := St.one hS (k := 2) rfl
    have hS0 := St.tail hS
    clear hS
    have hS := hS0
    clear hS0
    refine KOps.fieldAddr hp7 ?_
    intro p47 hp47
    refine KOps.store hS rfl (i := 0) rfl hp47 (by first | rfl | assumption) (by first | decide | simp) ?_
    intro h' hS
    simp only [List.set_cons_zero, List.set_cons_succ, Nat.zero_add] at hS
    refine KOps.done ?_
    refine blQ.normal ?_
    refine sqQ.normal ?_
    refine KA.sub (Sub.cons (t := 5) Look.eq (Sub.cons (t := 6) Look.eq (Sub.cons (t := 7) Look.eq (Sub.cons (t := 39) Look.eq (Sub.cons (t := 40) Look.eq (Sub.nil _)))))) ?_
    refine KA.region rfl ?_
    refine KOps.add (by first | omega | (simp; omega)) (by first | omega | (simp; omega)) ?_
    refine KOps.move ?_
    refine KOps.done ?_
    rw [wsC_next] at hS
    exact lpQ.normal (i + 1, r46) (by repeat (first | exact Sub.nil _ | refine Sub.cons Look.eq ?_ | refine Sub.cons (Eq.trans Look.eq (congrArg (AV.int _) (by first | omega | (dsimp only; omega)))) ?_)) ⟨by dsimp only; omega, hS⟩ (by dsimp only; omega)
  · intro c41
    refine KA.exit ?_
    refine sqQ.exit ?_
    refine lpQ.exit ?_
    refine blQ.here ?_
    refine sqQ.normal ?_
    refine KA.sub (Sub.cons (t := 5) Look.eq (Sub.cons (t := 6) Look.eq (Sub.cons (t := 7) Look.eq (Sub.nil _)))) ?_
    refine KA.seq ?_
    refine KA.region rfl ?_
    obtain rfl : n = i := by omega
    refine KOps.fieldAddr hp7 ?_
    intro p49 hp49
    refine KOps.load hp49 (hS.rd 0 rfl) rfl ?_
    refine KOps.move ?_
    refine KOps.move ?_
    refine KOps.buildG (zs := [.int .i64 0, .int .i64 0, .int .i64 0, .int .i64 0]) (cs := [_, _, _, _]) (by kernel_rfl) (by rfl) (by kernel_rfl) (.cons (off := 0) (s := 1) (by kernel_rfl) (AV.cells_one (by first | rfl | assumption)) rfl (by decide) (.cons (off := 1) (s := 1) (by kernel_rfl) (AV.cells_one (by first | rfl | assumption)) rfl (by decide) (.cons (off := 2) (s := 1) (by kernel_rfl) (AV.cells_one (by first | rfl | assumption)) rfl (by decide) (.cons (off := 3) (s := 1) (by kernel_rfl) (AV.cells_one (by first | rfl | assumption)) rfl (by decide) .nil)))) (by rfl) ?_
    refine KOps.buildSliceS (cs := wc ⟨1, 0, (k : Int), (k : Int)⟩) hS rfl rfl rfl (by decide) ?_
    intro v54 h' hS
    refine KOps.append hS (fun _ => rfl) (i := 2) rfl (a := n) (by rw [flr_len wc_len]; simp) (hS.rd 0 rfl) (b := 1) rfl rfl (by omega) ?_
    intro r55 h' hS
    simp only [List.set_cons_zero, List.set_cons_succ, Nat.zero_add] at hS
    have hr55 : r55.one = true := St.one hS (k := 2) rfl
    have hS0 := St.tail hS
    clear hS
    have hS := hS0
    clear hS0
    refine KOps.fieldAddr hp7 ?_
    intro p56 hp56
    refine KOps.store hS rfl (i := 0) rfl hp56 (by first | rfl | assumption) (by first | decide | simp) ?_
    intro h' hS
    simp only [List.set_cons_zero, List.set_cons_succ, Nat.zero_add] at hS
    refine KOps.done ?_
    refine sqQ.normal ?_
    refine KA.sub (Sub.cons (t := 5) Look.eq (Sub.cons (t := 6) Look.eq (Sub.cons (t := 7) Look.eq (Sub.nil _)))) ?_
    refine KA.seq ?_
    refine KA.region rfl ?_
    rw [wsC_last] at hS
    refine KOps.move ?_
    refine KOps.divN n 3 rfl rfl (by decide) (by omega) ?_
    refine KOps.buildSlice hS rfl (by decide) rfl ?_
    intro v59 h' hS
    have hv59 : v59.one = true := St.one hS (k := 0) rfl
    refine KOps.call rfl list_c ?_
    rintro q60 _ ⟨hq60, rfl⟩
    rw [hq60]
    refine KOps.buildG (zs := [.int .i64 0, .int .i64 0, .int .i64 0, .nils]) (cs := [_, _, _, _]) (by kernel_rfl) (by rfl) (by kernel_rfl) (.cons (off := 0) (s := 1) (by kernel_rfl) (AV.cells_one (by first | rfl | assumption)) rfl (by decide) (.cons (off := 1) (s := 1) (by kernel_rfl) (AV.cells_one (by first | rfl | assumption)) rfl (by decide) (.cons (off := 2) (s := 1) (by kernel_rfl) (AV.cells_one (by first | rfl | assumption)) rfl (by decide) (.cons (off := 3) (s := 1) (by kernel_rfl) (AV.cells_one (by first | rfl | assumption)) rfl (by decide) .nil)))) (by rfl) ?_
    refine KOps.alloc hS ?_
    intro p8 h' hp8 hS
    refine KOps.storeAll hS rfl (i := 0) rfl hp8 (by show (true && (true && (true && (v59.one && true)))) = true; rw [St.one hS (k := 1) rfl]; rfl) (by rfl) (by rfl) (by decide) ?_
    intro h' hS
    simp only [List.set_cons_zero, List.set_cons_succ, Nat.zero_add] at hS
    refine KOps.done ?_
    refine sqQ.normal ?_
    refine KA.sub (Sub.cons (t := 5) Look.eq (Sub.cons (t := 6) Look.eq (Sub.cons (t := 7) Look.eq (Sub.cons (t := 8) Look.eq (Sub.nil _))))) ?_
    refine KA.seq ?_
    refine KA.region rfl ?_
    have hn3 : 3 * (n / 3) = n := by omega
    have hc3 : 1 ≤ n / 3 ∧ n / 3 ≤ 3 := by omega
    have hw1 : n / 3 = 1 + a % 3 := by omega
    refine KOps.loadAll hS (i := 0) rfl hp8 (by rfl) (by decide) ?_
    refine KOps.call rfl (backs_c (c := n / 3) hc3 (hS.rd 1 rfl)) ?_
    rintro _ h64 ⟨vo, vs, rfl, hvs, hS64⟩
    rw [hn3] at hvs hS64
    have hS0 := St.rot (A := _ ++ _) (St.trans hS hS64)
    clear hS
    have hS := hS0
    clear hS0
    refine KOps.move ?_
    refine KOps.extract ?_
    refine KOps.extract ?_
    refine KOps.assign ?_
    refine KOps.assign ?_
    refine KOps.done ?_
    refine sqQ.normal ?_
    refine KA.sub (Sub.cons (t := 5) Look.eq (Sub.cons (t := 6) Look.eq (Sub.cons (t := 7) Look.eq (Sub.cons (t := 8) Look.eq (Sub.cons (t := 9) Look.eq (Sub.cons (t := 10) Look.eq (Sub.nil _))))))) ?_
    refine KA.seq ?_
    refine KA.draw [6, 7] mixed rfl (by kernel_rfl) ?_
    refine KOps.loadAll hS (i := 0) rfl hp8 (by rfl) (by decide) ?_
    refine KOps.move ?_
    refine KOps.move ?_
    refine KOps.sub (by first | omega | (simp; omega)) (by first | omega | (simp; omega)) ?_
    refine KOps.move ?_
    refine KOps.buildSlice hS rfl (by decide) rfl ?_
    intro v73 h' hS
    have hv73 : v73.one = true := St.one hS (k := 0) rfl
    refine KOps.callK (by rintro _ _ ⟨_, rfl⟩; exact Keeps.refl _) list_c ?_
    rintro q74 _ ⟨hq74, rfl⟩
    rw [hq74]
    refine KOps.callK (R := fun q h' => q = .tup [.int .i64 ((cntC n k (2 ^ n) : Nat) : Int), .int .i64 0] ∧ Keeps _ h') (by rintro _ _ ⟨_, hk⟩; exact hk) (by rw [hw1]; exact with_c (c := a % 3) (n := n) (k := k) ham hn.symm hkn (hS.rd 2 rfl) (hS.rd 0 rfl)) ?_
    rintro _ hx ⟨rfl, hK⟩
    have hS0 : St _ _ _ := St.trans hS (St.ofK hK)
    clear hS
    have hS := hS0
    clear hS0
    simp only [List.nil_append] at hS
    refine KOps.move ?_
    refine KOps.extract ?_
    refine KOps.extract ?_
    refine KOps.assign ?_
    refine KOps.assign ?_
    refine KOps.done ?_
    refine sqQ.normal ?_
    refine KA.sub (Sub.cons (t := 5) Look.eq (Sub.cons (t := 6) Look.eq (Sub.cons (t := 7) Look.eq (Sub.cons (t := 9) Look.eq (Sub.cons (t := 10) Look.eq (Sub.cons (t := 11) Look.eq (Sub.cons (t := 12) Look.eq (Sub.nil _)))))))) ?_
    refine KA.seq ?_
    refine KA.region rfl ?_
    refine KOps.loadAll hS (i := 3) rfl hp7 (by rfl) (by decide) ?_
    refine KOps.call rfl (stFirst_c (rm := 2) (ws := wsC n k) (hS.rd 4 rfl)) ?_
    rintro _ h80 ⟨vF, rfl, hS80⟩
    rw [C.agr, if_pos rfl, C.first] at hS80
    rw [C.agr]
    have hS0 : St _ _ (_ :: _) := St.trans hS hS80
    clear hS
    have hS := hS0
    clear hS0
    refine KOps.move ?_
    refine KOps.extract ?_
    refine KOps.extract ?_
    refine KOps.assign ?_
    refine KOps.assign ?_
    refine KOps.done ?_
    refine sqQ.normal ?_
    refine KA.sub (Sub.cons (t := 5) Look.eq (Sub.cons (t := 6) Look.eq (Sub.cons (t := 7) Look.eq (Sub.cons (t := 9) Look.eq (Sub.cons (t := 10) Look.eq (Sub.cons (t := 11) Look.eq (Sub.cons (t := 12) Look.eq (Sub.cons (t := 13) Look.eq (Sub.cons (t := 14) Look.eq (Sub.nil _)))))))))) ?_
    refine KA.seq ?_
    refine KA.region rfl ?_
    refine KOps.loadAll hS (i := 4) rfl hp7 (by rfl) (by decide) ?_
    refine KOps.call rfl (stSpans_c (rm := 2) (ws := wsC n k) (hS.rd 5 rfl)) ?_
    rintro _ h85 ⟨vSp, rfl, hS85⟩
    rw [C.agr, if_pos rfl, wsC_len] at hS85
    rw [C.agr]
    have hS0 : St _ _ (_ :: _) := St.trans hS hS85
    clear hS
    have hS := hS0
    clear hS0
    refine KOps.move ?_
    refine KOps.extract ?_
    refine KOps.extract ?_
    refine KOps.assign ?_
    refine KOps.assign ?_
    refine KOps.done ?_
    refine sqQ.normal ?_
    refine KA.sub (Sub.cons (t := 5) Look.eq (Sub.cons (t := 6) Look.eq (Sub.cons (t := 7) Look.eq (Sub.cons (t := 9) Look.eq (Sub.cons (t := 10) Look.eq (Sub.cons (t := 11) Look.eq (Sub.cons (t := 12) Look.eq (Sub.cons (t := 13) Look.eq (Sub.cons (t := 14) Look.eq (Sub.cons (t := 15) Look.eq (Sub.cons (t := 16) Look.eq (Sub.nil _)))))))))))) ?_
    refine KA.seq ?_
    refine KA.seq ?_
    refine KA.region rfl ?_
    refine KOps.move ?_
    refine KOps.neqZ rfl ?_
    refine KOps.move ?_
    refine KOps.guardYes (dj := 90) rfl rfl ?_
    refine KOps.move ?_
    refine KOps.guardYes (dj := 90) rfl rfl ?_
    refine KOps.neqZ rfl ?_
    refine KOps.pickF ?_
    refine KOps.move ?_
    refine KOps.guardYes (dj := 94) rfl rfl ?_
    refine KOps.move ?_
    refine KOps.guardYes (dj := 94) rfl rfl ?_
    refine KOps.neqZ rfl ?_
    refine KOps.pickF ?_
    refine KOps.move ?_
    refine KOps.guardYes (dj := 98) rfl rfl ?_
    refine KOps.move ?_
    refine KOps.guardYes (dj := 98) rfl rfl ?_
    refine KOps.neqZ rfl ?_
    refine KOps.pickF ?_
    refine KOps.move ?_
    refine KOps.guardYes (dj := 102) rfl rfl ?_
    refine KOps.move ?_
    refine KOps.guardYes (dj := 102) rfl rfl ?_
    refine KOps.lenI (hS.rd 1 rfl) ?_
    refine KOps.guardYes (dj := 102) rfl rfl ?_
    refine KOps.move ?_
    refine KOps.guardYes (dj := 102) rfl rfl ?_
    refine KOps.add (by first | omega | (simp; omega)) (by first | omega | (simp; omega)) ?_
    refine KOps.guardYes (dj := 102) rfl rfl ?_
    refine KOps.neqZ (by rw [List.length_append, x0C_len C.kn]; rfl) ?_
    refine KOps.pickF ?_
    refine KOps.move ?_
    refine KOps.guardYes (dj := 109) rfl rfl ?_
    refine KOps.move ?_
    refine KOps.guardYes (dj := 109) rfl rfl ?_
    refine KOps.lenF pc_len (hS.rd 0 rfl) ?_
    refine KOps.guardYes (dj := 109) rfl rfl ?_
    refine KOps.move ?_
    refine KOps.guardYes (dj := 109) rfl rfl ?_
    refine KOps.add (by first | omega | (simp; omega)) (by first | omega | (simp; omega)) ?_
    refine KOps.guardYes (dj := 109) rfl rfl ?_
    refine KOps.neqZ (by rw [spansTo_len]; rfl) ?_
    refine KOps.pickF ?_
    refine KOps.done ?_
    refine sqQ.normal ?_
    refine KA.sub (Sub.cons (t := 5) Look.eq (Sub.cons (t := 6) Look.eq (Sub.cons (t := 7) Look.eq (Sub.cons (t := 9) Look.eq (Sub.cons (t := 11) Look.eq (Sub.cons (t := 13) Look.eq (Sub.cons (t := 15) Look.eq (Sub.cons (t := 115) Look.eq (Sub.nil _))))))))) ?_
    refine KA.condF ?_
    refine KA.skip ?_
    refine sqQ.normal ?_
    refine KA.sub (Sub.cons (t := 5) Look.eq (Sub.cons (t := 6) Look.eq (Sub.cons (t := 7) Look.eq (Sub.cons (t := 9) Look.eq (Sub.cons (t := 11) Look.eq (Sub.cons (t := 13) Look.eq (Sub.cons (t := 15) Look.eq (Sub.nil _)))))))) ?_
    refine KA.seq ?_
    refine KA.region rfl ?_
    refine KOps.assign ?_
    refine KOps.done ?_
    refine sqQ.normal ?_
    refine KA.seq ?_
    refine KA.seq ?_
    refine KA.region rfl ?_
    refine KOps.move ?_
    refine KOps.lenV (St.outer (pre := [_, _, _, _, _, _, _]) hS) ?_
    refine KOps.move ?_
    refine KOps.done ?_
    refine sqQ.normal ?_
    refine KA.sub (Sub.cons (t := 5) Look.eq (Sub.cons (t := 6) Look.eq (Sub.cons (t := 7) Look.eq (Sub.cons (t := 11) Look.eq (Sub.cons (t := 13) Look.eq (Sub.cons (t := 15) Look.eq (Sub.cons (t := 17) Look.eq (Sub.cons (t := 116) Look.eq (Sub.cons (t := 117) Look.eq (Sub.cons (t := 118) Look.eq (Sub.nil _))))))))))) ?_
    refine KA.block ?_
    refine KA.loop (X := Nat) (fun i => [(5, .int .i64 ((n : Nat) : Int)), (6, .int .i64 ((k : Nat) : Int)), (7, p7), (11, .int .i64 ((cntC n k (2 ^ n) : Nat) : Int)), (13, vF), (15, vSp), (116, vo), (117, .int .i64 ((vs.length : Nat) : Int)), (118, .int .i64 ((i : Nat) : Int)), (17, .int .i64 ((cntC n k i : Nat) : Int))]) (fun i h' => i ≤ vs.length ∧ St h h' (⟨vSp, 2, flr pc (spansTo (wsC n k) (n + 1)), true⟩ :: ⟨vF, 1, ints (x0C n k ++ [(k : Int)]), true⟩ :: ⟨v73, 1, ints [(n : Int) - (k : Int), (k : Int)], true⟩ :: ⟨p8, 0, [.int .i64 3, .int .i64 ((n / 3 : Nat) : Int), .int .i64 2, v59], true⟩ :: ⟨v59, 1, ints [0], true⟩ :: ⟨p7, 0, [.int .i64 2, r55], true⟩ :: ⟨r55, 4, flr wc (wsC n k), true⟩ :: (matObjs true vo vs (bitsL n) ++ []))) (fun i => vs.length - i) 0 (by repeat (first | exact Sub.nil _ | refine Sub.cons Look.eq ?_ | refine Sub.cons (Eq.trans Look.eq (congrArg (AV.int _) (by first | omega | (dsimp only; omega)))) ?_)) ?_ ?_
    · exact ⟨Nat.zero_le _, hS⟩
    rintro i h4 ⟨hi, hS⟩
    have hvl : vs.length ≤ 512 := by
      have h9 : 2 ^ n ≤ 2 ^ 9 := Nat.pow_le_pow_right (by decide) (by omega)
      rw [hvs, bits_num]; exact h9
    refine KA.seq ?_
    refine KA.region rfl ?_
    refine KOps.lss ?_
    refine KOps.done ?_
    refine sqQ.normal ?_
    refine KA.seq ?_
    refine KA.condD ?_ ?_
    · intro c119
      have hbl : ((bitsL n).getD i []).length = n := bits_len n _ (getDB_mem (by omega))
      have hb01 := bits_01 n _ (getDB_mem (l := bitsL n) (i := i) (by omega))
      refine KA.skip ?_
      refine sqQ.normal ?_
      refine KA.sub (Sub.cons (t := 5) Look.eq (Sub.cons (t := 6) Look.eq (Sub.cons (t := 7) Look.eq (Sub.cons (t := 11) Look.eq (Sub.cons (t := 13) Look.eq (Sub.cons (t := 15) Look.eq (Sub.cons (t := 17) Look.eq (Sub.cons (t := 116) Look.eq (Sub.cons (t := 117) Look.eq (Sub.cons (t := 118) Look.eq (Sub.nil _))))))))))) ?_
      refine KA.seq ?_
      refine KA.block ?_
      refine KA.seq ?_
      refine KA.region rfl ?_
      refine KOps.indexVJ (St.outer (pre := [_, _, _, _, _, _, _]) hS) (j := i) rfl (by first | omega | (simp; done) | (simp; omega)) ?_
      intro p120 hp120
      refine KOps.loadV hp120 (St.outer (pre := [_, _, _, _, _, _, _]) hS) (by first | omega | (simp; done) | (simp; omega)) ?_
      refine KOps.assign ?_
      refine KOps.done ?_
      refine sqQ.normal ?_
      refine KA.sub (Sub.cons (t := 5) Look.eq (Sub.cons (t := 6) Look.eq (Sub.cons (t := 7) Look.eq (Sub.cons (t := 11) Look.eq (Sub.cons (t := 13) Look.eq (Sub.cons (t := 15) Look.eq (Sub.cons (t := 17) Look.eq (Sub.cons (t := 19) Look.eq (Sub.cons (t := 116) Look.eq (Sub.cons (t := 117) Look.eq (Sub.cons (t := 118) Look.eq (Sub.nil _)))))))))))) ?_
      refine KA.seq ?_
      refine KA.seq ?_
      refine KA.region rfl ?_
      refine KOps.move ?_
      refine KOps.lenI (St.rowAt (pre := [_, _, _, _, _, _, _]) hS (by first | assumption | omega | (simp only [List.length_set, List.length_append, List.length_singleton, List.length_replicate, List.length_take]; omega)) (by first | omega | (simp; done) | (simp; omega))) ?_
      refine KOps.move ?_
      refine KOps.neqZ (by rw [hbl]) ?_
      refine KOps.done ?_
      refine sqQ.normal ?_
      refine KA.sub (Sub.cons (t := 5) Look.eq (Sub.cons (t := 6) Look.eq (Sub.cons (t := 7) Look.eq (Sub.cons (t := 11) Look.eq (Sub.cons (t := 13) Look.eq (Sub.cons (t := 15) Look.eq (Sub.cons (t := 17) Look.eq (Sub.cons (t := 19) Look.eq (Sub.cons (t := 116) Look.eq (Sub.cons (t := 117) Look.eq (Sub.cons (t := 118) Look.eq (Sub.cons (t := 125) Look.eq (Sub.nil _))))))))))))) ?_
      refine KA.condF ?_
      refine KA.skip ?_
      refine sqQ.normal ?_
      refine KA.sub (Sub.cons (t := 5) Look.eq (Sub.cons (t := 6) Look.eq (Sub.cons (t := 7) Look.eq (Sub.cons (t := 11) Look.eq (Sub.cons (t := 13) Look.eq (Sub.cons (t := 15) Look.eq (Sub.cons (t := 17) Look.eq (Sub.cons (t := 19) Look.eq (Sub.cons (t := 116) Look.eq (Sub.cons (t := 117) Look.eq (Sub.cons (t := 118) Look.eq (Sub.nil _)))))))))))) ?_
      refine KA.seq ?_
      refine KA.region rfl ?_
      refine KOps.assign ?_
      refine KOps.done ?_
      refine sqQ.normal ?_
      refine KA.seq ?_
      refine KA.seq ?_
      refine KA.region rfl ?_
      refine KOps.move ?_
      refine KOps.lenI (St.rowAt (pre := [_, _, _, _, _, _, _]) hS (by first | assumption | omega | (simp only [List.length_set, List.length_append, List.length_singleton, List.length_replicate, List.length_take]; omega)) (by first | omega | (simp; done) | (simp; omega))) ?_
      rw [hbl]
      refine KOps.move ?_
      refine KOps.done ?_
      refine sqQ.normal ?_
      refine KA.block ?_
      refine KA.loop (X := Nat) (fun j => [(5, .int .i64 ((n : Nat) : Int)), (6, .int .i64 ((k : Nat) : Int)), (7, p7), (11, .int .i64 ((cntC n k (2 ^ n) : Nat) : Int)), (13, vF), (15, vSp), (116, vo), (117, .int .i64 ((vs.length : Nat) : Int)), (118, .int .i64 ((i : Nat) : Int)), (17, .int .i64 ((cntC n k i : Nat) : Int)), (19, (vs.getD i .bot)), (20, .int .i64 (((bitsL n).getD i []).take j).sum), (126, (vs.getD i .bot)), (127, .int .i64 ((n : Nat) : Int)), (128, .int .i64 ((j : Nat) : Int))]) (fun j h' => j ≤ n ∧ St h h' (⟨vSp, 2, flr pc (spansTo (wsC n k) (n + 1)), true⟩ :: ⟨vF, 1, ints (x0C n k ++ [(k : Int)]), true⟩ :: ⟨v73, 1, ints [(n : Int) - (k : Int), (k : Int)], true⟩ :: ⟨p8, 0, [.int .i64 3, .int .i64 ((n / 3 : Nat) : Int), .int .i64 2, v59], true⟩ :: ⟨v59, 1, ints [0], true⟩ :: ⟨p7, 0, [.int .i64 2, r55], true⟩ :: ⟨r55, 4, flr wc (wsC n k), true⟩ :: (matObjs true vo vs (bitsL n) ++ []))) (fun j => n - j) 0 (by repeat (first | exact Sub.nil _ | refine Sub.cons Look.eq ?_ | refine Sub.cons (Eq.trans Look.eq (congrArg (AV.int _) (by first | omega | (dsimp only; omega)))) ?_)) ?_ ?_
      · exact ⟨Nat.zero_le _, hS⟩
      rintro j h5 ⟨hj, hS⟩
      refine KA.seq ?_
      refine KA.region rfl ?_
      refine KOps.lss ?_
      refine KOps.done ?_
      refine sqQ.normal ?_
      refine KA.seq ?_
      refine KA.condD ?_ ?_
      · intro c129
        refine KA.skip ?_
        refine sqQ.normal ?_
        refine KA.sub (Sub.cons (t := 5) Look.eq (Sub.cons (t := 6) Look.eq (Sub.cons (t := 7) Look.eq (Sub.cons (t := 11) Look.eq (Sub.cons (t := 13) Look.eq (Sub.cons (t := 15) Look.eq (Sub.cons (t := 17) Look.eq (Sub.cons (t := 19) Look.eq (Sub.cons (t := 20) Look.eq (Sub.cons (t := 116) Look.eq (Sub.cons (t := 117) Look.eq (Sub.cons (t := 118) Look.eq (Sub.cons (t := 126) Look.eq (Sub.cons (t := 127) Look.eq (Sub.cons (t := 128) Look.eq (Sub.nil _)))))))))))))))) ?_
        refine KA.seq ?_
        refine KA.block ?_
        refine KA.seq ?_
        refine KA.region rfl ?_
        refine KOps.indexIJ (St.rowAt (pre := [_, _, _, _, _, _, _]) hS (by first | assumption | omega | (simp only [List.length_set, List.length_append, List.length_singleton, List.length_replicate, List.length_take]; omega)) (by first | omega | (simp; done) | (simp; omega))) (j := j) rfl (by first | omega | (simp; done) | (simp; omega)) ?_
        intro p130 hp130
        refine KOps.loadI hp130 (St.rowAt (pre := [_, _, _, _, _, _, _]) hS (by first | assumption | omega | (simp only [List.length_set, List.length_append, List.length_singleton, List.length_replicate, List.length_take]; omega)) (by first | omega | (simp; done) | (simp; omega))) (by first | omega | (simp; done) | (simp; omega)) ?_
        refine KOps.assign ?_
        refine KOps.done ?_
        refine sqQ.normal ?_
        refine KA.sub (Sub.cons (t := 5) Look.eq (Sub.cons (t := 6) Look.eq (Sub.cons (t := 7) Look.eq (Sub.cons (t := 11) Look.eq (Sub.cons (t := 13) Look.eq (Sub.cons (t := 15) Look.eq (Sub.cons (t := 17) Look.eq (Sub.cons (t := 19) Look.eq (Sub.cons (t := 20) Look.eq (Sub.cons (t := 22) Look.eq (Sub.cons (t := 116) Look.eq (Sub.cons (t := 117) Look.eq (Sub.cons (t := 118) Look.eq (Sub.cons (t := 126) Look.eq (Sub.cons (t := 127) Look.eq (Sub.cons (t := 128) Look.eq (Sub.nil _))))))))))))))))) ?_
        refine KA.region rfl ?_
        have hst := sum_le (l := ((bitsL n).getD i []).take j) (fun x hx => hb01 x (List.mem_of_mem_take hx))
        rw [List.length_take] at hst
        have hg01 := hb01 _ (getD_memK (l := ((bitsL n).getD i [])) (i := j) (by omega))
        refine KOps.move ?_
        refine KOps.move ?_
        refine KOps.add (by first | omega | (simp; omega)) (by first | omega | (simp; omega)) ?_
        refine KOps.assign ?_
        refine KOps.done ?_
        refine blQ.normal ?_
        refine sqQ.normal ?_
        refine KA.sub (Sub.cons (t := 5) Look.eq (Sub.cons (t := 6) Look.eq (Sub.cons (t := 7) Look.eq (Sub.cons (t := 11) Look.eq (Sub.cons (t := 13) Look.eq (Sub.cons (t := 15) Look.eq (Sub.cons (t := 17) Look.eq (Sub.cons (t := 19) Look.eq (Sub.cons (t := 20) Look.eq (Sub.cons (t := 116) Look.eq (Sub.cons (t := 117) Look.eq (Sub.cons (t := 118) Look.eq (Sub.cons (t := 126) Look.eq (Sub.cons (t := 127) Look.eq (Sub.cons (t := 128) Look.eq (Sub.nil _)))))))))))))))) ?_
        refine KA.region rfl ?_
        refine KOps.add (by first | omega | (simp; omega)) (by first | omega | (simp; omega)) ?_
        refine KOps.move ?_
        refine KOps.done ?_
        exact lpQ.normal (j + 1) (by repeat (first | exact Sub.nil _ | refine Sub.cons Look.eq ?_ | refine Sub.cons (Eq.trans Look.eq (congrArg (AV.int _) (by first | omega | (dsimp only; omega)))) ?_ | refine Sub.cons (Eq.trans Look.eq (congrArg (AV.int .i64) (sum_take (by omega)).symm)) ?_)) ⟨by omega, hS⟩ (by omega)
      · intro c129
        obtain rfl : n = j := by omega
        rw [List.take_of_length_le (show ((bitsL n).getD i []).length ≤ n by omega)]
        refine KA.exit ?_
        refine sqQ.exit ?_
        refine lpQ.exit ?_
        refine blQ.here ?_
        refine sqQ.normal ?_
        refine KA.sub (Sub.cons (t := 5) Look.eq (Sub.cons (t := 6) Look.eq (Sub.cons (t := 7) Look.eq (Sub.cons (t := 11) Look.eq (Sub.cons (t := 13) Look.eq (Sub.cons (t := 15) Look.eq (Sub.cons (t := 17) Look.eq (Sub.cons (t := 19) Look.eq (Sub.cons (t := 20) Look.eq (Sub.cons (t := 116) Look.eq (Sub.cons (t := 117) Look.eq (Sub.cons (t := 118) Look.eq (Sub.nil _))))))))))))) ?_
        refine KA.seq ?_
        refine KA.region rfl ?_
        refine KOps.buildSlice hS rfl (by decide) rfl ?_
        intro v136 h' hS
        refine KOps.move ?_
        refine KOps.appendAll hS (fun _ => rfl) (i := 0) (p := []) rfl (St.rowAt (pre := [_, _, _, _, _, _, _, _]) hS (by omega) (by omega)) (by rw [List.length_nil]; omega) ?_
        intro r138 h' hr138 hS
        simp only [List.set_cons_zero, List.nil_append] at hS
        refine KOps.move ?_
        refine KOps.buildSlice hS rfl (by decide) rfl ?_
        intro v140 h' hS
        refine KOps.appendI hS (fun _ => rfl) (i := 0) rfl (by first | omega | (simp; done) | (simp; omega)) ?_
        intro r141 h' hr141 hS
        refine KOps.assign ?_
        refine KOps.done ?_
        refine sqQ.normal ?_
        refine KA.sub (Sub.cons (t := 5) Look.eq (Sub.cons (t := 6) Look.eq (Sub.cons (t := 7) Look.eq (Sub.cons (t := 11) Look.eq (Sub.cons (t := 13) Look.eq (Sub.cons (t := 15) Look.eq (Sub.cons (t := 17) Look.eq (Sub.cons (t := 20) Look.eq (Sub.cons (t := 23) Look.eq (Sub.cons (t := 116) Look.eq (Sub.cons (t := 117) Look.eq (Sub.cons (t := 118) Look.eq (Sub.nil _))))))))))))) ?_
        refine KA.seq ?_
        refine KA.region rfl ?_
        refine KOps.assign ?_
        refine KOps.done ?_
        refine sqQ.normal ?_
        refine KA.meet (X := Unit) (fun y => [(5, .int .i64 ((n : Nat) : Int)), (6, .int .i64 ((k : Nat) : Int)), (7, p7), (11, .int .i64 ((cntC n k (2 ^ n) : Nat) : Int)), (13, vF), (15, vSp), (116, vo), (117, .int .i64 ((vs.length : Nat) : Int)), (118, .int .i64 ((i : Nat) : Int)), (17, .int .i64 ((cntC n k (i + 1) : Nat) : Int)), (23, r141), (24, .int .i64 (if ((bitsL n).getD i []).sum = (k : Int) then 0 else 17))]) (fun y h' => St h h' (⟨r141, 1, ints (((bitsL n).getD i []) ++ [(k : Int)]), true⟩ :: ⟨vSp, 2, flr pc (spansTo (wsC n k) (n + 1)), true⟩ :: ⟨vF, 1, ints (x0C n k ++ [(k : Int)]), true⟩ :: ⟨v73, 1, ints [(n : Int) - (k : Int), (k : Int)], true⟩ :: ⟨p8, 0, [.int .i64 3, .int .i64 ((n / 3 : Nat) : Int), .int .i64 2, v59], true⟩ :: ⟨v59, 1, ints [0], true⟩ :: ⟨p7, 0, [.int .i64 2, r55], true⟩ :: ⟨r55, 4, flr wc (wsC n k), true⟩ :: (matObjs true vo vs (bitsL n) ++ []))) ?_ ?_
        ·
          refine KA.seq ?_
          refine KA.region rfl ?_
          refine KOps.move ?_
          refine KOps.move ?_
          refine KOps.eql ?_
          refine KOps.done ?_
          refine sqQ.normal ?_
          refine KA.sub (Sub.cons (t := 5) Look.eq (Sub.cons (t := 6) Look.eq (Sub.cons (t := 7) Look.eq (Sub.cons (t := 11) Look.eq (Sub.cons (t := 13) Look.eq (Sub.cons (t := 15) Look.eq (Sub.cons (t := 17) Look.eq (Sub.cons (t := 23) Look.eq (Sub.cons (t := 24) Look.eq (Sub.cons (t := 116) Look.eq (Sub.cons (t := 117) Look.eq (Sub.cons (t := 118) Look.eq (Sub.cons (t := 144) Look.eq (Sub.nil _)))))))))))))) ?_
          refine KA.condD ?_ ?_
          · intro c144
            refine KA.seq ?_
            refine KA.seq ?_
            refine KA.region rfl ?_
            refine KOps.move ?_
            refine KOps.eql ?_
            refine KOps.move ?_
            refine KOps.guardB (dj := 147) rfl rfl true false rfl ?_ ?_
            · intro g147
              have g147 := of_decide_eq_true g147
              refine KOps.move ?_
              refine KOps.guardYes (dj := 147) rfl rfl ?_
              refine KOps.move ?_
              refine KOps.guardYes (dj := 147) rfl rfl ?_
              refine KOps.call rfl (same_c (hS.rd 0 rfl) (hS.rd 2 rfl) (by rw [List.length_append, hbl]; simp; omega)) ?_
              rintro _ _ ⟨rfl, rfl⟩
              rw [decide_eq_true (by rw [firstOk_at C.fst (by omega) (show cntC n k i = 0 by omega) c144])]
              refine KOps.guardYes (dj := 147) rfl rfl ?_
              refine KOps.not ?_
              refine KOps.pickT ?_
              refine KOps.done ?_
              refine sqQ.normal ?_
              refine KA.sub (Sub.cons (t := 5) Look.eq (Sub.cons (t := 6) Look.eq (Sub.cons (t := 7) Look.eq (Sub.cons (t := 11) Look.eq (Sub.cons (t := 13) Look.eq (Sub.cons (t := 15) Look.eq (Sub.cons (t := 17) Look.eq (Sub.cons (t := 23) Look.eq (Sub.cons (t := 116) Look.eq (Sub.cons (t := 117) Look.eq (Sub.cons (t := 118) Look.eq (Sub.cons (t := 148) Look.eq (Sub.cons (t := 149) Look.eq (Sub.cons (t := 150) Look.eq (Sub.cons (t := 151) Look.eq (Sub.cons (t := 152) Look.eq (Sub.nil _))))))))))))))))) ?_
              refine KA.condF ?_
              refine KA.skip ?_
              refine sqQ.normal ?_
              refine KA.sub (Sub.cons (t := 5) Look.eq (Sub.cons (t := 6) Look.eq (Sub.cons (t := 7) Look.eq (Sub.cons (t := 11) Look.eq (Sub.cons (t := 13) Look.eq (Sub.cons (t := 15) Look.eq (Sub.cons (t := 17) Look.eq (Sub.cons (t := 23) Look.eq (Sub.cons (t := 116) Look.eq (Sub.cons (t := 117) Look.eq (Sub.cons (t := 118) Look.eq (Sub.cons (t := 148) Look.eq (Sub.cons (t := 149) Look.eq (Sub.cons (t := 150) Look.eq (Sub.cons (t := 151) Look.eq (Sub.nil _)))))))))))))))) ?_
              refine KA.seq ?_
              refine KA.region rfl ?_
              have hcn : cntC n k i + 1 ≤ 513 := by
                have h9 : cntC n k i ≤ i := by
                  unfold cntC
                  exact Nat.le_trans List.countP_le_length (by rw [List.length_take]; omega)
                have h8 := bits_num n
                have h7 : 2 ^ n ≤ 2 ^ 9 := Nat.pow_le_pow_right (by decide) (by omega)
                omega
              refine KOps.move ?_
              refine KOps.addN (cntC n k i) (1) rfl rfl (Nat.lt_of_le_of_lt hcn (by decide)) ?_
              refine KOps.assign ?_
              refine KOps.done ?_
              refine sqQ.normal ?_
              refine KA.sub (Sub.cons (t := 5) Look.eq (Sub.cons (t := 6) Look.eq (Sub.cons (t := 7) Look.eq (Sub.cons (t := 11) Look.eq (Sub.cons (t := 13) Look.eq (Sub.cons (t := 15) Look.eq (Sub.cons (t := 17) Look.eq (Sub.cons (t := 23) Look.eq (Sub.cons (t := 116) Look.eq (Sub.cons (t := 117) Look.eq (Sub.cons (t := 118) Look.eq (Sub.cons (t := 148) Look.eq (Sub.cons (t := 149) Look.eq (Sub.cons (t := 150) Look.eq (Sub.cons (t := 151) Look.eq (Sub.nil _)))))))))))))))) ?_
              refine KA.region rfl ?_
              refine KOps.assign ?_
              refine KOps.done ?_
              exact mtQ.normal () (by repeat (first | exact Sub.nil _ | refine Sub.cons Look.eq ?_ | refine Sub.cons (Eq.trans Look.eq (congrArg (AV.int _) (by first | omega | (dsimp only; omega)))) ?_ | refine Sub.cons (Eq.trans Look.eq (congrArg (fun m : Nat => AV.int .i64 (m : Int)) (by rw [cntC_next (by omega), if_pos c144]))) ?_ | refine Sub.cons (Eq.trans Look.eq (congrArg (AV.int .i64) (by rw [if_pos c144]))) ?_)) hS
            · intro g147
              have g147 := of_decide_eq_false g147
              refine KOps.guardNo (dj := 147) rfl rfl rfl ?_
              refine KOps.guardNo (dj := 147) rfl rfl rfl ?_
              refine KOps.guardNo (dj := 147) rfl rfl rfl ?_
              refine KOps.pickF ?_
              refine KOps.done ?_
              refine sqQ.normal ?_
              refine KA.sub (Sub.cons (t := 5) Look.eq (Sub.cons (t := 6) Look.eq (Sub.cons (t := 7) Look.eq (Sub.cons (t := 11) Look.eq (Sub.cons (t := 13) Look.eq (Sub.cons (t := 15) Look.eq (Sub.cons (t := 17) Look.eq (Sub.cons (t := 23) Look.eq (Sub.cons (t := 116) Look.eq (Sub.cons (t := 117) Look.eq (Sub.cons (t := 118) Look.eq (Sub.cons (t := 148) Look.eq (Sub.cons (t := 149) Look.eq (Sub.cons (t := 150) Look.eq (Sub.cons (t := 151) Look.eq (Sub.cons (t := 152) Look.eq (Sub.nil _))))))))))))))))) ?_
              refine KA.condF ?_
              refine KA.skip ?_
              refine sqQ.normal ?_
              refine KA.sub (Sub.cons (t := 5) Look.eq (Sub.cons (t := 6) Look.eq (Sub.cons (t := 7) Look.eq (Sub.cons (t := 11) Look.eq (Sub.cons (t := 13) Look.eq (Sub.cons (t := 15) Look.eq (Sub.cons (t := 17) Look.eq (Sub.cons (t := 23) Look.eq (Sub.cons (t := 116) Look.eq (Sub.cons (t := 117) Look.eq (Sub.cons (t := 118) Look.eq (Sub.cons (t := 148) Look.eq (Sub.cons (t := 149) Look.eq (Sub.cons (t := 150) Look.eq (Sub.cons (t := 151) Look.eq (Sub.nil _)))))))))))))))) ?_
              refine KA.seq ?_
              refine KA.region rfl ?_
              have hcn : cntC n k i + 1 ≤ 513 := by
                have h9 : cntC n k i ≤ i := by
                  unfold cntC
                  exact Nat.le_trans List.countP_le_length (by rw [List.length_take]; omega)
                have h8 := bits_num n
                have h7 : 2 ^ n ≤ 2 ^ 9 := Nat.pow_le_pow_right (by decide) (by omega)
                omega
              refine KOps.move ?_
              refine KOps.addN (cntC n k i) (1) rfl rfl (Nat.lt_of_le_of_lt hcn (by decide)) ?_
              refine KOps.assign ?_
              refine KOps.done ?_
              refine sqQ.normal ?_
              refine KA.sub (Sub.cons (t := 5) Look.eq (Sub.cons (t := 6) Look.eq (Sub.cons (t := 7) Look.eq (Sub.cons (t := 11) Look.eq (Sub.cons (t := 13) Look.eq (Sub.cons (t := 15) Look.eq (Sub.cons (t := 17) Look.eq (Sub.cons (t := 23) Look.eq (Sub.cons (t := 116) Look.eq (Sub.cons (t := 117) Look.eq (Sub.cons (t := 118) Look.eq (Sub.cons (t := 148) Look.eq (Sub.cons (t := 149) Look.eq (Sub.cons (t := 150) Look.eq (Sub.cons (t := 151) Look.eq (Sub.nil _)))))))))))))))) ?_
              refine KA.region rfl ?_
              refine KOps.assign ?_
              refine KOps.done ?_
              exact mtQ.normal () (by repeat (first | exact Sub.nil _ | refine Sub.cons Look.eq ?_ | refine Sub.cons (Eq.trans Look.eq (congrArg (AV.int _) (by first | omega | (dsimp only; omega)))) ?_ | refine Sub.cons (Eq.trans Look.eq (congrArg (fun m : Nat => AV.int .i64 (m : Int)) (by rw [cntC_next (by omega), if_pos c144]))) ?_ | refine Sub.cons (Eq.trans Look.eq (congrArg (AV.int .i64) (by rw [if_pos c144]))) ?_)) hS
          · intro c144
            refine KA.skip ?_
            exact mtQ.normal () (by repeat (first | exact Sub.nil _ | refine Sub.cons Look.eq ?_ | refine Sub.cons (Eq.trans Look.eq (congrArg (AV.int _) (by first | omega | (dsimp only; omega)))) ?_ | refine Sub.cons (Eq.trans Look.eq (congrArg (fun m : Nat => AV.int .i64 (m : Int)) (by rw [cntC_next (by omega), if_neg c144]; rfl))) ?_ | refine Sub.cons (Eq.trans Look.eq (congrArg (AV.int .i64) (by rw [if_neg c144]))) ?_)) hS
        ·
          rintro _ h7 hS
          refine KA.seq ?_
          refine KA.region rfl ?_
          refine KOps.loadAll hS (i := 6) rfl hp7 (by rfl) (by decide) ?_
          refine KOps.move ?_
          refine KOps.call rfl (verify_c (rm := 2) (ws := wsC n k) (l := ((bitsL n).getD i []) ++ [(k : Int)]) (hS.rd 7 rfl) (hS.rd 0 rfl)) ?_
          rintro _ hx ⟨rfl, hK⟩
          have hS0 : St _ _ _ := St.trans hS (St.ofK hK)
          clear hS
          have hS := hS0
          clear hS0
          simp only [List.nil_append] at hS
          rw [C.ver _ (getDB_mem (by omega))]
          refine KOps.move ?_
          refine KOps.neqZ rfl ?_
          refine KOps.done ?_
          refine sqQ.normal ?_
          refine KA.sub (Sub.cons (t := 5) Look.eq (Sub.cons (t := 6) Look.eq (Sub.cons (t := 7) Look.eq (Sub.cons (t := 11) Look.eq (Sub.cons (t := 13) Look.eq (Sub.cons (t := 15) Look.eq (Sub.cons (t := 17) Look.eq (Sub.cons (t := 116) Look.eq (Sub.cons (t := 117) Look.eq (Sub.cons (t := 118) Look.eq (Sub.cons (t := 159) Look.eq (Sub.nil _)))))))))))) ?_
          refine KA.condF ?_
          refine KA.skip ?_
          refine blQ.normal ?_
          refine sqQ.normal ?_
          refine KA.sub (Sub.cons (t := 5) Look.eq (Sub.cons (t := 6) Look.eq (Sub.cons (t := 7) Look.eq (Sub.cons (t := 11) Look.eq (Sub.cons (t := 13) Look.eq (Sub.cons (t := 15) Look.eq (Sub.cons (t := 17) Look.eq (Sub.cons (t := 116) Look.eq (Sub.cons (t := 117) Look.eq (Sub.cons (t := 118) Look.eq (Sub.nil _))))))))))) ?_
          refine KA.region rfl ?_
          refine KOps.add (by first | omega | (simp; omega)) (by first | omega | (simp; omega)) ?_
          refine KOps.move ?_
          refine KOps.done ?_
          exact lpQ.normal (i + 1) (by repeat (first | exact Sub.nil _ | refine Sub.cons Look.eq ?_ | refine Sub.cons (Eq.trans Look.eq (congrArg (AV.int _) (by first | omega | (dsimp only; omega)))) ?_)) ⟨by omega, St.tail hS⟩ (by omega)
    · intro c119
      obtain rfl : i = vs.length := by omega
      refine KA.exit ?_
      refine sqQ.exit ?_
      refine lpQ.exit ?_
      refine blQ.here ?_
      refine sqQ.normal ?_
      refine KA.sub (Sub.cons (t := 5) Look.eq (Sub.cons (t := 6) Look.eq (Sub.cons (t := 11) Look.eq (Sub.cons (t := 15) Look.eq (Sub.cons (t := 17) Look.eq (Sub.nil _)))))) ?_
      refine KA.seq ?_
      refine KA.seq ?_
      refine KA.region rfl ?_
      refine KOps.move ?_
      refine KOps.move ?_
      refine KOps.done ?_
      refine sqQ.normal ?_
      refine KA.block ?_
      refine KA.loop (X := Nat) (fun i => [(5, .int .i64 ((n : Nat) : Int)), (6, .int .i64 ((k : Nat) : Int)), (11, .int .i64 ((cntC n k (2 ^ n) : Nat) : Int)), (15, vSp), (17, .int .i64 ((cntC n k vs.length : Nat) : Int)), (161, .int .i64 ((n : Nat) : Int)), (162, .int .i64 ((i : Nat) : Int))]) (fun i h' => i ≤ n ∧ St h h' (⟨vSp, 2, flr pc (spansTo (wsC n k) (n + 1)), true⟩ :: ⟨vF, 1, ints (x0C n k ++ [(k : Int)]), true⟩ :: ⟨v73, 1, ints [(n : Int) - (k : Int), (k : Int)], true⟩ :: ⟨p8, 0, [.int .i64 3, .int .i64 ((n / 3 : Nat) : Int), .int .i64 2, v59], true⟩ :: ⟨v59, 1, ints [0], true⟩ :: ⟨p7, 0, [.int .i64 2, r55], true⟩ :: ⟨r55, 4, flr wc (wsC n k), true⟩ :: (matObjs true vo vs (bitsL n) ++ []))) (fun i => n - i) 0 (by repeat (first | exact Sub.nil _ | refine Sub.cons Look.eq ?_ | refine Sub.cons (Eq.trans Look.eq (congrArg (AV.int _) (by first | omega | (dsimp only; omega)))) ?_)) ?_ ?_
      · exact ⟨Nat.zero_le _, hS⟩
      rintro i h6 ⟨hi, hS⟩
      have hsl : (spansTo (wsC n k) (n + 1)).length = n + 1 := spansTo_len _ _
      refine KA.seq ?_
      refine KA.region rfl ?_
      refine KOps.lss ?_
      refine KOps.done ?_
      refine sqQ.normal ?_
      refine KA.seq ?_
      refine KA.condD ?_ ?_
      · intro c163
        refine KA.skip ?_
        refine sqQ.normal ?_
        refine KA.sub (Sub.cons (t := 5) Look.eq (Sub.cons (t := 6) Look.eq (Sub.cons (t := 11) Look.eq (Sub.cons (t := 15) Look.eq (Sub.cons (t := 17) Look.eq (Sub.cons (t := 161) Look.eq (Sub.cons (t := 162) Look.eq (Sub.nil _)))))))) ?_
        refine KA.seq ?_
        refine KA.block ?_
        refine KA.seq ?_
        refine KA.region rfl ?_
        refine KOps.move ?_
        refine KOps.assign ?_
        refine KOps.done ?_
        refine sqQ.normal ?_
        refine KA.sub (Sub.cons (t := 5) Look.eq (Sub.cons (t := 6) Look.eq (Sub.cons (t := 11) Look.eq (Sub.cons (t := 15) Look.eq (Sub.cons (t := 17) Look.eq (Sub.cons (t := 25) Look.eq (Sub.cons (t := 161) Look.eq (Sub.cons (t := 162) Look.eq (Sub.nil _))))))))) ?_
        refine KA.seq ?_
        refine KA.region rfl ?_
        refine KOps.assign ?_
        refine KOps.assign ?_
        refine KOps.done ?_
        refine sqQ.normal ?_
        refine KA.meet (X := Unit) (fun y => [(5, .int .i64 ((n : Nat) : Int)), (6, .int .i64 ((k : Nat) : Int)), (11, .int .i64 ((cntC n k (2 ^ n) : Nat) : Int)), (15, vSp), (17, .int .i64 ((cntC n k vs.length : Nat) : Int)), (161, .int .i64 ((n : Nat) : Int)), (162, .int .i64 ((i : Nat) : Int)), (25, .int .i64 ((i : Nat) : Int)), (26, .int .i64 0), (27, .int .i64 (hiC n k))]) (fun y h' => St h h' (⟨vSp, 2, flr pc (spansTo (wsC n k) (n + 1)), true⟩ :: ⟨vF, 1, ints (x0C n k ++ [(k : Int)]), true⟩ :: ⟨v73, 1, ints [(n : Int) - (k : Int), (k : Int)], true⟩ :: ⟨p8, 0, [.int .i64 3, .int .i64 ((n / 3 : Nat) : Int), .int .i64 2, v59], true⟩ :: ⟨v59, 1, ints [0], true⟩ :: ⟨p7, 0, [.int .i64 2, r55], true⟩ :: ⟨r55, 4, flr wc (wsC n k), true⟩ :: (matObjs true vo vs (bitsL n) ++ []))) ?_ ?_
        ·
          refine KA.seq ?_
          refine KA.region rfl ?_
          refine KOps.move ?_
          refine KOps.eql ?_
          refine KOps.done ?_
          refine sqQ.normal ?_
          refine KA.sub (Sub.cons (t := 5) Look.eq (Sub.cons (t := 6) Look.eq (Sub.cons (t := 11) Look.eq (Sub.cons (t := 15) Look.eq (Sub.cons (t := 17) Look.eq (Sub.cons (t := 25) Look.eq (Sub.cons (t := 26) Look.eq (Sub.cons (t := 27) Look.eq (Sub.cons (t := 161) Look.eq (Sub.cons (t := 162) Look.eq (Sub.cons (t := 166) Look.eq (Sub.nil _)))))))))))) ?_
          refine KA.condD ?_ ?_
          · intro c166
            refine KA.region rfl ?_
            refine KOps.assign ?_
            refine KOps.done ?_
            exact mtQ.normal () (by repeat (first | exact Sub.nil _ | refine Sub.cons Look.eq ?_ | refine Sub.cons (Eq.trans Look.eq (congrArg (AV.int _) (by first | omega | (dsimp only; omega)))) ?_ | refine Sub.cons (Eq.trans Look.eq (congrArg (AV.int .i64) (if_pos (by omega)).symm)) ?_)) hS
          · intro c166
            refine KA.skip ?_
            exact mtQ.normal () (by repeat (first | exact Sub.nil _ | refine Sub.cons Look.eq ?_ | refine Sub.cons (Eq.trans Look.eq (congrArg (AV.int _) (by first | omega | (dsimp only; omega)))) ?_ | refine Sub.cons (Eq.trans Look.eq (congrArg (AV.int .i64) (if_neg (by omega)).symm)) ?_)) hS
        ·
          rintro _ h7 hS
          refine KA.meet (X := Unit) (fun y => [(5, .int .i64 ((n : Nat) : Int)), (6, .int .i64 ((k : Nat) : Int)), (11, .int .i64 ((cntC n k (2 ^ n) : Nat) : Int)), (15, vSp), (17, .int .i64 ((cntC n k vs.length : Nat) : Int)), (161, .int .i64 ((n : Nat) : Int)), (162, .int .i64 ((i : Nat) : Int)), (25, .int .i64 ((i : Nat) : Int)), (26, .int .i64 (loC n k)), (27, .int .i64 (hiC n k))]) (fun y h' => St h h' (⟨vSp, 2, flr pc (spansTo (wsC n k) (n + 1)), true⟩ :: ⟨vF, 1, ints (x0C n k ++ [(k : Int)]), true⟩ :: ⟨v73, 1, ints [(n : Int) - (k : Int), (k : Int)], true⟩ :: ⟨p8, 0, [.int .i64 3, .int .i64 ((n / 3 : Nat) : Int), .int .i64 2, v59], true⟩ :: ⟨v59, 1, ints [0], true⟩ :: ⟨p7, 0, [.int .i64 2, r55], true⟩ :: ⟨r55, 4, flr wc (wsC n k), true⟩ :: (matObjs true vo vs (bitsL n) ++ []))) ?_ ?_
          ·
            refine KA.seq ?_
            refine KA.region rfl ?_
            refine KOps.move ?_
            refine KOps.move ?_
            refine KOps.eql ?_
            refine KOps.done ?_
            refine sqQ.normal ?_
            refine KA.sub (Sub.cons (t := 5) Look.eq (Sub.cons (t := 6) Look.eq (Sub.cons (t := 11) Look.eq (Sub.cons (t := 15) Look.eq (Sub.cons (t := 17) Look.eq (Sub.cons (t := 25) Look.eq (Sub.cons (t := 26) Look.eq (Sub.cons (t := 27) Look.eq (Sub.cons (t := 161) Look.eq (Sub.cons (t := 162) Look.eq (Sub.cons (t := 169) Look.eq (Sub.nil _)))))))))))) ?_
            refine KA.condD ?_ ?_
            · intro c169
              refine KA.region rfl ?_
              refine KOps.assign ?_
              refine KOps.done ?_
              exact mtQ.normal () (by repeat (first | exact Sub.nil _ | refine Sub.cons Look.eq ?_ | refine Sub.cons (Eq.trans Look.eq (congrArg (AV.int _) (by first | omega | (dsimp only; omega)))) ?_ | refine Sub.cons (Eq.trans Look.eq (congrArg (AV.int .i64) (if_pos (by omega)).symm)) ?_)) hS
            · intro c169
              refine KA.skip ?_
              exact mtQ.normal () (by repeat (first | exact Sub.nil _ | refine Sub.cons Look.eq ?_ | refine Sub.cons (Eq.trans Look.eq (congrArg (AV.int _) (by first | omega | (dsimp only; omega)))) ?_ | refine Sub.cons (Eq.trans Look.eq (congrArg (AV.int .i64) (if_neg (by omega)).symm)) ?_)) hS
          ·
            rintro _ h8 hS
            refine KA.seq ?_
            refine KA.region rfl ?_
            refine KOps.move ?_
            refine KOps.move ?_
            refine KOps.indexF pc_len (hS.rd 0 rfl) (j := i) rfl (by first | omega | (simp; done) | (simp; omega)) ?_
            intro p172 hp172
            refine KOps.loadFl pc_len (by decide) hp172 (hS.rd 0 rfl) (by first | omega | (simp; done) | (simp; omega)) ?_
            rw [spansTo_getK (by omega)]
            refine KOps.move ?_
            refine KOps.move ?_
            refine KOps.buildG (zs := [.int .i64 0, .int .i64 0]) (cs := [_, _]) (by kernel_rfl) (by rfl) (by kernel_rfl) (.cons (off := 0) (s := 1) (by kernel_rfl) (AV.cells_one (by first | rfl | assumption)) rfl (by decide) (.cons (off := 1) (s := 1) (by kernel_rfl) (AV.cells_one (by first | rfl | assumption)) rfl (by decide) .nil)) (by rfl) ?_
            refine KOps.neqPairZ (e := 3) (by kernel_rfl) (by kernel_rfl) (by kernel_rfl) (by kernel_rfl) (C.lo i (by omega)) (C.hi i (by omega)) ?_
            refine KOps.done ?_
            refine sqQ.normal ?_
            refine KA.sub (Sub.cons (t := 5) Look.eq (Sub.cons (t := 6) Look.eq (Sub.cons (t := 11) Look.eq (Sub.cons (t := 15) Look.eq (Sub.cons (t := 17) Look.eq (Sub.cons (t := 161) Look.eq (Sub.cons (t := 162) Look.eq (Sub.cons (t := 177) Look.eq (Sub.nil _))))))))) ?_
            refine KA.condF ?_
            refine KA.skip ?_
            refine blQ.normal ?_
            refine sqQ.normal ?_
            refine KA.sub (Sub.cons (t := 5) Look.eq (Sub.cons (t := 6) Look.eq (Sub.cons (t := 11) Look.eq (Sub.cons (t := 15) Look.eq (Sub.cons (t := 17) Look.eq (Sub.cons (t := 161) Look.eq (Sub.cons (t := 162) Look.eq (Sub.nil _)))))))) ?_
            refine KA.region rfl ?_
            refine KOps.add (by first | omega | (simp; omega)) (by first | omega | (simp; omega)) ?_
            refine KOps.move ?_
            refine KOps.done ?_
            exact lpQ.normal (i + 1) (by repeat (first | exact Sub.nil _ | refine Sub.cons Look.eq ?_ | refine Sub.cons (Eq.trans Look.eq (congrArg (AV.int _) (by first | omega | (dsimp only; omega)))) ?_)) ⟨by omega, hS⟩ (by omega)
      · intro c163
        refine KA.exit ?_
        refine sqQ.exit ?_
        refine lpQ.exit ?_
        refine blQ.here ?_
        refine sqQ.normal ?_
        refine KA.sub (Sub.cons (t := 11) Look.eq (Sub.cons (t := 17) Look.eq (Sub.nil _))) ?_
        refine KA.seq ?_
        refine KA.region rfl ?_
        refine KOps.move ?_
        refine KOps.move ?_
        refine KOps.eqlY (by rw [hvs, bits_num]) ?_
        refine KOps.move ?_
        refine KOps.guardYes (dj := 182) rfl rfl ?_
        refine KOps.call rfl (turnedWorks_c) ?_
        rintro _ hx ⟨rfl, hK⟩
        have hS0 : St _ _ _ := St.trans hS (St.ofK hK)
        clear hS
        have hS := hS0
        clear hS0
        simp only [List.nil_append] at hS
        refine KOps.pickT ?_
        refine KOps.assign ?_
        refine KOps.done ?_
        refine sqQ.normal ?_
        refine KA.sub (Sub.cons (t := 4) Look.eq (Sub.nil _)) ?_
        refine KA.ret ?_
        refine fnQ.ret1 ?_
        rfl

theorem law_counted_i {h : AHeap} {a b : Int} (ha0 : 0 ≤ a) (ha : a ≤ 255) (hb0 : 0 ≤ b) (hb : b ≤ 255) : ACalls Go.Proofs.Try.prog 4 [.int .u8 a, .int .u8 b] h (fun q _ => q = .bool true) := by
  obtain ⟨a, rfl⟩ := Int.eq_ofNat_of_zero_le ha0
  obtain ⟨b, rfl⟩ := Int.eq_ofNat_of_zero_le hb0
  exact counted_c (by omega) (by omega)

end Go.Am
