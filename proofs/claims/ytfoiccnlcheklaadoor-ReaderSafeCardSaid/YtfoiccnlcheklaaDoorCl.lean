/-
  Layer 08: contracts: safe words.
  Conditions: none.
-/
import Derived.Test.YtfoiccnlcheklaaDoorSz
import Derived.Test.YtfoiccnlcheklaaDoorWn
namespace Go.Am
def anyS (ss : List ByteArray) (s : ByteArray) : Bool := ss.any fun x => s.toList == x.toList
theorem toList_eq {a b : ByteArray} : (a.toList == b.toList) = true ↔ a = b := by
  rw [beq_iff_eq, ByteArray.toList_eq, ByteArray.toList_eq]
  exact ⟨ba_ext, fun h => by rw [h]⟩
theorem anyS_iff {ss : List ByteArray} {s : ByteArray} : anyS ss s = true ↔ s ∈ ss := by
  unfold anyS
  rw [List.any_eq_true]
  constructor
  · rintro ⟨x, hx, he⟩; rw [toList_eq.1 he]; exact hx
  · intro h; exact ⟨s, h, toList_eq.2 rfl⟩
theorem anyS_take {ss : List ByteArray} {s : ByteArray} {i : Nat} (hi : i ≤ ss.length) : anyS (ss.take i) s = true ↔ ∃ j, j < i ∧ sAtL ss j = s := by
  rw [anyS_iff, List.mem_iff_getElem]
  constructor
  · rintro ⟨j, hj, he⟩
    rw [List.length_take] at hj
    refine ⟨j, by omega, ?_⟩
    rw [List.getElem_take] at he
    rw [sAtL, List.getD_eq_getElem?_getD, List.getElem?_eq_getElem (by omega)]; exact he
  · rintro ⟨j, hj, he⟩
    refine ⟨j, by rw [List.length_take]; omega, ?_⟩
    rw [List.getElem_take]
    rw [sAtL, List.getD_eq_getElem?_getD, List.getElem?_eq_getElem (by omega)] at he
    exact he
/-- A table of rows of words that is owned. -/
abbrev tabW (vo : AV) (vs : List AV) (ps : List (List (List Bool))) : List Obj := ⟨vo, 1, vs, true⟩ :: List.zipWith (fun v p => (⟨v, 1, wcs p, true⟩ : Obj)) vs ps
theorem St.rowTW {h0 h : AHeap} {vo : AV} {vs : List AV} {ps : List (List (List Bool))} (st : St h0 h (tabW vo vs ps)) (hl : vs.length = ps.length) {k : Nat} (hk : k < ps.length) : WRow h (vs.getD k .bot) (ps.getD k []) := by
  refine St.rd st (k + 1) (o := ⟨vs.getD k .bot, 1, wcs (ps.getD k []), true⟩) ?_
  rw [List.getElem?_cons_succ, List.getElem?_zipWith, List.getElem?_eq_getElem (by omega : k < vs.length), List.getElem?_eq_getElem hk, List.getD_eq_getElem?_getD, List.getD_eq_getElem?_getD, List.getElem?_eq_getElem (by omega : k < vs.length), List.getElem?_eq_getElem hk]
  rfl
section
variable {P : Program} {n : Nat} {ops : Array Oper} {ex : List Nat} {Q : KF → AHeap → Prop} {k : Nat} {os : List Oper} {K : KF} {h h0 : AHeap} {d : Nat} {ty : TypeId} {pos : String} {after : Array Edge} {objs : List Obj}
/-- A row behind the rows of a table. -/
theorem KOps.appendTW {t e : TypeId} {x y : Operand} {vo u w : AV} {vs : List AV} {p : List (List Bool)} {ps : List (List (List Bool))} {zs : List AV} {tip' : Bool} [hx : EvK h.globs n K x vo] [hy : EvK h.globs n K y u] [ht : SlT P t e 1 zs] (st : St h0 h (⟨u, 1, [w], tip'⟩ :: ⟨w, 1, wcs p, true⟩ :: tabW vo vs ps)) (hl : vs.length = ps.length) (hw : w.one = true) (hsz : vs.length + 1 ≤ 4294967296)
    (hk : ∀ r h', r.one = true → St h0 h' (tabW r (vs ++ [w]) (ps ++ [p])) → KOps P n ops ex Q (k + 1) os ((d, r) :: K) h') :
    KOps P n ops ex Q k (⟨some d, .call { callee := .builtin .append, args := #[x, y], argTypes := #[t, t] }, ty, pos, after, none⟩ :: os) K h := by
  refine KOps.append (e := e) (zs := zs) (s := 1) (i := 2) (a := vs.length) (b := 1) (xs := vs) (ys := [w]) (tip := true) st (fun _ => rfl) rfl (by simp) (st.rd 0 rfl) rfl (by simpa using hw) hsz ?_
  intro r h' hS
  simp only [List.set_cons_zero, List.set_cons_succ] at hS
  have h2 : r.one = true := St.one hS (k := 2) rfl
  have h3 := St.tail hS
  refine hk r h' h2 (St.perm ?_ h3)
  rw [tabW, List.zipWith_append hl]
  exact (List.Perm.swap _ _ _).trans (List.Perm.cons _ (List.perm_append_comm (l₁ := [_]) (l₂ := _)))
end
theorem natfilt_yes {l : List Nat} {p : Nat → Bool} {i : Nat} (h : i < l.length) (hp : p (l.getD i 0) = true) : (l.take (i + 1)).filter p = (l.take i).filter p ++ [l.getD i 0] := by
  have e : l.getD i 0 = l[i] := by rw [List.getD_eq_getElem?_getD, List.getElem?_eq_getElem h]; rfl
  rw [e] at hp ⊢
  rw [List.take_add_one, List.getElem?_eq_getElem h, List.filter_append, Option.toList_some, List.filter_cons_of_pos hp, List.filter_nil]
theorem natfilt_no {l : List Nat} {p : Nat → Bool} {i : Nat} (h : i < l.length) (hp : p (l.getD i 0) = false) : (l.take (i + 1)).filter p = (l.take i).filter p := by
  have e : l.getD i 0 = l[i] := by rw [List.getD_eq_getElem?_getD, List.getElem?_eq_getElem h]; rfl
  rw [e] at hp
  rw [List.take_add_one, List.getElem?_eq_getElem h, List.filter_append, Option.toList_some, List.filter_cons_of_neg (by rw [hp]; decide), List.filter_nil, List.append_nil]
theorem getD_mapW (l : List Nat) (n : Nat) {i : Nat} (h : i < l.length) : (l.map (bitsW n)).getD i [] = bitsW n (l.getD i 0) := by
  rw [List.getD_eq_getElem?_getD, List.getD_eq_getElem?_getD, List.getElem?_map, List.getElem?_eq_getElem h]; rfl
theorem rowPart {α : Type} {f : α → AV} {h : AHeap} {v r : AV} {l : List α} {lo hi : Nat} (hr : Rd h v 1 (l.map f)) (hp : PartOf r v 1 lo hi) (hlo : lo ≤ hi) : Rd h r 1 (((l.drop lo).take (hi - lo)).map f) := by
  have := Rd.part hr hp hlo
  rwa [Nat.mul_one, Nat.mul_one, ← List.map_drop, ← List.map_take] at this
theorem sAtL_is (ss : List ByteArray) (i : Nat) : ss.getD i ByteArray.empty = sAtL ss i := rfl
theorem indexS_c {h : AHeap} {v : AV} {ss : List ByteArray} {s : ByteArray} (hv : SRow h v ss) (hl : ss.length ≤ 4096) : ACalls Go.Proofs.Tryd.prog 69 [v, .str s] h (fun q h' => (∃ r : Int, q = .int .i64 r ∧ decide (0 ≤ r) = anyS ss s) ∧ h = h') := by
  refine KA.fn 19 [.tmp 4] Go.Proofs.Tryd.func69 rfl (by decide) rfl rfl (Nat.le_of_ble_eq_true rfl) ?_
  show KA _ 19 _ _ [(0, v), (1, .str s)] _
  refine KA.seq ?_
  refine KA.region rfl ?_
  refine KOps.assign ?_
  refine KOps.done ?_
  refine sqQ.normal ?_
  refine KA.sub (Sub.cons (t := 0) Look.eq (Sub.cons (t := 1) Look.eq (Sub.nil _))) ?_
  refine KA.seq ?_
  refine KA.seq ?_
  refine KA.region rfl ?_
  refine KOps.move ?_
  refine KOps.lenI hv ?_
  refine KOps.move ?_
  refine KOps.done ?_
  refine sqQ.normal ?_
  refine KA.sub (Sub.cons (t := 0) Look.eq (Sub.cons (t := 1) Look.eq (Sub.cons (t := 7) Look.eq (Sub.cons (t := 8) Look.eq (Sub.nil _))))) ?_
  refine KA.block ?_
  refine KA.loop (X := Nat) (fun i => [(0, v), (1, .str s), (7, .int .i64 (ss.length : Int)), (8, .int .i64 (i : Int))]) (fun i h' => i ≤ ss.length ∧ (∀ j, j < i → sAtL ss j ≠ s) ∧ h = h') (fun i => ss.length - i) 0 (by repeat (first | exact Sub.nil _ | refine Sub.cons Look.eq ?_ | refine Sub.cons (Eq.trans Look.eq (congrArg (AV.int _) (by first | omega | (dsimp only; omega)))) ?_)) ?_ ?_
  · exact ⟨Nat.zero_le _, fun j hj => absurd hj (Nat.not_lt_zero _), rfl⟩
  rintro i h2 ⟨hi, hno, rfl⟩
  refine KA.seq ?_
  refine KA.region rfl ?_
  refine KOps.lss ?_
  refine KOps.done ?_
  refine sqQ.normal ?_
  refine KA.seq ?_
  refine KA.condD ?_ ?_
  · intro c9
    refine KA.skip ?_
    refine sqQ.normal ?_
    refine KA.sub (Sub.cons (t := 0) Look.eq (Sub.cons (t := 1) Look.eq (Sub.cons (t := 7) Look.eq (Sub.cons (t := 8) Look.eq (Sub.nil _))))) ?_
    refine KA.seq ?_
    refine KA.block ?_
    refine KA.seq ?_
    refine KA.region rfl ?_
    refine KOps.move ?_
    refine KOps.assign ?_
    refine KOps.done ?_
    refine sqQ.normal ?_
    refine KA.sub (Sub.cons (t := 0) Look.eq (Sub.cons (t := 1) Look.eq (Sub.cons (t := 5) Look.eq (Sub.cons (t := 7) Look.eq (Sub.cons (t := 8) Look.eq (Sub.nil _)))))) ?_
    refine KA.seq ?_
    refine KA.region rfl ?_
    refine KOps.move ?_
    refine KOps.move ?_
    refine KOps.move ?_
    refine KOps.indexIJ hv (j := i) rfl (by first | omega | (simp; done) | (simp; omega)) ?_
    intro p14 hp14
    refine KOps.loadS hp14 hv (by first | omega | (simp; done) | (simp; omega)) ?_
    refine KOps.sEql ?_
    refine KOps.done ?_
    refine sqQ.normal ?_
    refine KA.sub (Sub.cons (t := 0) Look.eq (Sub.cons (t := 1) Look.eq (Sub.cons (t := 5) Look.eq (Sub.cons (t := 7) Look.eq (Sub.cons (t := 8) Look.eq (Sub.cons (t := 16) Look.eq (Sub.nil _))))))) ?_
    refine KA.condB ?_ ?_
    · intro c16
      refine KA.seq ?_
      refine KA.region rfl ?_
      refine KOps.move ?_
      refine KOps.assign ?_
      refine KOps.done ?_
      refine sqQ.normal ?_
      refine KA.sub (Sub.cons (t := 4) Look.eq (Sub.nil _)) ?_
      refine KA.ret ?_
      refine blQ.ret ?_
      refine sqQ.ret ?_
      refine lpQ.ret ?_
      refine blQ.ret ?_
      refine sqQ.ret ?_
      refine fnQ.ret1 ?_
      have hf := (anyS_take (ss := ss) (s := s) (Nat.le_refl _)).2 ⟨i, by omega, (toList_eq.1 c16).symm⟩
      rw [List.take_length] at hf
      exact ⟨⟨_, rfl, by rw [hf]; exact decide_eq_true (by omega)⟩, rfl⟩
    · intro c16
      refine KA.skip ?_
      refine blQ.normal ?_
      refine sqQ.normal ?_
      refine KA.sub (Sub.cons (t := 0) Look.eq (Sub.cons (t := 1) Look.eq (Sub.cons (t := 7) Look.eq (Sub.cons (t := 8) Look.eq (Sub.nil _))))) ?_
      refine KA.region rfl ?_
      refine KOps.add (by first | omega | (simp; omega)) (by first | omega | (simp; omega)) ?_
      refine KOps.move ?_
      refine KOps.done ?_
      exact lpQ.normal (i + 1) (by repeat (first | exact Sub.nil _ | refine Sub.cons Look.eq ?_ | refine Sub.cons (Eq.trans Look.eq (congrArg (AV.int _) (by first | omega | (dsimp only; omega)))) ?_)) ⟨by omega, fun j hj => by
        rcases Nat.lt_succ_iff_lt_or_eq.1 hj with h | rfl
        · exact hno j h
        · exact fun e => absurd (toList_eq.2 e.symm) (by rw [sAtL, c16]; decide), rfl⟩ (by omega)
  · intro c9
    refine KA.exit ?_
    refine sqQ.exit ?_
    refine lpQ.exit ?_
    refine blQ.here ?_
    refine sqQ.normal ?_
    refine KA.sub (Sub.nil _) ?_
    refine KA.seq ?_
    refine KA.region rfl ?_
    refine KOps.assign ?_
    refine KOps.done ?_
    refine sqQ.normal ?_
    refine KA.ret ?_
    refine fnQ.ret1 ?_
    refine ⟨⟨_, rfl, ?_⟩, rfl⟩
    cases hf : anyS ss s with
    | false => rfl
    | true =>
      rw [← List.take_length (l := ss)] at hf
      obtain ⟨j, hj, he⟩ := (anyS_take (Nat.le_refl _)).1 hf
      exact absurd he (hno j (by omega))

theorem containsS_c {h : AHeap} {v : AV} {ss : List ByteArray} {s : ByteArray} (hv : SRow h v ss) (hl : ss.length ≤ 4096) : ACalls Go.Proofs.Tryd.prog 39 [v, .str s] h (fun q h' => q = .bool (anyS ss s) ∧ h = h') := by
  refine KA.fn 9 [.tmp 4] Go.Proofs.Tryd.func39 rfl (by decide) rfl rfl (Nat.le_of_ble_eq_true rfl) ?_
  show KA _ 9 _ _ [(0, v), (1, .str s)] _
  refine KA.seq ?_
  refine KA.region rfl ?_
  refine KOps.assign ?_
  refine KOps.done ?_
  refine sqQ.normal ?_
  refine KA.sub (Sub.cons (t := 0) Look.eq (Sub.cons (t := 1) Look.eq (Sub.nil _))) ?_
  refine KA.seq ?_
  refine KA.region rfl ?_
  refine KOps.move ?_
  refine KOps.move ?_
  refine KOps.call rfl (indexS_c hv (by omega)) ?_
  rintro _ _ ⟨⟨r, rfl, hr⟩, rfl⟩
  refine KOps.geq ?_
  refine KOps.assign ?_
  refine KOps.done ?_
  refine sqQ.normal ?_
  refine KA.sub (Sub.cons (t := 4) Look.eq (Sub.nil _)) ?_
  refine KA.ret ?_
  refine fnQ.ret1 ?_
  exact ⟨congrArg AV.bool hr, rfl⟩

theorem most_c {n : Nat} (hn : 1 ≤ n ∧ n ≤ 5) (d : Nat) : ∀ {h : AHeap} {v : AV} {l : List Nat}, l.length = d → l.Nodup → d ≤ 32 → WRow h v (l.map (bitsW n)) →
    ACalls Go.Proofs.Tryd.prog 68 [v] h (fun q h' => q = .int .i64 ((misL (safeN n) l : Nat) : Int) ∧ Keeps h h') := by
  induction d using Nat.strongRecOn
  rename_i d ih
  intro h v l hd hnd hd32 hv
  have hS := St.refl h
  have hlm : (l.map (bitsW n)).length = l.length := List.length_map ..
  refine KA.fn 52 [.tmp 2] Go.Proofs.Tryd.func68 rfl (by decide) rfl rfl (Nat.le_of_ble_eq_true rfl) ?_
  show KA _ 52 _ _ [(0, v)] _
  refine KA.seq ?_
  refine KA.region rfl ?_
  refine KOps.assign ?_
  refine KOps.done ?_
  refine sqQ.normal ?_
  refine KA.sub (Sub.cons (t := 0) Look.eq (Sub.nil _)) ?_
  refine KA.seq ?_
  refine KA.seq ?_
  refine KA.region rfl ?_
  refine KOps.move ?_
  refine KOps.lenI (Rd.ext hS.keeps hv) ?_
  refine KOps.eql ?_
  refine KOps.done ?_
  refine sqQ.normal ?_
  refine KA.sub (Sub.cons (t := 0) Look.eq (Sub.cons (t := 10) Look.eq (Sub.nil _))) ?_
  refine KA.condD ?_ ?_
  · intro c10
    refine KA.seq ?_
    refine KA.region rfl ?_
    refine KOps.assign ?_
    refine KOps.done ?_
    refine sqQ.normal ?_
    refine KA.sub (Sub.cons (t := 2) Look.eq (Sub.nil _)) ?_
    refine KA.ret ?_
    refine sqQ.ret ?_
    refine fnQ.ret1 ?_
    have hl0 : l = [] := List.length_eq_zero_iff.1 (by omega)
    subst hl0
    exact ⟨rfl, hS.keeps⟩
  · intro c10
    obtain ⟨x, m, rfl⟩ : ∃ x m, l = x :: m := by
      cases l with
      | nil => exact absurd rfl c10
      | cons x m => exact ⟨x, m, rfl⟩
    rw [List.length_cons] at hlm
    have hdm : m.length + 1 = d := by rw [← List.length_cons (a := x)]; exact hd
    rw [List.nodup_cons] at hnd
    refine KA.skip ?_
    refine sqQ.normal ?_
    refine KA.sub (Sub.cons (t := 0) Look.eq (Sub.nil _)) ?_
    refine KA.seq ?_
    refine KA.region rfl ?_
    refine KOps.assign ?_
    refine KOps.done ?_
    refine sqQ.normal ?_
    refine KA.seq ?_
    refine KA.seq ?_
    refine KA.region rfl ?_
    refine KOps.assign ?_
    refine KOps.done ?_
    refine sqQ.normal ?_
    refine KA.block ?_
    refine KA.loop (X := Nat × AV) (fun x_ => [(0, v), (3, x_.2), (4, .int .i64 (x_.1 : Int))]) (fun x_ h' => 1 ≤ x_.1 ∧ x_.1 ≤ m.length + 1 ∧ St h h' [⟨x_.2, 1, wcs (((m.take (x_.1 - 1)).filter (safeN n x)).map (bitsW n)), true⟩]) (fun x_ => m.length + 1 - x_.1) (1, .nils) (by repeat (first | exact Sub.nil _ | refine Sub.cons Look.eq ?_ | refine Sub.cons (Eq.trans Look.eq (congrArg (AV.int _) (by first | omega | (dsimp only; omega)))) ?_)) ?_ ?_
    · exact ⟨Nat.le_refl _, by dsimp only; omega, hS.nil 1⟩
    rintro ⟨i, vo⟩ h3 ⟨hi1, hi, hS⟩
    dsimp only at hi1 hi hS ⊢
    have hfl2 := List.length_filter_le (safeN n x) (m.take (i - 1))
    have htl : (m.take (i - 1)).length = i - 1 := by rw [List.length_take]; omega
    refine KA.seq ?_
    refine KA.seq ?_
    refine KA.region rfl ?_
    refine KOps.move ?_
    refine KOps.move ?_
    refine KOps.lenI (Rd.ext hS.keeps hv) ?_
    refine KOps.lss ?_
    refine KOps.done ?_
    refine sqQ.normal ?_
    refine KA.sub (Sub.cons (t := 0) Look.eq (Sub.cons (t := 3) Look.eq (Sub.cons (t := 4) Look.eq (Sub.cons (t := 14) Look.eq (Sub.nil _))))) ?_
    refine KA.condD ?_ ?_
    · intro c14
      refine KA.skip ?_
      refine sqQ.normal ?_
      refine KA.sub (Sub.cons (t := 0) Look.eq (Sub.cons (t := 3) Look.eq (Sub.cons (t := 4) Look.eq (Sub.nil _)))) ?_
      refine KA.seq ?_
      refine KA.block ?_
      refine KA.seq ?_
      refine KA.draw [] mixed rfl (by kernel_rfl) ?_
      have hbx := bitsW_len n x
      have hby := bitsW_len n (m.getD (i - 1) 0)
      have hgx : ((x :: m).map (bitsW n)).getD 0 [] = bitsW n x := rfl
      have hgy : ((x :: m).map (bitsW n)).getD i [] = bitsW n (m.getD (i - 1) 0) := by
        rw [getD_mapW _ _ (by rw [List.length_cons]; omega)]
        obtain ⟨j, rfl⟩ : ∃ j, i = j + 1 := ⟨i - 1, by omega⟩
        rfl
      have hne : x ≠ m.getD (i - 1) 0 := fun e => hnd.1 (by rw [e, List.getD_eq_getElem?_getD, List.getElem?_eq_getElem (by omega : i - 1 < m.length)]; exact List.getElem_mem _)
      refine KOps.move ?_
      refine KOps.indexIJ (Rd.ext hS.keeps hv) (j := 0) rfl (by first | omega | (simp; done) | (simp; omega)) ?_
      intro p19 hp19
      refine KOps.loadW hp19 (Rd.ext hS.keeps hv) (by first | omega | (simp; done) | (simp; omega)) ?_
      rw [hgx]
      refine KOps.move ?_
      refine KOps.move ?_
      refine KOps.indexIJ (Rd.ext hS.keeps hv) (j := i) rfl (by first | omega | (simp; done) | (simp; omega)) ?_
      intro p23 hp23
      refine KOps.loadW hp23 (Rd.ext hS.keeps hv) (by first | omega | (simp; done) | (simp; omega)) ?_
      rw [hgy]
      refine KOps.call rfl (refcomF_c (a := bitsW n x) (b := bitsW n (m.getD (i - 1) 0)) (by omega) (by omega) (by omega)) ?_
      rintro _ _ ⟨rfl, rfl⟩
      refine KOps.move ?_
      refine KOps.extract ?_
      refine KOps.extract ?_
      refine KOps.assign ?_
      refine KOps.assign ?_
      refine KOps.done ?_
      refine sqQ.normal ?_
      refine KA.sub (Sub.cons (t := 0) Look.eq (Sub.cons (t := 3) Look.eq (Sub.cons (t := 4) Look.eq (Sub.cons (t := 6) Look.eq (Sub.nil _))))) ?_
      refine KA.seq ?_
      refine KA.region rfl ?_
      refine KOps.move ?_
      refine KOps.not ?_
      refine KOps.done ?_
      refine sqQ.normal ?_
      refine KA.sub (Sub.cons (t := 0) Look.eq (Sub.cons (t := 3) Look.eq (Sub.cons (t := 4) Look.eq (Sub.cons (t := 29) Look.eq (Sub.nil _))))) ?_
      refine KA.condB ?_ ?_
      · intro c29
        refine KA.region rfl ?_
        refine KOps.move ?_
        refine KOps.move ?_
        refine KOps.move ?_
        refine KOps.indexIJ (Rd.ext hS.keeps hv) (j := i) rfl (by first | omega | (simp; done) | (simp; omega)) ?_
        intro p33 hp33
        refine KOps.loadW hp33 (Rd.ext hS.keeps hv) (by first | omega | (simp; done) | (simp; omega)) ?_
        rw [hgy]
        refine KOps.buildSlice hS rfl (by decide) rfl ?_
        intro v35 h' hS
        refine KOps.appendW1 hS (fun _ => rfl) (i := 0) rfl (by rw [List.length_map]; omega) ?_
        intro r36 h' hr36 hS
        refine KOps.assign ?_
        refine KOps.done ?_
        refine blQ.normal ?_
        refine sqQ.normal ?_
        refine KA.sub (Sub.cons (t := 0) Look.eq (Sub.cons (t := 3) Look.eq (Sub.cons (t := 4) Look.eq (Sub.nil _)))) ?_
        refine KA.region rfl ?_
        refine KOps.move ?_
        refine KOps.add (by first | omega | (simp; omega)) (by first | omega | (simp; omega)) ?_
        refine KOps.assign ?_
        refine KOps.done ?_
        have hsf : safeN n x (m.getD (i - 1) 0) = true := by unfold safeN clashW; rw [decide_eq_false hne, c29]; rfl
        have he := natfilt_yes (p := safeN n x) (i := i - 1) (by omega) hsf
        exact lpQ.normal (i + 1, _) (by repeat (first | exact Sub.nil _ | refine Sub.cons Look.eq ?_ | refine Sub.cons (Eq.trans Look.eq (congrArg (AV.int _) (by first | omega | (dsimp only; omega)))) ?_)) ⟨by dsimp only; omega, by dsimp only; omega, by
          rw [show i + 1 - 1 = i - 1 + 1 by omega, he, List.map_append]; exact hS⟩ (by dsimp only; omega)
      · intro c29
        refine KA.skip ?_
        refine blQ.normal ?_
        refine sqQ.normal ?_
        refine KA.sub (Sub.cons (t := 0) Look.eq (Sub.cons (t := 3) Look.eq (Sub.cons (t := 4) Look.eq (Sub.nil _)))) ?_
        refine KA.region rfl ?_
        refine KOps.move ?_
        refine KOps.add (by first | omega | (simp; omega)) (by first | omega | (simp; omega)) ?_
        refine KOps.assign ?_
        refine KOps.done ?_
        have hsf : safeN n x (m.getD (i - 1) 0) = false := by unfold safeN clashW; rw [c29, Bool.and_false]
        have he := natfilt_no (p := safeN n x) (i := i - 1) (by omega) hsf
        exact lpQ.normal (i + 1, _) (by repeat (first | exact Sub.nil _ | refine Sub.cons Look.eq ?_ | refine Sub.cons (Eq.trans Look.eq (congrArg (AV.int _) (by first | omega | (dsimp only; omega)))) ?_)) ⟨by dsimp only; omega, by dsimp only; omega, by
          rw [show i + 1 - 1 = i - 1 + 1 by omega, he]; exact hS⟩ (by dsimp only; omega)
    · intro c14
      refine KA.exit ?_
      refine sqQ.exit ?_
      refine lpQ.exit ?_
      refine blQ.here ?_
      refine sqQ.normal ?_
      refine KA.sub (Sub.cons (t := 0) Look.eq (Sub.cons (t := 3) Look.eq (Sub.nil _))) ?_
      refine KA.seq ?_
      refine KA.region rfl ?_
      have hie : i - 1 = m.length := by omega
      rw [hie, List.take_length] at hS
      have hfl := List.length_filter_le (safeN n x) m
      have hml := misL_le (safeN n) (m.filter (safeN n x))
      have hlm2 : ((m.filter (safeN n x)).map (bitsW n)).length = (m.filter (safeN n x)).length := List.length_map ..
      refine KOps.move ?_
      refine KOps.call rfl (ih _ (by omega) (l := m.filter (safeN n x)) rfl (hnd.2.sublist List.filter_sublist) (by omega) (hS.rd 0 rfl)) ?_
      rintro _ h8 ⟨rfl, hK⟩
      have hS0 : St _ _ _ := St.trans hS (St.ofK hK)
      clear hS
      have hS := hS0
      clear hS0
      simp only [List.nil_append] at hS
      refine KOps.add (by first | omega | (simp; omega)) (by first | omega | (simp; omega)) ?_
      refine KOps.assign ?_
      refine KOps.done ?_
      refine sqQ.normal ?_
      refine KA.sub (Sub.cons (t := 0) Look.eq (Sub.cons (t := 3) Look.eq (Sub.cons (t := 7) Look.eq (Sub.nil _)))) ?_
      refine KA.seq ?_
      refine KA.seq ?_
      refine KA.region rfl ?_
      refine KOps.move ?_
      refine KOps.lenI (hS.rd 0 rfl) ?_
      refine KOps.move ?_
      refine KOps.lenI (Rd.ext hS.keeps hv) ?_
      refine KOps.sub (by first | omega | (simp; omega)) (by first | omega | (simp; omega)) ?_
      refine KOps.eql ?_
      refine KOps.done ?_
      refine sqQ.normal ?_
      refine KA.sub (Sub.cons (t := 0) Look.eq (Sub.cons (t := 7) Look.eq (Sub.cons (t := 45) Look.eq (Sub.nil _)))) ?_
      refine KA.condD ?_ ?_
      · intro c45
        refine KA.seq ?_
        refine KA.region rfl ?_
        refine KOps.move ?_
        refine KOps.assign ?_
        refine KOps.done ?_
        refine sqQ.normal ?_
        refine KA.sub (Sub.cons (t := 2) Look.eq (Sub.nil _)) ?_
        refine KA.ret ?_
        refine sqQ.ret ?_
        refine fnQ.ret1 ?_
        have hfe : m.filter (safeN n x) = m := List.filter_eq_self.2 (List.length_filter_eq_length_iff.1 (by omega))
        exact ⟨congrArg (AV.int .i64) (by rw [misL_cons, hfe]; omega), hS.keeps⟩
      · intro c45
        refine KA.skip ?_
        refine sqQ.normal ?_
        refine KA.sub (Sub.cons (t := 0) Look.eq (Sub.cons (t := 7) Look.eq (Sub.nil _))) ?_
        refine KA.seq ?_
        refine KA.region rfl ?_
        refine KOps.move ?_
        refine KOps.move ?_
        refine KOps.sliceLo (Rd.ext hS.keeps hv) (m := m.length + 1) (by simp) (by decide) (by omega) ?_
        intro v49 hv49
        have hv49 := rowPart (Rd.ext hS.keeps hv) hv49 (by omega)
        rw [List.take_of_length_le (by simp)] at hv49
        refine KOps.call rfl (ih _ (by omega) (l := m) rfl hnd.2 (by omega) (show WRow _ v49 (m.map (bitsW n)) from hv49)) ?_
        rintro _ h9 ⟨rfl, hK⟩
        have hS0 : St _ _ _ := St.trans hS (St.ofK hK)
        clear hS
        have hS := hS0
        clear hS0
        simp only [List.nil_append] at hS
        refine KOps.max ?_
        refine KOps.assign ?_
        refine KOps.done ?_
        refine sqQ.normal ?_
        refine KA.sub (Sub.cons (t := 2) Look.eq (Sub.nil _)) ?_
        refine KA.ret ?_
        refine fnQ.ret1 ?_
        exact ⟨congrArg (AV.int .i64) (by rw [misL_cons]; omega), hS.keeps⟩

theorem mostR_c {h : AHeap} {n : Int} : ACalls Go.Proofs.Tryd.prog 36 [.int .i64 n] h (fun q h' => q = .tup [.int .i64 ((mostV n : Nat) : Int), .int .i64 (mostE n)] ∧ Keeps h h') := by
  refine KA.fn 10 [.tmp 2, .tmp 3] Go.Proofs.Tryd.func36 rfl (by decide) rfl rfl (Nat.le_of_ble_eq_true rfl) ?_
  have hS := St.refl h
  show KA _ 10 _ _ [(0, .int .i64 n)] _
  refine KA.seq ?_
  refine KA.region rfl ?_
  refine KOps.assign ?_
  refine KOps.assign ?_
  refine KOps.done ?_
  refine sqQ.normal ?_
  refine KA.sub (Sub.cons (t := 0) Look.eq (Sub.nil _)) ?_
  refine KA.seq ?_
  refine KA.seq ?_
  refine KA.region rfl ?_
  refine KOps.move ?_
  refine KOps.call rfl (is_c) ?_
  rintro _ _ ⟨rfl, rfl⟩
  refine KOps.not ?_
  refine KOps.done ?_
  refine sqQ.normal ?_
  refine KA.sub (Sub.cons (t := 0) Look.eq (Sub.cons (t := 6) Look.eq (Sub.nil _))) ?_
  refine KA.condN ?_ ?_
  · intro c6
    refine KA.seq ?_
    refine KA.region rfl ?_
    refine KOps.assign ?_
    refine KOps.assign ?_
    refine KOps.done ?_
    refine sqQ.normal ?_
    refine KA.sub (Sub.cons (t := 2) Look.eq (Sub.cons (t := 3) Look.eq (Sub.nil _))) ?_
    refine KA.ret ?_
    refine sqQ.ret ?_
    refine fnQ.retN ?_
    exact ⟨by rw [(mostE_bad (n := n) (by omega)).1, (mostE_bad (n := n) (by omega)).2]; rfl, hS.keeps⟩
  · intro c6
    obtain ⟨m, rfl⟩ : ∃ m : Nat, n = (m : Int) := ⟨n.toNat, by omega⟩
    have hm : 1 ≤ m ∧ m ≤ 5 := by omega
    have hpw : 2 ^ m ≤ 2 ^ 5 := Nat.pow_le_pow_right (by decide) hm.2
    refine KA.skip ?_
    refine sqQ.normal ?_
    refine KA.sub (Sub.cons (t := 0) Look.eq (Sub.nil _)) ?_
    refine KA.seq ?_
    refine KA.region rfl ?_
    refine KOps.move ?_
    refine KOps.call rfl (words_c (n := m) (by omega)) ?_
    rintro v8 h8 hS8
    have hS0 : St _ _ (_ :: _) := St.trans hS hS8
    clear hS
    have hS := hS0
    clear hS0
    rw [allW_bits] at hS
    refine KOps.call rfl (most_c hm _ (l := List.range (2 ^ m)) rfl List.nodup_range (by rw [List.length_range]; omega) (hS.rd 0 rfl)) ?_
    rintro _ h9 ⟨rfl, hK⟩
    have hS0 : St _ _ _ := St.trans hS (St.ofK hK)
    clear hS
    have hS := hS0
    clear hS0
    simp only [List.nil_append] at hS
    refine KOps.assign ?_
    refine KOps.assign ?_
    refine KOps.done ?_
    refine sqQ.normal ?_
    refine KA.sub (Sub.cons (t := 2) Look.eq (Sub.cons (t := 3) Look.eq (Sub.nil _))) ?_
    refine KA.ret ?_
    refine fnQ.retN ?_
    exact ⟨by rw [(mostE_nat hm).1, (mostE_nat hm).2]; rfl, hS.keeps⟩

end Go.Am

namespace Go.Am
theorem take_map {ss : List ByteArray} {i : Nat} (h : i < ss.length) (f : ByteArray → List (List Bool)) : (ss.take (i + 1)).map f = (ss.take i).map f ++ [f (sAtL ss i)] := by
  rw [List.take_add_one, List.getElem?_eq_getElem h, List.map_append, sAtL, List.getD_eq_getElem?_getD, List.getElem?_eq_getElem h]
  rfl
theorem size_zero {s : ByteArray} (h : s.size = 0) : s = wd [] := by
  refine ba_ext ?_
  have h1 : s.data.toList.length = 0 := h
  rw [List.length_eq_zero_iff.1 h1]; rfl
theorem map_at {ss : List ByteArray} {i : Nat} (h : i < ss.length) (f : ByteArray → List (List Bool)) : (ss.map f).getD i [] = f (sAtL ss i) := by
  rw [List.getD_eq_getElem?_getD, List.getElem?_map, List.getElem?_eq_getElem h, sAtL, List.getD_eq_getElem?_getD, List.getElem?_eq_getElem h]
  rfl
theorem safeP_c {h : AHeap} {v : AV} {ss : List ByteArray} (hv : SRow h v ss) (hlen : ss.length ≤ 4096) : ACalls Go.Proofs.Tryd.prog 31 [v] h (fun q h' => q = safeV ss ∧ Keeps h h') := by
  refine KA.fn 82 [.tmp 2, .tmp 3, .tmp 4] Go.Proofs.Tryd.func31 rfl (by decide) rfl rfl (Nat.le_of_ble_eq_true rfl) ?_
  have hS := St.refl h
  show KA _ 82 _ _ [(0, v)] _
  refine KA.seq ?_
  refine KA.region rfl ?_
  refine KOps.assign ?_
  refine KOps.assign ?_
  refine KOps.assign ?_
  refine KOps.done ?_
  refine sqQ.normal ?_
  refine KA.sub (Sub.cons (t := 0) Look.eq (Sub.nil _)) ?_
  refine KA.seq ?_
  refine KA.seq ?_
  refine KA.region rfl ?_
  refine KOps.move ?_
  refine KOps.lenI (Rd.ext hS.keeps hv) ?_
  refine KOps.gtr ?_
  refine KOps.done ?_
  refine sqQ.normal ?_
  refine KA.sub (Sub.cons (t := 0) Look.eq (Sub.cons (t := 15) Look.eq (Sub.nil _))) ?_
  refine KA.condD ?_ ?_
  · intro c15
    refine KA.seq ?_
    refine KA.region rfl ?_
    refine KOps.assign ?_
    refine KOps.assign ?_
    refine KOps.assign ?_
    refine KOps.done ?_
    refine sqQ.normal ?_
    refine KA.sub (Sub.cons (t := 2) Look.eq (Sub.cons (t := 3) Look.eq (Sub.cons (t := 4) Look.eq (Sub.nil _)))) ?_
    refine KA.ret ?_
    refine sqQ.ret ?_
    refine fnQ.retN ?_
    exact ⟨by rw [safe_long (by omega)], hS.keeps⟩
  · intro c15
    refine KA.skip ?_
    refine sqQ.normal ?_
    refine KA.sub (Sub.cons (t := 0) Look.eq (Sub.nil _)) ?_
    refine KA.seq ?_
    refine KA.region rfl ?_
    refine KOps.assign ?_
    refine KOps.done ?_
    refine sqQ.normal ?_
    refine KA.seq ?_
    refine KA.seq ?_
    refine KA.region rfl ?_
    refine KOps.move ?_
    refine KOps.lenI (Rd.ext hS.keeps hv) ?_
    refine KOps.move ?_
    refine KOps.done ?_
    refine sqQ.normal ?_
    refine KA.block ?_
    refine KA.loop (X := Nat × AV × List AV) (fun x => [(0, v), (5, x.2.1), (16, v), (17, .int .i64 (ss.length : Int)), (18, .int .i64 (x.1 : Int))]) (fun x h' => x.1 ≤ ss.length ∧ errTo ss x.1 = 0 ∧ x.2.2.length = x.1 ∧ St h h' (tabW x.2.1 x.2.2 ((ss.take x.1).map fun s => shortW (ofS s)))) (fun x => ss.length - x.1) (0, .nils, []) (by repeat (first | exact Sub.nil _ | refine Sub.cons Look.eq ?_ | refine Sub.cons (Eq.trans Look.eq (congrArg (AV.int _) (by first | omega | (dsimp only; omega)))) ?_)) ?_ ?_
    · exact ⟨Nat.zero_le _, rfl, rfl, hS.nil 1⟩
    rintro ⟨i, vo, vs⟩ h3 ⟨hi, he0, hvl, hS⟩
    dsimp only at hi he0 hvl hS ⊢
    refine KA.seq ?_
    refine KA.region rfl ?_
    refine KOps.lss ?_
    refine KOps.done ?_
    refine sqQ.normal ?_
    refine KA.seq ?_
    refine KA.condD ?_ ?_
    · intro c19
      refine KA.skip ?_
      refine sqQ.normal ?_
      refine KA.sub (Sub.cons (t := 0) Look.eq (Sub.cons (t := 5) Look.eq (Sub.cons (t := 16) Look.eq (Sub.cons (t := 17) Look.eq (Sub.cons (t := 18) Look.eq (Sub.nil _)))))) ?_
      refine KA.seq ?_
      refine KA.block ?_
      refine KA.seq ?_
      refine KA.region rfl ?_
      have hlt : i < ss.length := by omega
      refine KOps.move ?_
      refine KOps.indexIJ (Rd.ext hS.keeps hv) (j := i) rfl (by first | omega | (simp; done) | (simp; omega)) ?_
      intro p21 hp21
      refine KOps.loadS hp21 (Rd.ext hS.keeps hv) (by first | omega | (simp; done) | (simp; omega)) ?_
      rw [sAtL_is]
      refine KOps.assign ?_
      refine KOps.assign ?_
      refine KOps.done ?_
      refine sqQ.normal ?_
      refine KA.sub (Sub.cons (t := 0) Look.eq (Sub.cons (t := 5) Look.eq (Sub.cons (t := 6) Look.eq (Sub.cons (t := 7) Look.eq (Sub.cons (t := 16) Look.eq (Sub.cons (t := 17) Look.eq (Sub.cons (t := 18) Look.eq (Sub.nil _)))))))) ?_
      refine KA.seq ?_
      refine KA.region rfl ?_
      refine KOps.move ?_
      refine KOps.call rfl (checkF_c) ?_
      rintro _ _ ⟨rfl, rfl⟩
      refine KOps.assign ?_
      refine KOps.done ?_
      refine sqQ.normal ?_
      refine KA.sub (Sub.cons (t := 0) Look.eq (Sub.cons (t := 5) Look.eq (Sub.cons (t := 6) Look.eq (Sub.cons (t := 7) Look.eq (Sub.cons (t := 8) Look.eq (Sub.cons (t := 16) Look.eq (Sub.cons (t := 17) Look.eq (Sub.cons (t := 18) Look.eq (Sub.nil _))))))))) ?_
      refine KA.seq ?_
      refine KA.block ?_
      refine KA.seq ?_
      refine KA.region rfl ?_
      refine KOps.move ?_
      refine KOps.neq ?_
      refine KOps.assign ?_
      refine KOps.done ?_
      refine sqQ.normal ?_
      refine KA.sub (Sub.cons (t := 0) Look.eq (Sub.cons (t := 5) Look.eq (Sub.cons (t := 6) Look.eq (Sub.cons (t := 7) Look.eq (Sub.cons (t := 8) Look.eq (Sub.cons (t := 16) Look.eq (Sub.cons (t := 17) Look.eq (Sub.cons (t := 18) Look.eq (Sub.cons (t := 25) Look.eq (Sub.nil _)))))))))) ?_
      refine KA.condN ?_ ?_
      · intro c25
        refine KA.seq ?_
        refine KA.region rfl ?_
        refine KOps.move ?_
        refine KOps.assign ?_
        refine KOps.assign ?_
        refine KOps.assign ?_
        refine KOps.done ?_
        refine sqQ.normal ?_
        refine KA.sub (Sub.cons (t := 2) Look.eq (Sub.cons (t := 3) Look.eq (Sub.cons (t := 4) Look.eq (Sub.nil _)))) ?_
        refine KA.ret ?_
        refine blQ.ret ?_
        refine sqQ.ret ?_
        refine blQ.ret ?_
        refine sqQ.ret ?_
        refine lpQ.ret ?_
        refine blQ.ret ?_
        refine sqQ.ret ?_
        refine fnQ.retN ?_
        have hit : itemE ss i = chkS (sAtL ss i) := item_chk c25
        exact ⟨by rw [safe_err (by omega) (errTo_stop he0 hlt hit (by first | decide | assumption)) (by first | decide | assumption)], hS.keeps⟩
      · intro c25
        obtain ⟨l, hsl, hl⟩ := chk_zero c25
        have hsz : (sAtL ss i).size = l.length := by rw [hsl, wd_size]
        have hof : ofS (sAtL ss i) = l := by rw [hsl, ofS_wd]
        rw [hsl]
        refine KA.seq ?_
        refine KA.region rfl ?_
        refine KOps.move ?_
        refine KOps.lenW ?_
        refine KOps.move ?_
        refine KOps.indexIJ (Rd.ext hS.keeps hv) (j := 0) rfl (by first | omega | (simp; done) | (simp; omega)) ?_
        intro p33 hp33
        refine KOps.loadS hp33 (Rd.ext hS.keeps hv) (by first | omega | (simp; done) | (simp; omega)) ?_
        rw [sAtL_is]
        refine KOps.lenStr ?_
        refine KOps.neq ?_
        refine KOps.move ?_
        refine KOps.guardB (dj := 37) rfl rfl false true rfl ?_ ?_
        · intro g37
          have g37 := of_not_decide g37
          refine KOps.move ?_
          refine KOps.guardYes (dj := 37) rfl rfl ?_
          refine KOps.wEql ?_
          refine KOps.pickF ?_
          refine KOps.assign ?_
          refine KOps.done ?_
          refine sqQ.normal ?_
          refine KA.sub (Sub.cons (t := 0) Look.eq (Sub.cons (t := 5) Look.eq (Sub.cons (t := 6) Look.eq (Sub.cons (t := 7) Look.eq (Sub.cons (t := 16) Look.eq (Sub.cons (t := 17) Look.eq (Sub.cons (t := 18) Look.eq (Sub.cons (t := 29) Look.eq (Sub.cons (t := 38) Look.eq (Sub.cons (t := 39) Look.eq (Sub.nil _))))))))))) ?_
          refine KA.condD ?_ ?_
          · intro c29
            have hl9 : l.length = 0 := by rw [c29]; rfl
            refine KA.seq ?_
            refine KA.region rfl ?_
            refine KOps.assign ?_
            refine KOps.assign ?_
            refine KOps.assign ?_
            refine KOps.done ?_
            refine sqQ.normal ?_
            refine KA.sub (Sub.cons (t := 2) Look.eq (Sub.cons (t := 3) Look.eq (Sub.cons (t := 4) Look.eq (Sub.nil _)))) ?_
            refine KA.ret ?_
            refine blQ.ret ?_
            refine sqQ.ret ?_
            refine blQ.ret ?_
            refine sqQ.ret ?_
            refine lpQ.ret ?_
            refine blQ.ret ?_
            refine sqQ.ret ?_
            refine fnQ.retN ?_
            have hit : itemE ss i = 5 := item_5 c25 (fun q => by omega)
            exact ⟨by rw [safe_err (by omega) (errTo_stop he0 hlt hit (by first | decide | assumption)) (by first | decide | assumption)], hS.keeps⟩
          · intro c29
            have hl0 : 0 < l.length := List.length_pos_iff.2 (by assumption)
            refine KA.seq ?_
            refine KA.region rfl ?_
            refine KOps.move ?_
            refine KOps.move ?_
            refine KOps.sliceHi (Rd.ext hS.keeps hv) (m := ss.length) (by simp) (by omega) (by omega) ?_
            intro v44 hv44
            have hv44 := rowPart (Rd.ext hS.keeps hv) hv44 (Nat.zero_le _)
            rw [List.drop_zero, Nat.sub_zero, Int.toNat_natCast] at hv44
            refine KOps.move ?_
            refine KOps.call rfl (containsS_c hv44 (by rw [List.length_take]; omega)) ?_
            rintro _ _ ⟨rfl, rfl⟩
            refine KOps.assign ?_
            refine KOps.done ?_
            refine sqQ.normal ?_
            refine KA.sub (Sub.cons (t := 0) Look.eq (Sub.cons (t := 5) Look.eq (Sub.cons (t := 7) Look.eq (Sub.cons (t := 16) Look.eq (Sub.cons (t := 17) Look.eq (Sub.cons (t := 18) Look.eq (Sub.cons (t := 38) Look.eq (Sub.cons (t := 39) Look.eq (Sub.cons (t := 41) Look.eq (Sub.nil _)))))))))) ?_
            refine KA.condB ?_ ?_
            · intro c41
              refine KA.seq ?_
              refine KA.region rfl ?_
              refine KOps.assign ?_
              refine KOps.assign ?_
              refine KOps.assign ?_
              refine KOps.done ?_
              refine sqQ.normal ?_
              refine KA.sub (Sub.cons (t := 2) Look.eq (Sub.cons (t := 3) Look.eq (Sub.cons (t := 4) Look.eq (Sub.nil _)))) ?_
              refine KA.ret ?_
              refine blQ.ret ?_
              refine sqQ.ret ?_
              refine blQ.ret ?_
              refine sqQ.ret ?_
              refine lpQ.ret ?_
              refine blQ.ret ?_
              refine sqQ.ret ?_
              refine fnQ.retN ?_
              have hit : itemE ss i = 6 := item_6 c25 ⟨by omega, by omega⟩ ((anyS_take (Nat.le_of_lt hlt)).1 (by rw [hsl]; exact c41))
              exact ⟨by rw [safe_err (by omega) (errTo_stop he0 hlt hit (by first | decide | assumption)) (by first | decide | assumption)], hS.keeps⟩
            · intro c41
              refine KA.skip ?_
              refine blQ.normal ?_
              refine sqQ.normal ?_
              refine KA.sub (Sub.cons (t := 0) Look.eq (Sub.cons (t := 5) Look.eq (Sub.cons (t := 7) Look.eq (Sub.cons (t := 16) Look.eq (Sub.cons (t := 17) Look.eq (Sub.cons (t := 18) Look.eq (Sub.cons (t := 38) Look.eq (Sub.cons (t := 39) Look.eq (Sub.nil _))))))))) ?_
              refine KA.region rfl ?_
              have hct : anyS (ss.take i) (wd l) = anyS (ss.take i) (sAtL ss i) := by rw [hsl]
              refine KOps.move ?_
              refine KOps.move ?_
              refine KOps.call rfl (less_w (by omega)) ?_
              rintro v49 h49 hS49
              have hS0 : St _ _ (_ :: _) := St.trans hS hS49
              clear hS
              have hS := hS0
              clear hS0
              have hr49 : v49.one = true := St.one hS (k := 0) rfl
              refine KOps.buildSlice hS rfl (by decide) (by simpa using hr49) ?_
              intro v50 h' hS
              refine KOps.appendTW hS (by rw [List.length_map, List.length_take]; omega) hr49 (by omega) ?_
              intro r51 h' hr51 hS
              refine KOps.assign ?_
              refine KOps.done ?_
              refine blQ.normal ?_
              refine sqQ.normal ?_
              refine KA.sub (Sub.cons (t := 0) Look.eq (Sub.cons (t := 5) Look.eq (Sub.cons (t := 16) Look.eq (Sub.cons (t := 17) Look.eq (Sub.cons (t := 18) Look.eq (Sub.cons (t := 38) Look.eq (Sub.cons (t := 39) Look.eq (Sub.nil _)))))))) ?_
              refine KA.region rfl ?_
              refine KOps.add (by first | omega | (simp; omega)) (by first | omega | (simp; omega)) ?_
              refine KOps.move ?_
              refine KOps.done ?_
              have hit : itemE ss i = 0 := item_0 c25 ⟨by omega, by omega⟩ (fun q => by rw [hct] at c41; exact absurd ((anyS_take (Nat.le_of_lt hlt)).2 q) (by rw [c41]; decide))
              rw [← hof, ← take_map hlt (fun s => shortW (ofS s))] at hS
              exact lpQ.normal (i + 1, _, _) (by repeat (first | exact Sub.nil _ | refine Sub.cons Look.eq ?_ | refine Sub.cons (Eq.trans Look.eq (congrArg (AV.int _) (by first | omega | (dsimp only; omega)))) ?_)) ⟨by dsimp only; omega, by dsimp only; rw [errTo, if_pos he0, hit], by rw [List.length_append, hvl]; rfl, hS⟩ (by dsimp only; omega)
        · intro g37
          have g37 := not_of_not_decide g37
          refine KOps.guardNo (dj := 37) rfl rfl rfl ?_
          refine KOps.pickT ?_
          refine KOps.assign ?_
          refine KOps.done ?_
          refine sqQ.normal ?_
          refine KA.sub (Sub.cons (t := 0) Look.eq (Sub.cons (t := 5) Look.eq (Sub.cons (t := 6) Look.eq (Sub.cons (t := 7) Look.eq (Sub.cons (t := 16) Look.eq (Sub.cons (t := 17) Look.eq (Sub.cons (t := 18) Look.eq (Sub.cons (t := 29) Look.eq (Sub.cons (t := 38) Look.eq (Sub.cons (t := 39) Look.eq (Sub.nil _))))))))))) ?_
          refine KA.condT ?_
          refine KA.seq ?_
          refine KA.region rfl ?_
          refine KOps.assign ?_
          refine KOps.assign ?_
          refine KOps.assign ?_
          refine KOps.done ?_
          refine sqQ.normal ?_
          refine KA.sub (Sub.cons (t := 2) Look.eq (Sub.cons (t := 3) Look.eq (Sub.cons (t := 4) Look.eq (Sub.nil _)))) ?_
          refine KA.ret ?_
          refine blQ.ret ?_
          refine sqQ.ret ?_
          refine blQ.ret ?_
          refine sqQ.ret ?_
          refine lpQ.ret ?_
          refine blQ.ret ?_
          refine sqQ.ret ?_
          refine fnQ.retN ?_
          have hit : itemE ss i = 5 := item_5 c25 (fun q => by omega)
          exact ⟨by rw [safe_err (by omega) (errTo_stop he0 hlt hit (by first | decide | assumption)) (by first | decide | assumption)], hS.keeps⟩
    · intro c19
      refine KA.exit ?_
      refine sqQ.exit ?_
      refine lpQ.exit ?_
      refine blQ.here ?_
      refine sqQ.normal ?_
      refine KA.sub (Sub.cons (t := 5) Look.eq (Sub.nil _)) ?_
      refine KA.seq ?_
      refine KA.seq ?_
      refine KA.region rfl ?_
      have hie : i = ss.length := by omega
      subst hie
      rw [List.take_length] at hS
      have heA := he0
      refine KOps.move ?_
      refine KOps.lenV (hS.rd 0 rfl) ?_
      rw [hvl]
      refine KOps.move ?_
      refine KOps.done ?_
      refine sqQ.normal ?_
      refine KA.sub (Sub.cons (t := 5) Look.eq (Sub.cons (t := 54) Look.eq (Sub.cons (t := 55) Look.eq (Sub.nil _)))) ?_
      refine KA.block ?_
      refine KA.loop (X := Nat) (fun i => [(5, vo), (54, .int .i64 (ss.length : Int)), (55, .int .i64 (i : Int))]) (fun i h' => i ≤ ss.length ∧ (∀ a b, a < b → b < ss.length → a < i → clS ss a b = false) ∧ St h h' (tabW vo vs (ss.map fun s => shortW (ofS s)))) (fun i => ss.length - i) 0 (by repeat (first | exact Sub.nil _ | refine Sub.cons Look.eq ?_ | refine Sub.cons (Eq.trans Look.eq (congrArg (AV.int _) (by first | omega | (dsimp only; omega)))) ?_)) ?_ ?_
      · exact ⟨Nat.zero_le _, fun a b _ _ h => absurd h (Nat.not_lt_zero _), hS⟩
      rintro i h4 ⟨hi, hA, hS⟩
      refine KA.seq ?_
      refine KA.region rfl ?_
      refine KOps.lss ?_
      refine KOps.done ?_
      refine sqQ.normal ?_
      refine KA.seq ?_
      refine KA.condD ?_ ?_
      · intro c56
        refine KA.skip ?_
        refine sqQ.normal ?_
        refine KA.sub (Sub.cons (t := 5) Look.eq (Sub.cons (t := 54) Look.eq (Sub.cons (t := 55) Look.eq (Sub.nil _)))) ?_
        refine KA.seq ?_
        refine KA.block ?_
        refine KA.seq ?_
        refine KA.region rfl ?_
        refine KOps.move ?_
        refine KOps.assign ?_
        refine KOps.done ?_
        refine sqQ.normal ?_
        refine KA.sub (Sub.cons (t := 5) Look.eq (Sub.cons (t := 9) Look.eq (Sub.cons (t := 54) Look.eq (Sub.cons (t := 55) Look.eq (Sub.nil _))))) ?_
        refine KA.seq ?_
        refine KA.region rfl ?_
        refine KOps.move ?_
        refine KOps.add (by first | omega | (simp; omega)) (by first | omega | (simp; omega)) ?_
        refine KOps.assign ?_
        refine KOps.done ?_
        refine sqQ.normal ?_
        refine KA.sub (Sub.cons (t := 5) Look.eq (Sub.cons (t := 9) Look.eq (Sub.cons (t := 10) Look.eq (Sub.cons (t := 54) Look.eq (Sub.cons (t := 55) Look.eq (Sub.nil _)))))) ?_
        refine KA.block ?_
        refine KA.loop (X := Nat) (fun k => [(5, vo), (9, .int .i64 (i : Int)), (54, .int .i64 (ss.length : Int)), (55, .int .i64 (i : Int)), (10, .int .i64 (k : Int))]) (fun k h' => i < k ∧ k ≤ ss.length ∧ (∀ b, i < b → b < k → clS ss i b = false) ∧ St h h' (tabW vo vs (ss.map fun s => shortW (ofS s)))) (fun k => ss.length - k) (i + 1) (by repeat (first | exact Sub.nil _ | refine Sub.cons Look.eq ?_ | refine Sub.cons (Eq.trans Look.eq (congrArg (AV.int _) (by first | omega | (dsimp only; omega)))) ?_)) ?_ ?_
        · exact ⟨Nat.lt_succ_self _, by omega, fun b h1 h2 => absurd h1 (by omega), hS⟩
        rintro k h5 ⟨hik, hk, hB, hS⟩
        refine KA.seq ?_
        refine KA.seq ?_
        refine KA.region rfl ?_
        refine KOps.move ?_
        refine KOps.move ?_
        refine KOps.lenV (hS.rd 0 rfl) ?_
        rw [hvl]
        refine KOps.lss ?_
        refine KOps.done ?_
        refine sqQ.normal ?_
        refine KA.sub (Sub.cons (t := 5) Look.eq (Sub.cons (t := 9) Look.eq (Sub.cons (t := 10) Look.eq (Sub.cons (t := 54) Look.eq (Sub.cons (t := 55) Look.eq (Sub.cons (t := 63) Look.eq (Sub.nil _))))))) ?_
        refine KA.condD ?_ ?_
        · intro c63
          refine KA.skip ?_
          refine sqQ.normal ?_
          refine KA.sub (Sub.cons (t := 5) Look.eq (Sub.cons (t := 9) Look.eq (Sub.cons (t := 10) Look.eq (Sub.cons (t := 54) Look.eq (Sub.cons (t := 55) Look.eq (Sub.nil _)))))) ?_
          refine KA.seq ?_
          refine KA.block ?_
          refine KA.seq ?_
          refine KA.draw [] mixed rfl (by kernel_rfl) ?_
          have hwi := word_at heA (i := i) (by omega)
          have hwk := word_at heA (i := k) (by omega)
          have hll : (ss.map fun s => shortW (ofS s)).length = ss.length := List.length_map ..
          have hri := St.rowTW hS (by omega) (k := i) (by omega)
          have hrk := St.rowTW hS (by omega) (k := k) (by omega)
          rw [map_at (by omega) (fun s => shortW (ofS s))] at hri hrk
          refine KOps.move ?_
          refine KOps.move ?_
          refine KOps.indexVJ (hS.rd 0 rfl) (j := i) rfl (show i < vs.length by omega) ?_
          intro p69 hp69
          refine KOps.loadV hp69 (hS.rd 0 rfl) (show i < vs.length by omega) ?_
          refine KOps.move ?_
          refine KOps.move ?_
          refine KOps.indexVJ (hS.rd 0 rfl) (j := k) rfl (show k < vs.length by omega) ?_
          intro p73 hp73
          refine KOps.loadV hp73 (hS.rd 0 rfl) (show k < vs.length by omega) ?_
          refine KOps.call rfl (sharedW_c hri hrk (by omega) (by omega)) ?_
          rintro _ _ ⟨rfl, rfl⟩
          refine KOps.move ?_
          refine KOps.extract ?_
          refine KOps.extract ?_
          refine KOps.assign ?_
          refine KOps.assign ?_
          refine KOps.done ?_
          refine sqQ.normal ?_
          refine KA.sub (Sub.cons (t := 5) Look.eq (Sub.cons (t := 9) Look.eq (Sub.cons (t := 10) Look.eq (Sub.cons (t := 12) Look.eq (Sub.cons (t := 54) Look.eq (Sub.cons (t := 55) Look.eq (Sub.nil _))))))) ?_
          refine KA.seq ?_
          refine KA.region rfl ?_
          refine KOps.move ?_
          refine KOps.done ?_
          refine sqQ.normal ?_
          refine KA.sub (Sub.cons (t := 5) Look.eq (Sub.cons (t := 9) Look.eq (Sub.cons (t := 10) Look.eq (Sub.cons (t := 54) Look.eq (Sub.cons (t := 55) Look.eq (Sub.cons (t := 78) Look.eq (Sub.nil _))))))) ?_
          refine KA.condB ?_ ?_
          · intro c78
            refine KA.seq ?_
            refine KA.region rfl ?_
            refine KOps.move ?_
            refine KOps.move ?_
            refine KOps.assign ?_
            refine KOps.assign ?_
            refine KOps.assign ?_
            refine KOps.done ?_
            refine sqQ.normal ?_
            refine KA.sub (Sub.cons (t := 2) Look.eq (Sub.cons (t := 3) Look.eq (Sub.cons (t := 4) Look.eq (Sub.nil _)))) ?_
            refine KA.ret ?_
            refine blQ.ret ?_
            refine sqQ.ret ?_
            refine lpQ.ret ?_
            refine blQ.ret ?_
            refine blQ.ret ?_
            refine sqQ.ret ?_
            refine lpQ.ret ?_
            refine blQ.ret ?_
            refine sqQ.ret ?_
            refine fnQ.retN ?_
            exact ⟨by rw [safe_clash (i := i) (k := k) (by omega) heA ⟨hik, by omega, by unfold clS clashW; exact c78, fun a b h1 h2 h3 => by
              rcases h3 with h3 | ⟨h3, h4⟩
              · exact hA a b h1 h2 h3
              · have h3 : a = i := h3
                subst h3
                exact hB b h1 h4⟩], hS.keeps⟩
          · intro c78
            refine KA.skip ?_
            refine blQ.normal ?_
            refine sqQ.normal ?_
            refine KA.sub (Sub.cons (t := 5) Look.eq (Sub.cons (t := 9) Look.eq (Sub.cons (t := 10) Look.eq (Sub.cons (t := 54) Look.eq (Sub.cons (t := 55) Look.eq (Sub.nil _)))))) ?_
            refine KA.region rfl ?_
            refine KOps.move ?_
            refine KOps.add (by first | omega | (simp; omega)) (by first | omega | (simp; omega)) ?_
            refine KOps.assign ?_
            refine KOps.done ?_
            exact lpQ.normal (k + 1) (by repeat (first | exact Sub.nil _ | refine Sub.cons Look.eq ?_ | refine Sub.cons (Eq.trans Look.eq (congrArg (AV.int _) (by first | omega | (dsimp only; omega)))) ?_)) ⟨by omega, by omega, fun b h1 h2 => by
              rcases Nat.lt_succ_iff_lt_or_eq.1 h2 with h | rfl
              · exact hB b h1 h
              · unfold clS clashW; exact c78, hS⟩ (by omega)
        · intro c63
          refine KA.exit ?_
          refine sqQ.exit ?_
          refine lpQ.exit ?_
          refine blQ.here ?_
          refine blQ.normal ?_
          refine sqQ.normal ?_
          refine KA.sub (Sub.cons (t := 5) Look.eq (Sub.cons (t := 54) Look.eq (Sub.cons (t := 55) Look.eq (Sub.nil _)))) ?_
          refine KA.region rfl ?_
          refine KOps.add (by first | omega | (simp; omega)) (by first | omega | (simp; omega)) ?_
          refine KOps.move ?_
          refine KOps.done ?_
          exact lpQ.normal (i + 1) (by repeat (first | exact Sub.nil _ | refine Sub.cons Look.eq ?_ | refine Sub.cons (Eq.trans Look.eq (congrArg (AV.int _) (by first | omega | (dsimp only; omega)))) ?_)) ⟨by omega, fun a b h1 h2 h3 => by
            rcases Nat.lt_succ_iff_lt_or_eq.1 h3 with h | rfl
            · exact hA a b h1 h2 h
            · exact hB b h1 (by omega), hS⟩ (by omega)
      · intro c56
        refine KA.exit ?_
        refine sqQ.exit ?_
        refine lpQ.exit ?_
        refine blQ.here ?_
        refine sqQ.normal ?_
        refine KA.sub (Sub.nil _) ?_
        refine KA.seq ?_
        refine KA.region rfl ?_
        refine KOps.assign ?_
        refine KOps.assign ?_
        refine KOps.assign ?_
        refine KOps.done ?_
        refine sqQ.normal ?_
        refine KA.ret ?_
        refine fnQ.retN ?_
        exact ⟨by rw [safe_none (by omega) heA (fun a b h1 h2 => hA a b h1 h2 (by omega))], hS.keeps⟩

theorem safeR_c {h : AHeap} {v : AV} {ss : List ByteArray} (hv : SRow h v ss) (hlen : ss.length ≤ 4096) : ACalls Go.Proofs.Tryd.prog 32 [v] h (fun q h' => q = safeV ss ∧ h = h') := by
  refine KA.fn 89 [.tmp 2, .tmp 3, .tmp 4] Go.Proofs.Tryd.func32 rfl (by decide) rfl rfl (Nat.le_of_ble_eq_true rfl) ?_
  show KA _ 89 _ _ [(0, v)] _
  refine KA.seq ?_
  refine KA.region rfl ?_
  refine KOps.assign ?_
  refine KOps.assign ?_
  refine KOps.assign ?_
  refine KOps.done ?_
  refine sqQ.normal ?_
  refine KA.sub (Sub.cons (t := 0) Look.eq (Sub.nil _)) ?_
  refine KA.seq ?_
  refine KA.seq ?_
  refine KA.region rfl ?_
  refine KOps.move ?_
  refine KOps.lenI hv ?_
  refine KOps.gtr ?_
  refine KOps.done ?_
  refine sqQ.normal ?_
  refine KA.sub (Sub.cons (t := 0) Look.eq (Sub.cons (t := 14) Look.eq (Sub.nil _))) ?_
  refine KA.condD ?_ ?_
  · intro c14
    refine KA.seq ?_
    refine KA.region rfl ?_
    refine KOps.assign ?_
    refine KOps.assign ?_
    refine KOps.assign ?_
    refine KOps.done ?_
    refine sqQ.normal ?_
    refine KA.sub (Sub.cons (t := 2) Look.eq (Sub.cons (t := 3) Look.eq (Sub.cons (t := 4) Look.eq (Sub.nil _)))) ?_
    refine KA.ret ?_
    refine sqQ.ret ?_
    refine fnQ.retN ?_
    exact ⟨by rw [safe_long (by omega)], rfl⟩
  · intro c14
    refine KA.skip ?_
    refine sqQ.normal ?_
    refine KA.sub (Sub.cons (t := 0) Look.eq (Sub.nil _)) ?_
    refine KA.seq ?_
    refine KA.seq ?_
    refine KA.region rfl ?_
    refine KOps.assign ?_
    refine KOps.done ?_
    refine sqQ.normal ?_
    refine KA.block ?_
    refine KA.loop (X := Nat) (fun i => [(0, v), (5, .int .i64 (i : Int))]) (fun i h' => i ≤ ss.length ∧ errTo ss i = 0 ∧ h = h') (fun i => ss.length - i) 0 (by repeat (first | exact Sub.nil _ | refine Sub.cons Look.eq ?_ | refine Sub.cons (Eq.trans Look.eq (congrArg (AV.int _) (by first | omega | (dsimp only; omega)))) ?_)) ?_ ?_
    · exact ⟨Nat.zero_le _, rfl, rfl⟩
    rintro i h3 ⟨hi, he0, rfl⟩
    refine KA.seq ?_
    refine KA.seq ?_
    refine KA.region rfl ?_
    refine KOps.move ?_
    refine KOps.move ?_
    refine KOps.lenI hv ?_
    refine KOps.lss ?_
    refine KOps.done ?_
    refine sqQ.normal ?_
    refine KA.sub (Sub.cons (t := 0) Look.eq (Sub.cons (t := 5) Look.eq (Sub.cons (t := 18) Look.eq (Sub.nil _)))) ?_
    refine KA.condD ?_ ?_
    · intro c18
      refine KA.skip ?_
      refine sqQ.normal ?_
      refine KA.sub (Sub.cons (t := 0) Look.eq (Sub.cons (t := 5) Look.eq (Sub.nil _))) ?_
      refine KA.seq ?_
      refine KA.block ?_
      refine KA.seq ?_
      refine KA.region rfl ?_
      have hlt : i < ss.length := by omega
      refine KOps.move ?_
      refine KOps.move ?_
      refine KOps.indexIJ hv (j := i) rfl (by first | omega | (simp; done) | (simp; omega)) ?_
      intro p23 hp23
      refine KOps.loadS hp23 hv (by first | omega | (simp; done) | (simp; omega)) ?_
      rw [sAtL_is]
      refine KOps.call rfl (refCheck_c) ?_
      rintro _ _ ⟨rfl, rfl⟩
      refine KOps.assign ?_
      refine KOps.done ?_
      refine sqQ.normal ?_
      refine KA.sub (Sub.cons (t := 0) Look.eq (Sub.cons (t := 5) Look.eq (Sub.cons (t := 6) Look.eq (Sub.nil _)))) ?_
      refine KA.seq ?_
      refine KA.seq ?_
      refine KA.region rfl ?_
      refine KOps.move ?_
      refine KOps.neq ?_
      refine KOps.done ?_
      refine sqQ.normal ?_
      refine KA.sub (Sub.cons (t := 0) Look.eq (Sub.cons (t := 5) Look.eq (Sub.cons (t := 6) Look.eq (Sub.cons (t := 27) Look.eq (Sub.nil _))))) ?_
      refine KA.condN ?_ ?_
      · intro c27
        refine KA.seq ?_
        refine KA.region rfl ?_
        refine KOps.move ?_
        refine KOps.assign ?_
        refine KOps.assign ?_
        refine KOps.assign ?_
        refine KOps.done ?_
        refine sqQ.normal ?_
        refine KA.sub (Sub.cons (t := 2) Look.eq (Sub.cons (t := 3) Look.eq (Sub.cons (t := 4) Look.eq (Sub.nil _)))) ?_
        refine KA.ret ?_
        refine sqQ.ret ?_
        refine blQ.ret ?_
        refine sqQ.ret ?_
        refine lpQ.ret ?_
        refine blQ.ret ?_
        refine sqQ.ret ?_
        refine fnQ.retN ?_
        have hit : itemE ss i = chkS (sAtL ss i) := item_chk c27
        exact ⟨by rw [safe_err (by omega) (errTo_stop he0 hlt hit (by first | decide | assumption)) (by first | decide | assumption)], rfl⟩
      · intro c27
        refine KA.skip ?_
        refine sqQ.normal ?_
        refine KA.sub (Sub.cons (t := 0) Look.eq (Sub.cons (t := 5) Look.eq (Sub.nil _))) ?_
        refine KA.seq ?_
        refine KA.seq ?_
        refine KA.draw [] mixed rfl (by kernel_rfl) ?_
        refine KOps.move ?_
        refine KOps.move ?_
        refine KOps.indexIJ hv (j := i) rfl (by first | omega | (simp; done) | (simp; omega)) ?_
        intro p31 hp31
        refine KOps.loadS hp31 hv (by first | omega | (simp; done) | (simp; omega)) ?_
        rw [sAtL_is]
        refine KOps.lenStr ?_
        refine KOps.move ?_
        refine KOps.indexIJ hv (j := 0) rfl (by first | omega | (simp; done) | (simp; omega)) ?_
        intro p35 hp35
        refine KOps.loadS hp35 hv (by first | omega | (simp; done) | (simp; omega)) ?_
        rw [sAtL_is]
        refine KOps.lenStr ?_
        refine KOps.neq ?_
        refine KOps.move ?_
        refine KOps.guardB (dj := 39) rfl rfl false true rfl ?_ ?_
        · intro g39
          have g39 := of_not_decide g39
          refine KOps.move ?_
          refine KOps.guardYes (dj := 39) rfl rfl ?_
          refine KOps.move ?_
          refine KOps.guardYes (dj := 39) rfl rfl ?_
          refine KOps.indexIJ hv (j := i) rfl (by first | omega | (simp; done) | (simp; omega)) ?_
          intro p42 hp42
          refine KOps.guardYes (dj := 39) rfl rfl ?_
          refine KOps.loadS hp42 hv (by first | omega | (simp; done) | (simp; omega)) ?_
          rw [sAtL_is]
          refine KOps.guardYes (dj := 39) rfl rfl ?_
          refine KOps.sEql ?_
          refine KOps.pickF ?_
          refine KOps.done ?_
          refine sqQ.normal ?_
          refine KA.sub (Sub.cons (t := 0) Look.eq (Sub.cons (t := 5) Look.eq (Sub.cons (t := 40) Look.eq (Sub.cons (t := 41) Look.eq (Sub.cons (t := 42) Look.eq (Sub.cons (t := 43) Look.eq (Sub.cons (t := 44) Look.eq (Sub.cons (t := 45) Look.eq (Sub.nil _))))))))) ?_
          refine KA.condB ?_ ?_
          · intro c45
            have hsz : (sAtL ss i).size = 0 := by rw [toList_eq.1 c45]; rfl
            refine KA.seq ?_
            refine KA.region rfl ?_
            refine KOps.assign ?_
            refine KOps.assign ?_
            refine KOps.assign ?_
            refine KOps.done ?_
            refine sqQ.normal ?_
            refine KA.sub (Sub.cons (t := 2) Look.eq (Sub.cons (t := 3) Look.eq (Sub.cons (t := 4) Look.eq (Sub.nil _)))) ?_
            refine KA.ret ?_
            refine sqQ.ret ?_
            refine blQ.ret ?_
            refine sqQ.ret ?_
            refine lpQ.ret ?_
            refine blQ.ret ?_
            refine sqQ.ret ?_
            refine fnQ.retN ?_
            have hit : itemE ss i = 5 := item_5 c27 (fun q => by omega)
            exact ⟨by rw [safe_err (by omega) (errTo_stop he0 hlt hit (by first | decide | assumption)) (by first | decide | assumption)], rfl⟩
          · intro c45
            have hsz0 : (sAtL ss i).size ≠ 0 := fun q => by
              rw [toList_eq.2 (size_zero q)] at c45
              cases c45
            refine KA.skip ?_
            refine sqQ.normal ?_
            refine KA.sub (Sub.cons (t := 0) Look.eq (Sub.cons (t := 5) Look.eq (Sub.cons (t := 40) Look.eq (Sub.cons (t := 41) Look.eq (Sub.cons (t := 42) Look.eq (Sub.cons (t := 43) Look.eq (Sub.cons (t := 44) Look.eq (Sub.nil _)))))))) ?_
            refine KA.seq ?_
            refine KA.region rfl ?_
            refine KOps.assign ?_
            refine KOps.done ?_
            refine sqQ.normal ?_
            refine KA.block ?_
            -- live but not in the pattern: [40, 41, 42, 43, 44]
            refine KA.loop (X := Nat) (fun j => [(0, v), (5, .int .i64 (i : Int)), (7, .int .i64 (j : Int))]) (fun j h' => j ≤ i ∧ (∀ a, a < j → sAtL ss a ≠ sAtL ss i) ∧ h = h') (fun j => i - j) 0 (by repeat (first | exact Sub.nil _ | refine Sub.cons Look.eq ?_ | refine Sub.cons (Eq.trans Look.eq (congrArg (AV.int _) (by first | omega | (dsimp only; omega)))) ?_)) ?_ ?_
            · exact ⟨Nat.zero_le _, fun a ha => absurd ha (Nat.not_lt_zero _), rfl⟩
            rintro j h6 ⟨hj, hno, rfl⟩
            refine KA.seq ?_
            refine KA.seq ?_
            refine KA.region rfl ?_
            refine KOps.move ?_
            refine KOps.move ?_
            refine KOps.lss ?_
            refine KOps.done ?_
            refine sqQ.normal ?_
            refine KA.sub (Sub.cons (t := 0) Look.eq (Sub.cons (t := 5) Look.eq (Sub.cons (t := 7) Look.eq (Sub.cons (t := 48) Look.eq (Sub.nil _))))) ?_
            refine KA.condD ?_ ?_
            · intro c48
              refine KA.skip ?_
              refine sqQ.normal ?_
              refine KA.sub (Sub.cons (t := 0) Look.eq (Sub.cons (t := 5) Look.eq (Sub.cons (t := 7) Look.eq (Sub.nil _)))) ?_
              refine KA.seq ?_
              refine KA.block ?_
              refine KA.seq ?_
              refine KA.draw [] mixed rfl (by kernel_rfl) ?_
              refine KOps.move ?_
              refine KOps.move ?_
              refine KOps.indexIJ hv (j := j) rfl (by first | omega | (simp; done) | (simp; omega)) ?_
              intro p53 hp53
              refine KOps.loadS hp53 hv (by first | omega | (simp; done) | (simp; omega)) ?_
              rw [sAtL_is]
              refine KOps.move ?_
              refine KOps.move ?_
              refine KOps.indexIJ hv (j := i) rfl (by first | omega | (simp; done) | (simp; omega)) ?_
              intro p57 hp57
              refine KOps.loadS hp57 hv (by first | omega | (simp; done) | (simp; omega)) ?_
              rw [sAtL_is]
              refine KOps.sEql ?_
              refine KOps.done ?_
              refine sqQ.normal ?_
              refine KA.sub (Sub.cons (t := 0) Look.eq (Sub.cons (t := 5) Look.eq (Sub.cons (t := 7) Look.eq (Sub.cons (t := 59) Look.eq (Sub.nil _))))) ?_
              refine KA.condB ?_ ?_
              · intro c59
                refine KA.seq ?_
                refine KA.region rfl ?_
                refine KOps.assign ?_
                refine KOps.assign ?_
                refine KOps.assign ?_
                refine KOps.done ?_
                refine sqQ.normal ?_
                refine KA.sub (Sub.cons (t := 2) Look.eq (Sub.cons (t := 3) Look.eq (Sub.cons (t := 4) Look.eq (Sub.nil _)))) ?_
                refine KA.ret ?_
                refine blQ.ret ?_
                refine sqQ.ret ?_
                refine lpQ.ret ?_
                refine blQ.ret ?_
                refine blQ.ret ?_
                refine sqQ.ret ?_
                refine lpQ.ret ?_
                refine blQ.ret ?_
                refine sqQ.ret ?_
                refine fnQ.retN ?_
                have hit : itemE ss i = 6 := item_6 c27 ⟨by omega, hsz0⟩ ⟨j, by omega, toList_eq.1 c59⟩
                exact ⟨by rw [safe_err (by omega) (errTo_stop he0 hlt hit (by first | decide | assumption)) (by first | decide | assumption)], rfl⟩
              · intro c59
                refine KA.skip ?_
                refine blQ.normal ?_
                refine sqQ.normal ?_
                refine KA.sub (Sub.cons (t := 0) Look.eq (Sub.cons (t := 5) Look.eq (Sub.cons (t := 7) Look.eq (Sub.nil _)))) ?_
                refine KA.region rfl ?_
                refine KOps.move ?_
                refine KOps.add (by first | omega | (simp; omega)) (by first | omega | (simp; omega)) ?_
                refine KOps.assign ?_
                refine KOps.done ?_
                exact lpQ.normal (j + 1) (by repeat (first | exact Sub.nil _ | refine Sub.cons Look.eq ?_ | refine Sub.cons (Eq.trans Look.eq (congrArg (AV.int _) (by first | omega | (dsimp only; omega)))) ?_)) ⟨by omega, fun a ha => by
                  rcases Nat.lt_succ_iff_lt_or_eq.1 ha with h | rfl
                  · exact hno a h
                  · exact fun e => absurd (toList_eq.2 e) (by rw [c59]; decide), rfl⟩ (by omega)
            · intro c48
              refine KA.exit ?_
              refine sqQ.exit ?_
              refine lpQ.exit ?_
              refine blQ.here ?_
              refine blQ.normal ?_
              refine sqQ.normal ?_
              refine KA.sub (Sub.cons (t := 0) Look.eq (Sub.cons (t := 5) Look.eq (Sub.nil _))) ?_
              refine KA.region rfl ?_
              refine KOps.move ?_
              refine KOps.add (by first | omega | (simp; omega)) (by first | omega | (simp; omega)) ?_
              refine KOps.assign ?_
              refine KOps.done ?_
              have hit : itemE ss i = 0 := item_0 c27 ⟨by omega, hsz0⟩ (fun ⟨j, hj, he⟩ => hno j (by omega) he)
              exact lpQ.normal (i + 1) (by repeat (first | exact Sub.nil _ | refine Sub.cons Look.eq ?_ | refine Sub.cons (Eq.trans Look.eq (congrArg (AV.int _) (by first | omega | (dsimp only; omega)))) ?_)) ⟨by omega, by rw [errTo, if_pos he0, hit], rfl⟩ (by omega)
        · intro g39
          have g39 := not_of_not_decide g39
          refine KOps.guardNo (dj := 39) rfl rfl rfl ?_
          refine KOps.guardNo (dj := 39) rfl rfl rfl ?_
          refine KOps.guardNo (dj := 39) rfl rfl rfl ?_
          refine KOps.guardNo (dj := 39) rfl rfl rfl ?_
          refine KOps.pickT ?_
          refine KOps.done ?_
          refine sqQ.normal ?_
          refine KA.sub (Sub.cons (t := 0) Look.eq (Sub.cons (t := 5) Look.eq (Sub.cons (t := 40) Look.eq (Sub.cons (t := 41) Look.eq (Sub.cons (t := 42) Look.eq (Sub.cons (t := 43) Look.eq (Sub.cons (t := 44) Look.eq (Sub.cons (t := 45) Look.eq (Sub.nil _))))))))) ?_
          refine KA.condT ?_
          refine KA.seq ?_
          refine KA.region rfl ?_
          refine KOps.assign ?_
          refine KOps.assign ?_
          refine KOps.assign ?_
          refine KOps.done ?_
          refine sqQ.normal ?_
          refine KA.sub (Sub.cons (t := 2) Look.eq (Sub.cons (t := 3) Look.eq (Sub.cons (t := 4) Look.eq (Sub.nil _)))) ?_
          refine KA.ret ?_
          refine sqQ.ret ?_
          refine blQ.ret ?_
          refine sqQ.ret ?_
          refine lpQ.ret ?_
          refine blQ.ret ?_
          refine sqQ.ret ?_
          refine fnQ.retN ?_
          have hit : itemE ss i = 5 := item_5 c27 (fun q => by omega)
          exact ⟨by rw [safe_err (by omega) (errTo_stop he0 hlt hit (by first | decide | assumption)) (by first | decide | assumption)], rfl⟩
    · intro c18
      refine KA.exit ?_
      refine sqQ.exit ?_
      refine lpQ.exit ?_
      refine blQ.here ?_
      refine sqQ.normal ?_
      refine KA.sub (Sub.cons (t := 0) Look.eq (Sub.nil _)) ?_
      refine KA.seq ?_
      refine KA.seq ?_
      refine KA.region rfl ?_
      have hie : i = ss.length := by omega
      subst hie
      have heA := he0
      refine KOps.assign ?_
      refine KOps.done ?_
      refine sqQ.normal ?_
      refine KA.block ?_
      refine KA.loop (X := Nat) (fun i => [(0, v), (8, .int .i64 (i : Int))]) (fun i h' => i ≤ ss.length ∧ (∀ a b, a < b → b < ss.length → a < i → clS ss a b = false) ∧ h = h') (fun i => ss.length - i) 0 (by repeat (first | exact Sub.nil _ | refine Sub.cons Look.eq ?_ | refine Sub.cons (Eq.trans Look.eq (congrArg (AV.int _) (by first | omega | (dsimp only; omega)))) ?_)) ?_ ?_
      · exact ⟨Nat.zero_le _, fun a b _ _ h => absurd h (Nat.not_lt_zero _), rfl⟩
      rintro i h4 ⟨hi, hA, rfl⟩
      refine KA.seq ?_
      refine KA.seq ?_
      refine KA.region rfl ?_
      refine KOps.move ?_
      refine KOps.move ?_
      refine KOps.lenI hv ?_
      refine KOps.lss ?_
      refine KOps.done ?_
      refine sqQ.normal ?_
      refine KA.sub (Sub.cons (t := 0) Look.eq (Sub.cons (t := 8) Look.eq (Sub.cons (t := 63) Look.eq (Sub.nil _)))) ?_
      refine KA.condD ?_ ?_
      · intro c63
        refine KA.skip ?_
        refine sqQ.normal ?_
        refine KA.sub (Sub.cons (t := 0) Look.eq (Sub.cons (t := 8) Look.eq (Sub.nil _))) ?_
        refine KA.seq ?_
        refine KA.block ?_
        refine KA.seq ?_
        refine KA.region rfl ?_
        refine KOps.move ?_
        refine KOps.add (by first | omega | (simp; omega)) (by first | omega | (simp; omega)) ?_
        refine KOps.assign ?_
        refine KOps.done ?_
        refine sqQ.normal ?_
        refine KA.sub (Sub.cons (t := 0) Look.eq (Sub.cons (t := 8) Look.eq (Sub.cons (t := 9) Look.eq (Sub.nil _)))) ?_
        refine KA.block ?_
        refine KA.loop (X := Nat) (fun k => [(0, v), (8, .int .i64 (i : Int)), (9, .int .i64 (k : Int))]) (fun k h' => i < k ∧ k ≤ ss.length ∧ (∀ b, i < b → b < k → clS ss i b = false) ∧ h = h') (fun k => ss.length - k) (i + 1) (by repeat (first | exact Sub.nil _ | refine Sub.cons Look.eq ?_ | refine Sub.cons (Eq.trans Look.eq (congrArg (AV.int _) (by first | omega | (dsimp only; omega)))) ?_)) ?_ ?_
        · exact ⟨Nat.lt_succ_self _, by omega, fun b h1 h2 => absurd h1 (by omega), rfl⟩
        rintro k h5 ⟨hik, hk, hB, rfl⟩
        refine KA.seq ?_
        refine KA.seq ?_
        refine KA.region rfl ?_
        refine KOps.move ?_
        refine KOps.move ?_
        refine KOps.lenI hv ?_
        refine KOps.lss ?_
        refine KOps.done ?_
        refine sqQ.normal ?_
        refine KA.sub (Sub.cons (t := 0) Look.eq (Sub.cons (t := 8) Look.eq (Sub.cons (t := 9) Look.eq (Sub.cons (t := 71) Look.eq (Sub.nil _))))) ?_
        refine KA.condD ?_ ?_
        · intro c71
          refine KA.skip ?_
          refine sqQ.normal ?_
          refine KA.sub (Sub.cons (t := 0) Look.eq (Sub.cons (t := 8) Look.eq (Sub.cons (t := 9) Look.eq (Sub.nil _)))) ?_
          refine KA.seq ?_
          refine KA.block ?_
          refine KA.seq ?_
          refine KA.draw [] mixed rfl (by kernel_rfl) ?_
          have hwi := word_at heA (i := i) (by omega)
          have hwk := word_at heA (i := k) (by omega)
          refine KOps.move ?_
          refine KOps.move ?_
          refine KOps.indexIJ hv (j := i) rfl (by first | omega | (simp; done) | (simp; omega)) ?_
          intro p77 hp77
          refine KOps.loadS hp77 hv (by first | omega | (simp; done) | (simp; omega)) ?_
          rw [sAtL_is, hwi.1]
          refine KOps.move ?_
          refine KOps.move ?_
          refine KOps.indexIJ hv (j := k) rfl (by first | omega | (simp; done) | (simp; omega)) ?_
          intro p81 hp81
          refine KOps.loadS hp81 hv (by first | omega | (simp; done) | (simp; omega)) ?_
          rw [sAtL_is, hwk.1]
          refine KOps.call rfl (refcomF_c (by omega) (by omega) (by omega)) ?_
          rintro _ _ ⟨rfl, rfl⟩
          refine KOps.move ?_
          refine KOps.extract ?_
          refine KOps.extract ?_
          refine KOps.assign ?_
          refine KOps.assign ?_
          refine KOps.done ?_
          refine sqQ.normal ?_
          refine KA.sub (Sub.cons (t := 0) Look.eq (Sub.cons (t := 8) Look.eq (Sub.cons (t := 9) Look.eq (Sub.cons (t := 11) Look.eq (Sub.nil _))))) ?_
          refine KA.seq ?_
          refine KA.region rfl ?_
          refine KOps.move ?_
          refine KOps.done ?_
          refine sqQ.normal ?_
          refine KA.sub (Sub.cons (t := 0) Look.eq (Sub.cons (t := 8) Look.eq (Sub.cons (t := 9) Look.eq (Sub.cons (t := 86) Look.eq (Sub.nil _))))) ?_
          refine KA.condB ?_ ?_
          · intro c86
            refine KA.seq ?_
            refine KA.region rfl ?_
            refine KOps.move ?_
            refine KOps.move ?_
            refine KOps.assign ?_
            refine KOps.assign ?_
            refine KOps.assign ?_
            refine KOps.done ?_
            refine sqQ.normal ?_
            refine KA.sub (Sub.cons (t := 2) Look.eq (Sub.cons (t := 3) Look.eq (Sub.cons (t := 4) Look.eq (Sub.nil _)))) ?_
            refine KA.ret ?_
            refine blQ.ret ?_
            refine sqQ.ret ?_
            refine lpQ.ret ?_
            refine blQ.ret ?_
            refine blQ.ret ?_
            refine sqQ.ret ?_
            refine lpQ.ret ?_
            refine blQ.ret ?_
            refine sqQ.ret ?_
            refine fnQ.retN ?_
            exact ⟨by rw [safe_clash (i := i) (k := k) (by omega) heA ⟨hik, by omega, by unfold clS clashW; exact c86, fun a b h1 h2 h3 => by
              rcases h3 with h3 | ⟨h3, h4⟩
              · exact hA a b h1 h2 h3
              · have h3 : a = i := h3
                subst h3
                exact hB b h1 h4⟩], rfl⟩
          · intro c86
            refine KA.skip ?_
            refine blQ.normal ?_
            refine sqQ.normal ?_
            refine KA.sub (Sub.cons (t := 0) Look.eq (Sub.cons (t := 8) Look.eq (Sub.cons (t := 9) Look.eq (Sub.nil _)))) ?_
            refine KA.region rfl ?_
            refine KOps.move ?_
            refine KOps.add (by first | omega | (simp; omega)) (by first | omega | (simp; omega)) ?_
            refine KOps.assign ?_
            refine KOps.done ?_
            exact lpQ.normal (k + 1) (by repeat (first | exact Sub.nil _ | refine Sub.cons Look.eq ?_ | refine Sub.cons (Eq.trans Look.eq (congrArg (AV.int _) (by first | omega | (dsimp only; omega)))) ?_)) ⟨by omega, by omega, fun b h1 h2 => by
              rcases Nat.lt_succ_iff_lt_or_eq.1 h2 with h | rfl
              · exact hB b h1 h
              · unfold clS clashW; exact c86, rfl⟩ (by omega)
        · intro c71
          refine KA.exit ?_
          refine sqQ.exit ?_
          refine lpQ.exit ?_
          refine blQ.here ?_
          refine blQ.normal ?_
          refine sqQ.normal ?_
          refine KA.sub (Sub.cons (t := 0) Look.eq (Sub.cons (t := 8) Look.eq (Sub.nil _))) ?_
          refine KA.region rfl ?_
          refine KOps.move ?_
          refine KOps.add (by first | omega | (simp; omega)) (by first | omega | (simp; omega)) ?_
          refine KOps.assign ?_
          refine KOps.done ?_
          exact lpQ.normal (i + 1) (by repeat (first | exact Sub.nil _ | refine Sub.cons Look.eq ?_ | refine Sub.cons (Eq.trans Look.eq (congrArg (AV.int _) (by first | omega | (dsimp only; omega)))) ?_)) ⟨by omega, fun a b h1 h2 h3 => by
            rcases Nat.lt_succ_iff_lt_or_eq.1 h3 with h | rfl
            · exact hA a b h1 h2 h
            · exact hB b h1 (by omega), rfl⟩ (by omega)
      · intro c63
        refine KA.exit ?_
        refine sqQ.exit ?_
        refine lpQ.exit ?_
        refine blQ.here ?_
        refine sqQ.normal ?_
        refine KA.sub (Sub.nil _) ?_
        refine KA.seq ?_
        refine KA.region rfl ?_
        refine KOps.assign ?_
        refine KOps.assign ?_
        refine KOps.assign ?_
        refine KOps.done ?_
        refine sqQ.normal ?_
        refine KA.ret ?_
        refine fnQ.retN ?_
        exact ⟨by rw [safe_none (by omega) heA (fun a b h1 h2 => hA a b h1 h2 (by omega))], rfl⟩

end Go.Am

namespace Go.Am
theorem classP_c {h : AHeap} {s : ByteArray} : ACalls Go.Proofs.Tryd.prog 14 [.str s] h (fun q h' => q = .tup [.int .i64 ((wtS s : Nat) : Int), .int .i64 ((clsS s : Nat) : Int), .int .i64 (chkS s)] ∧ h = h') := by
  refine KA.fn 20 [.tmp 2, .tmp 3, .tmp 4] Go.Proofs.Tryd.func14 rfl (by decide) rfl rfl (Nat.le_of_ble_eq_true rfl) ?_
  show KA _ 20 _ _ [(0, .str s)] _
  refine KA.seq ?_
  refine KA.region rfl ?_
  refine KOps.assign ?_
  refine KOps.assign ?_
  refine KOps.assign ?_
  refine KOps.done ?_
  refine sqQ.normal ?_
  refine KA.sub (Sub.cons (t := 0) Look.eq (Sub.nil _)) ?_
  refine KA.seq ?_
  refine KA.seq ?_
  refine KA.region rfl ?_
  refine KOps.move ?_
  refine KOps.call rfl (checkF_c) ?_
  rintro _ _ ⟨rfl, rfl⟩
  refine KOps.assign ?_
  refine KOps.done ?_
  refine sqQ.normal ?_
  refine KA.sub (Sub.cons (t := 0) Look.eq (Sub.cons (t := 5) Look.eq (Sub.nil _))) ?_
  refine KA.seq ?_
  refine KA.region rfl ?_
  refine KOps.move ?_
  refine KOps.neq ?_
  refine KOps.done ?_
  refine sqQ.normal ?_
  refine KA.sub (Sub.cons (t := 0) Look.eq (Sub.cons (t := 5) Look.eq (Sub.cons (t := 10) Look.eq (Sub.nil _)))) ?_
  refine KA.condN ?_ ?_
  · intro c10
    refine KA.seq ?_
    refine KA.region rfl ?_
    refine KOps.move ?_
    refine KOps.assign ?_
    refine KOps.assign ?_
    refine KOps.assign ?_
    refine KOps.done ?_
    refine sqQ.normal ?_
    refine KA.sub (Sub.cons (t := 2) Look.eq (Sub.cons (t := 3) Look.eq (Sub.cons (t := 4) Look.eq (Sub.nil _)))) ?_
    refine KA.ret ?_
    refine sqQ.ret ?_
    refine fnQ.retN ?_
    exact ⟨by rw [wtS_bad c10, clsS_bad c10]; rfl, rfl⟩
  · intro c10
    obtain ⟨l, rfl, hl⟩ := chk_zero c10
    have hsm := wtTo_small l (k := l.length) (by omega)
    refine KA.skip ?_
    refine sqQ.normal ?_
    refine KA.sub (Sub.cons (t := 0) Look.eq (Sub.nil _)) ?_
    refine KA.seq ?_
    refine KA.region rfl ?_
    refine KOps.move ?_
    refine KOps.call rfl (heavyF_c (by omega)) ?_
    rintro _ _ ⟨rfl, rfl⟩
    refine KOps.assign ?_
    refine KOps.done ?_
    refine sqQ.normal ?_
    refine KA.sub (Sub.cons (t := 0) Look.eq (Sub.cons (t := 6) Look.eq (Sub.nil _))) ?_
    refine KA.seq ?_
    refine KA.draw [] mixed rfl (by kernel_rfl) ?_
    refine KOps.move ?_
    refine KOps.move ?_
    refine KOps.move ?_
    refine KOps.lenW ?_
    refine KOps.add (by first | omega | (simp; omega)) (by first | omega | (simp; omega)) ?_
    refine KOps.remN (i := wtTo l l.length) (j := l.length + 1) (by first | rfl | omega | (simp; done)) (by first | rfl | omega | (simp; omega)) (by omega) (by omega) ?_
    refine KOps.assign ?_
    refine KOps.assign ?_
    refine KOps.assign ?_
    refine KOps.done ?_
    refine sqQ.normal ?_
    refine KA.sub (Sub.cons (t := 2) Look.eq (Sub.cons (t := 3) Look.eq (Sub.cons (t := 4) Look.eq (Sub.nil _)))) ?_
    refine KA.ret ?_
    refine fnQ.retN ?_
    exact ⟨by rw [wtS_wd hl, clsS_wd hl, chk_wd hl]; rfl, rfl⟩

theorem shortP_c {h : AHeap} {s : ByteArray} : ACalls Go.Proofs.Tryd.prog 16 [.str s] h (fun q h' => ∃ v, q = .tup [v, .int .i64 (shortE s)] ∧ St h h' [⟨v, 1, wcs (shortS s), true⟩]) := by
  refine KA.fn 16 [.tmp 2, .tmp 3] Go.Proofs.Tryd.func16 rfl (by decide) rfl rfl (Nat.le_of_ble_eq_true rfl) ?_
  have hS := St.refl h
  show KA _ 16 _ _ [(0, .str s)] _
  refine KA.seq ?_
  refine KA.region rfl ?_
  refine KOps.assign ?_
  refine KOps.assign ?_
  refine KOps.done ?_
  refine sqQ.normal ?_
  refine KA.sub (Sub.cons (t := 0) Look.eq (Sub.nil _)) ?_
  refine KA.seq ?_
  refine KA.seq ?_
  refine KA.region rfl ?_
  refine KOps.move ?_
  refine KOps.call rfl (checkF_c) ?_
  rintro _ _ ⟨rfl, rfl⟩
  refine KOps.assign ?_
  refine KOps.done ?_
  refine sqQ.normal ?_
  refine KA.sub (Sub.cons (t := 0) Look.eq (Sub.cons (t := 4) Look.eq (Sub.nil _))) ?_
  refine KA.block ?_
  refine KA.seq ?_
  refine KA.region rfl ?_
  refine KOps.move ?_
  refine KOps.neq ?_
  refine KOps.assign ?_
  refine KOps.done ?_
  refine sqQ.normal ?_
  refine KA.sub (Sub.cons (t := 0) Look.eq (Sub.cons (t := 4) Look.eq (Sub.cons (t := 7) Look.eq (Sub.nil _)))) ?_
  refine KA.condN ?_ ?_
  · intro c7
    refine KA.seq ?_
    refine KA.region rfl ?_
    refine KOps.move ?_
    refine KOps.assign ?_
    refine KOps.assign ?_
    refine KOps.done ?_
    refine sqQ.normal ?_
    refine KA.sub (Sub.cons (t := 2) Look.eq (Sub.cons (t := 3) Look.eq (Sub.nil _))) ?_
    refine KA.ret ?_
    refine blQ.ret ?_
    refine sqQ.ret ?_
    refine fnQ.retN ?_
    refine ⟨_, by rw [shortE_bad c7], ?_⟩
    rw [shortS_bad (by rw [shortE_bad c7]; exact c7)]
    exact St.pick [0] (by decide) rfl (hS.nil 1)
  · intro c7
    obtain ⟨l, rfl, hl⟩ := chk_zero c7
    have hE := shortE_wd hl
    refine KA.seq ?_
    refine KA.region rfl ?_
    refine KOps.move ?_
    refine KOps.wEql ?_
    refine KOps.assign ?_
    refine KOps.done ?_
    refine sqQ.normal ?_
    refine KA.sub (Sub.cons (t := 0) Look.eq (Sub.cons (t := 11) Look.eq (Sub.nil _))) ?_
    refine KA.condD ?_ ?_
    · intro c11
      rw [if_pos c11] at hE
      refine KA.seq ?_
      refine KA.region rfl ?_
      refine KOps.assign ?_
      refine KOps.assign ?_
      refine KOps.done ?_
      refine sqQ.normal ?_
      refine KA.sub (Sub.cons (t := 2) Look.eq (Sub.cons (t := 3) Look.eq (Sub.nil _))) ?_
      refine KA.ret ?_
      refine blQ.ret ?_
      refine sqQ.ret ?_
      refine fnQ.retN ?_
      refine ⟨_, by rw [hE], ?_⟩
      rw [shortS_bad (by rw [hE]; decide)]
      exact St.pick [0] (by decide) rfl (hS.nil 1)
    · intro c11
      rw [if_neg c11] at hE
      refine KA.skip ?_
      refine blQ.normal ?_
      refine sqQ.normal ?_
      refine KA.sub (Sub.cons (t := 0) Look.eq (Sub.nil _)) ?_
      refine KA.seq ?_
      refine KA.region rfl ?_
      refine KOps.move ?_
      refine KOps.call rfl (less_w (by omega)) ?_
      rintro v15 h15 hS15
      have hS0 : St _ _ (_ :: _) := St.trans hS hS15
      clear hS
      have hS := hS0
      clear hS0
      refine KOps.assign ?_
      refine KOps.assign ?_
      refine KOps.done ?_
      refine sqQ.normal ?_
      refine KA.sub (Sub.cons (t := 2) Look.eq (Sub.cons (t := 3) Look.eq (Sub.nil _))) ?_
      refine KA.ret ?_
      refine fnQ.retN ?_
      refine ⟨_, by rw [hE], ?_⟩
      rw [shortS_wd hE]
      exact hS

theorem longP_c {h : AHeap} {s : ByteArray} : ACalls Go.Proofs.Tryd.prog 18 [.str s] h (fun q h' => ∃ v, q = .tup [v, .int .i64 (longE s)] ∧ St h h' [⟨v, 1, wcs (longS s), true⟩]) := by
  refine KA.fn 17 [.tmp 2, .tmp 3] Go.Proofs.Tryd.func18 rfl (by decide) rfl rfl (Nat.le_of_ble_eq_true rfl) ?_
  have hS := St.refl h
  show KA _ 17 _ _ [(0, .str s)] _
  refine KA.seq ?_
  refine KA.region rfl ?_
  refine KOps.assign ?_
  refine KOps.assign ?_
  refine KOps.done ?_
  refine sqQ.normal ?_
  refine KA.sub (Sub.cons (t := 0) Look.eq (Sub.nil _)) ?_
  refine KA.seq ?_
  refine KA.seq ?_
  refine KA.region rfl ?_
  refine KOps.move ?_
  refine KOps.call rfl (checkF_c) ?_
  rintro _ _ ⟨rfl, rfl⟩
  refine KOps.assign ?_
  refine KOps.done ?_
  refine sqQ.normal ?_
  refine KA.sub (Sub.cons (t := 0) Look.eq (Sub.cons (t := 4) Look.eq (Sub.nil _))) ?_
  refine KA.block ?_
  refine KA.seq ?_
  refine KA.region rfl ?_
  refine KOps.move ?_
  refine KOps.neq ?_
  refine KOps.assign ?_
  refine KOps.done ?_
  refine sqQ.normal ?_
  refine KA.sub (Sub.cons (t := 0) Look.eq (Sub.cons (t := 4) Look.eq (Sub.cons (t := 7) Look.eq (Sub.nil _)))) ?_
  refine KA.condN ?_ ?_
  · intro c7
    refine KA.seq ?_
    refine KA.region rfl ?_
    refine KOps.move ?_
    refine KOps.assign ?_
    refine KOps.assign ?_
    refine KOps.done ?_
    refine sqQ.normal ?_
    refine KA.sub (Sub.cons (t := 2) Look.eq (Sub.cons (t := 3) Look.eq (Sub.nil _))) ?_
    refine KA.ret ?_
    refine blQ.ret ?_
    refine sqQ.ret ?_
    refine fnQ.retN ?_
    refine ⟨_, by rw [longE_bad c7], ?_⟩
    rw [longS_bad (by rw [longE_bad c7]; exact c7)]
    exact St.pick [0] (by decide) rfl (hS.nil 1)
  · intro c7
    obtain ⟨l, rfl, hl⟩ := chk_zero c7
    have hE := longE_wd hl
    refine KA.seq ?_
    refine KA.region rfl ?_
    refine KOps.move ?_
    refine KOps.lenW ?_
    refine KOps.eql ?_
    refine KOps.assign ?_
    refine KOps.done ?_
    refine sqQ.normal ?_
    refine KA.sub (Sub.cons (t := 0) Look.eq (Sub.cons (t := 11) Look.eq (Sub.nil _))) ?_
    refine KA.condD ?_ ?_
    · intro c11
      rw [if_pos (by omega)] at hE
      refine KA.seq ?_
      refine KA.region rfl ?_
      refine KOps.assign ?_
      refine KOps.assign ?_
      refine KOps.done ?_
      refine sqQ.normal ?_
      refine KA.sub (Sub.cons (t := 2) Look.eq (Sub.cons (t := 3) Look.eq (Sub.nil _))) ?_
      refine KA.ret ?_
      refine blQ.ret ?_
      refine sqQ.ret ?_
      refine fnQ.retN ?_
      refine ⟨_, by rw [hE], ?_⟩
      rw [longS_bad (by rw [hE]; decide)]
      exact St.pick [0] (by decide) rfl (hS.nil 1)
    · intro c11
      rw [if_neg (by omega)] at hE
      refine KA.skip ?_
      refine blQ.normal ?_
      refine sqQ.normal ?_
      refine KA.sub (Sub.cons (t := 0) Look.eq (Sub.nil _)) ?_
      refine KA.seq ?_
      refine KA.region rfl ?_
      refine KOps.move ?_
      refine KOps.call rfl (more_w (by omega)) ?_
      rintro v16 h16 hS16
      have hS0 : St _ _ (_ :: _) := St.trans hS hS16
      clear hS
      have hS := hS0
      clear hS0
      refine KOps.assign ?_
      refine KOps.assign ?_
      refine KOps.done ?_
      refine sqQ.normal ?_
      refine KA.sub (Sub.cons (t := 2) Look.eq (Sub.cons (t := 3) Look.eq (Sub.nil _))) ?_
      refine KA.ret ?_
      refine fnQ.retN ?_
      refine ⟨_, by rw [hE], ?_⟩
      rw [longS_wd hE]
      exact hS

end Go.Am

namespace Go.Am
instance instK0 (globs : List Nat) (n : Nat) (K : KF) : EvK globs n K (.const (.string ⟨#[48, 48]⟩)) (.str (wd [false, false])) := ⟨rfl⟩
instance instK1 (globs : List Nat) (n : Nat) (K : KF) : EvK globs n K (.const (.string ⟨#[48, 48, 48, 48]⟩)) (.str (wd [false, false, false, false])) := ⟨rfl⟩
instance instK2 (globs : List Nat) (n : Nat) (K : KF) : EvK globs n K (.const (.string ⟨#[48, 48, 49]⟩)) (.str (wd [false, false, true])) := ⟨rfl⟩
instance instK3 (globs : List Nat) (n : Nat) (K : KF) : EvK globs n K (.const (.string ⟨#[48, 48, 49, 49]⟩)) (.str (wd [false, false, true, true])) := ⟨rfl⟩
instance instK4 (globs : List Nat) (n : Nat) (K : KF) : EvK globs n K (.const (.string ⟨#[48, 49]⟩)) (.str (wd [false, true])) := ⟨rfl⟩
instance instK5 (globs : List Nat) (n : Nat) (K : KF) : EvK globs n K (.const (.string ⟨#[48, 49, 48]⟩)) (.str (wd [false, true, false])) := ⟨rfl⟩
instance instK6 (globs : List Nat) (n : Nat) (K : KF) : EvK globs n K (.const (.string ⟨#[48, 49, 49]⟩)) (.str (wd [false, true, true])) := ⟨rfl⟩
instance instK7 (globs : List Nat) (n : Nat) (K : KF) : EvK globs n K (.const (.string ⟨#[48, 49, 49, 48]⟩)) (.str (wd [false, true, true, false])) := ⟨rfl⟩
instance instK8 (globs : List Nat) (n : Nat) (K : KF) : EvK globs n K (.const (.string ⟨#[49, 48, 48, 49]⟩)) (.str (wd [true, false, false, true])) := ⟨rfl⟩
instance instK9 (globs : List Nat) (n : Nat) (K : KF) : EvK globs n K (.const (.string ⟨#[49, 48, 49]⟩)) (.str (wd [true, false, true])) := ⟨rfl⟩
instance instK10 (globs : List Nat) (n : Nat) (K : KF) : EvK globs n K (.const (.string ⟨#[49, 49]⟩)) (.str (wd [true, true])) := ⟨rfl⟩
instance instK11 (globs : List Nat) (n : Nat) (K : KF) : EvK globs n K (.const (.string ⟨#[49, 49, 48]⟩)) (.str (wd [true, true, false])) := ⟨rfl⟩
instance instK12 (globs : List Nat) (n : Nat) (K : KF) : EvK globs n K (.const (.string ⟨#[49, 49, 49, 49]⟩)) (.str (wd [true, true, true, true])) := ⟨rfl⟩
section
variable {P : Program} {n : Nat} {ops : Array Oper} {ex : List Nat} {Q : KF → AHeap → Prop} {k : Nat} {os : List Oper} {K : KF} {h : AHeap} {d : Nat} {ty : TypeId} {pos : String} {after : Array Edge}
theorem KOps.eqlY {t t' : TypeId} {x y : Operand} {kd : IntKind} {a b : Int} [hx : EvK h.globs n K x (.int kd a)] [hy : EvK h.globs n K y (.int kd b)] (he : a = b) (hk : KOps P n ops ex Q (k + 1) os ((d, .bool true) :: K) h) : KOps P n ops ex Q k (⟨some d, .binOp .eql t x y t', ty, pos, after, none⟩ :: os) K h := by
  refine KOps.eql ?_
  rw [decide_eq_true he]
  exact hk
theorem KOps.wEqlY {t t' : TypeId} {x y : Operand} {a b : List Bool} [hx : EvK h.globs n K x (.str (wd a))] [hy : EvK h.globs n K y (.str (wd b))] (he : a = b) (hk : KOps P n ops ex Q (k + 1) os ((d, .bool true) :: K) h) : KOps P n ops ex Q k (⟨some d, .binOp .eql t x y t', ty, pos, after, none⟩ :: os) K h := by
  refine KOps.wEql ?_
  rw [decide_eq_true he]
  exact hk
end
theorem same_t {h : AHeap} {va vb : AV} {l m : List (List Bool)} (ha : WRow h va l) (hb : WRow h vb m) (hn : l.length ≤ 1000000) (he : l = m) : ACalls Go.Proofs.Tryd.prog 20 [va, vb] h (fun q h' => q = .bool true ∧ h = h') := by
  have := same_c ha hb hn
  rwa [decide_eq_true he] at this
theorem sizePF_c {h : AHeap} {n k : Int} : ACalls Go.Proofs.Tryd.prog 25 [.int .i64 n, .int .i64 k] h (fun q h' => q = .tup [.int .i64 ((codeS n k).length : Int), .int .i64 (codeE n k)] ∧ h = h') := ACalls.free sizeP_c rfl rfl h
theorem restPF_c {h : AHeap} {n k : Int} {s : ByteArray} : ACalls Go.Proofs.Tryd.prog 29 [.int .i64 n, .int .i64 k, .str s] h (fun q h' => q = .tup [.str (wd (restS n k s)), .int .i64 (restE n k s)] ∧ h = h') := ACalls.free restP_c rfl rfl h
theorem comPF_c {h : AHeap} {a b : ByteArray} : ACalls Go.Proofs.Tryd.prog 33 [.str a, .str b] h (fun q h' => q = .tup [.str (wd (comS a b)), .int .i64 (comE a b)] ∧ h = h') := ACalls.free comP_c rfl rfl h
theorem comRF_c {h : AHeap} {a b : ByteArray} : ACalls Go.Proofs.Tryd.prog 34 [.str a, .str b] h (fun q h' => q = .tup [.str (wd (comS a b)), .int .i64 (comE a b)] ∧ h = h') := ACalls.free comR_c rfl rfl h
theorem k_wt : wtS (wd [false, true, true, false]) = 5 := by rw [wtS_wd (by decide)]; decide
theorem k_cls : clsS (wd [false, true, true, false]) = 0 := by rw [clsS_wd (by decide)]; decide
theorem k_chk : chkS (wd [false, true, true, false]) = 0 := chk_wd (by decide)
theorem k_se : shortE (wd [false, true, true, false]) = 0 := by rw [shortE_wd (by decide)]; decide
theorem k_s : shortS (wd [false, true, true, false]) = [[false, true, false], [false, true, true], [true, true, false]] := by rw [shortS_wd k_se]; decide +kernel
theorem k_le : longE (wd [false, true]) = 0 := by rw [longE_wd (by decide)]; decide
theorem k_l : longS (wd [false, true]) = [[false, false, true], [false, true, false], [false, true, true], [true, false, true]] := by rw [longS_wd k_le]; decide +kernel
theorem k_c : codeS 4 0 = [[false, false, false, false], [false, true, true, false], [true, false, false, true], [true, true, true, true]] := (codeS_nat (a := 4) (b := 0) (by decide) (by decide)).trans (by decide +kernel)
theorem k_n : ((codeS 10 0).length : Int) = 94 := by
  have h : codeS 10 0 = codeW 10 0 := codeS_nat (a := 10) (b := 0) (by decide) (by decide)
  rw [h, codeW_len]
  decide +kernel
theorem k_ask : askE 3 (wd [false, true, true, false]) = 0 := askE_0 k_chk (by decide) (by rw [wd_size]; decide)
theorem k_cut : cutS 3 (wd [false, true, true, false]) = [[false, true, false], [false, true, true], [true, true, false]] := (cutS_wd (a := 3) k_ask).trans (by decide +kernel)
theorem k_ask2 : askE 4 (wd [false, true, false]) = 0 := askE_0 (chk_wd (by decide)) (by decide) (by rw [wd_size]; decide)
theorem k_rest : restE 4 0 (wd [false, true, false]) = 0 ∧ restS 4 0 (wd [false, true, false]) = [false, true, true, false] := rest_some (a := 4) (b := 0) k_ask2 (by decide) (by decide +kernel)
theorem k_rest5 : restE 4 0 (wd [true, true]) = 5 := by
  have h : askE 4 (wd [true, true]) = 5 := askE_5 (chk_wd (by decide)) (by decide) (by rw [wd_size]; decide)
  rw [restE_bad (by rw [h]; decide), h]
theorem com2_of {l m : List Bool} (hl : l.length ≤ 10) (hm : m.length ≤ 10) (h1 : l.length = m.length) (h2 : l ≠ []) (h3 : l ≠ m) : comE2 (wd l) (wd m) = 0 := by
  have h0 : comE1 (wd l) (wd m) = 0 := by rw [comE1_wd hl hm, if_pos ⟨h1, h2⟩]
  rw [comE2_wd h0, if_neg h3]
theorem k_com : comE (wd [false, true, true, false]) (wd [false, false, true, true]) = 0 ∧ comS (wd [false, true, true, false]) (wd [false, false, true, true]) = [false, true, true] := com_some (com2_of (by decide) (by decide) (by decide) (by decide) (by decide)) (by decide +kernel)
theorem k_com12 : comE (wd [false, true, true, false]) (wd [true, false, false, true]) = 12 := (com_none (com2_of (by decide) (by decide) (by decide) (by decide) (by decide)) (by decide +kernel)).1
/-- Words of one length that are different have no error. -/
theorem errTo_words {ws : List (List Bool)} {m : Nat} (hm : 0 < m ∧ m ≤ 10) (hl : ∀ w ∈ ws, w.length = m) (hn : ws.Nodup) : errTo (ws.map wd) (ws.map wd).length = 0 := by
  have hget : ∀ i, (hi : i < ws.length) → sAtL (ws.map wd) i = wd ws[i] := fun i hi => by
    rw [sAtL, List.getD_eq_getElem?_getD, List.getElem?_map, List.getElem?_eq_getElem hi]; rfl
  have key : ∀ n, n ≤ ws.length → errTo (ws.map wd) n = 0 := by
    intro n
    induction n with
    | zero => intro _; rfl
    | succ n ih =>
      intro hle
      rw [errTo, if_pos (ih (by omega))]
      have h1 := hl _ (List.getElem_mem (show n < ws.length by omega))
      have h0 := hl _ (List.getElem_mem (show 0 < ws.length by omega))
      refine item_0 (by rw [hget n (by omega)]; exact chk_wd (by omega)) (by rw [hget n (by omega), hget 0 (by omega), wd_size, wd_size]; omega) ?_
      rintro ⟨j, hj, he⟩
      rw [hget n (by omega), hget j (by omega)] at he
      exact absurd (List.pairwise_iff_getElem.1 hn j n (by omega) (by omega) hj) (fun q => q (wd_inj he))
  rw [List.length_map]
  exact key _ (Nat.le_refl _)
theorem clS_words {ws : List (List Bool)} {i k : Nat} (hi : i < ws.length) (hk : k < ws.length) : clS (ws.map wd) i k = clashW (ws.getD i []) (ws.getD k []) := by
  unfold clS sAtL
  rw [List.getD_eq_getElem?_getD, List.getD_eq_getElem?_getD, List.getElem?_map, List.getElem?_map, List.getElem?_eq_getElem hi, List.getElem?_eq_getElem hk, List.getD_eq_getElem?_getD, List.getD_eq_getElem?_getD, List.getElem?_eq_getElem hi, List.getElem?_eq_getElem hk]
  simp only [Option.map_some, Option.getD_some, ofS_wd]
theorem k_safe : safeV [wd [false, false], wd [true, true], wd [false, true]] = .tup [.int .i64 0, .int .i64 2, .int .i64 13] := by
  have he := errTo_words (ws := [[false, false], [true, true], [false, true]]) (m := 2) (by decide) (by decide) (by decide)
  refine safe_clash (ss := [[false, false], [true, true], [false, true]].map wd) (i := 0) (k := 2) (by decide) he ⟨by decide, by decide, ?_, fun a b h1 h2 h3 => ?_⟩
  · rw [clS_words (by decide) (by decide)]; decide +kernel
  · have h2 : b < 3 := h2
    have h3 : a < 0 ∨ a = 0 ∧ b < 2 := h3
    obtain ⟨rfl, rfl⟩ : a = 0 ∧ b = 1 := by omega
    rw [clS_words (by decide) (by decide)]; decide +kernel
theorem k_most : mostE 5 = 0 ∧ mostV 5 = 6 := by
  have h := mostE_nat (n := 5) (by decide)
  exact ⟨h.1, h.2.trans most_nums.2.2.2.2⟩
set_option synthInstance.maxSize 1000
set_option synthInstance.maxHeartbeats 400000
theorem works_c {h : AHeap} (hTab : Tab h) : ACalls Go.Proofs.Tryd.prog 13 [] h (fun q h' => q = .bool true ∧ Keeps h h') := by
  refine KA.fn 181 [.tmp 0] Go.Proofs.Tryd.func13 rfl (by decide) rfl rfl (Nat.le_of_ble_eq_true rfl) ?_
  have hS := St.refl h
  show KA _ 181 _ _ [] _
  refine KA.seq ?_
  refine KA.region rfl ?_
  refine KOps.assign ?_
  refine KOps.done ?_
  refine sqQ.normal ?_
  refine KA.sub (Sub.nil _) ?_
  refine KA.seq ?_
  refine KA.region rfl ?_
  refine KOps.call rfl (classP_c) ?_
  rintro _ _ ⟨rfl, rfl⟩
  refine KOps.move ?_
  refine KOps.extract ?_
  refine KOps.extract ?_
  refine KOps.extract ?_
  refine KOps.assign ?_
  refine KOps.assign ?_
  refine KOps.assign ?_
  refine KOps.done ?_
  refine sqQ.normal ?_
  refine KA.sub (Sub.cons (t := 1) Look.eq (Sub.cons (t := 2) Look.eq (Sub.cons (t := 3) Look.eq (Sub.nil _)))) ?_
  refine KA.seq ?_
  refine KA.region rfl ?_
  refine KOps.call rfl (shortP_c) ?_
  rintro _ h33 ⟨v33, rfl, hS33⟩
  have hS0 : St _ _ (_ :: _) := St.trans hS hS33
  clear hS
  have hS := hS0
  clear hS0
  refine KOps.move ?_
  refine KOps.extract ?_
  refine KOps.extract ?_
  refine KOps.assign ?_
  refine KOps.assign ?_
  refine KOps.done ?_
  refine sqQ.normal ?_
  refine KA.sub (Sub.cons (t := 1) Look.eq (Sub.cons (t := 2) Look.eq (Sub.cons (t := 3) Look.eq (Sub.cons (t := 4) Look.eq (Sub.cons (t := 5) Look.eq (Sub.nil _)))))) ?_
  refine KA.seq ?_
  refine KA.region rfl ?_
  refine KOps.call rfl (longP_c) ?_
  rintro _ h37 ⟨v37, rfl, hS37⟩
  have hS0 : St _ _ (_ :: _) := St.trans hS hS37
  clear hS
  have hS := hS0
  clear hS0
  refine KOps.move ?_
  refine KOps.extract ?_
  refine KOps.extract ?_
  refine KOps.assign ?_
  refine KOps.assign ?_
  refine KOps.done ?_
  refine sqQ.normal ?_
  refine KA.sub (Sub.cons (t := 1) Look.eq (Sub.cons (t := 2) Look.eq (Sub.cons (t := 3) Look.eq (Sub.cons (t := 4) Look.eq (Sub.cons (t := 5) Look.eq (Sub.cons (t := 6) Look.eq (Sub.cons (t := 7) Look.eq (Sub.nil _)))))))) ?_
  refine KA.seq ?_
  refine KA.region rfl ?_
  refine KOps.call rfl (codeP_c) ?_
  rintro _ h41 ⟨v41, rfl, hS41⟩
  have hS0 : St _ _ (_ :: _) := St.trans hS hS41
  clear hS
  have hS := hS0
  clear hS0
  refine KOps.move ?_
  refine KOps.extract ?_
  refine KOps.extract ?_
  refine KOps.assign ?_
  refine KOps.assign ?_
  refine KOps.done ?_
  refine sqQ.normal ?_
  refine KA.sub (Sub.cons (t := 1) Look.eq (Sub.cons (t := 2) Look.eq (Sub.cons (t := 3) Look.eq (Sub.cons (t := 4) Look.eq (Sub.cons (t := 5) Look.eq (Sub.cons (t := 6) Look.eq (Sub.cons (t := 7) Look.eq (Sub.cons (t := 8) Look.eq (Sub.cons (t := 9) Look.eq (Sub.nil _)))))))))) ?_
  refine KA.seq ?_
  refine KA.region rfl ?_
  refine KOps.call rfl (sizePF_c) ?_
  rintro _ _ ⟨rfl, rfl⟩
  refine KOps.move ?_
  refine KOps.extract ?_
  refine KOps.extract ?_
  refine KOps.assign ?_
  refine KOps.assign ?_
  refine KOps.done ?_
  refine sqQ.normal ?_
  refine KA.sub (Sub.cons (t := 1) Look.eq (Sub.cons (t := 2) Look.eq (Sub.cons (t := 3) Look.eq (Sub.cons (t := 4) Look.eq (Sub.cons (t := 5) Look.eq (Sub.cons (t := 6) Look.eq (Sub.cons (t := 7) Look.eq (Sub.cons (t := 8) Look.eq (Sub.cons (t := 9) Look.eq (Sub.cons (t := 10) Look.eq (Sub.cons (t := 11) Look.eq (Sub.nil _)))))))))))) ?_
  refine KA.seq ?_
  refine KA.region rfl ?_
  refine KOps.call rfl (cutP_c) ?_
  rintro _ h49 ⟨v49, rfl, hS49⟩
  have hS0 : St _ _ (_ :: _) := St.trans hS hS49
  clear hS
  have hS := hS0
  clear hS0
  refine KOps.move ?_
  refine KOps.extract ?_
  refine KOps.extract ?_
  refine KOps.assign ?_
  refine KOps.assign ?_
  refine KOps.done ?_
  refine sqQ.normal ?_
  refine KA.sub (Sub.cons (t := 1) Look.eq (Sub.cons (t := 2) Look.eq (Sub.cons (t := 3) Look.eq (Sub.cons (t := 4) Look.eq (Sub.cons (t := 5) Look.eq (Sub.cons (t := 6) Look.eq (Sub.cons (t := 7) Look.eq (Sub.cons (t := 8) Look.eq (Sub.cons (t := 9) Look.eq (Sub.cons (t := 10) Look.eq (Sub.cons (t := 11) Look.eq (Sub.cons (t := 12) Look.eq (Sub.cons (t := 13) Look.eq (Sub.nil _)))))))))))))) ?_
  refine KA.seq ?_
  refine KA.region rfl ?_
  refine KOps.call rfl (restPF_c) ?_
  rintro _ _ ⟨rfl, rfl⟩
  refine KOps.move ?_
  refine KOps.extract ?_
  refine KOps.extract ?_
  refine KOps.assign ?_
  refine KOps.assign ?_
  refine KOps.done ?_
  refine sqQ.normal ?_
  refine KA.sub (Sub.cons (t := 1) Look.eq (Sub.cons (t := 2) Look.eq (Sub.cons (t := 3) Look.eq (Sub.cons (t := 4) Look.eq (Sub.cons (t := 5) Look.eq (Sub.cons (t := 6) Look.eq (Sub.cons (t := 7) Look.eq (Sub.cons (t := 8) Look.eq (Sub.cons (t := 9) Look.eq (Sub.cons (t := 10) Look.eq (Sub.cons (t := 11) Look.eq (Sub.cons (t := 12) Look.eq (Sub.cons (t := 13) Look.eq (Sub.cons (t := 14) Look.eq (Sub.cons (t := 15) Look.eq (Sub.nil _)))))))))))))))) ?_
  refine KA.seq ?_
  refine KA.region rfl ?_
  refine KOps.call rfl (comPF_c) ?_
  rintro _ _ ⟨rfl, rfl⟩
  refine KOps.move ?_
  refine KOps.extract ?_
  refine KOps.extract ?_
  refine KOps.assign ?_
  refine KOps.assign ?_
  refine KOps.done ?_
  refine sqQ.normal ?_
  refine KA.sub (Sub.cons (t := 1) Look.eq (Sub.cons (t := 2) Look.eq (Sub.cons (t := 3) Look.eq (Sub.cons (t := 4) Look.eq (Sub.cons (t := 5) Look.eq (Sub.cons (t := 6) Look.eq (Sub.cons (t := 7) Look.eq (Sub.cons (t := 8) Look.eq (Sub.cons (t := 9) Look.eq (Sub.cons (t := 10) Look.eq (Sub.cons (t := 11) Look.eq (Sub.cons (t := 12) Look.eq (Sub.cons (t := 13) Look.eq (Sub.cons (t := 14) Look.eq (Sub.cons (t := 15) Look.eq (Sub.cons (t := 16) Look.eq (Sub.cons (t := 17) Look.eq (Sub.nil _)))))))))))))))))) ?_
  refine KA.seq ?_
  refine KA.region rfl ?_
  refine KOps.buildSlice hS rfl (by decide) rfl ?_
  intro v61 h' hS
  refine KOps.call rfl (list_c) ?_
  rintro _ _ ⟨rfl, rfl⟩
  refine KOps.call rfl (safeP_c (ss := [wd [false, false], wd [true, true], wd [false, true]]) (hS.rd 0 rfl) (by decide)) ?_
  rintro _ hx ⟨rfl, hK⟩
  have hS0 : St _ _ _ := St.trans hS (St.ofK hK)
  clear hS
  have hS := hS0
  clear hS0
  simp only [List.nil_append] at hS
  rw [k_safe]
  refine KOps.move ?_
  refine KOps.extract ?_
  refine KOps.extract ?_
  refine KOps.extract ?_
  refine KOps.assign ?_
  refine KOps.assign ?_
  refine KOps.assign ?_
  refine KOps.done ?_
  refine sqQ.normal ?_
  refine KA.sub (Sub.cons (t := 1) Look.eq (Sub.cons (t := 2) Look.eq (Sub.cons (t := 3) Look.eq (Sub.cons (t := 4) Look.eq (Sub.cons (t := 5) Look.eq (Sub.cons (t := 6) Look.eq (Sub.cons (t := 7) Look.eq (Sub.cons (t := 8) Look.eq (Sub.cons (t := 9) Look.eq (Sub.cons (t := 10) Look.eq (Sub.cons (t := 11) Look.eq (Sub.cons (t := 12) Look.eq (Sub.cons (t := 13) Look.eq (Sub.cons (t := 14) Look.eq (Sub.cons (t := 15) Look.eq (Sub.cons (t := 16) Look.eq (Sub.cons (t := 17) Look.eq (Sub.cons (t := 18) Look.eq (Sub.cons (t := 19) Look.eq (Sub.cons (t := 20) Look.eq (Sub.nil _))))))))))))))))))))) ?_
  refine KA.seq ?_
  refine KA.region rfl ?_
  refine KOps.call rfl (mostP_c (hTab.ext hS.keeps)) ?_
  rintro _ hx ⟨rfl, hK⟩
  have hS0 : St _ _ _ := St.trans hS (St.ofK hK)
  clear hS
  have hS := hS0
  clear hS0
  simp only [List.nil_append] at hS
  refine KOps.move ?_
  refine KOps.extract ?_
  refine KOps.extract ?_
  refine KOps.assign ?_
  refine KOps.assign ?_
  refine KOps.done ?_
  refine sqQ.normal ?_
  refine KA.sub (Sub.cons (t := 1) Look.eq (Sub.cons (t := 2) Look.eq (Sub.cons (t := 3) Look.eq (Sub.cons (t := 4) Look.eq (Sub.cons (t := 5) Look.eq (Sub.cons (t := 6) Look.eq (Sub.cons (t := 7) Look.eq (Sub.cons (t := 8) Look.eq (Sub.cons (t := 9) Look.eq (Sub.cons (t := 10) Look.eq (Sub.cons (t := 11) Look.eq (Sub.cons (t := 12) Look.eq (Sub.cons (t := 13) Look.eq (Sub.cons (t := 14) Look.eq (Sub.cons (t := 15) Look.eq (Sub.cons (t := 16) Look.eq (Sub.cons (t := 17) Look.eq (Sub.cons (t := 18) Look.eq (Sub.cons (t := 19) Look.eq (Sub.cons (t := 20) Look.eq (Sub.cons (t := 21) Look.eq (Sub.cons (t := 22) Look.eq (Sub.nil _))))))))))))))))))))))) ?_
  refine KA.seq ?_
  refine KA.region rfl ?_
  refine KOps.call rfl (comPF_c) ?_
  rintro _ _ ⟨rfl, rfl⟩
  refine KOps.move ?_
  refine KOps.extract ?_
  refine KOps.extract ?_
  refine KOps.assign ?_
  refine KOps.assign ?_
  refine KOps.done ?_
  refine sqQ.normal ?_
  refine KA.sub (Sub.cons (t := 1) Look.eq (Sub.cons (t := 2) Look.eq (Sub.cons (t := 3) Look.eq (Sub.cons (t := 4) Look.eq (Sub.cons (t := 5) Look.eq (Sub.cons (t := 6) Look.eq (Sub.cons (t := 7) Look.eq (Sub.cons (t := 8) Look.eq (Sub.cons (t := 9) Look.eq (Sub.cons (t := 10) Look.eq (Sub.cons (t := 11) Look.eq (Sub.cons (t := 12) Look.eq (Sub.cons (t := 13) Look.eq (Sub.cons (t := 14) Look.eq (Sub.cons (t := 15) Look.eq (Sub.cons (t := 16) Look.eq (Sub.cons (t := 17) Look.eq (Sub.cons (t := 18) Look.eq (Sub.cons (t := 19) Look.eq (Sub.cons (t := 20) Look.eq (Sub.cons (t := 21) Look.eq (Sub.cons (t := 22) Look.eq (Sub.cons (t := 24) Look.eq (Sub.nil _)))))))))))))))))))))))) ?_
  refine KA.seq ?_
  refine KA.region rfl ?_
  refine KOps.call rfl (restPF_c) ?_
  rintro _ _ ⟨rfl, rfl⟩
  refine KOps.move ?_
  refine KOps.extract ?_
  refine KOps.extract ?_
  refine KOps.assign ?_
  refine KOps.assign ?_
  refine KOps.done ?_
  refine sqQ.normal ?_
  refine KA.sub (Sub.cons (t := 1) Look.eq (Sub.cons (t := 2) Look.eq (Sub.cons (t := 3) Look.eq (Sub.cons (t := 4) Look.eq (Sub.cons (t := 5) Look.eq (Sub.cons (t := 6) Look.eq (Sub.cons (t := 7) Look.eq (Sub.cons (t := 8) Look.eq (Sub.cons (t := 9) Look.eq (Sub.cons (t := 10) Look.eq (Sub.cons (t := 11) Look.eq (Sub.cons (t := 12) Look.eq (Sub.cons (t := 13) Look.eq (Sub.cons (t := 14) Look.eq (Sub.cons (t := 15) Look.eq (Sub.cons (t := 16) Look.eq (Sub.cons (t := 17) Look.eq (Sub.cons (t := 18) Look.eq (Sub.cons (t := 19) Look.eq (Sub.cons (t := 20) Look.eq (Sub.cons (t := 21) Look.eq (Sub.cons (t := 22) Look.eq (Sub.cons (t := 24) Look.eq (Sub.cons (t := 26) Look.eq (Sub.nil _))))))))))))))))))))))))) ?_
  refine KA.seq ?_
  refine KA.region rfl ?_
  refine KOps.move ?_
  refine KOps.eqlY (k_chk) ?_
  refine KOps.move ?_
  refine KOps.guardYes (dj := 81) rfl rfl ?_
  refine KOps.move ?_
  refine KOps.guardYes (dj := 81) rfl rfl ?_
  refine KOps.eqlY (k_se) ?_
  refine KOps.pickT ?_
  refine KOps.move ?_
  refine KOps.guardYes (dj := 85) rfl rfl ?_
  refine KOps.move ?_
  refine KOps.guardYes (dj := 85) rfl rfl ?_
  refine KOps.eqlY (k_le) ?_
  refine KOps.pickT ?_
  refine KOps.move ?_
  refine KOps.guardYes (dj := 89) rfl rfl ?_
  refine KOps.move ?_
  refine KOps.guardYes (dj := 89) rfl rfl ?_
  refine KOps.eqlY (codeE_nat (a := 4) (b := 0) (by decide) (by decide)) ?_
  refine KOps.pickT ?_
  refine KOps.move ?_
  refine KOps.guardYes (dj := 93) rfl rfl ?_
  refine KOps.move ?_
  refine KOps.guardYes (dj := 93) rfl rfl ?_
  refine KOps.eqlY (codeE_nat (a := 10) (b := 0) (by decide) (by decide)) ?_
  refine KOps.pickT ?_
  refine KOps.move ?_
  refine KOps.guardYes (dj := 97) rfl rfl ?_
  refine KOps.move ?_
  refine KOps.guardYes (dj := 97) rfl rfl ?_
  refine KOps.eqlY (k_ask) ?_
  refine KOps.pickT ?_
  refine KOps.move ?_
  refine KOps.guardYes (dj := 101) rfl rfl ?_
  refine KOps.move ?_
  refine KOps.guardYes (dj := 101) rfl rfl ?_
  refine KOps.eqlY (k_rest.1) ?_
  refine KOps.pickT ?_
  refine KOps.move ?_
  refine KOps.guardYes (dj := 105) rfl rfl ?_
  refine KOps.move ?_
  refine KOps.guardYes (dj := 105) rfl rfl ?_
  refine KOps.eqlY (k_com.1) ?_
  refine KOps.pickT ?_
  refine KOps.move ?_
  refine KOps.guardYes (dj := 109) rfl rfl ?_
  refine KOps.move ?_
  refine KOps.guardYes (dj := 109) rfl rfl ?_
  refine KOps.eqlY (rfl) ?_
  refine KOps.pickT ?_
  refine KOps.move ?_
  refine KOps.guardYes (dj := 113) rfl rfl ?_
  refine KOps.move ?_
  refine KOps.guardYes (dj := 113) rfl rfl ?_
  refine KOps.eqlY (k_most.1) ?_
  refine KOps.pickT ?_
  refine KOps.move ?_
  refine KOps.guardYes (dj := 117) rfl rfl ?_
  refine KOps.move ?_
  refine KOps.guardYes (dj := 117) rfl rfl ?_
  refine KOps.eqlY (k_com12) ?_
  refine KOps.pickT ?_
  refine KOps.move ?_
  refine KOps.guardYes (dj := 121) rfl rfl ?_
  refine KOps.move ?_
  refine KOps.guardYes (dj := 121) rfl rfl ?_
  refine KOps.eqlY (k_rest5) ?_
  refine KOps.pickT ?_
  refine KOps.move ?_
  refine KOps.guardYes (dj := 125) rfl rfl ?_
  refine KOps.move ?_
  refine KOps.guardYes (dj := 125) rfl rfl ?_
  refine KOps.eqlY (by rw [k_wt]; rfl) ?_
  refine KOps.pickT ?_
  refine KOps.move ?_
  refine KOps.guardYes (dj := 129) rfl rfl ?_
  refine KOps.move ?_
  refine KOps.guardYes (dj := 129) rfl rfl ?_
  refine KOps.eqlY (by rw [k_cls]; rfl) ?_
  refine KOps.pickT ?_
  refine KOps.move ?_
  refine KOps.guardYes (dj := 133) rfl rfl ?_
  refine KOps.move ?_
  refine KOps.guardYes (dj := 133) rfl rfl ?_
  refine KOps.buildSlice hS rfl (by decide) rfl ?_
  intro v135 h' hS
  refine KOps.guardYes (dj := 133) rfl rfl ?_
  refine KOps.call rfl (list_c) ?_
  rintro _ _ ⟨rfl, rfl⟩
  refine KOps.guardYes (dj := 133) rfl rfl ?_
  refine KOps.call rfl (same_t (l := (shortS (wd [false, true, true, false]))) (m := [[false, true, false], [false, true, true], [true, true, false]]) (hS.rd 5 rfl) (hS.rd 0 rfl) (by rw [k_s]; decide) k_s) ?_
  rintro _ _ ⟨rfl, rfl⟩
  refine KOps.pickT ?_
  refine KOps.move ?_
  refine KOps.guardYes (dj := 139) rfl rfl ?_
  refine KOps.move ?_
  refine KOps.guardYes (dj := 139) rfl rfl ?_
  refine KOps.buildSlice hS rfl (by decide) rfl ?_
  intro v141 h' hS
  refine KOps.guardYes (dj := 139) rfl rfl ?_
  refine KOps.call rfl (list_c) ?_
  rintro _ _ ⟨rfl, rfl⟩
  refine KOps.guardYes (dj := 139) rfl rfl ?_
  refine KOps.call rfl (same_t (l := (longS (wd [false, true]))) (m := [[false, false, true], [false, true, false], [false, true, true], [true, false, true]]) (hS.rd 5 rfl) (hS.rd 0 rfl) (by rw [k_l]; decide) k_l) ?_
  rintro _ _ ⟨rfl, rfl⟩
  refine KOps.pickT ?_
  refine KOps.move ?_
  refine KOps.guardYes (dj := 145) rfl rfl ?_
  refine KOps.move ?_
  refine KOps.guardYes (dj := 145) rfl rfl ?_
  refine KOps.buildSlice hS rfl (by decide) rfl ?_
  intro v147 h' hS
  refine KOps.guardYes (dj := 145) rfl rfl ?_
  refine KOps.call rfl (list_c) ?_
  rintro _ _ ⟨rfl, rfl⟩
  refine KOps.guardYes (dj := 145) rfl rfl ?_
  refine KOps.call rfl (same_t (l := (codeS 4 0)) (m := [[false, false, false, false], [false, true, true, false], [true, false, false, true], [true, true, true, true]]) (hS.rd 5 rfl) (hS.rd 0 rfl) (by rw [k_c]; decide) k_c) ?_
  rintro _ _ ⟨rfl, rfl⟩
  refine KOps.pickT ?_
  refine KOps.move ?_
  refine KOps.guardYes (dj := 151) rfl rfl ?_
  refine KOps.move ?_
  refine KOps.guardYes (dj := 151) rfl rfl ?_
  refine KOps.eqlY (k_n) ?_
  refine KOps.pickT ?_
  refine KOps.move ?_
  refine KOps.guardYes (dj := 155) rfl rfl ?_
  refine KOps.move ?_
  refine KOps.guardYes (dj := 155) rfl rfl ?_
  refine KOps.buildSlice hS rfl (by decide) rfl ?_
  intro v157 h' hS
  refine KOps.guardYes (dj := 155) rfl rfl ?_
  refine KOps.call rfl (list_c) ?_
  rintro _ _ ⟨rfl, rfl⟩
  refine KOps.guardYes (dj := 155) rfl rfl ?_
  refine KOps.call rfl (same_t (l := (cutS 3 (wd [false, true, true, false]))) (m := [[false, true, false], [false, true, true], [true, true, false]]) (hS.rd 5 rfl) (hS.rd 0 rfl) (by rw [k_cut]; decide) k_cut) ?_
  rintro _ _ ⟨rfl, rfl⟩
  refine KOps.pickT ?_
  refine KOps.move ?_
  refine KOps.guardYes (dj := 161) rfl rfl ?_
  refine KOps.move ?_
  refine KOps.guardYes (dj := 161) rfl rfl ?_
  refine KOps.wEqlY k_rest.2 ?_
  refine KOps.pickT ?_
  refine KOps.move ?_
  refine KOps.guardYes (dj := 165) rfl rfl ?_
  refine KOps.move ?_
  refine KOps.guardYes (dj := 165) rfl rfl ?_
  refine KOps.wEqlY k_com.2 ?_
  refine KOps.pickT ?_
  refine KOps.move ?_
  refine KOps.guardYes (dj := 169) rfl rfl ?_
  refine KOps.move ?_
  refine KOps.guardYes (dj := 169) rfl rfl ?_
  refine KOps.eqlY (rfl) ?_
  refine KOps.pickT ?_
  refine KOps.move ?_
  refine KOps.guardYes (dj := 173) rfl rfl ?_
  refine KOps.move ?_
  refine KOps.guardYes (dj := 173) rfl rfl ?_
  refine KOps.eqlY (rfl) ?_
  refine KOps.pickT ?_
  refine KOps.move ?_
  refine KOps.guardYes (dj := 177) rfl rfl ?_
  refine KOps.move ?_
  refine KOps.guardYes (dj := 177) rfl rfl ?_
  refine KOps.eqlY (by rw [k_most.2]; rfl) ?_
  refine KOps.pickT ?_
  refine KOps.assign ?_
  refine KOps.done ?_
  refine sqQ.normal ?_
  refine KA.sub (Sub.cons (t := 0) Look.eq (Sub.nil _)) ?_
  refine KA.ret ?_
  refine fnQ.ret1 ?_
  exact ⟨rfl, hS.keeps⟩

end Go.Am
