/-
  The abstract machine: tables of numbers, owned and read.
  Conditions: none.
-/
import Derived.Test.YtenkokebdgekbaaAm26
namespace Go.Am

/-- The rows of a table, owned. -/
def rowObjs (tp : Bool) (vs : List AV) (ps : List (List Int)) : List Obj := List.zipWith (fun v p => ⟨v, 1, ints p, tp⟩) vs ps
/-- A table, owned. -/
def matObjs (tp : Bool) (vo : AV) (vs : List AV) (ps : List (List Int)) : List Obj := ⟨vo, 1, vs, true⟩ :: rowObjs tp vs ps

/-- A table that may be read. -/
def Mat (h : AHeap) (v : AV) (ll : List (List Int)) : Prop := ∃ vs : List AV, Rd h v 1 vs ∧ vs.length = ll.length ∧ ∀ i, i < ll.length → Row h (vs.getD i .bot) (ll.getD i [])

theorem Mat.ext {h0 h : AHeap} (k : Keeps h0 h) {v : AV} {ll : List (List Int)} (hm : Mat h0 v ll) : Mat h v ll := by
  obtain ⟨vs, h1, h2, h3⟩ := hm
  exact ⟨vs, h1.ext k, h2, fun i hi => (h3 i hi).ext k⟩

theorem rowObjs_get {tp : Bool} {vs : List AV} {ps : List (List Int)} (hl : vs.length = ps.length) {i : Nat} (hi : i < ps.length) : (rowObjs tp vs ps)[i]? = some ⟨vs.getD i .bot, 1, ints (ps.getD i []), tp⟩ := by
  rw [rowObjs, List.getElem?_zipWith, List.getElem?_eq_getElem (by omega : i < vs.length), List.getElem?_eq_getElem hi]
  simp [List.getD_eq_getElem?_getD, List.getElem?_eq_getElem (by omega : i < vs.length), List.getElem?_eq_getElem hi]

theorem rowObjs_set {tp : Bool} {vs : List AV} {ps : List (List Int)} (hl : vs.length = ps.length) (i : Nat) (v : AV) (p : List Int) : (rowObjs tp vs ps).set i ⟨v, 1, ints p, tp⟩ = rowObjs tp (vs.set i v) (ps.set i p) := by
  apply List.ext_getElem?
  intro j
  simp only [rowObjs]
  rw [List.getElem?_set, List.getElem?_zipWith, List.getElem?_zipWith, List.getElem?_set, List.getElem?_set]
  simp only [List.length_zipWith]
  by_cases hij : i = j
  · subst hij
    simp only [if_true]
    by_cases hi : i < vs.length
    · rw [if_pos (by omega), if_pos hi, if_pos (by omega)]
    · rw [if_neg (by omega), if_neg hi]
  · simp only [if_neg hij]

theorem St.tail {h0 h : AHeap} {o : Obj} {objs : List Obj} (st : St h0 h (o :: objs)) : St h0 h objs := by
  obtain ⟨k, fs, hl, hm, hd, hb⟩ := st
  cases fs with
  | nil => cases hl
  | cons f fs =>
    refine ⟨k, fs, by simpa using hl, ?_, ?_, ?_⟩
    · intro i o' F ho hF
      exact hm (i + 1) o' F (by simpa using ho) (by simpa using hF)
    · intro i j F hi hj
      have := hd (i + 1) (j + 1) F (by simpa using hi) (by simpa using hj)
      omega
    · intro i F hi
      exact hb (i + 1) F (by simpa using hi)

/-- A nil slice is had for nothing. -/
theorem St.addNil {h0 h : AHeap} {objs : List Obj} (s : Nat) (tip : Bool) (st : St h0 h objs) : St h0 h (objs ++ [⟨.nils, s, [], tip⟩]) := by
  obtain ⟨k, fs, hl, hm, hd, hb⟩ := st
  refine ⟨k, fs ++ [none], by simp [hl], ?_, ?_, ?_⟩
  · intro i o F ho hF
    rw [List.getElem?_append] at ho hF
    rw [hl] at hF
    split at ho
    · rename_i hi; rw [if_pos hi] at hF; exact hm i o F ho hF
    · rename_i hi
      rw [if_neg hi] at hF
      cases hq : i - objs.length with
      | zero =>
        rw [hq] at ho hF
        simp only [List.getElem?_cons_zero, Option.some.injEq] at ho hF
        subst ho hF
        exact ⟨rfl, rfl⟩
      | succ q => rw [hq] at ho; simp at ho
  · intro i j F hi hj
    have h1 : fs[i]? = some (some F) := by
      rw [List.getElem?_append] at hi
      split at hi
      · exact hi
      · cases hq : i - fs.length with
        | zero => rw [hq] at hi; simp at hi
        | succ q => rw [hq] at hi; simp at hi
    have h2 : fs[j]? = some (some F) := by
      rw [List.getElem?_append] at hj
      split at hj
      · exact hj
      · cases hq : j - fs.length with
        | zero => rw [hq] at hj; simp at hj
        | succ q => rw [hq] at hj; simp at hj
    exact hd i j F h1 h2
  · intro i F hi
    rw [List.getElem?_append] at hi
    split at hi
    · exact hb i F hi
    · cases hq : i - fs.length with
      | zero => rw [hq] at hi; simp at hi
      | succ q => rw [hq] at hi; simp at hi

section
variable {P : Program} {n : Nat} {ops : Array Oper} {ex : List Nat} {Q : KF → AHeap → Prop} {k : Nat} {os : List Oper} {K : KF} {h h0 : AHeap} {d : Nat} {ty : TypeId} {pos : String} {after : Array Edge} {objs : List Obj}
theorem KOps.lenV {x : Operand} {v : AV} {t e : TypeId} {xs zs : List AV} [hx : EvK h.globs n K x v] [ht : SlT P t e 1 zs] (hr : Rd h v 1 xs) (hk : KOps P n ops ex Q (k + 1) os ((d, .int .i64 xs.length) :: K) h) :
    KOps P n ops ex Q k (⟨some d, .call { callee := .builtin .len, args := #[x], argTypes := #[t] }, ty, pos, after, none⟩ :: os) K h :=
  KOps.len (e := e) (zs := zs) (m := xs.length) hr (by simp) hk
theorem KOps.indexV {x ix : Operand} {v : AV} {t e : TypeId} {xs zs : List AV} {kd : IntKind} {i : Int} [hx : EvK h.globs n K x v] [hi : EvK h.globs n K ix (.int kd i)] [ht : SlT P t e 1 zs] (hr : Rd h v 1 xs) (h0 : 0 ≤ i) (hlt : i < xs.length)
    (hk : ∀ p, AddrOf p v 1 i.toNat → KOps P n ops ex Q (k + 1) os ((d, p) :: K) h) : KOps P n ops ex Q k (⟨some d, .indexAddr t x ix, ty, pos, after, none⟩ :: os) K h :=
  KOps.indexAddr (e := e) (zs := zs) (m := xs.length) hr (by simp) h0 hlt (fun p hp => hk p (by simpa using hp))
theorem KOps.loadV {x : Operand} {p v : AV} {t : TypeId} {j : Nat} {xs : List AV} [hx : EvK h.globs n K x p] [ht : ScT P t] (ha : AddrOf p v 1 j) (hr : Rd h v 1 xs) (hj : j < xs.length) (hk : KOps P n ops ex Q (k + 1) os ((d, xs.getD j .bot) :: K) h) :
    KOps P n ops ex Q k (⟨some d, .load t x, ty, pos, after, none⟩ :: os) K h :=
  KOps.load ha hr (by simp [List.getElem?_eq_getElem hj, List.getD_eq_getElem?_getD]) hk
end

/-- Where ways meet. -/
def mtQ {X : Type} (pat : X → KF) (I : X → AHeap → Prop) (Q : Ex → KF → AHeap → Prop) (e : Ex) (K : KF) (h : AHeap) : Prop := match e with | .normal => ∃ x, Sub (pat x) K ∧ I x h | e => Q e K h
theorem mtQ.normal {X : Type} {pat : X → KF} {I : X → AHeap → Prop} {Q : Ex → KF → AHeap → Prop} {K : KF} {h : AHeap} (x : X) (hs : Sub (pat x) K) (hI : I x h) : mtQ pat I Q .normal K h := ⟨x, hs, hI⟩
theorem mtQ.ret {X : Type} {pat : X → KF} {I : X → AHeap → Prop} {Q : Ex → KF → AHeap → Prop} {K : KF} {h : AHeap} (hq : Q .ret K h) : mtQ pat I Q .ret K h := hq
theorem mtQ.exit {X : Type} {pat : X → KF} {I : X → AHeap → Prop} {Q : Ex → KF → AHeap → Prop} {K : KF} {h : AHeap} {id : Nat} (hq : Q (.exit id) K h) : mtQ pat I Q (.exit id) K h := hq
theorem KA.meet {P : Program} {n : Nat} {c d : Code} {Q : Ex → KF → AHeap → Prop} {K : KF} {h : AHeap} {X : Type} (pat : X → KF) (I : X → AHeap → Prop) (hc : KA P n c (mtQ pat I Q) K h) (hd : ∀ x h, I x h → KA P n d Q (pat x) h) : KA P n (.seq c d) Q K h := by
  refine KA.seq (hc.mono ?_)
  intro e K h q
  cases e with
  | normal => obtain ⟨x, hs, hI⟩ := q; exact KA.sub hs (hd x h hI)
  | ret => exact q
  | exit id => exact q

theorem rowObjs_snoc {tp : Bool} {vs : List AV} {ps : List (List Int)} (hl : vs.length = ps.length) (v : AV) (p : List Int) : rowObjs tp vs ps ++ [⟨v, 1, ints p, tp⟩] = rowObjs tp (vs ++ [v]) (ps ++ [p]) := by
  simp [rowObjs, List.zipWith_append hl]
theorem rowObjs_length {tp : Bool} {vs : List AV} {ps : List (List Int)} (hl : vs.length = ps.length) : (rowObjs tp vs ps).length = ps.length := by simp [rowObjs]; omega

theorem rowObjs_getA {tp : Bool} {vs : List AV} {ps : List (List Int)} {rest : List Obj} (hl : vs.length = ps.length) {i : Nat} (hi : i < ps.length) : (rowObjs tp vs ps ++ rest)[i]? = some ⟨vs.getD i .bot, 1, ints (ps.getD i []), tp⟩ := by
  rw [List.getElem?_append_left (by rw [rowObjs_length hl]; exact hi), rowObjs_get hl hi]
theorem rowObjs_setA {tp : Bool} {vs : List AV} {ps : List (List Int)} {rest : List Obj} (hl : vs.length = ps.length) {i : Nat} (hi : i < ps.length) (v : AV) (p : List Int) : (rowObjs tp vs ps ++ rest).set i ⟨v, 1, ints p, tp⟩ = rowObjs tp (vs.set i v) (ps.set i p) ++ rest := by
  rw [List.set_append_left _ _ (by rw [rowObjs_length hl]; exact hi), rowObjs_set hl]

theorem obj_eq {objs : List Obj} {k : Nat} {o : Obj} (h : objs[k]? = some o) : objs.set k o = objs := by
  have hk := (List.getElem?_eq_some_iff.1 h).1
  apply List.ext_getElem?
  intro j
  rw [List.getElem?_set]
  by_cases hj : k = j
  · subst hj; rw [if_pos rfl, if_pos hk]; exact h.symm
  · rw [if_neg hj]

/-- Owned objects have no order. -/
theorem St.perm {h0 h : AHeap} {objs objs' : List Obj} (hp : objs.Perm objs') (st : St h0 h objs) : St h0 h objs' := by
  have key : ∀ {l l' : List Obj}, l.Perm l' → ∃ σ : List Nat, σ.Nodup ∧ (∀ i ∈ σ, i < l.length) ∧ σ.map (fun i => l[i]?) = l'.map some := by
    intro l l' hp
    induction hp with
    | nil => exact ⟨[], by simp, by simp, rfl⟩
    | @cons x l l' _ ih =>
      obtain ⟨σ, h1, h2, h3⟩ := ih
      refine ⟨0 :: σ.map (· + 1), ?_, ?_, ?_⟩
      · refine List.nodup_cons.2 ⟨by simp, ?_⟩
        exact List.pairwise_map.2 (h1.imp (fun h => by omega))
      · intro i hi
        rcases List.mem_cons.1 hi with rfl | hi
        · simp
        · obtain ⟨j, hj, rfl⟩ := List.mem_map.1 hi
          have := h2 j hj
          simp; omega
      · simp only [List.map_cons, List.getElem?_cons_zero, List.map_map, List.cons.injEq, true_and]
        rw [← h3]
        apply List.map_congr_left
        intro i _
        simp
    | swap x y l =>
      refine ⟨1 :: 0 :: (List.range l.length).map (· + 2), ?_, ?_, ?_⟩
      · refine List.nodup_cons.2 ⟨by simp, List.nodup_cons.2 ⟨by simp, ?_⟩⟩
        exact List.pairwise_map.2 (List.nodup_range.imp (fun h => by omega))
      · intro i hi
        simp only [List.mem_cons, List.mem_map, List.mem_range] at hi
        rcases hi with rfl | rfl | ⟨j, hj, rfl⟩ <;> simp
        exact hj
      · simp only [List.map_cons, List.getElem?_cons_succ, List.getElem?_cons_zero, List.map_map, List.cons.injEq, true_and]
        apply List.ext_getElem?
        intro i
        simp only [List.getElem?_map]
        by_cases hi : i < l.length
        · rw [List.getElem?_range hi, List.getElem?_eq_getElem hi]; simp [List.getElem?_eq_getElem hi]
        · rw [List.getElem?_eq_none (by simp; omega), List.getElem?_eq_none (by omega)]; rfl
    | @trans a b c _ _ ih1 ih2 =>
      obtain ⟨σ, h1, h2, h3⟩ := ih1
      obtain ⟨τ, k1, k2, k3⟩ := ih2
      have hl : σ.length = b.length := by have := congrArg List.length h3; simpa using this
      have hg : ∀ j, j < b.length → a[σ.getD j 0]? = b[j]? := by
        intro j hj
        have := congrArg (fun l => l[j]?) h3
        simp only [List.getElem?_map, List.getElem?_eq_getElem (show j < σ.length by omega), List.getElem?_eq_getElem hj, Option.map_some, Option.some.injEq] at this
        rw [List.getD_eq_getElem?_getD, List.getElem?_eq_getElem (show j < σ.length by omega), Option.getD_some, this, List.getElem?_eq_getElem hj]
      refine ⟨τ.map (fun j => σ.getD j 0), ?_, ?_, ?_⟩
      · refine List.pairwise_map.2 ?_
        refine List.Pairwise.imp_of_mem ?_ k1
        intro x y hx hy hne he
        have hx' := k2 x hx
        have hy' := k2 y hy
        rw [List.getD_eq_getElem?_getD, List.getD_eq_getElem?_getD, List.getElem?_eq_getElem (by omega), List.getElem?_eq_getElem (by omega), Option.getD_some, Option.getD_some] at he
        exact hne (nodup_inj h1 (List.getElem?_eq_getElem (by omega)) (by rw [List.getElem?_eq_getElem (show y < σ.length by omega), he]))
      · intro i hi
        obtain ⟨j, hj, rfl⟩ := List.mem_map.1 hi
        have hj' := k2 j hj
        rw [List.getD_eq_getElem?_getD, List.getElem?_eq_getElem (by omega), Option.getD_some]
        exact h2 _ (List.getElem_mem _)
      · rw [List.map_map, ← k3]
        apply List.map_congr_left
        intro j hj
        exact hg j (k2 j hj)
  obtain ⟨σ, h1, _, h3⟩ := key hp
  exact st.pick σ h1 h3
theorem St.rot {h0 h : AHeap} {A B : List Obj} (st : St h0 h (A ++ B)) : St h0 h (B ++ A) := st.perm List.perm_append_comm
theorem St.drop {h0 h : AHeap} {A B : List Obj} (st : St h0 h (A ++ B)) : St h0 h B := by
  induction A with
  | nil => exact st
  | cons o A ih => exact ih (St.tail st)
theorem St.keep {h0 h : AHeap} {A B : List Obj} (st : St h0 h (A ++ B)) : St h0 h A := St.drop st.rot
theorem St.out {h0 h : AHeap} {A B : List Obj} {o : Obj} (st : St h0 h (A ++ o :: B)) : St h0 h (A ++ B) := by
  have h1 : St h0 h ([o] ++ (B ++ A)) := St.rot (A := A) (B := o :: B) st
  exact St.rot (St.drop h1)
/-- A nil slice in front. -/
theorem St.nil {h0 h : AHeap} {objs : List Obj} (st : St h0 h objs) (s : Nat) : St h0 h (⟨.nils, s, [], true⟩ :: objs) := St.rot (A := objs) (B := [⟨.nils, s, [], true⟩]) (St.addNil s true st)
/-- A nil table in front. -/
theorem St.nilT {h0 h : AHeap} {objs : List Obj} (st : St h0 h objs) (tp : Bool) : St h0 h (matObjs tp .nils [] [] ++ objs) := St.nil st 1

theorem View.one {v : AV} {s b o len : Nat} (h : View v s b o len) : v.one = true := by
  rcases h with ⟨_, _, rfl, _⟩ | ⟨_, rfl⟩ <;> rfl
theorem St.one {h0 h : AHeap} {objs : List Obj} (st : St h0 h objs) {k : Nat} {o : Obj} (hk : objs[k]? = some o) : o.v.one = true := by
  rcases st.rd k hk with ⟨h1, _⟩ | ⟨_, _, _, _, _, h1, _⟩
  · rw [h1]; rfl
  · exact h1.one
theorem Rd.one {h : AHeap} {v : AV} {s : Nat} {xs : List AV} (hr : Rd h v s xs) : v.one = true := by
  rcases hr with ⟨h1, _⟩ | ⟨_, _, _, _, _, h1, _⟩
  · rw [h1]; rfl
  · exact h1.one

/-- Tables: the outer slice, and the rows. -/
theorem St.outer {h0 h : AHeap} {tp : Bool} {vo : AV} {vs : List AV} {ps : List (List Int)} {pre rest : List Obj} (st : St h0 h (pre ++ (matObjs tp vo vs ps ++ rest))) : Rd h vo 1 vs := St.rd (St.drop st) 0 (o := ⟨vo, 1, vs, true⟩) rfl
theorem St.rowAt {h0 h : AHeap} {tp : Bool} {vo : AV} {vs : List AV} {ps : List (List Int)} {pre rest : List Obj} (st : St h0 h (pre ++ (matObjs tp vo vs ps ++ rest))) (hl : vs.length = ps.length) {k : Nat} (hk : k < ps.length) : Row h (vs.getD k .bot) (ps.getD k []) :=
  St.rd (St.drop st) (k + 1) (o := ⟨vs.getD k .bot, 1, ints (ps.getD k []), tp⟩) (rowObjs_getA hl hk)
theorem St.mat {h0 h : AHeap} {tp : Bool} {vo : AV} {vs : List AV} {ps : List (List Int)} {pre rest : List Obj} (hl : vs.length = ps.length) (st : St h0 h (pre ++ (matObjs tp vo vs ps ++ rest))) : Mat h vo ps :=
  ⟨vs, st.outer, hl, fun _ hi => st.rowAt hl hi⟩

theorem getDL_mem {l : List (List Int)} {i : Nat} (h : i < l.length) : l.getD i [] ∈ l := by
  rw [List.getD_eq_getElem?_getD, List.getElem?_eq_getElem h]; exact List.getElem_mem h

section
variable {P : Program} {n : Nat} {ops : Array Oper} {ex : List Nat} {Q : KF → AHeap → Prop} {k : Nat} {os : List Oper} {K : KF} {h h0 : AHeap} {d : Nat} {ty : TypeId} {pos : String} {after : Array Edge} {objs pre rest : List Obj}

/-- A number behind a row that is owned: the slice built for it is in front. -/
theorem KOps.appendI {t e : TypeId} {x y : Operand} {v u : AV} {i : Nat} {p : List Int} {c : Int} {zs : List AV} {tip tip' : Bool} [hx : EvK h.globs n K x v] [hy : EvK h.globs n K y u] [ht : SlT P t e 1 zs] (st : St h0 h (⟨u, 1, [.int .i64 c], tip'⟩ :: objs)) (hex : ex.contains k = true → tip = true) (hk' : objs[i]? = some ⟨v, 1, ints p, tip⟩) (hsz : p.length + 1 ≤ 4294967296)
    (hk : ∀ r h', r.one = true → St h0 h' (objs.set i ⟨r, 1, ints (p ++ [c]), tip⟩) → KOps P n ops ex Q (k + 1) os ((d, r) :: K) h') :
    KOps P n ops ex Q k (⟨some d, .call { callee := .builtin .append, args := #[x, y], argTypes := #[t, t] }, ty, pos, after, none⟩ :: os) K h := by
  refine KOps.append (e := e) (zs := zs) (s := 1) (i := i + 1) (a := p.length) (b := 1) (xs := ints p) (ys := [.int .i64 c]) (tip := tip) st hex (by simpa using hk') (by simp) (st.rd 0 rfl) rfl rfl hsz ?_
  intro r h' hS
  have hS' : St h0 h' (objs.set i ⟨r, 1, ints (p ++ [c]), tip⟩) := by
    have := St.tail hS
    simpa [ints] using this
  have hlt := (List.getElem?_eq_some_iff.1 hk').1
  exact hk r h' (hS'.one (k := i) (o := ⟨r, 1, ints (p ++ [c]), tip⟩) (by rw [List.getElem?_set, if_pos rfl, if_pos hlt])) hS'

/-- A row behind the rows of a table that is owned. -/
theorem KOps.appendNil {t e : TypeId} {x y : Operand} {vo u : AV} {vs : List AV} {ps : List (List Int)} {zs : List AV} {tp tip' : Bool} [hx : EvK h.globs n K x vo] [hy : EvK h.globs n K y u] [ht : SlT P t e 1 zs] (st : St h0 h (⟨u, 1, [.nils], tip'⟩ :: (pre ++ (matObjs tp vo vs ps ++ rest)))) (hl : vs.length = ps.length) (hsz : ps.length + 1 ≤ 4294967296)
    (hk : ∀ r h', r.one = true → St h0 h' (pre ++ (matObjs tp r (vs ++ [.nils]) (ps ++ [[]]) ++ rest)) → KOps P n ops ex Q (k + 1) os ((d, r) :: K) h') :
    KOps P n ops ex Q k (⟨some d, .call { callee := .builtin .append, args := #[x, y], argTypes := #[t, t] }, ty, pos, after, none⟩ :: os) K h := by
  refine KOps.append (e := e) (zs := zs) (s := 1) (i := pre.length + 1) (a := ps.length) (b := 1) (xs := vs) (ys := [.nils]) (tip := true) st (fun _ => rfl) ?_ (by omega) (st.rd 0 rfl) rfl rfl hsz ?_
  · rw [List.getElem?_cons_succ, List.getElem?_append_right (Nat.le_refl _), Nat.sub_self]; rfl
  intro r h' hS
  have hS1 : St h0 h' (pre ++ (⟨r, 1, vs ++ [.nils], true⟩ :: (rowObjs tp vs ps ++ rest))) := by
    have := St.tail hS
    rw [List.set_append_right _ _ (Nat.le_refl _), Nat.sub_self] at this
    exact this
  have hone := hS1.one (k := pre.length) (o := ⟨r, 1, vs ++ [.nils], true⟩) (by rw [List.getElem?_append_right (Nat.le_refl _), Nat.sub_self]; rfl)
  refine hk r h' hone ?_
  have h2 : St h0 h' ((pre ++ (⟨r, 1, vs ++ [.nils], true⟩ :: (rowObjs tp vs ps ++ rest))) ++ [⟨.nils, 1, [], tp⟩]) := St.addNil 1 tp hS1
  refine St.perm ?_ h2
  rw [matObjs, ← rowObjs_snoc hl]
  simp only [List.append_assoc, List.cons_append]
  refine List.Perm.append_left _ (List.Perm.cons _ (List.Perm.append_left _ ?_))
  exact List.perm_append_comm

/-- A row that is owned, put behind the rows of a table. -/
theorem KOps.appendRow {t e : TypeId} {x y : Operand} {vo u v : AV} {p : List Int} {vs : List AV} {ps : List (List Int)} {zs : List AV} {tp tip' : Bool} [hx : EvK h.globs n K x vo] [hy : EvK h.globs n K y u] [ht : SlT P t e 1 zs] (st : St h0 h (⟨u, 1, [v], tip'⟩ :: ⟨v, 1, ints p, tp⟩ :: (pre ++ (matObjs tp vo vs ps ++ rest)))) (hl : vs.length = ps.length) (hsz : ps.length + 1 ≤ 4294967296)
    (hk : ∀ r h', r.one = true → St h0 h' (pre ++ (matObjs tp r (vs ++ [v]) (ps ++ [p]) ++ rest)) → KOps P n ops ex Q (k + 1) os ((d, r) :: K) h') :
    KOps P n ops ex Q k (⟨some d, .call { callee := .builtin .append, args := #[x, y], argTypes := #[t, t] }, ty, pos, after, none⟩ :: os) K h := by
  have hv := st.one (k := 1) (o := ⟨v, 1, ints p, tp⟩) rfl
  refine KOps.append (e := e) (zs := zs) (s := 1) (i := pre.length + 2) (a := ps.length) (b := 1) (xs := vs) (ys := [v]) (tip := true) st (fun _ => rfl) ?_ (by omega) (st.rd 0 rfl) rfl (by simpa using hv) hsz ?_
  · rw [List.getElem?_cons_succ, List.getElem?_cons_succ, List.getElem?_append_right (Nat.le_refl _), Nat.sub_self]; rfl
  intro r h' hS
  have hS1 : St h0 h' (⟨v, 1, ints p, tp⟩ :: (pre ++ (⟨r, 1, vs ++ [v], true⟩ :: (rowObjs tp vs ps ++ rest)))) := by
    have := St.tail hS
    rw [List.set_cons_succ, List.set_append_right _ _ (Nat.le_refl _), Nat.sub_self] at this
    exact this
  have hone := (St.tail hS1).one (k := pre.length) (o := ⟨r, 1, vs ++ [v], true⟩) (by rw [List.getElem?_append_right (Nat.le_refl _), Nat.sub_self]; rfl)
  refine hk r h' hone (St.perm ?_ hS1)
  rw [matObjs, ← rowObjs_snoc hl]
  simp only [List.append_assoc, List.cons_append]
  refine List.Perm.trans (List.perm_middle.symm) (List.Perm.append_left _ ?_)
  refine List.Perm.trans (List.Perm.swap _ _ _) (List.Perm.cons _ ?_)
  simpa using (List.perm_middle (a := (⟨v, 1, ints p, tp⟩ : Obj)) (l₁ := rowObjs tp vs ps) (l₂ := rest)).symm

/-- A number behind a row of a table: the outer slice does not know it yet. -/
theorem KOps.appendAt {t e : TypeId} {x y : Operand} {vo u : AV} {vs : List AV} {ps : List (List Int)} {j : Nat} {c : Int} {zs : List AV} {tp tip' : Bool} [hx : EvK h.globs n K x (vs.getD j .bot)] [hy : EvK h.globs n K y u] [ht : SlT P t e 1 zs] (st : St h0 h (⟨u, 1, [.int .i64 c], tip'⟩ :: (pre ++ (matObjs tp vo vs ps ++ rest)))) (hex : ex.contains k = true → tp = true) (hl : vs.length = ps.length) (hj : j < ps.length) (hsz : (ps.getD j []).length + 1 ≤ 4294967296)
    (hk : ∀ r h', r.one = true → St h0 h' (pre ++ (⟨vo, 1, vs, true⟩ :: (rowObjs tp (vs.set j r) (ps.set j (ps.getD j [] ++ [c])) ++ rest))) → KOps P n ops ex Q (k + 1) os ((d, r) :: K) h') :
    KOps P n ops ex Q k (⟨some d, .call { callee := .builtin .append, args := #[x, y], argTypes := #[t, t] }, ty, pos, after, none⟩ :: os) K h := by
  refine KOps.appendI (e := e) (zs := zs) (i := pre.length + (j + 1)) (p := ps.getD j []) (tip := tp) st hex ?_ hsz ?_
  · rw [List.getElem?_append_right (by omega), Nat.add_sub_cancel_left]
    exact rowObjs_getA hl hj
  intro r h' ho hS
  refine hk r h' ho ?_
  rw [List.set_append_right _ _ (by omega), Nat.add_sub_cancel_left] at hS
  simp only [matObjs, List.cons_append, List.set_cons_succ] at hS
  rw [rowObjs_setA hl hj] at hS
  exact hS
/-- The outer slice is told of it. -/
theorem KOps.storeAt {t : TypeId} {x y : Operand} {p v vo : AV} {vs ws : List AV} {qs : List (List Int)} {j : Nat} {tp : Bool} [hx : EvK h.globs n K x p] [hy : EvK h.globs n K y v] [ht : ScT P t] (st : St h0 h (pre ++ (⟨vo, 1, vs, true⟩ :: (rowObjs tp ws qs ++ rest)))) (hex : ex.contains k = false) (ha : AddrOf p vo 1 j) (h1 : v.one = true) (hj : j < vs.length) (hw : ws = vs.set j v)
    (hk : ∀ h', St h0 h' (pre ++ (matObjs tp vo ws qs ++ rest)) → KOps P n ops ex Q (k + 1) os K h') : KOps P n ops ex Q k (⟨none, .store t x y, ty, pos, after, none⟩ :: os) K h := by
  refine KOps.store st hex (i := pre.length) (o := ⟨vo, 1, vs, true⟩) ?_ ha h1 hj ?_
  · rw [List.getElem?_append_right (Nat.le_refl _), Nat.sub_self]; rfl
  intro h' hS
  refine hk h' ?_
  rw [List.set_append_right _ _ (Nat.le_refl _), Nat.sub_self] at hS
  subst hw
  exact hS
/-- A number of a row of a table is changed. -/
theorem KOps.setAt {t : TypeId} {x y : Operand} {p vo : AV} {vs : List AV} {ps : List (List Int)} {i j : Nat} {c : Int} {tp : Bool} [hx : EvK h.globs n K x p] [hy : EvK h.globs n K y (.int .i64 c)] [ht : ScT P t] (st : St h0 h (pre ++ (matObjs tp vo vs ps ++ rest))) (hex : ex.contains k = false) (hl : vs.length = ps.length) (hi : i < ps.length) (ha : AddrOf p (vs.getD i .bot) 1 j) (hj : j < (ps.getD i []).length)
    (hk : ∀ h', St h0 h' (pre ++ (matObjs tp vo vs (ps.set i ((ps.getD i []).set j c)) ++ rest)) → KOps P n ops ex Q (k + 1) os K h') : KOps P n ops ex Q k (⟨none, .store t x y, ty, pos, after, none⟩ :: os) K h := by
  refine KOps.store st hex (i := pre.length + (i + 1)) (o := ⟨vs.getD i .bot, 1, ints (ps.getD i []), tp⟩) ?_ ha rfl (by simpa using hj) ?_
  · rw [List.getElem?_append_right (by omega), Nat.add_sub_cancel_left]
    exact rowObjs_getA hl hi
  intro h' hS
  refine hk h' ?_
  rw [List.set_append_right _ _ (by omega), Nat.add_sub_cancel_left] at hS
  simp only [matObjs, List.cons_append, List.set_cons_succ] at hS
  have e : (ints (ps.getD i [])).set j (.int .i64 c) = ints ((ps.getD i []).set j c) := by simp [ints, List.map_set]
  rw [e, rowObjs_setA hl hi] at hS
  have e2 : vs.set i (vs.getD i .bot) = vs := by
    rw [List.getD_eq_getElem?_getD, List.getElem?_eq_getElem (show i < vs.length by omega)]
    simp
  rw [e2] at hS
  exact hS
/-- A number of a row that is owned is changed. -/
theorem KOps.storeI {t : TypeId} {x y : Operand} {p v : AV} {i j : Nat} {c : Int} {l : List Int} {tip : Bool} [hx : EvK h.globs n K x p] [hy : EvK h.globs n K y (.int .i64 c)] [ht : ScT P t] (st : St h0 h objs) (hex : ex.contains k = false) (hk' : objs[i]? = some ⟨v, 1, ints l, tip⟩) (ha : AddrOf p v 1 j) (hj : j < l.length)
    (hk : ∀ h', St h0 h' (objs.set i ⟨v, 1, ints (l.set j c), tip⟩) → KOps P n ops ex Q (k + 1) os K h') : KOps P n ops ex Q k (⟨none, .store t x y, ty, pos, after, none⟩ :: os) K h := by
  refine KOps.store st hex hk' ha rfl (by simpa using hj) ?_
  intro h' hS
  refine hk h' ?_
  have e : (ints l).set j (.int .i64 c) = ints (l.set j c) := by simp [ints, List.map_set]
  simp only [e] at hS
  exact hS
/-- Places by natural numbers. -/
theorem KOps.indexIJ {x ix : Operand} {v : AV} {t e : TypeId} {α : Type} {f : α → AV} {l : List α} {zs : List AV} {kd : IntKind} {i : Int} {j : Nat} [hx : EvK h.globs n K x v] [hi : EvK h.globs n K ix (.int kd i)] [ht : SlT P t e 1 zs] (hr : Rd h v 1 (l.map f)) (hj : i = (j : Int)) (hlt : j < l.length)
    (hk : ∀ p, AddrOf p v 1 j → KOps P n ops ex Q (k + 1) os ((d, p) :: K) h) : KOps P n ops ex Q k (⟨some d, .indexAddr t x ix, ty, pos, after, none⟩ :: os) K h := by
  subst hj
  exact KOps.indexI (e := e) (zs := zs) (i := (j : Int)) hr (by omega) (by omega) (fun p hp => hk p (by simpa using hp))
theorem KOps.indexVJ {x ix : Operand} {v : AV} {t e : TypeId} {xs zs : List AV} {kd : IntKind} {i : Int} {j : Nat} [hx : EvK h.globs n K x v] [hi : EvK h.globs n K ix (.int kd i)] [ht : SlT P t e 1 zs] (hr : Rd h v 1 xs) (hj : i = (j : Int)) (hlt : j < xs.length)
    (hk : ∀ p, AddrOf p v 1 j → KOps P n ops ex Q (k + 1) os ((d, p) :: K) h) : KOps P n ops ex Q k (⟨some d, .indexAddr t x ix, ty, pos, after, none⟩ :: os) K h := by
  subst hj
  exact KOps.indexV (e := e) (zs := zs) (i := (j : Int)) hr (by omega) (by omega) (fun p hp => hk p (by simpa using hp))
theorem KOps.pickB {c x y : Operand} {b : Bool} {v w : AV} [hc : EvK h.globs n K c (.bool b)] [hx : EvK h.globs n K x v] [hy : EvK h.globs n K y w] (hk : KOps P n ops ex Q (k + 1) os ((d, if b then v else w) :: K) h) : KOps P n ops ex Q k (⟨some d, .pick c x y, ty, pos, after, none⟩ :: os) K h :=
  KOps.pure rfl (by simp only [apure, hc.eq, hx.eq, hy.eq]) hk
end

end Go.Am
