/-
  The abstract machine: rules for the operations that make, write and part memory.
  Conditions: none.
-/
import Derived.Test.YtenkokebdgekbaaAm23
namespace Go.Am

theorem AV.cells_one {v : AV} (h : v.one = true) : v.cells? = some [v] := by cases v <;> simp [AV.one, AV.cells?] at h ⊢

theorem partsA_one : ∀ (l : List AV), l.all AV.one = true → partsA 1 l = some l := by
  intro l
  induction l with
  | nil => intro _; rfl
  | cons v l ih =>
    intro h
    simp only [List.all_cons, Bool.and_eq_true] at h
    simp [partsA, AV.cells_one h.1, ih h.2]

theorem putL_one {α : Type} (xs : List α) (j : Nat) (v : α) (hj : j < xs.length) : putL xs j [v] = xs.set j v := by
  apply List.ext_getElem?
  intro i
  rw [putL_get _ _ _ (by simpa using Nat.succ_le_of_lt hj), List.getElem?_set]
  by_cases hi : j = i
  · subst hi; simp [hj]
  · rw [if_neg hi, if_neg (by simp; omega)]

class ZeT (P : Program) (t : TypeId) (zs : outParam (List AV)) : Prop where
  eq : ((zeroA P t).bind AV.cells?) = some zs

/-- r is v[lo:hi] (elements of s cells). -/
def PartOf (r v : AV) (s lo hi : Nat) : Prop := (r = .nils ∧ v = .nils ∧ lo = 0 ∧ hi = 0) ∨ ∃ b off n full full', v = .slc b off n s full ∧ r = .slc b (off + lo * s) (hi - lo) s full' ∧ hi ≤ n

theorem Rd.part {h : AHeap} {v r : AV} {s lo hi : Nat} {xs : List AV} (hr : Rd h v s xs) (hp : PartOf r v s lo hi) (hlo : lo ≤ hi) : Rd h r s ((xs.drop (lo * s)).take ((hi - lo) * s)) := by
  rcases hp with ⟨rfl, rfl, rfl, rfl⟩ | ⟨b, off, n, full, full', rfl, rfl, hn⟩
  · exact .inl ⟨rfl, by simp⟩
  · rcases hr with ⟨h0, _⟩ | ⟨b', o', F, q, cs, h1, h2, h3, h4⟩
    · cases h0
    · rcases h1 with ⟨n', full2, h5, h6, h7⟩ | ⟨_, h5⟩
      · cases h5
        have hle : hi * s ≤ n * s := Nat.mul_le_mul_right s hn
        have hsub : lo * s + (hi - lo) * s = hi * s := by rw [← Nat.add_mul]; congr 1; omega
        have hlen : ((xs.drop (lo * s)).take ((hi - lo) * s)).length = (hi - lo) * s := by
          rw [List.length_take, List.length_drop]; omega
        refine .inr ⟨b, off + lo * s, F, q, cs, .inl ⟨hi - lo, full', rfl, hlen, h7⟩, h2, h3, ?_⟩
        rw [hlen]
        conv => rhs; rw [← h4]
        apply List.ext_getElem?
        intro i
        simp only [List.getElem?_take, List.getElem?_drop]
        split
        · rw [if_pos (by omega), Nat.add_assoc]
        · rfl
      · cases h5

theorem Rd.slice {P : Program} {h : AHeap} {v : AV} {s m lo hi : Nat} {xs : List AV} {t e : TypeId} {zs : List AV} [ht : SlT P t e s zs] (hr : Rd h v s xs) (hm : xs.length = m * s) {l u x : Option AV} {z : Option Nat} (hb : aslice3 m l u x = some (lo, hi, z)) (hlo : lo ≤ hi) (hhi : hi ≤ m) :
    ∃ r, aslice P t v l u x = some r ∧ PartOf r v s lo hi := by
  rcases hr with ⟨rfl, rfl⟩ | ⟨b, o, F, q, cs, h1, h2, h3, h4⟩
  · have : m = 0 := by
      have hp := ht.pos
      simp only [List.length_nil] at hm
      rcases Nat.mul_eq_zero.1 hm.symm with h0 | h0 <;> omega
    subst this
    refine ⟨.nils, by simp only [aslice, ht.elem, ht.sz, Option.bind_eq_bind, Option.bind_some, hb], .inl ⟨rfl, rfl, by omega, by omega⟩⟩
  · rcases h1 with ⟨n, full, rfl, hn, hs⟩ | ⟨h0, _⟩
    · have : n = m := Nat.eq_of_mul_eq_mul_right ht.pos (hn.symm.trans hm)
      subst this
      exact ⟨.slc b (o + lo * s) (hi - lo) s (afull n hi full z), by simp only [aslice, ht.elem, ht.sz, Option.bind_eq_bind, Option.bind_some, hb, if_true], .inr ⟨b, o, n, full, _, rfl, rfl, hhi⟩⟩
    · have := ht.pos; omega

theorem St.slice {h0 h : AHeap} {objs : List Obj} (st : St h0 h objs) {k : Nat} {o : Obj} (hk : objs[k]? = some o) {r : AV} {m lo hi : Nat} (hm : o.xs.length = m * o.s) (hp : PartOf r o.v o.s lo hi) (hlo : lo ≤ hi) (hhi : hi ≤ m) :
    St h0 h (objs.set k ⟨r, o.s, (o.xs.drop (lo * o.s)).take ((hi - lo) * o.s), false⟩) := by
  have hle : hi * o.s ≤ m * o.s := Nat.mul_le_mul_right _ hhi
  have hsub : lo * o.s + (hi - lo) * o.s = hi * o.s := by rw [← Nat.add_mul]; congr 1; omega
  have hlen : ((o.xs.drop (lo * o.s)).take ((hi - lo) * o.s)).length = (hi - lo) * o.s := by
    rw [List.length_take, List.length_drop]; omega
  refine st.part hk (j := lo * o.s) (by rw [hlen]) ?_
  rcases hp with ⟨rfl, h2, rfl, rfl⟩ | ⟨b, off, n, full, full', h1, rfl, hn⟩
  · exact .inl ⟨rfl, h2⟩
  · exact .inr ⟨b, off, n, _, full, full', h1, rfl, hlen⟩

section
variable {P : Program} {n : Nat} {ops : Array Oper} {ex : List Nat} {Q : KF → AHeap → Prop} {k : Nat} {os : List Oper} {K : KF} {h h0 : AHeap} {d : Nat} {ty : TypeId} {pos : String} {after : Array Edge} {objs : List Obj}

theorem KOps.sliceOp {x : Operand} {v : AV} {t e : TypeId} {s m lo hi : Nat} {xs zs : List AV} {l u y : Option Operand} {z : Option Nat} [hx : EvK h.globs n K x v] [ht : SlT P t e s zs] (hr : Rd h v s xs) (hm : xs.length = m * s)
    (hb : aslice3 m (l.map (evalK h.globs n K)) (u.map (evalK h.globs n K)) (y.map (evalK h.globs n K)) = some (lo, hi, z)) (hlo : lo ≤ hi) (hhi : hi ≤ m)
    (hk : ∀ r, PartOf r v s lo hi → KOps P n ops ex Q (k + 1) os ((d, r) :: K) h) : KOps P n ops ex Q k (⟨some d, .slice t x l u y, ty, pos, after, none⟩ :: os) K h := by
  obtain ⟨r, h1, h2⟩ := hr.slice (P := P) (t := t) (e := e) (zs := zs) hm hb hlo hhi
  refine KOps.read rfl ?_ (hk r h2)
  simp only [areadR, hx.eq]
  have hne : ∀ b o, v ≠ .ptr b o := by
    rintro b o rfl
    rcases h2 with ⟨_, h2, _⟩ | ⟨_, _, _, _, _, h2, _⟩ <;> cases h2
  split
  · rename_i b o; exact absurd rfl (hne b o)
  · exact h1

theorem KOps.sliceHi {x u : Operand} {v : AV} {t e : TypeId} {s m : Nat} {xs zs : List AV} {ku : IntKind} {i : Int} [hx : EvK h.globs n K x v] [hu : EvK h.globs n K u (.int ku i)] [ht : SlT P t e s zs] (hr : Rd h v s xs) (hm : xs.length = m * s) (h1 : 0 ≤ i) (h2 : i ≤ m)
    (hk : ∀ r, PartOf r v s 0 i.toNat → KOps P n ops ex Q (k + 1) os ((d, r) :: K) h) : KOps P n ops ex Q k (⟨some d, .slice t x none (some u) none, ty, pos, after, none⟩ :: os) K h := by
  refine KOps.sliceOp (e := e) (zs := zs) hr hm (lo := 0) (hi := i.toNat) (z := none) ?_ (by omega) (by omega) hk
  simp [aslice3, hu.eq, aboundsI, h1, h2]
theorem KOps.sliceLo {x u : Operand} {v : AV} {t e : TypeId} {s m : Nat} {xs zs : List AV} {ku : IntKind} {i : Int} [hx : EvK h.globs n K x v] [hu : EvK h.globs n K u (.int ku i)] [ht : SlT P t e s zs] (hr : Rd h v s xs) (hm : xs.length = m * s) (h1 : 0 ≤ i) (h2 : i ≤ m)
    (hk : ∀ r, PartOf r v s i.toNat m → KOps P n ops ex Q (k + 1) os ((d, r) :: K) h) : KOps P n ops ex Q k (⟨some d, .slice t x (some u) none none, ty, pos, after, none⟩ :: os) K h := by
  refine KOps.sliceOp (e := e) (zs := zs) hr hm (lo := i.toNat) (hi := m) (z := none) ?_ (by omega) (Nat.le_refl _) hk
  simp [aslice3, hu.eq, aboundsI, h1, h2]
theorem KOps.sliceBoth {x l u : Operand} {v : AV} {t e : TypeId} {s m : Nat} {xs zs : List AV} {kl ku : IntKind} {i j : Int} [hx : EvK h.globs n K x v] [hl : EvK h.globs n K l (.int kl i)] [hu : EvK h.globs n K u (.int ku j)] [ht : SlT P t e s zs] (hr : Rd h v s xs) (hm : xs.length = m * s) (h1 : 0 ≤ i) (h2 : i ≤ j) (h3 : j ≤ m)
    (hk : ∀ r, PartOf r v s i.toNat j.toNat → KOps P n ops ex Q (k + 1) os ((d, r) :: K) h) : KOps P n ops ex Q k (⟨some d, .slice t x (some l) (some u) none, ty, pos, after, none⟩ :: os) K h := by
  refine KOps.sliceOp (e := e) (zs := zs) hr hm (lo := i.toNat) (hi := j.toNat) (z := none) ?_ (by omega) (by omega) hk
  have h4 : 0 ≤ j := by omega
  simp [aslice3, hl.eq, hu.eq, aboundsI, h1, h3, h4]
  omega
theorem KOps.sliceFull {x u w : Operand} {v : AV} {t e : TypeId} {s m : Nat} {xs zs : List AV} {ku kw : IntKind} {i j : Int} [hx : EvK h.globs n K x v] [hu : EvK h.globs n K u (.int ku i)] [hw : EvK h.globs n K w (.int kw j)] [ht : SlT P t e s zs] (hr : Rd h v s xs) (hm : xs.length = m * s) (h1 : 0 ≤ i) (h2 : i ≤ j) (h3 : j ≤ m)
    (hk : ∀ r, PartOf r v s 0 i.toNat → KOps P n ops ex Q (k + 1) os ((d, r) :: K) h) : KOps P n ops ex Q k (⟨some d, .slice t x none (some u) (some w), ty, pos, after, none⟩ :: os) K h := by
  refine KOps.sliceOp (e := e) (zs := zs) hr hm (lo := 0) (hi := i.toNat) (z := some j.toNat) ?_ (by omega) (by omega) hk
  have h4 : 0 ≤ j := by omega
  simp [aslice3, hu.eq, hw.eq, aboundsI, h1, h3, h4]
  omega

theorem KOps.allo {op : Op} {mk : Mk} {cs : List AV} (hc : clsOf op = .allo) (hv : aallo P (evalK h.globs n K) op = some (mk, cs)) (hk : KOps P n ops ex Q (k + 1) os ((d, mk.val h.next) :: K) (h.alloc cs)) : KOps P n ops ex Q k (⟨some d, op, ty, pos, after, none⟩ :: os) K h := by
  refine KOps.step (v := mk.val h.next) (h' := h.alloc cs) ?_ (fun _ hw => (alloc_keeps h cs).hext hw) hk
  unfold SemStep
  rw [show clsOf (Oper.mk (some d) op ty pos after none).op = .allo from hc]
  exact ⟨mk, cs, hv, rfl, rfl⟩

theorem KOps.buildSlice {t e : TypeId} {len : Nat} {l : List (Nat × Operand)} {vs zs : List AV} [ht : SlT P t e 1 zs] [hl : EvKp h.globs n K l vs] (st : St h0 h objs) (hr : l.map (·.1) = List.range len) (hlen : len ≤ 1000000) (h1 : vs.all AV.one = true)
    (hk : ∀ v h', St h0 h' (⟨v, 1, vs, true⟩ :: objs) → KOps P n ops ex Q (k + 1) os ((d, v) :: K) h') : KOps P n ops ex Q k (⟨some d, .buildSlice t len (List.toArray l), ty, pos, after, none⟩ :: os) K h := by
  have hvl : vs.length = len := by rw [← hl.eq, List.length_map, ← List.length_map (f := (·.1)), hr, List.length_range]
  obtain ⟨z, hz, _⟩ := Option.bind_eq_some_iff.1 ht.zero
  refine KOps.allo (mk := .slc len 1 true) (cs := vs) rfl ?_ (hk _ _ (st.alloc (.inl ⟨len, true, rfl, by simpa using hvl, by decide⟩)))
  simp only [aallo, ht.elem, ht.sz, hz, Option.bind_eq_bind, Option.bind_some]
  have : List.map (fun p : Nat × Operand => evalK h.globs n K p.snd) l = vs := hl.eq
  simp only [this, partsA_one vs h1, Option.bind_some]
  rw [if_pos ⟨hr, by omega, by omega⟩]

theorem KOps.makeSlice {t e : TypeId} {x y : Operand} {z : AV} {kx ky : IntKind} {a b : Int} [hx : EvK h.globs n K x (.int kx a)] [hy : EvK h.globs n K y (.int ky b)] [ht : SlT P t e 1 [z]] (st : St h0 h objs) (ha : 0 ≤ a) (hab : a ≤ b) (hb : b ≤ 4294967296)
    (hk : ∀ v h', St h0 h' (⟨v, 1, List.replicate a.toNat z, true⟩ :: objs) → KOps P n ops ex Q (k + 1) os ((d, v) :: K) h') : KOps P n ops ex Q k (⟨some d, .makeSlice t x y, ty, pos, after, none⟩ :: os) K h := by
  obtain ⟨z', hz, hzs⟩ := Option.bind_eq_some_iff.1 ht.zero
  obtain ⟨i, hi, hib⟩ := ht.info
  have hfl : (List.replicate a.toNat [z]).flatten = List.replicate a.toNat z := by
    induction a.toNat with
    | zero => rfl
    | succ q ih => rw [List.replicate_succ, List.flatten_cons, ih]; rfl
  have hle : (i.bytes : Int) * b ≤ 281474976710656 := by
    have h1 : (i.bytes : Int) ≤ 4096 := by omega
    calc (i.bytes : Int) * b ≤ 4096 * b := Int.mul_le_mul_of_nonneg_right h1 (by omega)
      _ ≤ 281474976710656 := by omega
  refine KOps.allo (mk := .slc a.toNat 1 (a == b)) (cs := List.replicate a.toNat z) rfl ?_ (hk _ _ (st.alloc (.inl ⟨a.toNat, _, rfl, by simp, by decide⟩)))
  simp only [aallo, hx.eq, hy.eq, ht.elem, ht.sz, hz, hzs, hi, Option.bind_eq_bind, Option.bind_some, hfl]
  rw [if_pos ⟨ha, hab, hle, by omega, rfl⟩]

theorem KOps.alloc {t : TypeId} {zs : List AV} [ht : ZeT P t zs] (st : St h0 h objs) (hk : ∀ p h', AddrOf p p 0 0 → St h0 h' (⟨p, 0, zs, true⟩ :: objs) → KOps P n ops ex Q (k + 1) os ((d, p) :: K) h') : KOps P n ops ex Q k (⟨some d, .alloc t, ty, pos, after, none⟩ :: os) K h := by
  obtain ⟨z, hz, hzs⟩ := Option.bind_eq_some_iff.1 ht.eq
  refine KOps.allo (mk := .ptr) (cs := zs) rfl ?_ (hk _ _ ⟨h.next, 0, .inr ⟨rfl, rfl⟩, rfl⟩ (st.alloc (.inr ⟨rfl, rfl⟩)))
  simp only [aallo, hz, hzs, Option.bind_eq_bind, Option.bind_some]
theorem KOps.box {t : TypeId} {x : Operand} {v : AV} {l : List AV} [hx : EvK h.globs n K x v] (st : St h0 h objs) (hl : v.cells? = some l) (hk : ∀ p h', AddrOf p p 0 0 → St h0 h' (⟨p, 0, l, true⟩ :: objs) → KOps P n ops ex Q (k + 1) os ((d, p) :: K) h') :
    KOps P n ops ex Q k (⟨some d, .box t x, ty, pos, after, none⟩ :: os) K h := by
  refine KOps.allo (mk := .ptr) (cs := l) rfl ?_ (hk _ _ ⟨h.next, 0, .inr ⟨rfl, rfl⟩, rfl⟩ (st.alloc (.inr ⟨rfl, rfl⟩)))
  simp only [aallo, hx.eq, hl, Option.map_some]

theorem KOps.store {t : TypeId} {x y : Operand} {p v : AV} {i j : Nat} {o : Obj} [hx : EvK h.globs n K x p] [hy : EvK h.globs n K y v] [ht : ScT P t] (st : St h0 h objs) (hex : ex.contains k = false) (hk' : objs[i]? = some o) (ha : AddrOf p o.v o.s j) (h1 : v.one = true) (hj : j < o.xs.length)
    (hk : ∀ h', St h0 h' (objs.set i { o with xs := o.xs.set j v }) → KOps P n ops ex Q (k + 1) os K h') : KOps P n ops ex Q k (⟨none, .store t x y, ty, pos, after, none⟩ :: os) K h := by
  obtain ⟨h', h2, h3⟩ := st.store (P := P) (t := t) hk' ha (AV.cells_one h1) ht.sz (by simp) (by simpa using Nat.succ_le_of_lt hj)
  rw [putL_one _ _ _ hj] at h3
  refine KOps.chain0 (kill := true) (v := .tup []) rfl ?_ (fun hc => by rw [hex] at hc; cases hc) (hk h' h3)
  simp only [achain, hx.eq, hy.eq]
  exact h2
theorem KOps.storeAgg {t : TypeId} {x y : Operand} {p : AV} {l : List AV} {i j z : Nat} {o : Obj} [hx : EvK h.globs n K x p] [hy : EvK h.globs n K y (.agg l)] [ht : AgT P t z] (st : St h0 h objs) (hex : ex.contains k = false) (hk' : objs[i]? = some o) (ha : AddrOf p o.v o.s j) (h1 : l.all AV.one = true) (hl : l.length = z) (hz : 0 < z) (hj : j + z ≤ o.xs.length)
    (hk : ∀ h', St h0 h' (objs.set i { o with xs := putL o.xs j l }) → KOps P n ops ex Q (k + 1) os K h') : KOps P n ops ex Q k (⟨none, .store t x y, ty, pos, after, none⟩ :: os) K h := by
  subst hl
  obtain ⟨h', h2, h3⟩ := st.store (P := P) (t := t) hk' ha (y := .agg l) (l := l) (by simp [AV.cells?]; simpa using h1) ht.sz hz hj
  refine KOps.chain0 (kill := true) (v := .tup []) rfl ?_ (fun hc => by rw [hex] at hc; cases hc) (hk h' h3)
  simp only [achain, hx.eq, hy.eq]
  exact h2

theorem KOps.append {t e : TypeId} {x y : Operand} {v u : AV} {s a b i : Nat} {xs ys zs : List AV} {tip : Bool} [hx : EvK h.globs n K x v] [hy : EvK h.globs n K y u] [ht : SlT P t e s zs] (st : St h0 h objs) (hex : ex.contains k = true → tip = true) (hk' : objs[i]? = some ⟨v, s, xs, tip⟩) (ha : xs.length = a * s)
    (hr : Rd h u s ys) (hb : ys.length = b * s) (h1 : ys.all AV.one = true) (hsz : a + b ≤ 4294967296) (hk : ∀ r h', St h0 h' (objs.set i ⟨r, s, xs ++ ys, tip⟩) → KOps P n ops ex Q (k + 1) os ((d, r) :: K) h') :
    KOps P n ops ex Q k (⟨some d, .call { callee := .builtin .append, args := #[x, y], argTypes := #[t, t] }, ty, pos, after, none⟩ :: os) K h := by
  obtain ⟨r, h', h2, h3, h4⟩ := st.append (P := P) (t := t) (e := e) (zs := zs) hk' ha hr hb h1 hsz
  refine KOps.chain (kill := true) rfl ?_ (fun hc => h4 (hex hc)) (hk r h' h3)
  simp only [achain, hx.eq, hy.eq, if_true]
  exact h2
end

end Go.Am
