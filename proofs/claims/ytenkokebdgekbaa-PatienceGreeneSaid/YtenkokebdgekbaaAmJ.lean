/-
  The abstract machine: a slice of the first places of an array or a slice; arrays of ints behind pointers, as keys.
  Conditions: none.
-/
import Derived.Test.YtenkokebdgekbaaAmI
namespace Go.Am

/-- r is the first m places of w. -/
def PreOf (r w : AV) (s m : Nat) : Prop := ∃ b o full, r = .slc b o m 1 full ∧ ((0 < s ∧ ∃ n f, w = .slc b o n s f) ∨ (s = 0 ∧ w = .ptr b o))

section rules
variable {P : Program} {n : Nat} {ops : Array Oper} {ex : List Nat} {Q : KF → AHeap → Prop} {k : Nat} {os : List Oper} {K : KF} {h h0 : AHeap} {d : Nat} {ty : TypeId} {pos : String} {after : Array Edge} {objs : List Obj}
/-- The first places of an array behind a pointer. -/
theorem KOps.sliceA {x u : Operand} {p : AV} {t : TypeId} {z m i : Nat} {l : List AV} {tip : Bool} [hx : EvK h.globs n K x p] [hu : EvK h.globs n K u (.int .i64 (m : Int))] [ht : ArT P t z] (st : St h0 h objs) (hk' : objs[i]? = some ⟨p, 0, l, tip⟩) (ha : AddrOf p p 0 0) (hl : l.length = z) (hz : z ≤ 4294967296) (h0z : 0 < z) (hm : m ≤ z)
    (hk : ∀ r, PreOf r p 0 m → KOps P n ops ex Q (k + 1) os ((d, r) :: K) h) : KOps P n ops ex Q k (⟨some d, .slice t x none (some u) none, ty, pos, after, none⟩ :: os) K h := by
  obtain ⟨b, o, h1, h2⟩ := ha
  rcases h1 with ⟨h0, _⟩ | ⟨_, rfl⟩
  · cases h0
  obtain ⟨e, he, hs⟩ := ht.arr
  have hb : ∃ F q cs, h.get b = some (.cells (some F) q cs) ∧ o + z ≤ cs.length := by
    obtain ⟨fs, hf1, hf2, -, -⟩ := st.own
    have hi : i < objs.length := by
      rcases Nat.lt_or_ge i objs.length with h | h
      · exact h
      · rw [List.getElem?_eq_none h] at hk'; cases hk'
    have hmu := hf2 i _ (fs[i]'(by omega)) hk' (List.getElem?_eq_getElem _)
    revert hmu
    generalize fs[i]'(by omega) = F
    intro hmu
    cases F with
    | none => exact absurd hmu.1 (by simp)
    | some F =>
      rcases hmu with ⟨b', off, q, cs, f, -, hv, hg, -, -, ht', -⟩ | ⟨_, y, _, _, hv, _⟩
      · rcases hv with ⟨_, _, hv, _⟩ | ⟨_, hv⟩
        · cases hv
        · have hv : b = b' ∧ o = off := by simpa using hv
          obtain ⟨e1, e2⟩ := hv
          rw [← e1] at hg
          rw [← e2] at ht'
          refine ⟨F, q, cs, hg, ?_⟩
          have := congrArg List.length ht'
          simp only [List.length_take, List.length_drop] at this
          omega
      · exact absurd hv.symm (fun h => Thing.at_ptr h)
  obtain ⟨F, q, cs, hg, hle⟩ := hb
  refine KOps.read (v := .slc b o m 1 (afull z m true none)) rfl ?_ (hk _ ⟨b, o, _, rfl, .inr ⟨rfl, rfl⟩⟩)
  simp only [areadR, hx.eq, Option.map_none, Option.map_some, hu.eq, asliceP, hg, he, hs, Option.bind_eq_bind, Option.bind_some, aslice3, aboundsI]
  have hmx : z ≤ maxLen := Nat.le_trans hz (by decide)
  simp [hm, hle, hmx]
theorem KOps.lenP {x : Operand} {r w : AV} {t e : TypeId} {s m : Nat} {zs : List AV} [hx : EvK h.globs n K x r] [ht : SlT P t e 1 zs] (hr : PreOf r w s m) (hk : KOps P n ops ex Q (k + 1) os ((d, .int .i64 m) :: K) h) :
    KOps P n ops ex Q k (⟨some d, .call { callee := .builtin .len, args := #[x], argTypes := #[t] }, ty, pos, after, none⟩ :: os) K h := by
  obtain ⟨b, o, full, rfl, -⟩ := hr
  refine KOps.pure rfl (v := .int .i64 m) ?_ hk
  simp [apure, hx.eq, alen, ht.sl]
theorem KOps.indexP {x ix : Operand} {r w : AV} {t e : TypeId} {s m : Nat} {zs : List AV} {kd : IntKind} {i : Int} {j : Nat} [hx : EvK h.globs n K x r] [hi : EvK h.globs n K ix (.int kd i)] [ht : SlT P t e 1 zs] (hr : PreOf r w s m) (hj : i = (j : Int)) (hlt : j < m)
    (hk : ∀ q, AddrOf q w s j → KOps P n ops ex Q (k + 1) os ((d, q) :: K) h) : KOps P n ops ex Q k (⟨some d, .indexAddr t x ix, ty, pos, after, none⟩ :: os) K h := by
  subst hj
  obtain ⟨b, o, full, rfl, hw⟩ := hr
  refine KOps.pure rfl (v := .ptr b (o + j)) ?_ (hk _ ⟨b, o, hw, rfl⟩)
  simp only [apure, hx.eq, hi.eq, aindexAddr, ht.elem, ht.sz, Option.bind_eq_bind, Option.bind_some]
  rw [if_pos ⟨trivial, by omega, by omega⟩]
  simp
theorem KOps.loadC {x : Operand} {p w : AV} {t : TypeId} {s j i : Nat} {l : List Int} {tip : Bool} [hx : EvK h.globs n K x p] [ht : ScT P t] (st : St h0 h objs) (hk' : objs[i]? = some ⟨w, s, ints l, tip⟩) (ha : AddrOf p w s j) (hj : j < l.length) (hk : KOps P n ops ex Q (k + 1) os ((d, .int .i64 (l.getD j 0)) :: K) h) :
    KOps P n ops ex Q k (⟨some d, .load t x, ty, pos, after, none⟩ :: os) K h :=
  KOps.load ha (st.rd i hk') (by simp [ints, List.getElem?_map, List.getElem?_eq_getElem hj, List.getD_eq_getElem?_getD]) hk
theorem KOps.storeC {t : TypeId} {x y : Operand} {p w : AV} {s i j : Nat} {c : Int} {l : List Int} {tip : Bool} [hx : EvK h.globs n K x p] [hy : EvK h.globs n K y (.int .i64 c)] [ht : ScT P t] (st : St h0 h objs) (hex : ex.contains k = false) (hk' : objs[i]? = some ⟨w, s, ints l, tip⟩) (ha : AddrOf p w s j) (hj : j < l.length)
    (hk : ∀ h', St h0 h' (objs.set i ⟨w, s, ints (l.set j c), tip⟩) → KOps P n ops ex Q (k + 1) os K h') : KOps P n ops ex Q k (⟨none, .store t x y, ty, pos, after, none⟩ :: os) K h := by
  refine KOps.store st hex hk' ha rfl (by simpa using hj) ?_
  intro h' hS
  refine hk h' ?_
  have e : (ints l).set j (.int .i64 c) = ints (l.set j c) := by simp [ints, List.map_set]
  simp only [e] at hS
  exact hS
/-- A byte of a string. -/
theorem KOps.indexStr {t : TypeId} {x ix : Operand} {s : ByteArray} {kd : IntKind} {i : Int} {j z : Nat} [hx : EvK h.globs n K x (.str s)] [hi : EvK h.globs n K ix (.int kd i)] [ht : StT P t] (hj : i = (j : Int)) (hs : s.size = z) (hlt : j < z)
    (hk : ∀ c : Int, 0 ≤ c → c ≤ 255 → KOps P n ops ex Q (k + 1) os ((d, .int .u8 c) :: K) h) : KOps P n ops ex Q k (⟨some d, .index t x ix, ty, pos, after, none⟩ :: os) K h := by
  subst hj hs
  have hg : s[((j : Nat) : Int).toNat]? = some s[j] := by
    rw [Int.toNat_natCast]
    exact getElem?_pos s j hlt
  refine KOps.pure rfl (v := .int .u8 (s[j].toNat : Int)) ?_ (hk _ (by omega) (by have := UInt8.toNat_lt s[j]; omega))
  simp only [apure, hx.eq, hi.eq, aindex]
  rw [if_pos ⟨ht.st, by omega⟩, hg]
  rfl
theorem KOps.convIn {src dst : TypeId} {x : Operand} {kd kd' : IntKind} {a : Int} [hx : EvK h.globs n K x (.int kd a)] [hs : IntT P src kd] [hd : IntT P dst kd'] (hw : kd'.wrap a = a) (hk : KOps P n ops ex Q (k + 1) os ((d, .int kd' a) :: K) h) :
    KOps P n ops ex Q k (⟨some d, .convert src dst x, ty, pos, after, none⟩ :: os) K h := by
  refine KOps.convert (kd' := kd') ?_
  rw [hw]
  exact hk
/-- A struct or an array of parts. -/
theorem KOps.build {t : TypeId} {l : List (Nat × Operand)} {vs : List AV} {v : AV} [hl : EvKp h.globs n K l vs] (hb : abuild P t ((l.map (·.1)).zip vs) = some v) (hk : KOps P n ops ex Q (k + 1) os ((d, v) :: K) h) :
    KOps P n ops ex Q k (⟨some d, .build t (List.toArray l), ty, pos, after, none⟩ :: os) K h := by
  refine KOps.pure rfl (v := v) ?_ hk
  have e : l.map (fun p => (p.1, evalK h.globs n K p.2)) = (l.map (·.1)).zip vs := by
    rw [← hl.eq]
    clear hl hb hk
    induction l with
    | nil => rfl
    | cons p l ih => rw [List.map_cons, List.map_cons, List.map_cons, List.zip_cons_cons, ih]
  simp only [apure]
  rw [e]
  exact hb
/-- A comma-ok look: what is missing is zero. -/
theorem KOps.lookupD2 {κ ν : Type} [DecidableEq κ] {t kt : TypeId} {z : AV} {kf : κ → AV} {vf : ν → AV} {l : List (κ × ν)} {v : AV} {x ix : Operand} {a : κ} {w : ν} [hx : EvK h.globs n K x v] (hi : evalK h.globs n K ix = kf a) [ht : MpT P t kt z] [hkt : KeyT P kt kf] (hr : RdM h v (entL kf vf l)) (hex : ex.contains k = false) (hz : z = vf w)
    (hk : KOps P n ops ex Q (k + 1) os ((d, .tup [vf ((mget l a).getD w), .bool (mget l a).isSome]) :: K) h) : KOps P n ops ex Q k (⟨some d, .lookup t x ix true, ty, pos, after, none⟩ :: os) K h := by
  refine KOps.lookupK2 hi hr hex ?_
  cases hm : mget l a with
  | none => rw [hm] at hk; simp only; rw [hz]; exact hk
  | some u => rw [hm] at hk; exact hk
/-- An array of ints is boxed, read, written as a whole. -/
theorem ints_cells (l : List Int) : (AV.agg (ints l)).cells? = some (ints l) := by
  have : (ints l).all AV.one = true := by simp [ints, AV.one]
  simp only [AV.cells?]; rw [if_pos this]
theorem KOps.boxI {t : TypeId} {x : Operand} {l : List Int} [hx : EvK h.globs n K x (.agg (ints l))] (st : St h0 h objs) (hk : ∀ p h', AddrOf p p 0 0 → St h0 h' (⟨p, 0, ints l, true⟩ :: objs) → KOps P n ops ex Q (k + 1) os ((d, p) :: K) h') :
    KOps P n ops ex Q k (⟨some d, .box t x, ty, pos, after, none⟩ :: os) K h := KOps.box st (ints_cells l) hk
theorem KOps.loadArrI {x : Operand} {p : AV} {t : TypeId} {i m : Nat} {l : List Int} {tip : Bool} [hx : EvK h.globs n K x p] [ht : AgT P t m] (st : St h0 h objs) (hk' : objs[i]? = some ⟨p, 0, ints l, tip⟩) (ha : AddrOf p p 0 0) (hl : l.length = m) (hm : 0 < m) (hk : KOps P n ops ex Q (k + 1) os ((d, .agg (ints l)) :: K) h) :
    KOps P n ops ex Q k (⟨some d, .load t x, ty, pos, after, none⟩ :: os) K h := by
  refine KOps.loadAgg ha (st.rd i hk') (z := m) hm (by simp; omega) ?_
  rw [List.drop_zero, List.take_of_length_le (by simp; omega)]
  exact hk
theorem KOps.storeArrI {t : TypeId} {x y : Operand} {p : AV} {l : List Int} {cs : List AV} {i z : Nat} {tip : Bool} [hx : EvK h.globs n K x p] [hy : EvK h.globs n K y (.agg (ints l))] [ht : AgT P t z] (st : St h0 h objs) (hex : ex.contains k = false) (hk' : objs[i]? = some ⟨p, 0, cs, tip⟩) (ha : AddrOf p p 0 0) (hl : l.length = z) (hc : cs.length = z) (hz : 0 < z)
    (hk : ∀ h', St h0 h' (objs.set i ⟨p, 0, ints l, tip⟩) → KOps P n ops ex Q (k + 1) os K h') : KOps P n ops ex Q k (⟨none, .store t x y, ty, pos, after, none⟩ :: os) K h := by
  refine KOps.storeAgg st hex hk' ha (by simp [ints, AV.one]) (by simpa using hl) hz (by simp; omega) ?_
  intro h' hS
  refine hk h' ?_
  have e : putL cs 0 (ints l) = ints l := by
    have : (ints l).length = cs.length := by simp; omega
    simp [putL, this]
  simp only [e] at hS
  exact hS
end rules

theorem alits_map (k : IntKind) : ∀ l : List Int, alits k (l.map (AV.int k)) = some l := by
  intro l
  induction l with
  | nil => rfl
  | cons a l ih => simp [alits, ih]
/-- Arrays of numbers as keys. -/
theorem KeyT.arr {P : Program} {kt e : TypeId} {n : Nat} {k : IntKind} (h : arrA P kt = some (n, e)) (hi : intA P e = some k) (hs : szA P e = some 1) (hg : P.eqGuardType P.depth kt = false) : KeyT P kt (fun l : {l : List Int // l.length = n} => AV.agg (l.1.map (AV.int k))) := by
  refine ⟨fun a => ?_, fun a b => ?_⟩
  · simp only [akeyOk, h, hi, alits_map, hs]
    rw [a.2]; simp
  · simp only [akeq, aarr, h, hi, alits_map]
    rw [if_pos ⟨hg, a.2, b.2, hs⟩]
    congr 1
    by_cases hab : a = b
    · subst hab; simp
    · rw [decide_eq_false hab]
      exact beq_false_of_ne fun hh => hab (Subtype.ext hh)

/-- Exchanges among the first m places. -/
def swp (e : List Int) (a b : Nat) : List Int := (e.set a (e.getD b 0)).set b (e.getD a 0)
inductive Swaps (m : Nat) : List Int → List Int → Prop where
  | refl (e : List Int) : Swaps m e e
  | step {e e' : List Int} {a b : Nat} (h : Swaps m e e') (ha : a < m) (hb : b < m) : Swaps m e (swp e' a b)
theorem swp_len (e : List Int) (a b : Nat) : (swp e a b).length = e.length := by simp [swp]
theorem Swaps.len {m : Nat} {e e' : List Int} (h : Swaps m e e') : e'.length = e.length := by
  induction h with
  | refl => rfl
  | step _ _ _ ih => rw [swp_len, ih]
theorem swp_getD {e : List Int} {a b : Nat} (ha : a < e.length) (hb : b < e.length) (i : Nat) : (swp e a b).getD i 0 = if i = b then e.getD a 0 else if i = a then e.getD b 0 else e.getD i 0 := by
  simp only [swp, List.getD_eq_getElem?_getD, List.getElem?_set, List.length_set]
  by_cases h1 : b = i
  · subst h1; simp [hb]
  · by_cases h2 : a = i
    · subst h2; simp [h1, Ne.symm h1, ha]
    · simp [h1, h2, Ne.symm h1, Ne.symm h2]
end Go.Am
