/-
  The abstract machine: arrays of small numbers: as arguments, and behind pointers.
  Conditions: none.
-/
import Derived.Test.YtenkokebdgekbaaAmF
import Derived.OpenShut
namespace Go.Am

/-- An array of numbers that was read. -/
def EArr (k : IntKind) (n : Nat) (_ : AHeap) (avs : List AV) (l : List Int) : Prop := avs = l.map (AV.int k) ∧ l.length = n ∧ ∀ x ∈ l, (Lit.int k x).wf = true
theorem ints_of {k : IntKind} : ∀ {cs : List Value}, (∀ i, i < cs.length → ∃ c, cs[i]? = some (.int k c) ∧ (Lit.int k c).wf = true) → ∃ l : List Int, cs = l.map (Value.int k) ∧ ∀ x ∈ l, (Lit.int k x).wf = true := by
  intro cs
  induction cs with
  | nil => intro _; exact ⟨[], rfl, by simp⟩
  | cons v cs ih =>
    intro h
    obtain ⟨c, h1, h2⟩ := h 0 (by simp)
    obtain ⟨l, h3, h4⟩ := ih (fun i hi => by
      obtain ⟨c, h5, h6⟩ := h (i + 1) (by simpa using hi)
      exact ⟨c, by simpa using h5, h6⟩)
    have h1 : v = .int k c := by simpa using h1
    subst h1 h3
    refine ⟨c :: l, rfl, ?_⟩
    intro x hx
    rcases List.mem_cons.1 hx with rfl | hx
    · exact h2
    · exact h4 x hx
theorem IC.array {H : Type} {enc : TypeId × Value → H} {P : Program} {t e : TypeId} {n : Nat} {k : IntKind} (ht : P.underlying t = some (.array n e)) (hc : P.cellsOf t = n) (h1 : P.cellsOf e = 1) (he : P.underlying e = some (.int k)) : IC enc P t (EArr k n) := by
  refine ⟨?_, fun _ _ _ _ _ h => h⟩
  intro W φ h im fuel cs y hy
  obtain ⟨xs, m, rfl, rfl, hl, hxl, hx⟩ := DataW.trod_array ht hy
  rw [hc] at hl
  obtain ⟨l, rfl, hw⟩ := ints_of (k := k) (cs := cs) (by
    intro i hi
    have h2 := hx i (by omega)
    rw [h1, Nat.mul_one, List.getElem?_eq_getElem (by omega)] at h2
    obtain ⟨c, h3, _, h4⟩ := DataW.trod_int he h2
    refine ⟨c, ?_, h4⟩
    have h5 : ((cs.drop i).take 1)[0]? = some (.int k c) := by rw [h3]; rfl
    simpa [List.getElem?_take, List.getElem?_drop] using h5)
  refine ⟨φ, h, l.map (AV.int k), l, im, Emb.le_refl φ, Keeps.refl h, ⟨by simp, ?_⟩, rfl, by simpa using hl, hw⟩
  intro j a b ha hb
  rw [List.getElem?_map] at ha hb
  cases hj : l[j]? with
  | none => rw [hj] at ha; cases ha
  | some x =>
    rw [hj] at ha hb
    cases ha
    cases hb
    exact .int k x

/-- Small numbers. -/
def bytes (l : List Int) : List AV := l.map (AV.int .u8)
theorem bytes_len (l : List Int) : (bytes l).length = l.length := List.length_map _
theorem bytes_cells (l : List Int) : (AV.agg (bytes l)).cells? = some (bytes l) := by
  have : (bytes l).all AV.one = true := by
    rw [List.all_eq_true]
    intro x hx
    obtain ⟨c, _, rfl⟩ := List.mem_map.1 hx
    rfl
  rw [AV.cells?, if_pos this]
theorem wf_u8 {a : Int} (h : (Lit.int .u8 a).wf = true) : 0 ≤ a ∧ a ≤ 255 := by
  simp [Lit.wf, IntKind.min, IntKind.max, IntKind.signed, IntKind.bits] at h
  omega

section
variable {P : Program} {n : Nat} {ops : Array Oper} {ex : List Nat} {Q : KF → AHeap → Prop} {k : Nat} {os : List Oper} {K : KF} {h h0 : AHeap} {d : Nat} {ty : TypeId} {pos : String} {after : Array Edge} {objs : List Obj}
theorem KOps.boxU {t : TypeId} {x : Operand} {l : List Int} [hx : EvK h.globs n K x (.agg (bytes l))] (st : St h0 h objs) (hk : ∀ p h', AddrOf p p 0 0 → St h0 h' (⟨p, 0, bytes l, true⟩ :: objs) → KOps P n ops ex Q (k + 1) os ((d, p) :: K) h') :
    KOps P n ops ex Q k (⟨some d, .box t x, ty, pos, after, none⟩ :: os) K h := KOps.box st (bytes_cells l) hk
theorem KOps.loadU {x : Operand} {p q : AV} {t : TypeId} {j i : Nat} {l : List Int} {tip : Bool} [hx : EvK h.globs n K x q] [ht : ScT P t] (st : St h0 h objs) (hk' : objs[i]? = some ⟨p, 0, bytes l, tip⟩) (ha : AddrOf q p 0 j) (hj : j < l.length) (hk : KOps P n ops ex Q (k + 1) os ((d, .int .u8 (l.getD j 0)) :: K) h) :
    KOps P n ops ex Q k (⟨some d, .load t x, ty, pos, after, none⟩ :: os) K h :=
  KOps.load ha (st.rd i hk') (by simp [bytes, List.getElem?_map, List.getElem?_eq_getElem hj, List.getD_eq_getElem?_getD]) hk
theorem KOps.convU {src dst : TypeId} {x : Operand} {a : Int} [hx : EvK h.globs n K x (.int .u8 a)] [hs : IntT P src .u8] [hd : IntT P dst .i64] (h1 : 0 ≤ a) (h2 : a ≤ 255) (hk : KOps P n ops ex Q (k + 1) os ((d, .int .i64 a) :: K) h) :
    KOps P n ops ex Q k (⟨some d, .convert src dst x, ty, pos, after, none⟩ :: os) K h := by
  refine KOps.convert (kd' := .i64) ?_
  rw [wrap64 (by omega) (by omega)]
  exact hk
end
end Go.Am
