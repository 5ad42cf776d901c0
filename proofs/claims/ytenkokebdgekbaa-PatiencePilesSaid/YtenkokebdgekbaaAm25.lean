/-
  The abstract machine: facts on types, by one run each.
  Conditions: none.
-/
import Derived.Test.YtenkokebdgekbaaAm24
namespace Go.Am

theorem SlT.of {P : Program} {t e : TypeId} {s : Nat} {zs : List AV} (h : (elemA P t, isSliceA P t, szA P e, (zeroA P e).bind AV.cells?, (P.info? e).map fun i => Nat.ble i.bytes 4096) = (some e, true, some s, some zs, some true)) (hl : zs.length = s) (hp : 0 < s) : SlT P t e s zs := by
  simp only [Prod.mk.injEq] at h
  obtain ⟨h1, h2, h3, h4, h5⟩ := h
  refine ⟨h1, h2, h3, h4, hl, hp, ?_⟩
  obtain ⟨i, hi, hb⟩ := Option.map_eq_some_iff.1 h5
  exact ⟨i, hi, Nat.le_of_ble_eq_true hb⟩
theorem ScT.of {P : Program} {t : TypeId} (h : (aggA P t, szA P t) = (some false, some 1)) : ScT P t := by
  simp only [Prod.mk.injEq] at h
  exact ⟨h.1, h.2⟩
theorem AgT.of {P : Program} {t : TypeId} {s : Nat} (h : (aggA P t, szA P t) = (some true, some s)) : AgT P t s := by
  simp only [Prod.mk.injEq] at h
  exact ⟨h.1, h.2⟩
theorem IntT.of {P : Program} {t : TypeId} {k : IntKind} (h : (intA P t, (P.underlying t).isSome) = (some k, true)) : IntT P t k := by
  simp only [Prod.mk.injEq] at h
  exact ⟨h.1, h.2⟩

end Go.Am
