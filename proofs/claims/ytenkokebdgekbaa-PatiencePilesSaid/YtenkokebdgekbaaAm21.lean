/-
  The abstract machine: reading, writing, making and appending, as steps of what is owned.
  Conditions: none.
-/
import Derived.Test.YtenkokebdgekbaaAm20
namespace Go.Am

/-- Types that the program has. -/
class SlT (P : Program) (t : TypeId) (e : outParam TypeId) (s : outParam Nat) (zs : outParam (List AV)) : Prop where
  elem : elemA P t = some e
  sl : isSliceA P t = true
  sz : szA P e = some s
  zero : ((zeroA P e).bind AV.cells?) = some zs
  zlen : zs.length = s
  pos : 0 < s
  info : ∃ i, P.info? e = some i ∧ i.bytes ≤ 4096
class ScT (P : Program) (t : TypeId) : Prop where
  sc : aggA P t = some false
  sz : szA P t = some 1
class AgT (P : Program) (t : TypeId) (s : outParam Nat) : Prop where
  ag : aggA P t = some true
  sz : szA P t = some s

/-- p is the address of cell j of v's. -/
def AddrOf (p v : AV) (s j : Nat) : Prop := ∃ b o, ((0 < s ∧ ∃ n full, v = .slc b o n s full) ∨ (s = 0 ∧ v = .ptr b o)) ∧ p = .ptr b (o + j)

theorem View.addr {v p : AV} {s b o len j : Nat} (hv : View v s b o len) (ha : AddrOf p v s j) : p = .ptr b (o + j) := by
  obtain ⟨b', o', h1, rfl⟩ := ha
  rcases hv with ⟨n, full, rfl, _, hs⟩ | ⟨hs, rfl⟩
  · rcases h1 with ⟨_, n', full', h1⟩ | ⟨h0, h1⟩
    · cases h1; rfl
    · cases h1
  · rcases h1 with ⟨_, n', full', h1⟩ | ⟨h0, h1⟩
    · cases h1
    · cases h1; rfl

theorem Rd.addr {h : AHeap} {p v : AV} {s j : Nat} {xs : List AV} (hr : Rd h v s xs) (ha : AddrOf p v s j) (hj : j < xs.length) :
    ∃ b o F q cs, p = .ptr b (o + j) ∧ h.get b = some (.cells F q cs) ∧ h.valid b = true ∧ (∀ i, i < xs.length → cs[o + i]? = xs[i]?) ∧ o + xs.length ≤ cs.length := by
  rcases hr with ⟨rfl, rfl⟩ | ⟨b, o, F, q, cs, h1, h2, h3, h4⟩
  · cases hj
  · refine ⟨b, o, F, q, cs, h1.addr ha, h2, h3, ?_, ?_⟩
    · intro i hi
      have := congrArg (fun l => l[i]?) h4
      simp only [List.getElem?_take, hi, if_true, List.getElem?_drop] at this
      exact this
    · have := congrArg List.length h4
      simp at this
      omega

theorem Rd.load {P : Program} {h : AHeap} {p v y : AV} {s j : Nat} {xs : List AV} {t : TypeId} [ht : ScT P t] (hr : Rd h v s xs) (ha : AddrOf p v s j) (hy : xs[j]? = some y) : aload P h t p = some y := by
  have hj := (List.getElem?_eq_some_iff.1 hy).1
  obtain ⟨b, o, F, q, cs, rfl, h2, h3, h4, _⟩ := hr.addr ha hj
  simp only [aload, h2, h3, if_true, ht.sc, Option.bind_eq_bind, Option.bind_some, Bool.false_eq_true, if_false]
  rw [h4 j hj, hy]

theorem Rd.loadAgg {P : Program} {h : AHeap} {p v : AV} {s j z : Nat} {xs : List AV} {t : TypeId} [ht : AgT P t z] (hr : Rd h v s xs) (ha : AddrOf p v s j) (hz : 0 < z) (hj : j + z ≤ xs.length) : aload P h t p = some (.agg ((xs.drop j).take z)) := by
  obtain ⟨b, o, F, q, cs, rfl, h2, h3, h4, h5⟩ := hr.addr ha (by omega)
  simp only [aload, h2, h3, if_true, ht.ag, ht.sz, Option.bind_eq_bind, Option.bind_some]
  rw [if_pos (by omega)]
  congr 2
  apply List.ext_getElem?
  intro i
  rw [List.getElem?_take, List.getElem?_take]
  split
  · rw [List.getElem?_drop, List.getElem?_drop, Nat.add_assoc, h4 _ (by omega)]
  · rfl

theorem Rd.len {P : Program} {h : AHeap} {v : AV} {s m : Nat} {xs : List AV} {t e : TypeId} {zs : List AV} [ht : SlT P t e s zs] (hr : Rd h v s xs) (hm : xs.length = m * s) : alen P t v = some (.int .i64 m) := by
  rcases hr with ⟨rfl, rfl⟩ | ⟨b, o, F, q, cs, h1, _⟩
  · simp only [alen, ht.sl, if_true]
    have : m = 0 := by
      have hp := ht.pos
      simp only [List.length_nil] at hm
      rcases Nat.mul_eq_zero.1 hm.symm with h0 | h0 <;> omega
    subst this; rfl
  · rcases h1 with ⟨n, full, rfl, hn, _⟩ | ⟨h0, _⟩
    · simp only [alen, ht.sl, if_true]
      have : n = m := Nat.eq_of_mul_eq_mul_right ht.pos (hn.symm.trans hm)
      subst this; rfl
    · have := ht.pos; omega

theorem Rd.index {P : Program} {h : AHeap} {v : AV} {s m : Nat} {k : IntKind} {i : Int} {xs : List AV} {t e : TypeId} {zs : List AV} [ht : SlT P t e s zs] (hr : Rd h v s xs) (hm : xs.length = m * s) (h0 : 0 ≤ i) (hi : i < m) :
    ∃ p, aindexAddr P t v (.int k i) = some p ∧ AddrOf p v s (i.toNat * s) := by
  have hp := ht.pos
  rcases hr with ⟨rfl, rfl⟩ | ⟨b, o, F, q, cs, h1, _⟩
  · exfalso
    simp only [List.length_nil] at hm
    rcases Nat.mul_eq_zero.1 hm.symm with h0 | h0 <;> omega
  · rcases h1 with ⟨n, full, rfl, hn, _⟩ | ⟨h0, _⟩
    · have : n = m := Nat.eq_of_mul_eq_mul_right hp (hn.symm.trans hm)
      subst this
      refine ⟨.ptr b (o + i.toNat * s), ?_, b, o, .inl ⟨hp, n, full, rfl⟩, rfl⟩
      simp only [aindexAddr, ht.elem, ht.sz, Option.bind_eq_bind, Option.bind_some, true_and]
      rw [if_pos ⟨h0, hi⟩]
    · omega

/-- A new block. -/
theorem St.alloc {h0 h : AHeap} {objs : List Obj} (st : St h0 h objs) {v : AV} {s : Nat} {cs : List AV} (hv : View v s h.next 0 cs.length) : St h0 (h.alloc cs) (⟨v, s, cs, true⟩ :: objs) := by
  have hget : (h.alloc cs).get h.next = some (.cells (some h.nfam) 0 cs) := by simp [AHeap.alloc, AHeap.pushFam, AHeap.push, AHeap.get, AHeap.next]
  have hfam : (h.alloc cs).fam h.nfam = some ⟨cs.length, none⟩ := by simp [AHeap.alloc, AHeap.pushFam, AHeap.push, AHeap.fam, AHeap.nfam]
  have hs : St h (h.alloc cs) [⟨v, s, cs, true⟩] := by
    refine ⟨⟨by simp [AHeap.alloc, AHeap.pushFam, AHeap.push, AHeap.next], by simp [AHeap.alloc, AHeap.pushFam, AHeap.push, AHeap.nfam], rfl, ?_, ?_⟩, [some h.nfam], rfl, ?_, ?_, ?_⟩
    · intro b hb
      simp only [AHeap.alloc, AHeap.pushFam, AHeap.push, AHeap.get]
      exact List.getElem?_append_left hb
    · intro F hF
      simp only [AHeap.alloc, AHeap.pushFam, AHeap.push, AHeap.fam]
      exact List.getElem?_append_left hF
    · intro i o F ho hF
      cases i with
      | zero =>
        simp only [List.getElem?_cons_zero, Option.some.injEq] at ho hF
        subst ho hF
        exact ⟨h.next, 0, 0, cs, _, Nat.le_refl _, hv, hget, hfam, rfl, by simp, fun _ => .inr (by simp)⟩
      | succ i => simp at ho
    · intro i j F hi hj
      cases i <;> cases j <;> simp at hi hj ⊢
    · intro i F hi
      cases i with
      | zero => simp at hi; omega
      | succ i => simp at hi
  exact st.trans hs

/-- A store into what is owned. -/
theorem St.store {P : Program} {h0 h : AHeap} {objs : List Obj} (st : St h0 h objs) {k : Nat} {o : Obj} (hk : objs[k]? = some o) {p y : AV} {j : Nat} {l : List AV} {t : TypeId} (ha : AddrOf p o.v o.s j) (hy : y.cells? = some l) (hl : szA P t = some l.length) (h0l : 0 < l.length) (hj : j + l.length ≤ o.xs.length) :
    ∃ h', astore P h t p y = some (.tup [], h') ∧ St h0 h' (objs.set k { o with xs := putL o.xs j l }) := by
  obtain ⟨kp, fs, hlen, hm, hd, hb⟩ := id st
  have hklt : k < objs.length := (List.getElem?_eq_some_iff.1 hk).1
  have hkf : k < fs.length := by omega
  have hmk := hm k o fs[k] hk (List.getElem?_eq_getElem hkf)
  cases hF : fs[k] with
  | none => rw [hF] at hmk; rw [hmk.2, List.length_nil] at hj; omega
  | some F =>
    rw [hF] at hmk
    obtain ⟨b, off, q, cs, f, hlo, hview, hget, hfam, hsee, hpart, htip⟩ := hmk
    have hp := hview.addr ha
    subst hp
    have hvalid : h.valid b = true := by unfold AHeap.valid; rw [hget]; simp only [hfam, hsee]
    have hcl : off + o.xs.length ≤ cs.length := by
      have := congrArg List.length hpart
      simp at this; omega
    refine ⟨(h.set b (.cells (some F) q (putL cs (off + j) l))).setFam F { f with live := some [b] }, ?_, ?_⟩
    · simp only [astore, hget, hfam, hy, hl, Option.bind_eq_bind, Option.bind_some]
      rw [if_pos ⟨hvalid, trivial, by omega⟩]
    · refine st.upd hk (by simp [AHeap.setFam, AHeap.set, AHeap.next]) (by simp [AHeap.setFam, AHeap.set, AHeap.nfam]) rfl ?_
      intro F' hmu hge
      have hblt := AHeap.get_lt hget
      have hFlt := AHeap.fam_lt hfam
      have hFF : F' = some F := by
        cases F' with
        | none => rw [hmu.1] at hview; rcases hview with ⟨_, _, h1, _⟩ | ⟨_, h1⟩ <;> cases h1
        | some G =>
          obtain ⟨b', off', q', cs', f', _, hv', hg', _⟩ := hmu
          have := hv'.addr ha
          simp only [AV.ptr.injEq] at this
          obtain ⟨rfl, _⟩ := this
          rw [hget] at hg'
          cases hg'
          rfl
      subst hFF
      refine ⟨some F, ⟨b, off, q, putL cs (off + j) l, { f with live := some [b] }, hlo, ?_, ?_, ?_, ?_, ?_, ?_⟩, .inl rfl, ?_, ?_⟩
      · simpa [putL_length _ _ _ hj] using hview
      · simp only [AHeap.setFam, AHeap.set, AHeap.get]; exact List.getElem?_set_self hblt
      · simp only [AHeap.setFam, AHeap.set, AHeap.fam]; exact List.getElem?_set_self hFlt
      · simp [Fam.sees]
      · apply List.ext_getElem?
        intro i
        simp only [putL_length _ _ _ hj]
        rw [List.getElem?_take, putL_get _ _ _ hj]
        by_cases hi : i < o.xs.length
        · rw [if_pos hi, List.getElem?_drop, putL_get _ _ _ (by omega)]
          have hpi := congrArg (fun l => l[i]?) hpart
          simp only [List.getElem?_take, hi, if_true, List.getElem?_drop] at hpi
          by_cases hc : j ≤ i ∧ i < j + l.length
          · rw [if_pos (by omega), if_pos hc]; congr 1; omega
          · rw [if_neg (by omega), if_neg hc]; exact hpi
        · rw [if_neg hi, if_neg (by omega), List.getElem?_eq_none (by omega)]
      · intro ht
        rcases htip ht with hx | hx
        · exact .inl hx
        · right; simp only [putL_length _ _ _ hj]; exact hx
      · intro b' hb' hno
        by_cases hbb : b = b'
        · subst hbb; exact (hno F q cs rfl (by omega) hget).elim
        · simp [AHeap.setFam, AHeap.set, AHeap.get, List.getElem?_set, hbb]
      · intro G hG hne
        have : F ≠ G := fun he => hne (by rw [he])
        simp [AHeap.setFam, AHeap.set, AHeap.fam, List.getElem?_set, this]

end Go.Am
