/-
  The abstract machine: each operation that looks at no memory does as the model does.
  Conditions: none.
-/
import Derived.Test.YtenkokebdgekbaaAm3
namespace Go.Am

theorem apart_run {P : Program} {φ : Emb} {t : TypeId} {l : List AV} {cs : List Value} {off : Nat} {v : AV} (hl : VRels φ l cs) (h : apart P t l off = some v) (w : World) :
    ∃ c, (part t cs.toArray off).run P w = .ok c w ∧ VRel φ v c := by
  simp only [apart, Option.bind_eq_bind, Option.bind_eq_some_iff] at h
  obtain ⟨g, hg, s, hs, h⟩ := h
  have hsr := szA_run hs w
  simp only [aggA, Option.map_eq_some_iff] at hg
  obtain ⟨d, hd, hg⟩ := hg
  have hagg : (isAgg t).run P w = .ok g w := by
    simp only [isAgg, Sem.run_bind, run_underlying hd, Result.andThen_ok]
    subst hg
    cases d <;> rfl
  cases g with
  | true =>
    simp only [if_true, Option.some.injEq] at h
    subst h
    refine ⟨.agg ((cs.drop off).take s).toArray, ?_, .agg _ _ ?_ ?_⟩
    · simp only [part, Sem.run_bind, hagg, Result.andThen_ok, if_true, hsr, Sem.run_pure]
      congr 2
      apply Array.ext'
      simp [List.extract_eq_take_drop]
    · simp [hl.1]
    · intro j x y hx hy
      rw [List.getElem?_take] at hx
      rw [List.getElem?_take] at hy
      split at hx
      · rename_i hj
        rw [if_pos hj, List.getElem?_drop] at hy
        rw [List.getElem?_drop] at hx
        exact hl.2 _ _ _ hx hy
      · cases hx
  | false =>
    simp only [Bool.false_eq_true, if_false] at h
    have hlt : off < cs.length := by rw [← hl.1]; exact (List.getElem?_eq_some_iff.1 h).1
    refine ⟨cs[off], ?_, hl.2 off _ _ h (List.getElem?_eq_getElem hlt)⟩
    simp only [part, Sem.run_bind, hagg, Result.andThen_ok, Bool.false_eq_true, if_false]
    simp [hlt]

theorem makeSlice_addr (k i o c l s : Nat) (a : Addr) (h : a = ⟨k, i + o, none⟩) : a.add l = ⟨k, i + (o + l), none⟩ := by
  subst h; rw [Addr.add_lit, Nat.add_assoc]

theorem aslice_run {P : Program} {φ : Emb} {t : TypeId} {x v : AV} {cx : Value} {lo hi mx : Option Operand} {ρ : Operand → AV} {ev : Operand → Value} (hx : VRel φ x cx)
    (hr : ∀ y, lo = some y ∨ hi = some y ∨ mx = some y → VRel φ (ρ y) (ev y)) (h : aslice P t x (lo.map ρ) (hi.map ρ) (mx.map ρ) = some v) (w : World) :
    ∃ c, (Instr.sliceAt t cx (lo.map ev) (hi.map ev) (mx.map ev)).run P w = .ok c w ∧ VRel φ v c := by
  unfold aslice at h
  split at h
  · rename_i b o n s full
    simp only [Option.bind_eq_bind, Option.bind_eq_some_iff] at h
    obtain ⟨e, he, s', hs, h⟩ := h
    split at h
    · rename_i hss
      subst hss
      simp only [Option.bind_eq_some_iff] at h
      obtain ⟨⟨l, hh, m⟩, hb, h⟩ := h
      simp only [Option.some.injEq] at h
      subst h
      obtain ⟨a, c, rfl, hn, hc, hf, hadr⟩ : ∃ a c, cx = .slice (some a) n c ∧ n ≤ c ∧ c ≤ maxLen ∧ (full = true → c = n) ∧ (c = 0 ∨ ∃ k i z, φ b = some (k, i, z) ∧ a = ⟨k, i + o, none⟩ ∧ i + o + c * s' ≤ z) := by
        cases hx with | slc _ _ _ _ _ a c hn hc hf hadr => exact ⟨a, c, rfl, hn, hc, hf, hadr⟩
      have hu := elemA_und he
      obtain ⟨hrun, hlh, hhn, hhm, hmc⟩ := sliceBounds_run (P := P) (c := c) true hr hn hb w
      refine ⟨_, by simp [Instr.sliceAt, Instr.slice, run_underlying hu, hrun, szA_run hs]; rfl, ?_⟩
      have hval : VRel φ (.slc b (o + l * s') (hh - l) s' (afull n hh full m)) (.slice (some (if m.getD c = l then a else a.add (l * s'))) (hh - l) (m.getD c - l)) := by
        refine .slc _ _ _ _ _ _ _ (by omega) (by omega) ?_ ?_
        · intro hfu
          cases m with
          | some m' => simp [afull] at hfu ⊢; omega
          | none => simp [afull] at hfu ⊢; have := hf hfu.1; omega
        · by_cases hml : m.getD c = l
          · exact .inl (by omega)
          · refine .inr ?_
            rcases hadr with hadr | ⟨k, i, z, h1, h2, h3⟩
            · omega
            · refine ⟨k, i, z, h1, ?_, ?_⟩
              · rw [if_neg hml, makeSlice_addr k i o c (l * s') s' a h2]
              · have hle : l ≤ m.getD c := by omega
                have : l * s' + (m.getD c - l) * s' = m.getD c * s' := by rw [← Nat.add_mul]; congr 1; omega
                have h4 : m.getD c * s' ≤ c * s' := Nat.mul_le_mul_right _ hmc
                omega
      cases hml : decide (m.getD c = l)
      · have hml' : ¬ m.getD c = l := by simpa using hml
        simpa [hml'] using hval
      · have hml' : m.getD c = l := by simpa using hml
        simpa [hml'] using hval
    · cases h
  · simp only [Option.bind_eq_bind, Option.bind_eq_some_iff] at h
    obtain ⟨e, he, s', hs, ⟨l, hh, m⟩, hb, h⟩ := h
    simp only [Option.some.injEq] at h
    subst h
    cases hx
    have hu := elemA_und he
    obtain ⟨hrun, hlh, hhn, hhm, hmc⟩ := sliceBounds_run (P := P) (c := 0) true hr (Nat.le_refl 0) hb w
    refine ⟨_, by simp [Instr.sliceAt, Instr.slice, run_underlying hu, hrun, szA_run hs]; rfl, ?_⟩
    have e1 : hh - l = 0 := by omega
    have e2 : m.getD 0 - l = 0 := by omega
    rw [e1, e2]
    exact .nils
  · cases h

theorem aindexAddr_run {P : Program} {φ : Emb} {t : TypeId} {x ix v : AV} {cx ci : Value} (hx : VRel φ x cx) (hi : VRel φ ix ci) (h : aindexAddr P t x ix = some v) (w : World) :
    ∃ c, (Instr.indexAt t cx ci).run P w = .ok c w ∧ VRel φ v c := by
  unfold aindexAddr at h
  split at h
  · rename_i b o n s full k i
    simp only [Option.bind_eq_bind, Option.bind_eq_some_iff] at h
    obtain ⟨e, he, s', hs, h⟩ := h
    split at h
    · rename_i hc
      obtain ⟨rfl, h0, hn⟩ := hc
      simp only [Option.some.injEq] at h
      subst h
      obtain ⟨a, c, rfl, hnc, hadr⟩ : ∃ a c, cx = .slice (some a) n c ∧ n ≤ c ∧ (c = 0 ∨ ∃ k i z, φ b = some (k, i, z) ∧ a = ⟨k, i + o, none⟩ ∧ i + o + c * s' ≤ z) := by
        cases hx with | slc _ _ _ _ _ a c hn hc hf hadr => exact ⟨a, c, rfl, hn, hadr⟩
      cases hi
      rcases hadr with hadr | ⟨k', i', z, h1, h2, h3⟩
      · omega
      · subst h2
        refine ⟨.pointer (some ⟨k', i' + (o + i.toNat * s'), none⟩), ?_, .ptr _ _ _ _ _ h1⟩
        simp [Instr.indexAt, run_underlying (elemA_und he), asIntOf, h0, hn, szA_run hs, Addr.add_lit, Nat.add_assoc]
    · cases h
  · rename_i b o k i
    simp only [Option.bind_eq_bind, Option.bind_eq_some_iff] at h
    obtain ⟨⟨n, e⟩, he, s, hs, h⟩ := h
    split at h
    · rename_i hc
      simp only [Option.some.injEq] at h
      subst h
      cases hx
      rename_i k' i' z hφ
      cases hi
      refine ⟨.pointer (some ⟨k', i' + (o + i.toNat * s), none⟩), ?_, .ptr _ _ _ _ _ hφ⟩
      simp [Instr.indexAt, run_underlying (arrA_und he), Instr.sureAddr, asIntOf, hc.1, hc.2, szA_run hs, Addr.add_lit, Nat.add_assoc]
    · cases h
  · cases h

theorem aindex_run {P : Program} {φ : Emb} {t : TypeId} {x ix v : AV} {cx ci : Value} (hx : VRel φ x cx) (hi : VRel φ ix ci) (h : aindex P t x ix = some v) (w : World) :
    ∃ c, (Instr.index t cx ci).run P w = .ok c w ∧ VRel φ v c := by
  unfold aindex at h
  split at h
  · rename_i l k i
    simp only [Option.bind_eq_bind, Option.bind_eq_some_iff] at h
    obtain ⟨⟨n, e⟩, he, s, hs, h⟩ := h
    split at h
    · rename_i hc
      cases hx with | agg _ cs hl hh =>
      cases hi
      obtain ⟨c, hr, hv⟩ := apart_run (P := P) ⟨hl, hh⟩ h w
      refine ⟨c, ?_, hv⟩
      simp [Instr.index, run_underlying (arrA_und he), asIntOf, hc.1, hc.2, szA_run hs, hr]
    · cases h
  · cases h

theorem afield_run {P : Program} {φ : Emb} {t : TypeId} {x v : AV} {cx : Value} {i : Nat} (hx : VRel φ x cx) (h : afield P t x i = some v) (w : World) :
    ∃ c, (Instr.field t cx i).run P w = .ok c w ∧ VRel φ v c := by
  unfold afield at h
  split at h
  · rename_i l
    simp only [Option.bind_eq_bind, Option.bind_eq_some_iff] at h
    obtain ⟨fs, hfs, f, hf, h⟩ := h
    cases hx with | agg _ cs hl hh =>
    obtain ⟨c, hr, hv⟩ := apart_run (P := P) ⟨hl, hh⟩ h w
    exact ⟨c, by simp [Instr.field, run_underlying (fieldsA_und hfs), hf, asAgg, hr], hv⟩
  · cases h

theorem afieldAddr_run {P : Program} {φ : Emb} {t : TypeId} {x v : AV} {cx : Value} {i : Nat} (hx : VRel φ x cx) (h : afieldAddr P t x i = some v) (w : World) :
    ∃ c, (Instr.fieldAt t cx i).run P w = .ok c w ∧ VRel φ v c := by
  unfold afieldAddr at h
  split at h
  · rename_i b o
    simp only [Option.bind_eq_bind, Option.bind_eq_some_iff] at h
    obtain ⟨fs, hfs, f, hf, s, hs, h⟩ := h
    split at h
    · cases h
    · rename_i hs0
      simp only [Option.some.injEq] at h
      subst h
      cases hx
      rename_i k i' z hφ
      refine ⟨.pointer (some ⟨k, i' + (o + f.offset), none⟩), ?_, .ptr _ _ _ _ _ hφ⟩
      simp [Instr.fieldAt, run_underlying (fieldsA_und hfs), hf, Instr.sureAddr, fieldPlace, szA_run hs, hs0, Addr.add_lit, Nat.add_assoc]
  · cases h

theorem alen_run {P : Program} {φ : Emb} {t ty : TypeId} {x v : AV} {cx : Value} (hx : VRel φ x cx) (h : alen P t x = some v) (w : World) :
    ∃ c, (Builtin.len_ #[t] ty #[cx]).run P w = .ok c w ∧ VRel φ v c := by
  unfold alen at h
  split at h
  · split at h
    · rename_i hs
      obtain ⟨e, hu⟩ := isSliceA_und hs
      cases h; cases hx
      exact ⟨_, by simp [Builtin.len_, run_underlying hu, goInt], .int _ _⟩
    · cases h
  · split at h
    · rename_i hs
      obtain ⟨e, hu⟩ := isSliceA_und hs
      cases h; cases hx
      exact ⟨_, by simp [Builtin.len_, run_underlying hu, goInt], .int _ _⟩
    · cases h
  · split at h
    · rename_i hu
      cases h; cases hx
      exact ⟨_, by simp [Builtin.len_, run_underlying hu, goInt], .int _ _⟩
    · cases h
  · cases h

theorem acap_run {P : Program} {φ : Emb} {t ty : TypeId} {x v : AV} {cx : Value} (hx : VRel φ x cx) (h : acap P t x = some v) (w : World) :
    ∃ c, (Builtin.cap_ #[t] ty #[cx]).run P w = .ok c w ∧ VRel φ v c := by
  unfold acap at h
  split at h
  · split at h
    · rename_i hs
      obtain ⟨e, hu⟩ := isSliceA_und hs
      cases h
      cases hx with | slc _ _ _ _ _ a c hn hc hf hadr =>
      rw [hf rfl]
      exact ⟨_, by simp [Builtin.cap_, run_underlying hu, goInt], .int _ _⟩
    · cases h
  · split at h
    · rename_i hs
      obtain ⟨e, hu⟩ := isSliceA_und hs
      cases h; cases hx
      exact ⟨_, by simp [Builtin.cap_, run_underlying hu, goInt], .int _ _⟩
    · cases h
  · cases h

theorem amax2_run {P : Program} {φ : Emb} {ts : Array TypeId} {ty : TypeId} {x y v : AV} {cx cy : Value} (hx : VRel φ x cx) (hy : VRel φ y cy) (w : World) :
    (amax2 true x y = some v → ∃ c, (Builtin.max_ ts ty #[cx, cy]).run P w = .ok c w ∧ VRel φ v c) ∧ (amax2 false x y = some v → ∃ c, (Builtin.min_ ts ty #[cx, cy]).run P w = .ok c w ∧ VRel φ v c) := by
  constructor <;> intro h <;> unfold amax2 at h <;> split at h
  · cases h; cases hx; cases hy; exact ⟨_, run_max_int2 w _ _ _ _ _ _, .int _ _⟩
  · cases h
  · cases h; cases hx; cases hy; exact ⟨_, run_min_int2 w _ _ _ _ _ _, .int _ _⟩
  · cases h

theorem apure_sound {P : Program} {φ : Emb} {ρ : Operand → AV} {ev : Operand → Value} {o : Oper} {v : AV} (hr : ∀ x ∈ o.op.operands, VRel φ (ρ x) (ev x)) (h : apure P ρ o.op = some v) (w : World) :
    ∃ c, (execOp ev o).run P w = .ok (.value c) w ∧ VRel φ v c := by
  unfold apure at h
  split at h
  · rename_i x ho
    rw [ho] at hr
    simp only [Option.some.injEq] at h; subst h
    exact ⟨ev x, by simp [execOp, ho], hr x (by simp [Op.operands])⟩
  · rename_i x ho
    rw [ho] at hr
    simp only [Option.some.injEq] at h; subst h
    exact ⟨ev x, by simp [execOp, ho], hr x (by simp [Op.operands])⟩
  · rename_i c a b ho
    rw [ho] at hr
    have hc := hr c (by simp [Op.operands]); have ha := hr a (by simp [Op.operands]); have hb := hr b (by simp [Op.operands])
    split at h
    · rename_i t hρ
      rw [hρ] at hc
      simp only [Option.some.injEq] at h; subst h
      generalize hec : ev c = cc at hc
      cases hc
      exact ⟨if t then ev a else ev b, by simp [execOp, ho, hec, asBool], by cases t <;> assumption⟩
    · cases h
  · rename_i x ho
    rw [ho] at hr
    have hx := hr x (by simp [Op.operands])
    generalize hex : ev x = cx at hx
    split at h
    · rename_i b o' hρ
      rw [hρ] at hx
      simp only [Option.some.injEq] at h; subst h
      refine ⟨cx, ?_, hx⟩
      cases hx
      simp [execOp, ho, hex]
    · rename_i f caps hρ
      rw [hρ] at hx
      simp only [Option.some.injEq] at h; subst h
      refine ⟨cx, ?_, hx⟩
      cases hx
      simp [execOp, ho, hex]
    · cases h
  · rename_i op t x y yt ho
    rw [ho] at hr
    obtain ⟨c, hc, hv⟩ := abin_run (P := P) φ (hr x (by simp [Op.operands])) (hr y (by simp [Op.operands])) h x y w
    exact ⟨c, by simp only [execOp, ho, Sem.run_bind] at hc ⊢; simp only [hc]; simp, hv⟩
  · rename_i op t x ho
    rw [ho] at hr
    obtain ⟨c, hc, hv⟩ := aun_run (P := P) φ (hr x (by simp [Op.operands])) h w
    exact ⟨c, by simp [execOp, ho, hc], hv⟩
  · rename_i src dst x ho
    rw [ho] at hr
    have hx := hr x (by simp [Op.operands])
    generalize hex : ev x = cx at hx
    split at h
    · rename_i k n hρ
      rw [hρ] at hx
      cases hx
      split at h
      · rename_i hsrc
        simp only [Option.map_eq_some_iff] at h
        obtain ⟨k', hk, rfl⟩ := h
        have hu := intA_und hk
        obtain ⟨d, hd⟩ := Option.isSome_iff_exists.1 hsrc
        exact ⟨.int k' (k'.wrap n), by simp [execOp, ho, hex, convert, run_underlying hd, run_underlying hu, Conv.intToInt], .int _ _⟩
      · cases h
    · cases h
  · rename_i f first cap ho
    rw [ho] at hr
    split at h
    · rename_i hz
      simp only [Option.some.injEq] at h; subst h
      have hf : first = #[] := by simpa using hz
      subst hf
      refine ⟨.func (.func f) #[] (cap.toList.map ev).toArray, by simp [execOp, ho, Instr.makeFunc]; apply Array.ext'; simp, .fn _ _ _ (by simp) ?_⟩
      intro j x y hx hy
      simp only [List.getElem?_map, Option.map_eq_some_iff] at hx hy
      obtain ⟨q, hq, rfl⟩ := hx
      obtain ⟨q', hq', rfl⟩ := hy
      rw [hq] at hq'; cases hq'
      exact hr q (by simp [Op.operands]; exact Array.mem_of_getElem? (by simpa using hq))
    · cases h
  · rename_i t x lo hi mx ho
    rw [ho] at hr
    obtain ⟨c, hc, hv⟩ := aslice_run (P := P) (ev := ev) (hr x (by simp [Op.operands])) (by
      intro y hy
      refine hr y ?_
      rcases hy with rfl | rfl | rfl <;> simp [Op.operands]) h w
    exact ⟨c, by simp [execOp, ho, hc], hv⟩
  · rename_i t x f ho
    rw [ho] at hr
    obtain ⟨c, hc, hv⟩ := afieldAddr_run (P := P) (hr x (by simp [Op.operands])) h w
    exact ⟨c, by simp [execOp, ho, hc], hv⟩
  · rename_i t x f ho
    rw [ho] at hr
    obtain ⟨c, hc, hv⟩ := afield_run (P := P) (hr x (by simp [Op.operands])) h w
    exact ⟨c, by simp [execOp, ho, hc], hv⟩
  · rename_i t x ix ho
    rw [ho] at hr
    obtain ⟨c, hc, hv⟩ := aindexAddr_run (P := P) (hr x (by simp [Op.operands])) (hr ix (by simp [Op.operands])) h w
    exact ⟨c, by simp [execOp, ho, hc], hv⟩
  · rename_i t x ix ho
    rw [ho] at hr
    obtain ⟨c, hc, hv⟩ := aindex_run (P := P) (hr x (by simp [Op.operands])) (hr ix (by simp [Op.operands])) h w
    exact ⟨c, by simp [execOp, ho, hc], hv⟩
  · rename_i x i ho
    rw [ho] at hr
    have hx := hr x (by simp [Op.operands])
    generalize hex : ev x = cx at hx
    split at h
    · rename_i l hρ
      rw [hρ] at hx
      cases hx with | tup _ cs hl hh =>
      have hlt : i < cs.length := by rw [← hl]; exact (List.getElem?_eq_some_iff.1 h).1
      exact ⟨cs[i], by simp [execOp, ho, hex, Instr.extract, hlt], hh i _ _ h (List.getElem?_eq_getElem hlt)⟩
    · cases h
  · rename_i args tys ho
    rw [ho] at hr
    split at h
    · rename_i x t hx ht
      have hax : args = #[x] := by apply Array.ext'; simpa using hx
      have hat : tys = #[t] := by apply Array.ext'; simpa using ht
      subst hax hat
      obtain ⟨c, hc, hv⟩ := alen_run (P := P) (ty := o.type) (hr x (by simp [Op.operands, Call.operands])) h w
      exact ⟨c, by simp [execOp, ho, resolve, invoke, builtin, hc], hv⟩
    · cases h
  · rename_i args tys ho
    rw [ho] at hr
    split at h
    · rename_i x t hx ht
      have hax : args = #[x] := by apply Array.ext'; simpa using hx
      have hat : tys = #[t] := by apply Array.ext'; simpa using ht
      subst hax hat
      obtain ⟨c, hc, hv⟩ := acap_run (P := P) (ty := o.type) (hr x (by simp [Op.operands, Call.operands])) h w
      exact ⟨c, by simp [execOp, ho, resolve, invoke, builtin, hc], hv⟩
    · cases h
  · rename_i args tys ho
    rw [ho] at hr
    split at h
    · rename_i x y hx
      have hax : args = #[x, y] := by apply Array.ext'; simpa using hx
      subst hax
      obtain ⟨c, hc, hv⟩ := (amax2_run (P := P) (ts := tys) (ty := o.type) (hr x (by simp [Op.operands, Call.operands])) (hr y (by simp [Op.operands, Call.operands])) w).1 h
      exact ⟨c, by simp [execOp, ho, resolve, invoke, builtin, hc], hv⟩
    · cases h
  · rename_i args tys ho
    rw [ho] at hr
    split at h
    · rename_i x y hx
      have hax : args = #[x, y] := by apply Array.ext'; simpa using hx
      subst hax
      obtain ⟨c, hc, hv⟩ := (amax2_run (P := P) (ts := tys) (ty := o.type) (hr x (by simp [Op.operands, Call.operands])) (hr y (by simp [Op.operands, Call.operands])) w).2 h
      exact ⟨c, by simp [execOp, ho, resolve, invoke, builtin, hc], hv⟩
    · cases h
  · cases h

end Go.Am
