/-
  The abstract machine: boxes, arrays behind pointers, rows of tables that are cut, copied, made.
  Conditions: none.
-/
import Derived.Test.YtenkokebdgekbaaAmC
namespace Go.Am

theorem St.cut {h0 h : AHeap} {objs : List Obj} (st : St h0 h objs) {k m : Nat} {v r : AV} {xs : List AV} {tip : Bool} (hk : objs[k]? = some ⟨v, 1, xs, tip⟩) (hm : m ≤ xs.length)
    (hr : (v = .nils ∧ r = .nils) ∨ ∃ b o n full, v = .slc b o n 1 full ∧ r = .slc b o m 1 true) : St h0 h (objs.set k ⟨r, 1, xs.take m, tip⟩) := by
  refine st.upd hk (Nat.le_refl _) (Nat.le_refl _) rfl ?_
  intro F hmu hge
  refine ⟨F, ?_, .inl rfl, fun _ _ _ => rfl, fun _ _ _ => rfl⟩
  cases F with
  | none =>
    obtain ⟨h1, h2⟩ := hmu
    simp only at h1 h2
    rcases hr with ⟨_, rfl⟩ | ⟨b, o, n, full, h3, _⟩
    · exact ⟨rfl, by simp only; rw [h2]; simp⟩
    · rw [h1] at h3; cases h3
  | some F =>
    rcases hmu with ⟨b, off, p, cs, f, h1, h2, h3, h4, h5, h6, h7⟩ | ⟨_, _, _, _, _, h0, _⟩
    rotate_left
    · cases h0
    rcases hr with ⟨rfl, _⟩ | ⟨b', o, n, full, rfl, rfl⟩
    · rcases h2 with ⟨_, _, h2, _⟩ | ⟨h0, _⟩
      · cases h2
      · cases h0
    · rcases h2 with ⟨n', full', h2, h8, h9⟩ | ⟨h0, _⟩
      · cases h2
        have hl : (xs.take m).length = m := by rw [List.length_take]; omega
        refine .inl ⟨b, off, p, cs, f, h1, .inl ⟨m, true, rfl, by simp only [hl]; omega, Nat.zero_lt_one⟩, h3, h4, h5, ?_, fun _ => .inl ⟨m, rfl⟩⟩
        simp only at h6 ⊢
        rw [hl]
        conv => rhs; rw [← h6]
        rw [List.take_take]
        congr 1; omega
      · cases h0

theorem Rd.cut {P : Program} {h : AHeap} {v : AV} {xs : List AV} {t e : TypeId} {zs : List AV} {m : Nat} [ht : SlT P t e 1 zs] (hr : Rd h v 1 xs) (hm : m ≤ xs.length) {u w : AV} (hb : aslice3 xs.length none (some u) (some w) = some (0, m, some m)) :
    ∃ r, aslice P t v none (some u) (some w) = some r ∧ ((v = .nils ∧ r = .nils) ∨ ∃ b o n full, v = .slc b o n 1 full ∧ r = .slc b o m 1 true) := by
  rcases hr with ⟨rfl, rfl⟩ | ⟨b, o, F, q, cs, h1, h2, h3, h4⟩ | ⟨_, _, _, _, h0, _⟩
  rotate_right
  · cases h0
  · refine ⟨.nils, ?_, .inl ⟨rfl, rfl⟩⟩
    simp only [List.length_nil] at hb
    simp only [aslice, ht.elem, ht.sz, Option.bind_eq_bind, Option.bind_some, hb]
  · rcases h1 with ⟨n, full, rfl, hn, hs⟩ | ⟨h0, _⟩
    · have : n = xs.length := by omega
      subst this
      refine ⟨.slc b (o + 0 * 1) (m - 0) 1 (afull xs.length m full (some m)), ?_, .inr ⟨b, o, xs.length, full, rfl, ?_⟩⟩
      · simp only [aslice, ht.elem, ht.sz, Option.bind_eq_bind, Option.bind_some, hb, if_true]
      · simp [afull]
    · cases h0

/-- A number of cells of what is owned overwritten. -/
theorem St.copy {P : Program} {h0 h : AHeap} {objs : List Obj} (st : St h0 h objs) {k : Nat} {v y : AV} {xs ys : List AV} {tip : Bool} {t e : TypeId} {zs : List AV} [ht : SlT P t e 1 zs] (hk : objs[k]? = some ⟨v, 1, xs, tip⟩) (hy : Rd h y 1 ys) (h1 : ys.all AV.one = true) (hl : ys.length = xs.length) :
    ∃ h', acopy P h t v y = some (.int .i64 (xs.length : Nat), h') ∧ St h0 h' (objs.set k ⟨v, 1, ys, tip⟩) := by
  have hcx := (st.rd k hk).cells (m := xs.length) Nat.zero_lt_one (by simp)
  have hcy := hy.cells (m := ys.length) Nat.zero_lt_one (by simp)
  simp only [acopy, ht.elem, ht.sz, hcx, hcy, Option.bind_eq_bind, Option.bind_some, hl, Nat.min_self]
  by_cases h00 : xs.length = 0
  · have e1 : xs = [] := List.length_eq_zero_iff.1 h00
    have e2 : ys = [] := List.length_eq_zero_iff.1 (by omega)
    subst e1 e2
    refine ⟨h, by simp, ?_⟩
    rw [obj_eq hk]; exact st
  · rw [if_neg h00, if_pos h1]
    obtain ⟨kp, fs, hlen, hmu, hd, hb⟩ := id st
    have hklt : k < objs.length := (List.getElem?_eq_some_iff.1 hk).1
    have hkf : k < fs.length := by omega
    have hmk := hmu k _ fs[k] hk (List.getElem?_eq_getElem hkf)
    cases hF : fs[k] with
    | none => rw [hF] at hmk; have := hmk.2; simp only at this; rw [this] at h00; simp at h00
    | some F =>
      rw [hF] at hmk
      rcases hmk with ⟨b, off, q, cs, f, hlo, hview, hget, hfam, hsee, hpart, htip⟩ | ⟨_, _, _, _, _, h0, _⟩
      rotate_left
      · cases h0
      obtain ⟨n', full, hv, hn'⟩ : ∃ n' full, v = .slc b off n' 1 full ∧ xs.length = n' * 1 := by
        rcases hview with ⟨n', full, hv, hn', _⟩ | ⟨h0', _⟩
        · exact ⟨n', full, hv, hn'⟩
        · cases h0'
      simp only at hpart htip
      subst hv
      have hcl : off + xs.length ≤ cs.length := by
        have := congrArg List.length hpart
        simp at this; omega
      simp only [hget, hfam, Option.bind_some, Nat.mul_one]
      rw [if_pos hcl]
      refine ⟨_, rfl, ?_⟩
      have htk : ys.take xs.length = ys := List.take_of_length_le (by omega)
      rw [htk]
      refine st.upd hk (by simp [AHeap.setFam, AHeap.set, AHeap.next]) (by simp [AHeap.setFam, AHeap.set, AHeap.nfam]) rfl ?_
      intro F' hmu' hge
      have hblt := AHeap.get_lt hget
      have hFlt := AHeap.fam_lt hfam
      have hFF : F' = some F := by
        cases F' with
        | none => exact absurd hmu'.1 (by simp)
        | some G =>
          rcases hmu' with ⟨b', off', q', cs', f', _, hv', hg', _⟩ | ⟨_, _, _, _, _, h0, _⟩
          rotate_left
          · cases h0
          rcases hv' with ⟨_, _, hv', _⟩ | ⟨h0', _⟩
          · cases hv'
            rw [hget] at hg'
            cases hg'
            rfl
          · cases h0'
      subst hFF
      refine ⟨some F, .inl ⟨b, off, q, putL cs off ys, { f with live := some [b] }, hlo, .inl ⟨n', full, rfl, by simp only; omega, Nat.zero_lt_one⟩, ?_, ?_, ?_, ?_, ?_⟩, .inl rfl, ?_, ?_⟩
      · simp only [AHeap.setFam, AHeap.set, AHeap.get]; exact List.getElem?_set_self hblt
      · simp only [AHeap.setFam, AHeap.set, AHeap.fam]; exact List.getElem?_set_self hFlt
      · simp [Fam.sees]
      · apply List.ext_getElem?
        intro i
        simp only
        rw [List.getElem?_take, List.getElem?_drop, putL_get _ _ _ (by omega)]
        by_cases hi : i < ys.length
        · rw [if_pos hi, if_pos (by omega)]; congr 1; omega
        · rw [if_neg hi, List.getElem?_eq_none (by omega)]
      · intro ht'
        rcases htip ht' with hx | hx
        · exact .inl hx
        · right; simp only; rw [hl]; exact hx
      · intro b' hb' hno
        by_cases hbb : b = b'
        · subst hbb; exact ((hno F rfl (by omega)).1 q cs hget).elim
        · simp [AHeap.setFam, AHeap.set, AHeap.get, List.getElem?_set, hbb]
      · intro G hG hne
        have : F ≠ G := fun he => hne (by rw [he])
        simp [AHeap.setFam, AHeap.set, AHeap.fam, List.getElem?_set, this]

theorem getDA_set {vs : List AV} {k : Nat} {r : AV} (h : k < vs.length) : (vs.set k r).getD k .bot = r := by
  rw [List.getD_eq_getElem?_getD, List.getElem?_set_self h]; rfl
/-- Arrays. -/
class ArT (P : Program) (t : TypeId) (n : outParam Nat) : Prop where
  arr : ∃ e, arrA P t = some (n, e) ∧ szA P e = some 1
theorem ArT.of {P : Program} {t : TypeId} {n : Nat} (h : ((arrA P t).map fun p => (p.1, szA P p.2)) = some (n, some 1)) : ArT P t n := by
  constructor
  cases ha : arrA P t with
  | none => rw [ha] at h; cases h
  | some p =>
    rw [ha] at h
    simp only [Option.map_some, Option.some.injEq, Prod.mk.injEq] at h
    exact ⟨p.2, by rw [← h.1], h.2⟩

section
variable {P : Program} {n : Nat} {ops : Array Oper} {ex : List Nat} {Q : KF → AHeap → Prop} {k : Nat} {os : List Oper} {K : KF} {h h0 : AHeap} {d : Nat} {ty : TypeId} {pos : String} {after : Array Edge} {objs pre rest : List Obj}

/-- A box is looked into. -/
theorem KOps.loadBox {x : Operand} {p v : AV} {t : TypeId} {i : Nat} {tip : Bool} [hx : EvK h.globs n K x p] [ht : ScT P t] (st : St h0 h objs) (hk' : objs[i]? = some ⟨p, 0, [v], tip⟩) (ha : AddrOf p p 0 0) (hk : KOps P n ops ex Q (k + 1) os ((d, v) :: K) h) :
    KOps P n ops ex Q k (⟨some d, .load t x, ty, pos, after, none⟩ :: os) K h := KOps.load ha (st.rd i hk') rfl hk
/-- A box is filled. -/
theorem KOps.storeBox {t : TypeId} {x y : Operand} {p v w : AV} {i : Nat} {tip : Bool} [hx : EvK h.globs n K x p] [hy : EvK h.globs n K y w] [ht : ScT P t] (st : St h0 h objs) (hex : ex.contains k = false) (hk' : objs[i]? = some ⟨p, 0, [v], tip⟩) (ha : AddrOf p p 0 0) (h1 : w.one = true)
    (hk : ∀ h', St h0 h' (objs.set i ⟨p, 0, [w], tip⟩) → KOps P n ops ex Q (k + 1) os K h') : KOps P n ops ex Q k (⟨none, .store t x y, ty, pos, after, none⟩ :: os) K h :=
  KOps.store st hex hk' ha h1 (by simp) hk
theorem KOps.nilP {x : Operand} {p : AV} [hx : EvK h.globs n K x p] (ha : AddrOf p p 0 0) (hk : KOps P n ops ex Q (k + 1) os ((d, p) :: K) h) : KOps P n ops ex Q k (⟨some d, .nilCheck x, ty, pos, after, none⟩ :: os) K h := KOps.nilCheckP ha hk
/-- A place of an array behind a pointer. -/
theorem KOps.indexA {x ix : Operand} {p : AV} {t : TypeId} {m : Nat} {kd : IntKind} {i : Int} {j : Nat} [hx : EvK h.globs n K x p] [hi : EvK h.globs n K ix (.int kd i)] [ht : ArT P t m] (ha : AddrOf p p 0 0) (hj : i = (j : Int)) (hlt : j < m)
    (hk : ∀ q, AddrOf q p 0 j → KOps P n ops ex Q (k + 1) os ((d, q) :: K) h) : KOps P n ops ex Q k (⟨some d, .indexAddr t x ix, ty, pos, after, none⟩ :: os) K h := by
  subst hj
  obtain ⟨b, o, h1, h2⟩ := ha
  rcases h1 with ⟨h0, _⟩ | ⟨_, rfl⟩
  · cases h0
  obtain ⟨e, he, hs⟩ := ht.arr
  refine KOps.pure rfl (v := .ptr b (o + j)) ?_ (hk _ ⟨b, o, .inr ⟨rfl, rfl⟩, rfl⟩)
  simp only [apure, hx.eq, hi.eq, aindexAddr, he, hs, Option.bind_eq_bind, Option.bind_some]
  rw [if_pos ⟨by omega, by omega⟩]
  simp
theorem KOps.loadA {x : Operand} {p q : AV} {t : TypeId} {j i : Nat} {l : List Int} {tip : Bool} [hx : EvK h.globs n K x q] [ht : ScT P t] (st : St h0 h objs) (hk' : objs[i]? = some ⟨p, 0, ints l, tip⟩) (ha : AddrOf q p 0 j) (hj : j < l.length) (hk : KOps P n ops ex Q (k + 1) os ((d, .int .i64 (l.getD j 0)) :: K) h) :
    KOps P n ops ex Q k (⟨some d, .load t x, ty, pos, after, none⟩ :: os) K h :=
  KOps.load ha (st.rd i hk') (by simp [ints, List.getElem?_map, List.getElem?_eq_getElem hj, List.getD_eq_getElem?_getD]) hk
theorem KOps.storeA {t : TypeId} {x y : Operand} {p q : AV} {i j : Nat} {c : Int} {l : List Int} {tip : Bool} [hx : EvK h.globs n K x q] [hy : EvK h.globs n K y (.int .i64 c)] [ht : ScT P t] (st : St h0 h objs) (hex : ex.contains k = false) (hk' : objs[i]? = some ⟨p, 0, ints l, tip⟩) (ha : AddrOf q p 0 j) (hj : j < l.length)
    (hk : ∀ h', St h0 h' (objs.set i ⟨p, 0, ints (l.set j c), tip⟩) → KOps P n ops ex Q (k + 1) os K h') : KOps P n ops ex Q k (⟨none, .store t x y, ty, pos, after, none⟩ :: os) K h := by
  refine KOps.store st hex hk' ha rfl (by simpa using hj) ?_
  intro h' hS
  refine hk h' ?_
  have e : (ints l).set j (.int .i64 c) = ints (l.set j c) := by simp [ints, List.map_set]
  simp only [e] at hS
  exact hS

/-- A row of a table is cut, and full: the outer slice does not know it yet. -/
theorem KOps.cutAt {x u w : Operand} {vo : AV} {vs : List AV} {ps : List (List Int)} {t e : TypeId} {zs : List AV} {j m : Nat} {i : Int} {ku kw : IntKind} {tp : Bool} [hx : EvK h.globs n K x (vs.getD j .bot)] [hu : EvK h.globs n K u (.int ku i)] [hw : EvK h.globs n K w (.int kw i)] [ht : SlT P t e 1 zs] (st : St h0 h (pre ++ (matObjs tp vo vs ps ++ rest))) (hl : vs.length = ps.length) (hj : j < ps.length) (hi : i = (m : Int)) (hm : m ≤ (ps.getD j []).length)
    (hk : ∀ r, r.one = true → St h0 h (pre ++ (⟨vo, 1, vs, true⟩ :: (rowObjs tp (vs.set j r) (ps.set j ((ps.getD j []).take m)) ++ rest))) → KOps P n ops ex Q (k + 1) os ((d, r) :: K) h) : KOps P n ops ex Q k (⟨some d, .slice t x none (some u) (some w), ty, pos, after, none⟩ :: os) K h := by
  subst hi
  have hr := st.rowAt hl hj
  have hb : aslice3 (ints (ps.getD j [])).length none (some (.int ku (m : Int))) (some (.int kw (m : Int))) = some (0, m, some m) := by
    have : m ≤ (ints (ps.getD j [])).length := by simpa using hm
    simp only [aslice3, aboundsI]
    simp
    simpa using this
  obtain ⟨r, h1, h2⟩ := hr.cut (P := P) (t := t) (e := e) (zs := zs) (m := m) (by simpa using hm) hb
  have hidx : (pre ++ (matObjs tp vo vs ps ++ rest))[pre.length + (j + 1)]? = some ⟨vs.getD j .bot, 1, ints (ps.getD j []), tp⟩ := by
    rw [List.getElem?_append_right (by omega), Nat.add_sub_cancel_left]
    exact rowObjs_getA hl hj
  have hS := st.cut hidx (by simpa using hm) h2
  have hone : r.one = true := by
    rcases h2 with ⟨_, rfl⟩ | ⟨b, o, n', full, _, rfl⟩ <;> rfl
  refine KOps.read rfl ?_ (hk r hone ?_)
  · simp only [areadR, hx.eq]
    have hne : ∀ b o, vs.getD j .bot ≠ .ptr b o := by
      intro b o he
      rw [he] at h2
      rcases h2 with ⟨h3, _⟩ | ⟨_, _, _, _, h3, _⟩ <;> cases h3
    split
    · rename_i b o he; exact absurd he (hne b o)
    · simp only [Option.map_none, Option.map_some, hu.eq, hw.eq]; exact h1
  · rw [List.set_append_right _ _ (by omega), Nat.add_sub_cancel_left] at hS
    simp only [matObjs, List.cons_append, List.set_cons_succ] at hS
    have e2 : (ints (ps.getD j [])).take m = ints ((ps.getD j []).take m) := by simp [ints, List.map_take]
    rw [e2, rowObjs_setA hl hj] at hS
    exact hS
/-- A number behind a row of a table of which the outer slice knows an older state. -/
theorem KOps.appendHole {t e : TypeId} {x y : Operand} {vo u v : AV} {vs ws : List AV} {qs : List (List Int)} {j : Nat} {c : Int} {zs : List AV} {tp tip' : Bool} [hx : EvK h.globs n K x v] [hy : EvK h.globs n K y u] [ht : SlT P t e 1 zs] (st : St h0 h (⟨u, 1, [.int .i64 c], tip'⟩ :: (pre ++ (⟨vo, 1, vs, true⟩ :: (rowObjs tp ws qs ++ rest))))) (hxv : ws.getD j .bot = v) (hex : ex.contains k = true → tp = true) (hl : ws.length = qs.length) (hj : j < qs.length) (hsz : (qs.getD j []).length + 1 ≤ 4294967296)
    (hk : ∀ r h', r.one = true → St h0 h' (pre ++ (⟨vo, 1, vs, true⟩ :: (rowObjs tp (ws.set j r) (qs.set j (qs.getD j [] ++ [c])) ++ rest))) → KOps P n ops ex Q (k + 1) os ((d, r) :: K) h') :
    KOps P n ops ex Q k (⟨some d, .call { callee := .builtin .append, args := #[x, y], argTypes := #[t, t] }, ty, pos, after, none⟩ :: os) K h := by
  subst hxv
  refine KOps.appendI (e := e) (zs := zs) (i := pre.length + (j + 1)) (p := qs.getD j []) (tip := tp) st hex ?_ hsz ?_
  · rw [List.getElem?_append_right (by omega), Nat.add_sub_cancel_left]
    exact rowObjs_getA hl hj
  intro r h' ho hS
  refine hk r h' ho ?_
  rw [List.set_append_right _ _ (by omega), Nat.add_sub_cancel_left] at hS
  simp only [List.set_cons_succ] at hS
  rw [rowObjs_setA hl hj] at hS
  exact hS
/-- A row behind a row that is owned. -/
theorem KOps.appendAll {t e : TypeId} {x y : Operand} {v u : AV} {i : Nat} {p q : List Int} {zs : List AV} {tip : Bool} [hx : EvK h.globs n K x v] [hy : EvK h.globs n K y u] [ht : SlT P t e 1 zs] (st : St h0 h objs) (hex : ex.contains k = true → tip = true) (hk' : objs[i]? = some ⟨v, 1, ints p, tip⟩) (hr : Row h u q) (hsz : p.length + q.length ≤ 4294967296)
    (hk : ∀ r h', r.one = true → St h0 h' (objs.set i ⟨r, 1, ints (p ++ q), tip⟩) → KOps P n ops ex Q (k + 1) os ((d, r) :: K) h') :
    KOps P n ops ex Q k (⟨some d, .call { callee := .builtin .append, args := #[x, y], argTypes := #[t, t] }, ty, pos, after, none⟩ :: os) K h := by
  refine KOps.append (e := e) (zs := zs) (s := 1) (i := i) (a := p.length) (b := q.length) (xs := ints p) (ys := ints q) (tip := tip) st hex hk' (by simp) hr (by simp) (by simp [ints, AV.one]) hsz ?_
  intro r h' hS
  have hS' : St h0 h' (objs.set i ⟨r, 1, ints (p ++ q), tip⟩) := by simpa [ints] using hS
  have hlt := (List.getElem?_eq_some_iff.1 hk').1
  exact hk r h' (hS'.one (k := i) (o := ⟨r, 1, ints (p ++ q), tip⟩) (by rw [List.getElem?_set, if_pos rfl, if_pos hlt])) hS'
end

end Go.Am
