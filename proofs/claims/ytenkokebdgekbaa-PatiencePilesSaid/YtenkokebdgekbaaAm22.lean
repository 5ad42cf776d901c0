/-
  The abstract machine: appending to what is owned.
  Conditions: none.
-/
import Derived.Test.YtenkokebdgekbaaAm21
namespace Go.Am

theorem Keeps.hext {h h' : AHeap} (k : Keeps h h') (hw : WFH h) : HExt h h' := by
  refine ⟨k.next, k.get, ?_⟩
  intro b hb
  unfold AHeap.valid
  rw [k.get b hb]
  cases hg : h.get b with
  | none => rfl
  | some B =>
    cases B with
    | map es => rfl
    | cells F p cs =>
      cases F with
      | none => rfl
      | some F =>
        obtain ⟨f, hf, _⟩ := hw b F p cs hg
        simp only [hf, k.fam_some hf]

theorem Rd.cells {h : AHeap} {v : AV} {s m : Nat} {xs : List AV} (hr : Rd h v s xs) (hs : 0 < s) (hm : xs.length = m * s) : acells h s v = some (m, xs) := by
  rcases hr with ⟨rfl, rfl⟩ | ⟨b, o, F, q, cs, h1, h2, h3, h4⟩
  · have : m = 0 := by
      simp only [List.length_nil] at hm
      rcases Nat.mul_eq_zero.1 hm.symm with h0 | h0 <;> omega
    subst this; rfl
  · rcases h1 with ⟨n, full, rfl, hn, _⟩ | ⟨h0, _⟩
    · have : n = m := Nat.eq_of_mul_eq_mul_right hs (hn.symm.trans hm)
      subst this
      simp only [acells, if_true]
      split
      · rename_i h0
        subst h0
        rw [Nat.zero_mul] at hm
        rw [List.length_eq_zero_iff.1 hm]
      · rename_i hne
        have hpos : 0 < xs.length := by rw [hm]; exact Nat.mul_pos (by omega) hs
        have := congrArg List.length h4
        rw [List.length_take, List.length_drop] at this
        rw [h2, ← hm]
        simp only [h3, true_and]
        rw [if_pos (by omega), h4]
    · omega

theorem alloc_keeps (h : AHeap) (cs : List AV) : Keeps h (h.alloc cs) := by
  refine ⟨by simp [AHeap.alloc, AHeap.pushFam, AHeap.push, AHeap.next], by simp [AHeap.alloc, AHeap.pushFam, AHeap.push, AHeap.nfam], rfl, ?_, ?_⟩
  · intro b hb
    simp only [AHeap.alloc, AHeap.pushFam, AHeap.push, AHeap.get]
    exact List.getElem?_append_left hb
  · intro F hF
    simp only [AHeap.alloc, AHeap.pushFam, AHeap.push, AHeap.fam]
    exact List.getElem?_append_left hF

theorem alloc_mu (h : AHeap) (lo : Nat) (hlo : lo ≤ h.next) (cs : List AV) {v : AV} {s : Nat} {tip : Bool} (hv : View v s h.next 0 cs.length) : Mu lo (h.alloc cs) (some h.nfam) ⟨v, s, cs, tip⟩ := by
  refine ⟨h.next, 0, 0, cs, ⟨cs.length, none⟩, hlo, hv, ?_, ?_, rfl, by simp, fun _ => .inr (by simp)⟩
  · simp [AHeap.alloc, AHeap.pushFam, AHeap.push, AHeap.get, AHeap.next]
  · simp [AHeap.alloc, AHeap.pushFam, AHeap.push, AHeap.fam, AHeap.nfam]

theorem push_get_old {h : AHeap} {B : Blk} {F : Nat} {f : Fam} {b : Nat} (hb : b < h.next) : ((h.push B).setFam F f).get b = h.get b := by
  simp only [AHeap.setFam, AHeap.push, AHeap.get]
  exact List.getElem?_append_left hb
theorem push_get_new {h : AHeap} {B : Blk} {F : Nat} {f : Fam} : ((h.push B).setFam F f).get h.next = some B := by
  simp [AHeap.setFam, AHeap.push, AHeap.get, AHeap.next]
theorem push_fam_same {h : AHeap} {B : Blk} {F : Nat} {f : Fam} (hF : F < h.nfam) : ((h.push B).setFam F f).fam F = some f := by
  simp only [AHeap.setFam, AHeap.push, AHeap.fam]
  exact List.getElem?_set_self hF
theorem push_fam_other {h : AHeap} {B : Blk} {F G : Nat} {f : Fam} (hF : F ≠ G) : ((h.push B).setFam F f).fam G = h.fam G := by
  simp only [AHeap.setFam, AHeap.push, AHeap.fam]
  exact List.getElem?_set_ne hF

theorem St.append {P : Program} {h0 h : AHeap} {objs : List Obj} (st : St h0 h objs) {k : Nat} {v y : AV} {s n m : Nat} {xs ys : List AV} {tip : Bool} {t e : TypeId} {zs : List AV} [ht : SlT P t e s zs]
    (hk : objs[k]? = some ⟨v, s, xs, tip⟩) (hn : xs.length = n * s) (hy : Rd h y s ys) (hm : ys.length = m * s) (h1 : ys.all AV.one = true) (hsz : n + m ≤ 4294967296) :
    ∃ r h', aappend P true h t v y = some (r, h') ∧ St h0 h' (objs.set k ⟨r, s, xs ++ ys, tip⟩) ∧ (tip = true → WFH h → HExt h h') := by
  have hs := ht.pos
  obtain ⟨z, hz, hzs⟩ := Option.bind_eq_some_iff.1 ht.zero
  obtain ⟨i, hi, hib⟩ := ht.info
  have hcx := (st.rd k hk).cells hs hn
  have hcy := hy.cells hs hm
  have hcond : zs.length = s ∧ ys.all AV.one = true ∧ n + m ≤ 9223372036854775807 ∧ (n + m) * i.bytes ≤ 140737488355328 := by
    refine ⟨ht.zlen, h1, by omega, ?_⟩
    calc (n + m) * i.bytes ≤ 4294967296 * 4096 := Nat.mul_le_mul hsz hib
      _ ≤ 140737488355328 := by decide
  simp only [aappend, ht.elem, ht.sz, hz, hzs, hi, hcx, hcy, Option.bind_eq_bind, Option.bind_some]
  have hklt : k < objs.length := (List.getElem?_eq_some_iff.1 hk).1
  have hset : ∀ o : Obj, objs[k]? = some o → objs.set k o = objs := by
    intro o ho
    apply List.ext_getElem?
    intro j
    rw [List.getElem?_set]
    by_cases hj : k = j
    · subst hj; rw [if_pos rfl, if_pos hklt]; exact ho.symm
    · rw [if_neg hj]
  have hall : ∀ b, ∀ cs : List AV, b < h.next → (h.alloc cs).get b = h.get b := fun b cs hb => (alloc_keeps h cs).get b hb
  by_cases hm0 : m = 0
  · subst hm0
    rw [Nat.zero_mul] at hm
    have : ys = [] := List.length_eq_zero_iff.1 hm
    subst this
    refine ⟨v, h, by rw [if_pos rfl], ?_, fun _ _ => HExt.refl h⟩
    rw [List.append_nil, hset _ hk]
    exact st
  · rw [if_neg hm0, if_pos hcond]
    obtain ⟨kp, fs, hlen, hmu, hd, hb⟩ := id st
    have hkf : k < fs.length := by omega
    have hmk := hmu k _ fs[k] hk (List.getElem?_eq_getElem hkf)
    have hms : 0 < m * s := Nat.mul_pos (by omega) hs
    cases hF : fs[k] with
    | none =>
      rw [hF] at hmk
      obtain ⟨hv, hx⟩ := hmk
      simp only at hv hx
      subst hv hx
      refine ⟨_, _, rfl, ?_, fun _ hw => (alloc_keeps h _).hext hw⟩
      refine st.upd hk (alloc_keeps h _).next (alloc_keeps h _).nfam rfl ?_
      intro F' hmu' hge
      refine ⟨some h.nfam, alloc_mu h h0.next kp.next _ (.inl ⟨m, false, rfl, by simpa using hm, hs⟩), .inr ⟨_, rfl, Nat.le_refl _⟩, fun b hb _ => hall b _ hb, fun G hG _ => (alloc_keeps h _).fam G hG⟩
    | some F =>
      rw [hF] at hmk
      obtain ⟨b, off, q, cs, f, hlo, hview, hget, hfam, hsee, hpart, htip⟩ := hmk
      rcases hview with ⟨n', full, hv, hn', _⟩ | ⟨h0, _⟩
      · simp only at hv hn' hpart htip
        subst hv
        have : n' = n := Nat.eq_of_mul_eq_mul_right hs (hn'.symm.trans hn)
        subst this
        cases full with
        | true =>
          refine ⟨_, _, rfl, ?_, fun _ hw => (alloc_keeps h _).hext hw⟩
          refine st.upd hk (alloc_keeps h _).next (alloc_keeps h _).nfam rfl ?_
          intro F' hmu' hge
          refine ⟨some h.nfam, alloc_mu h h0.next kp.next _ (.inl ⟨_, false, rfl, by rw [List.length_append, hn, hm, Nat.add_mul], hs⟩), .inr ⟨_, rfl, Nat.le_refl _⟩, fun b hb _ => hall b _ hb, fun G hG _ => (alloc_keeps h _).fam G hG⟩
        | false =>
          have hFlt := AHeap.fam_lt hfam
          have hblt := AHeap.get_lt hget
          simp only [hget, hfam, Option.bind_some]
          have hFF : ∀ F', Mu h0.next h F' ⟨.slc b off n' s false, s, xs, tip⟩ → F' = some F := by
            intro F' hmu'
            cases F' with
            | none => cases hmu'.1
            | some G =>
              obtain ⟨b', off', q', cs', f', _, hv', hg', _⟩ := hmu'
              rcases hv' with ⟨_, _, hv', _⟩ | ⟨h0, _⟩
              · cases hv'
                rw [hget] at hg'
                cases hg'; rfl
              · omega
          have main : ∀ (x : Nat) (lv : Option (List Nat)), Fam.sees ⟨x, lv⟩ h.next = true → (tip = true → q + off + (n' + m) * s = x) →
              St h0 ((h.push (.cells (some F) (q + off) (xs ++ ys))).setFam F ⟨x, lv⟩) (objs.set k ⟨.slc h.next 0 (n' + m) s false, s, xs ++ ys, tip⟩) := by
            intro x lv hlv hx
            refine st.upd hk (by simp [AHeap.setFam, AHeap.push, AHeap.next]) (by simp [AHeap.setFam, AHeap.push, AHeap.nfam]) rfl ?_
            intro F' hmu' hge
            have := hFF F' hmu'
            subst this
            refine ⟨some F, ⟨h.next, 0, q + off, xs ++ ys, ⟨x, lv⟩, kp.next, .inl ⟨_, false, rfl, by rw [List.length_append, hn, hm, Nat.add_mul], hs⟩, push_get_new, push_fam_same hFlt, hlv, (by show ((xs ++ ys).drop 0).take (xs ++ ys).length = xs ++ ys; rw [List.drop_zero, List.take_length]), ?_⟩, .inl rfl, ?_, ?_⟩
            · intro htt
              right
              have := hx htt
              simp only [List.length_append, hn, hm]
              rw [Nat.add_mul] at this
              omega
            · intro b' hb' _
              exact push_get_old hb'
            · intro G _ hne
              exact push_fam_other (fun he => hne (by rw [he]))
          split
          · rename_i hext
            refine ⟨_, _, rfl, main _ _ ?_ ?_, ?_⟩
            · unfold Fam.sees
              cases f.live with
              | none => rfl
              | some l => simp
            · intro _; rw [Nat.add_mul]; omega
            · intro _ hw
              refine ⟨by simp [AHeap.setFam, AHeap.push, AHeap.next], fun b' hb' => push_get_old hb', ?_⟩
              intro b' hb'
              unfold AHeap.valid
              rw [push_get_old hb']
              cases hg : h.get b' with
              | none => rfl
              | some B =>
                cases B with
                | map es => rfl
                | cells G p' cs' =>
                  cases G with
                  | none => rfl
                  | some G =>
                    simp only
                    by_cases hFG : F = G
                    · subst hFG
                      rw [push_fam_same hFlt, hfam]
                      simp only [Fam.sees]
                      cases f.live with
                      | none => rfl
                      | some l => simp [show b' ≠ h.next by omega]
                    · rw [push_fam_other hFG]
          · rename_i hext
            refine ⟨_, _, if_pos trivial, main _ _ (by simp [Fam.sees]) ?_, ?_⟩
            · intro htt
              rcases htip htt with ⟨n2, h2⟩ | h2
              · cases h2
              · omega
            · intro htt
              rcases htip htt with ⟨n2, h2⟩ | h2
              · cases h2
              · omega
      · simp only at h0; omega

/-- Another part of what is owned. -/
theorem St.part {h0 h : AHeap} {objs : List Obj} (st : St h0 h objs) {k : Nat} {o : Obj} (hk : objs[k]? = some o) {v : AV} {xs : List AV} {j : Nat} (hpart : (o.xs.drop j).take xs.length = xs)
    (hv : (v = .nils ∧ o.v = .nils) ∨ ∃ b off n n' full full', o.v = .slc b off n o.s full ∧ v = .slc b (off + j) n' o.s full' ∧ xs.length = n' * o.s) : St h0 h (objs.set k ⟨v, o.s, xs, false⟩) := by
  refine st.upd hk (Nat.le_refl _) (Nat.le_refl _) rfl ?_
  intro F hmu hge
  refine ⟨F, ?_, .inl rfl, fun _ _ _ => rfl, fun _ _ _ => rfl⟩
  cases F with
  | none =>
    obtain ⟨h1, h2⟩ := hmu
    rcases hv with ⟨rfl, _⟩ | ⟨b, off, n, n', full, full', h3, h4, h5⟩
    · rw [h2] at hpart
      simp at hpart
      exact ⟨rfl, hpart⟩
    · rw [h1] at h3; cases h3
  | some F =>
    obtain ⟨b, off, p, cs, f, hlo, hview, hget, hfam, hsee, hp, htip⟩ := hmu
    rcases hv with ⟨rfl, hov⟩ | ⟨b', off', n, n', full, full', h3, h4, h5⟩
    · rw [hov] at hview
      rcases hview with ⟨_, _, h1, _⟩ | ⟨_, h1⟩ <;> cases h1
    · rw [h3] at hview
      rcases hview with ⟨n2, full2, h6, h7, h8⟩ | ⟨_, h1⟩
      · cases h6
        subst h4
        refine ⟨b, off + j, p, cs, f, hlo, .inl ⟨n', full', rfl, h5, h8⟩, hget, hfam, hsee, ?_, nofun⟩
        apply List.ext_getElem?
        intro i
        have e1 := congrArg (fun l => l[i]?) hpart
        have e2 := congrArg (fun l => l[j + i]?) hp
        simp only [List.getElem?_take, List.getElem?_drop] at e1 e2 ⊢
        by_cases hi : i < xs.length
        · rw [if_pos hi] at e1 ⊢
          by_cases hji : j + i < o.xs.length
          · rw [if_pos hji] at e2
            rw [← e1, ← e2]; congr 1; omega
          · rw [List.getElem?_eq_none (l := o.xs) (by omega)] at e1
            rw [List.getElem?_eq_getElem hi] at e1; cases e1
        · rw [if_neg hi, List.getElem?_eq_none (by omega)]
      · cases h1

end Go.Am
