/-
  The abstract machine: calls over given rows and package-level variables, run by the kernel.
  Conditions: none.
-/
import Derived.Test.YtdfhmdhjeiipfaaGreatDoorAmY
import Derived.Test.YtdfhmdhjeiipfaaGreatDoorProg
import Derived.Test.YtdfhmdhjeiipfaaGreatDoorAmC
import Derived.RangeFuncNested
import Derived.RangeFuncBound
import Derived.RangeFuncCalls
import Derived.RangeFuncLeaves
import Derived.Shelf.Abstract
import Derived.WalkKit
import Derived.OwnWalkIn
import Derived.TacticsInMore
import Derived.LoopNIn
import Derived.LoopIn
namespace Go.Am
/-- What stands for a value in the kernel's run. -/
inductive ImG (bs : List ArgB) : AV → AV → Prop where
  | plain (x : AV) (h : x.plain = true) : ImG bs x x
  | slc (b n : Nat) (p : ArgB) (hb : bs[b]? = some p) (hs : 0 < p.s) (hn : p.xs.length = n * p.s) : ImG bs p.v (.slc b 0 n p.s false)
  | agg (l l' : List AV) (hl : l.length = l'.length) (h : ∀ (j : Nat) (x y : AV), l[j]? = some x → l'[j]? = some y → ImG bs x y) : ImG bs (.agg l) (.agg l')
structure OkG (h : AHeap) (bs : List ArgB) (p : ArgB) : Prop where
  rd : Rd h p.v p.s p.xs
  pos : (0 < p.s ∧ p.xs ≠ []) ∨ (p.s = 0 ∧ ∃ b0, p.v = .ptr b0 0)
  len : p.xs.length = p.ys.length
  im : ∀ (j : Nat) (x y : AV), p.xs[j]? = some x → p.ys[j]? = some y → ImG bs x y
theorem imG_nil {bs : List ArgB} : ∀ (j : Nat) (x y : AV), ([] : List AV)[j]? = some x → ([] : List AV)[j]? = some y → ImG bs x y := by intro j x y h; cases h
theorem imG_cons {bs : List ArgB} {x y : AV} {l l' : List AV} (h : ImG bs x y) (hl : ∀ (j : Nat) (x y : AV), l[j]? = some x → l'[j]? = some y → ImG bs x y) : ∀ (j : Nat) (u v : AV), (x :: l)[j]? = some u → (y :: l')[j]? = some v → ImG bs u v := by
  intro j u v hu hv
  cases j with
  | zero => simp at hu hv; subst hu hv; exact h
  | succ j => exact hl j u v (by simpa using hu) (by simpa using hv)
theorem imG_slc {bs : List ArgB} {b n s : Nat} {v : AV} {xs ys : List AV} (hb : bs[b]? = some ⟨v, s, xs, ys⟩) (hs : 0 < s) (hn : xs.length = n * s) : ImG bs v (.slc b 0 n s false) := .slc b n ⟨v, s, xs, ys⟩ hb hs hn
theorem imG_plain {bs : List ArgB} {l : List AV} (h : l.all AV.plain = true) : ∀ (j : Nat) (x y : AV), l[j]? = some x → l[j]? = some y → ImG bs x y := by
  intro j x y hx hy
  rw [hx] at hy; cases hy
  exact .plain x (List.all_eq_true.1 h x (List.mem_of_getElem? hx))
theorem okG_plain {h : AHeap} {bs : List ArgB} {v : AV} {s : Nat} {xs : List AV} (hr : Rd h v s xs) (hs : 0 < s) (hne : xs ≠ []) (hp : xs.all AV.plain = true) : OkG h bs ⟨v, s, xs, xs⟩ := ⟨hr, .inl ⟨hs, hne⟩, rfl, imG_plain hp⟩
theorem okG_glob {h : AHeap} {bs : List ArgB} {g : Nat} {xs : List AV} (hr : Rd h (.ptr g 0) 0 xs) (hp : xs.all AV.plain = true) : OkG h bs ⟨.ptr g 0, 0, xs, xs⟩ := ⟨hr, .inr ⟨rfl, g, rfl⟩, rfl, imG_plain hp⟩

def hArgG (bs : List ArgB) (gs : List Nat) : AHeap := ⟨bs.map fun p => .cells none 0 p.ys, [], gs⟩
theorem hArgG_next (bs : List ArgB) (gs : List Nat) : (hArgG bs gs).next = bs.length := by simp [hArgG, AHeap.next]
theorem hArgG_get {bs : List ArgB} {gs : List Nat} {b : Nat} {B : Blk} (h : (hArgG bs gs).get b = some B) : ∃ p, bs[b]? = some p ∧ B = .cells none 0 p.ys := by
  simp only [hArgG, AHeap.get, List.getElem?_map, Option.map_eq_some_iff] at h
  obtain ⟨p, h1, h2⟩ := h
  exact ⟨p, h1, h2.symm⟩
def embG (φ : Emb) (bs : List ArgB) : Emb := fun b => match bs[b]? with
  | some p => match p.v with
    | .slc b0 o _ _ _ => (φ b0).map fun q => (q.1, q.2.1 + o, q.2.2)
    | .ptr b0 _ => φ b0
    | _ => none
  | none => none
theorem OkG.view {h : AHeap} {bs : List ArgB} {p : ArgB} (ok : OkG h bs p) : ∃ b0 o F q cs, ((∃ n full, p.v = .slc b0 o n p.s full ∧ p.xs.length = n * p.s ∧ 0 < p.s) ∨ (p.v = .ptr b0 0 ∧ o = 0 ∧ p.s = 0)) ∧ h.get b0 = some (.cells F q cs) ∧ h.valid b0 = true ∧ (cs.drop o).take p.xs.length = p.xs := by
  rcases ok.rd with ⟨h1, h2⟩ | ⟨b, o, F, q, cs, hv, h1, h2, h3⟩ | ⟨_, _, x, h1, h2, _⟩
  · rcases ok.pos with ⟨_, h3⟩ | ⟨_, b0, h3⟩
    · exact absurd h2 h3
    · rw [h3] at h1; cases h1
  · rcases hv with ⟨n, full, e1, e2, e3⟩ | ⟨e, e2⟩
    · exact ⟨b, o, F, q, cs, .inl ⟨n, full, e1, e2, e3⟩, h1, h2, h3⟩
    · rcases ok.pos with ⟨h4, _⟩ | ⟨_, b0, h4⟩
      · omega
      · rw [h4] at e2; cases e2
        exact ⟨_, 0, F, q, cs, .inr ⟨h4, rfl, e⟩, h1, h2, h3⟩
  · rcases ok.pos with ⟨h4, _⟩ | ⟨_, b0, h4⟩
    · omega
    · rw [h4] at h1; exact (Thing.at_ptr h1.symm).elim
theorem ImG.rel {h : AHeap} {φ : Emb} {bs : List ArgB} (hok : ∀ p ∈ bs, OkG h bs p) {x y : AV} (hi : ImG bs x y) : ∀ {u : Value}, VRel φ x u → VRel (embG φ bs) y u := by
  induction hi with
  | plain x h => intro u hv; cases hv <;> simp only [AV.plain, Bool.false_eq_true] at h <;> first | exact .bool _ | exact .int _ _ | exact .str _ | exact .nilp | exact .nils | exact .nilm | exact .nilf
  | slc b n p hb hs hn =>
    intro u hv
    have ok := hok p (List.mem_of_getElem? hb)
    obtain ⟨b0, o, F, q, cs, ⟨n', full, e1, e2, _⟩ | ⟨_, _, e3⟩, _, _, _⟩ := ok.view
    · have hnn : n' = n := Nat.eq_of_mul_eq_mul_right hs (by rw [← e2, hn])
      subst hnn
      have he : embG φ bs b = (φ b0).map fun q => (q.1, q.2.1 + o, q.2.2) := by simp only [embG, hb, e1]
      rw [e1] at hv
      cases hv with
      | slc _ _ _ _ _ a c h1 h2 h3 h4 =>
        refine .slc _ _ _ _ _ _ _ h1 h2 (fun h => by cases h) ?_
        rcases h4 with h4 | ⟨k, i, z, h4, h5, h6⟩
        · exact .inl h4
        · exact .inr ⟨k, i + o, z, by rw [he, h4]; rfl, by rw [h5]; rfl, by omega⟩
    · omega
  | agg l l' hl h ih =>
    intro u hv
    cases hv with
    | agg _ cs h1 h2 =>
      refine .agg _ _ (by omega) ?_
      intro j y c hy hc
      have hj : j < l.length := by have := (List.getElem?_eq_some_iff.1 hy).1; omega
      exact ih j _ y (List.getElem?_eq_getElem hj) hy (h2 j _ c (List.getElem?_eq_getElem hj) hc)
theorem hArgG_rel {h : AHeap} {bs : List ArgB} {gs : List Nat} (hok : ∀ p ∈ bs, OkG h bs p) (hg : ∀ g ∈ gs, g ∈ h.globs ∧ ∃ p, bs[g]? = some p ∧ p.v = .ptr g 0) {φ : Emb} {w : World} (rr : HRel φ h w) : HRel (embG φ bs) (hArgG bs gs) w := by
  have key : ∀ b k i z, embG φ bs b = some (k, i, z) → ∃ p b0 o i0 F q cs, bs[b]? = some p ∧ φ b0 = some (k, i0, z) ∧ i = i0 + o ∧ h.get b0 = some (.cells F q cs) ∧ h.valid b0 = true ∧ (cs.drop o).take p.xs.length = p.xs := by
    intro b k i z hb
    unfold embG at hb
    split at hb
    · rename_i p hp
      obtain ⟨b0, o, F, q, cs, ⟨n', full, e1, e2, _⟩ | ⟨e1, e2, _⟩, h1, h2, h3⟩ := (hok p (List.mem_of_getElem? hp)).view
      · rw [e1] at hb
        simp only [Option.map_eq_some_iff] at hb
        obtain ⟨⟨k', i', z'⟩, h4, h5⟩ := hb
        cases h5
        exact ⟨p, b0, o, i', F, q, cs, hp, h4, rfl, h1, h2, h3⟩
      · rw [e1] at hb
        subst e2
        exact ⟨p, b0, 0, i, F, q, cs, hp, hb, rfl, h1, h2, h3⟩
    · cases hb
  refine ⟨?_, ?_, ?_, ?_, ?_, ?_, ?_, ?_⟩
  · intro g hgm
    obtain ⟨h1, p, h2, h3⟩ := hg g hgm
    obtain ⟨z, hz⟩ := rr.glob g h1
    exact ⟨z, by simp only [embG, h2, h3]; exact hz⟩
  · intro b k i z hb
    obtain ⟨p, b0, o, i0, F, q, cs, _, h3, _⟩ := key b k i z hb
    exact rr.lt _ _ _ _ h3
  · intro b k i z B hb hB _
    obtain ⟨p, b0, o, i0, F, q, cs, h1, h3, rfl, e3, e4, e5⟩ := key b k i z hb
    obtain ⟨p', h4, rfl⟩ := hArgG_get hB
    rw [h1] at h4; cases h4
    have ok := hok p (List.mem_of_getElem? h1)
    refine ⟨?_, fun h0 => absurd h0 (by decide)⟩
    intro j y hy
    have hj : j < p.xs.length := by have := (List.getElem?_eq_some_iff.1 hy).1; rw [ok.len]; exact this
    have hx := List.getElem?_eq_getElem hj
    have hcs : cs[o + j]? = some p.xs[j] := by
      rw [← hx, ← e5, List.getElem?_take_of_lt hj, List.getElem?_drop]
    obtain ⟨u, hu, hru⟩ := (rr.blk b0 k i0 z _ h3 e3 e4).cell hcs
    exact ⟨u, by rw [← hu, Nat.add_assoc], ImG.rel hok (ok.im j _ y hx hy) hru⟩
  · intro b k i z F p cs _ hB
    obtain ⟨_, _, h⟩ := hArgG_get hB; cases h
  · intro b b' k i i' z z' F F' p p' cs cs' _ _ hB
    obtain ⟨_, _, h⟩ := hArgG_get hB; cases h
  · intro b b' k i i' z z' F p p' cs cs' _ _ hB
    obtain ⟨_, _, h⟩ := hArgG_get hB; cases h
  · intro b b' k i i' z z' F0 x0 B _ _ hB
    obtain ⟨_, _, h⟩ := hArgG_get hB; cases h
  · intro b F p cs hB
    obtain ⟨_, _, h⟩ := hArgG_get hB; cases h
noncomputable def runsQ (P : Program) (orc : Orc) (n : Nat) (f : FuncId) (args : List AV) (ys : List (List AV)) (gs : List Nat) (test : AV → AHeap → Bool) : Bool := match bcallY P (okY P) (brunY P orc (okY P) n) f args ⟨ys.map fun y => .cells none 0 y, [], gs⟩ with | some (r, h) => test r h | none => false
noncomputable def runsG (P : Program) (n : Nat) (f : FuncId) (args : List AV) (ys : List (List AV)) (gs : List Nat) (test : AV → AHeap → Bool) : Bool := runsQ P noOrc n f args ys gs test
theorem over_evQ {P : Program} {orc : Orc} (ho : OrcOk P orc) (hm : P.follows .mixedOrders = true) {n : Nat} {f : FuncId} {args args' : List AV} {h : AHeap} (bs : List ArgB) (gs : List Nat) {test : AV → AHeap → Bool} (hok : ∀ p ∈ bs, OkG h bs p) (hg : ∀ g ∈ gs, g ∈ h.globs ∧ ∃ p, bs[g]? = some p ∧ p.v = .ptr g 0) (hl : args.length = args'.length) (hi : ∀ (j : Nat) (x y : AV), args[j]? = some x → args'[j]? = some y → ImG bs x y)
    (hr : runsQ P orc n f args' (bs.map ArgB.ys) gs test = true) : ∃ r h1, test r h1 = true ∧ Ev P f args h (AV.shm bs.length h.next 4 r) (h.frozm bs.length h1) := by
  unfold runsQ at hr
  split at hr
  · rename_i r h1 hc
    rw [List.map_map] at hc
    have hev : Ev P f args' (hArgG bs gs) r h1 := bcallY_run (ok := okY P) ho hm (by intro f hf; simp only [okY, Bool.and_eq_true] at hf; exact hf.1) (by intro f hf; simp only [okY, Bool.and_eq_true] at hf; exact hf.2) n hc
    refine ⟨r, h1, hr, ?_⟩
    have := hev.over (args := args) (fun b B hB => by obtain ⟨p, _, h2⟩ := hArgG_get hB; exact ⟨0, _, h2⟩) h (fun φ w cs rr ha => ⟨embG φ bs, ?_, hArgG_rel hok hg rr, by have := ha.1; omega, ?_⟩)
    · rwa [hArgG_next] at this
    · intro b hb
      rw [hArgG_next] at hb
      simp only [embG, List.getElem?_eq_none hb]
    · intro j y c hy hc'
      have hj : j < args.length := by have := (List.getElem?_eq_some_iff.1 hy).1; omega
      exact ImG.rel hok (hi j _ y (List.getElem?_eq_getElem hj) hy) (ha.2 j _ c (List.getElem?_eq_getElem hj) hc')
  · cases hr
theorem over_evG {P : Program} (hm : P.follows .mixedOrders = true) {n : Nat} {f : FuncId} {args args' : List AV} {h : AHeap} (bs : List ArgB) (gs : List Nat) {test : AV → AHeap → Bool} (hok : ∀ p ∈ bs, OkG h bs p) (hg : ∀ g ∈ gs, g ∈ h.globs ∧ ∃ p, bs[g]? = some p ∧ p.v = .ptr g 0) (hl : args.length = args'.length) (hi : ∀ (j : Nat) (x y : AV), args[j]? = some x → args'[j]? = some y → ImG bs x y)
    (hr : runsG P n f args' (bs.map ArgB.ys) gs test = true) : ∃ r h1, test r h1 = true ∧ Ev P f args h (AV.shm bs.length h.next 4 r) (h.frozm bs.length h1) := over_evQ noOrc_ok hm bs gs hok hg hl hi hr
/-- What is returned has no addresses. -/
theorem over_plainG {P : Program} (hm : P.follows .mixedOrders = true) (n : Nat) {f : FuncId} {args : List AV} (args' : List AV) {h : AHeap} (bs : List ArgB) (gs : List Nat) {R : AV} (hok : ∀ p ∈ bs, OkG h bs p) (hg : ∀ g ∈ gs, g ∈ h.globs ∧ ∃ p, bs[g]? = some p ∧ p.v = .ptr g 0) (hl : args.length = args'.length) (hi : ∀ (j : Nat) (x y : AV), args[j]? = some x → args'[j]? = some y → ImG bs x y)
    (hr : runsG P n f args' (bs.map ArgB.ys) gs (fun r _ => AV.isP 3 r R) = true) (hR : ∀ m d, AV.shm m d 4 R = R) : ACalls P f args h (fun q h' => q = R ∧ Keeps h h') := by
  obtain ⟨r, h1, ht, he⟩ := over_evG hm bs gs hok hg hl hi hr
  refine ⟨_, _, he, ?_, frozm_keeps _ _ _⟩
  rw [AV.isP_eq 3 _ _ ht, hR]
theorem over_runG {P : Program} (hm : P.follows .mixedOrders = true) {n : Nat} {f : FuncId} {args args' : List AV} {ys : List (List AV)} {gs : List Nat} {R : AV} (hr : runsG P n f args' ys gs (fun r _ => AV.isP 3 r R) = true) {h : AHeap} (bs : List ArgB) (hys : bs.map ArgB.ys = ys) (hok : ∀ p ∈ bs, OkG h bs p) (hg : ∀ g ∈ gs, g ∈ h.globs ∧ ∃ p, bs[g]? = some p ∧ p.v = .ptr g 0) (hl : args.length = args'.length) (hi : ∀ (j : Nat) (x y : AV), args[j]? = some x → args'[j]? = some y → ImG bs x y)
    (hR : ∀ m d, AV.shm m d 4 R = R) : ACalls P f args h (fun q h' => q = R ∧ Keeps h h') := by
  subst hys
  exact over_plainG hm n args' bs gs hok hg hl hi hr hR
theorem okGs_nil {h : AHeap} {bs : List ArgB} : ∀ p ∈ ([] : List ArgB), OkG h bs p := fun p hp => by cases hp
theorem okGs_cons {h : AHeap} {bs l : List ArgB} {p : ArgB} (h1 : OkG h bs p) (h2 : ∀ q ∈ l, OkG h bs q) : ∀ q ∈ p :: l, OkG h bs q := fun q hq => by
  rcases List.mem_cons.1 hq with rfl | hq
  · exact h1
  · exact h2 q hq
theorem hgs_nil {h : AHeap} {bs : List ArgB} : ∀ g ∈ ([] : List Nat), g ∈ h.globs ∧ ∃ p, bs[g]? = some p ∧ p.v = .ptr g 0 := fun g hg => by cases hg
theorem hgs_cons {h : AHeap} {bs : List ArgB} {g : Nat} {gs : List Nat} {p : ArgB} (h1 : h.globs.contains g = true) (h2 : bs[g]? = some p) (h3 : p.v = .ptr g 0) (hr : ∀ g ∈ gs, g ∈ h.globs ∧ ∃ p, bs[g]? = some p ∧ p.v = .ptr g 0) : ∀ x ∈ g :: gs, x ∈ h.globs ∧ ∃ p, bs[x]? = some p ∧ p.v = .ptr x 0 := fun x hx => by
  rcases List.mem_cons.1 hx with rfl | hx
  · exact ⟨List.contains_iff_mem.1 h1, p, h2, h3⟩
  · exact hr x hx
end Go.Am

namespace Go.Am
theorem shm_plain {m d n : Nat} {x : AV} (h : x.plain = true) : AV.shm m d n x = x := by
  cases x <;> simp only [AV.plain, Bool.false_eq_true] at h <;> cases n <;> rfl
end Go.Am

namespace Go.Am
def Fam.shf (m d : Nat) (f : Fam) : Fam := ⟨f.ext, f.live.map fun l => (l.filter fun b => decide (m ≤ b)).map fun b => d + (b - m)⟩
theorem Fam.shf_sees {m d q : Nat} (f : Fam) : (f.shf m d).sees (d + q) = f.sees (m + q) := by
  unfold Fam.sees Fam.shf
  cases f.live with
  | none => rfl
  | some l =>
    simp only [Option.map_some]
    rw [Bool.eq_iff_iff, List.contains_iff_mem, List.contains_iff_mem, List.mem_map]
    constructor
    · rintro ⟨b, hb, e⟩
      rw [List.mem_filter, decide_eq_true_iff] at hb
      rw [show m + q = b by omega]; exact hb.1
    · intro h
      exact ⟨m + q, List.mem_filter.2 ⟨h, decide_eq_true (by omega)⟩, by omega⟩
/-- A block, owned. -/
def frozBo (h1 : AHeap) (m d e : Nat) : Blk → Blk
  | .cells none _ cs => .cells none 0 (cs.map (AV.shm m d 4))
  | .cells (some F) p cs => .cells (some (e + F)) p (cs.map (AV.shm m d 4))
  | .obj _ _ => .cells none 0 []
def AHeap.frozo (h : AHeap) (m : Nat) (h1 : AHeap) : AHeap := ⟨h.blks ++ (h1.blks.map (frozBo h1 m h.next h.nfam)).drop m, h.fams ++ h1.fams.map (Fam.shf m h.next), h.globs⟩
theorem frozo_next (h : AHeap) (m : Nat) (h1 : AHeap) : (h.frozo m h1).next = h.next + (h1.next - m) := by simp [AHeap.frozo, AHeap.next]
theorem frozo_old (h : AHeap) (m : Nat) (h1 : AHeap) {b : Nat} (hb : b < h.next) : (h.frozo m h1).get b = h.get b := List.getElem?_append_left hb
theorem frozo_new (h : AHeap) (m : Nat) (h1 : AHeap) (b : Nat) : (h.frozo m h1).get (h.next + b) = (h1.get (m + b)).map (frozBo h1 m h.next h.nfam) := by
  simp only [AHeap.frozo, AHeap.get, AHeap.next]
  rw [List.getElem?_append_right (by omega), Nat.add_sub_cancel_left, List.getElem?_drop, List.getElem?_map]
theorem frozo_famOld (h : AHeap) (m : Nat) (h1 : AHeap) {F : Nat} (hF : F < h.nfam) : (h.frozo m h1).fam F = h.fam F := List.getElem?_append_left hF
theorem frozo_famNew (h : AHeap) (m : Nat) (h1 : AHeap) (F : Nat) : (h.frozo m h1).fam (h.nfam + F) = (h1.fam F).map (Fam.shf m h.next) := by
  simp only [AHeap.frozo, AHeap.fam, AHeap.nfam]
  rw [List.getElem?_append_right (by omega), Nat.add_sub_cancel_left, List.getElem?_map]
theorem frozo_keeps (h : AHeap) (m : Nat) (h1 : AHeap) : Keeps h (h.frozo m h1) := ⟨by rw [frozo_next]; omega, by simp [AHeap.frozo, AHeap.nfam], rfl, fun b hb => frozo_old h m h1 hb, fun F hF => frozo_famOld h m h1 hF⟩
theorem frozo_valid {h : AHeap} {m : Nat} {h1 : AHeap} {q F p : Nat} {cs : List AV} (hC : h1.get (m + q) = some (.cells (some F) p cs)) : (h.frozo m h1).valid (h.next + q) = h1.valid (m + q) := by
  simp only [AHeap.valid, frozo_new, hC, Option.map_some, frozBo, frozo_famNew]
  cases h1.fam F with
  | none => rfl
  | some f => simp only [Option.map_some]; exact f.shf_sees
theorem Ev.overO {P : Program} {f : FuncId} {args args' : List AV} {r : AV} {hA h1 : AHeap} (he : Ev P f args' hA r h1) (hro : ∀ b B, hA.get b = some B → ∃ p cs, B = .cells none p cs) (h : AHeap)
    (hrel : ∀ φ w cs, HRel φ h w → VRels φ args cs → ∃ φA, (∀ b, hA.next ≤ b → φA b = none) ∧ HRel φA hA w ∧ VRels φA args' cs) : Ev P f args h (AV.shm hA.next h.next 4 r) (h.frozo hA.next h1) := by
  obtain ⟨hrun, hgrow, hev⟩ := he
  have hm : hA.next ≤ h1.next := hgrow.next
  generalize hmm : hA.next = m at *
  refine ⟨hrun, ⟨(frozo_keeps h m h1).next, (frozo_keeps h m h1).nfam, rfl, fun b hb => by rw [frozo_old h m h1 hb]⟩, ?_⟩
  intro φ w cs hfr rr ha
  obtain ⟨φA, hfA, hrA, hvA⟩ := hrel φ w cs rr ha
  refine (hev φA w cs (fun b h1 _ => hfA b (by omega)) hrA hvA).mono ?_
  rintro e w' ⟨v, φ', rfl, t, r', hv⟩
  have hk : ∀ k, k < w.heap.size → w'.heap[k]? = w.heap[k]? := fun k hk => t.frame k hk (by
    rintro ⟨b, i, z, hb, ⟨F, p, cs, hm⟩ | ⟨F, x, hm⟩⟩
    · obtain ⟨_, _, h2⟩ := hro _ _ hm; cases h2
    · obtain ⟨_, _, h2⟩ := hro _ _ hm; cases h2)
  have himg : ∀ b k i z, m ≤ b → φ' b = some (k, i, z) → w.heap.size ≤ k := by
    intro b k i z hmb hb
    rcases t.img b k i z (hfA b hmb) hb with h2 | ⟨_, _, _, _, _, _, h2, h3⟩
    · exact h2
    · obtain ⟨_, _, h4⟩ := hro _ _ h3; cases h4
  have hdom : ∀ b p, m ≤ b → φ' b = some p → b < h1.next := fun b p hmb hb => (t.new b p (hfA b hmb) hb).2
  let ψ : Emb := fun b => if h.next ≤ b ∧ b < h.next + (h1.next - m) then φ' (m + (b - h.next)) else φ b
  have hψ : ∀ b p, ψ b = some p → (h.next ≤ b ∧ φ' (m + (b - h.next)) = some p) ∨ (¬ (h.next ≤ b ∧ b < h.next + (h1.next - m)) ∧ φ b = some p) := by
    intro b p hb
    by_cases hc : h.next ≤ b ∧ b < h.next + (h1.next - m)
    · simp only [ψ, if_pos hc] at hb; exact .inl ⟨hc.1, hb⟩
    · simp only [ψ, if_neg hc] at hb; exact .inr ⟨hc, hb⟩
  have hnew : ∀ b p, m ≤ b → φ' b = some p → ψ (h.next + (b - m)) = some p := by
    intro b p hmb hb
    have := hdom b p hmb hb
    simp only [ψ]
    rw [if_pos ⟨by omega, by omega⟩, Nat.add_sub_cancel_left, show m + (b - m) = b by omega]; exact hb
  have hle : φ.le ψ := by
    intro b p hb
    have : ¬ (h.next ≤ b ∧ b < h.next + (h1.next - m)) := by
      rintro ⟨c1, c2⟩
      have := hfr b c1 (by rw [frozo_next]; exact c2)
      rw [hb] at this; cases this
    simp only [ψ, if_neg this]; exact hb
  have hold : ∀ b B, ¬ (h.next ≤ b ∧ b < h.next + (h1.next - m)) → (h.frozo m h1).get b = some B → b < h.next ∧ h.get b = some B := by
    intro b B hc hB
    have h2 := AHeap.get_lt hB
    rw [frozo_next] at h2
    have h3 : b < h.next := by omega
    rw [frozo_old h m h1 h3] at hB
    exact ⟨h3, hB⟩
  have hfm : ∀ b F p cs', (h.frozo m h1).get b = some (.cells (some F) p cs') → (b < h.next ∧ h.get b = some (.cells (some F) p cs')) ∨ ∃ q F1 c1, b = h.next + q ∧ h1.get (m + q) = some (.cells (some F1) p c1) ∧ F = h.nfam + F1 ∧ cs' = c1.map (AV.shm m h.next 4) := by
    intro b F p cs' hB
    by_cases hb : b < h.next
    · rw [frozo_old h m h1 hb] at hB; exact .inl ⟨hb, hB⟩
    · obtain ⟨q, rfl⟩ : ∃ q, b = h.next + q := ⟨b - h.next, by omega⟩
      rw [frozo_new, Option.map_eq_some_iff] at hB
      obtain ⟨C, hC, hB⟩ := hB
      cases C with
      | obj _ _ => cases hB
      | cells F2 p2 c2 =>
        cases F2 with
        | none => cases hB
        | some F2 => cases hB; exact .inr ⟨q, F2, c2, rfl, hC, rfl, rfl⟩
  have hψq : ∀ q p, h1.get (m + q) ≠ none → ψ (h.next + q) = some p → φ' (m + q) = some p := by
    intro q p hC hb
    rcases hψ _ _ hb with ⟨_, h5⟩ | ⟨h4, _⟩
    · rwa [Nat.add_sub_cancel_left] at h5
    · refine absurd ⟨by omega, ?_⟩ h4
      cases hg : h1.get (m + q) with
      | none => exact absurd hg hC
      | some B => have := AHeap.get_lt hg; omega
  have hom : ∀ b F x, (h.frozo m h1).get b = some (.obj F x) → b < h.next ∧ h.get b = some (.obj F x) := by
    intro b F x hB
    by_cases hb : b < h.next
    · rw [frozo_old h m h1 hb] at hB; exact ⟨hb, hB⟩
    · obtain ⟨q, rfl⟩ : ∃ q, b = h.next + q := ⟨b - h.next, by omega⟩
      rw [frozo_new, Option.map_eq_some_iff] at hB
      obtain ⟨C, _, hB⟩ := hB
      cases C with
      | obj _ _ => cases hB
      | cells F2 p2 c2 => cases F2 <;> cases hB
  have hψold : ∀ b p, b < h.next → ψ b = some p → φ b = some p := by
    intro b p hb h2
    rcases hψ b p h2 with ⟨h3, _⟩ | ⟨_, h3⟩
    · omega
    · exact h3
  refine ⟨v, ψ, rfl, ⟨hle, ?_, ?_, ?_, fun k hk' _ => hk k hk', t.os, t.tape, t.output, t.size⟩, ?_, AV.shm_rel hnew 4 r v hv⟩
  · intro b h2 h3
    rw [frozo_next] at h3
    obtain ⟨p, hp⟩ := t.dom (m + (b - h.next)) (by omega) (by omega)
    refine ⟨p, ?_⟩
    have := hnew _ _ (by omega) hp
    rwa [show h.next + (m + (b - h.next) - m) = b by omega] at this
  · intro b p h2 h3
    rw [frozo_next]
    rcases hψ b p h3 with ⟨h4, h5⟩ | ⟨_, h4⟩
    · have := hdom _ _ (by omega) h5; omega
    · rw [h2] at h4; cases h4
  · intro b k i z h2 h3
    rcases hψ b _ h3 with ⟨h4, h5⟩ | ⟨_, h4⟩
    · exact .inl (himg _ _ _ _ (by omega) h5)
    · rw [h2] at h4; cases h4
  refine ⟨?_, ?_, ?_, ?_, ?_, ?_, ?_, ?_⟩
  · intro g hg
    obtain ⟨z, hz⟩ := rr.glob g hg
    exact ⟨z, hle _ _ hz⟩
  · intro b k i z hb
    rcases hψ b _ hb with ⟨_, h5⟩ | ⟨_, h4⟩
    · exact r'.lt _ _ _ _ h5
    · exact Nat.lt_of_lt_of_le (rr.lt b k i z h4) t.size
  · intro b k i z B hb hB hvd
    by_cases hlt : b < h.next
    · have hb' := hψold b _ hlt hb
      rw [frozo_old h m h1 hlt] at hB
      refine ((rr.blk b k i z B hb' hB ?_).world (hk k (rr.lt b k i z hb'))).mono hle
      unfold AHeap.valid at hvd ⊢
      rw [frozo_old h m h1 hlt, hB] at hvd
      rw [hB]
      cases B with
      | obj _ _ => rfl
      | cells F p cs' =>
        cases F with
        | none => rfl
        | some F =>
          simp only at hvd ⊢
          obtain ⟨f, hf, _⟩ := rr.ext b F p cs' hB
          rw [frozo_famOld h m h1 (AHeap.fam_lt hf)] at hvd
          exact hvd
    · obtain ⟨q, rfl⟩ : ∃ q, b = h.next + q := ⟨b - h.next, by omega⟩
      have hB0 := hB
      rw [frozo_new, Option.map_eq_some_iff] at hB
      obtain ⟨C, hC, rfl⟩ := hB
      have hbq := hψq q _ (by rw [hC]; simp) hb
      cases C with
      | obj F x => exact ⟨by intro j x hx; simp at hx, fun h0 => absurd h0 (by decide)⟩
      | cells F p cs' =>
        have hval : h1.valid (m + q) = true := by
          cases F with
          | none => simp only [AHeap.valid, hC]
          | some F => rw [← frozo_valid (h := h) hC]; exact hvd
        have hBR := r'.blk (m + q) k i z _ hbq hC hval
        have key : ∀ (j : Nat) (x : AV), (cs'.map (AV.shm m h.next 4))[j]? = some x → ∃ u, w'.cell? ⟨k, i + j, none⟩ = some u ∧ VRel ψ x u := by
          intro j x hx
          rw [List.getElem?_map, Option.map_eq_some_iff] at hx
          obtain ⟨y, hy, rfl⟩ := hx
          obtain ⟨u, hu, hru⟩ := hBR.cell hy
          exact ⟨u, hu, AV.shm_rel hnew 4 y u hru⟩
        cases F with
        | none => exact ⟨key, fun h0 => absurd h0 (by decide)⟩
        | some F =>
          obtain ⟨c, e, h2, h3, h4⟩ := hBR
          refine ⟨c, e, h2, h3, fun j x hx => ?_⟩
          rw [List.getElem?_map, Option.map_eq_some_iff] at hx
          obtain ⟨y, hy, rfl⟩ := hx
          obtain ⟨u, hu, hru⟩ := h4 j y hy
          exact ⟨u, hu, AV.shm_rel hnew 4 y u hru⟩
  · intro b k i z F p cs' hb hB
    rcases hfm b F p cs' hB with ⟨hlt, hB'⟩ | ⟨q, F1, c1, rfl, hC, rfl, rfl⟩
    · have hb' := hψold b _ hlt hb
      obtain ⟨c, e, h2, h3⟩ := rr.arr b k i z F p cs' hb' hB'
      exact ⟨c, e, h2.old (hk k (rr.lt b k i z hb')), h3⟩
    · obtain ⟨c, e, h2, h3, h4⟩ := r'.arr _ k i z F1 p c1 (hψq q _ (by rw [hC]; simp) hb) hC
      exact ⟨c, e, h2, h3, by rw [List.length_map]; exact h4⟩
  · intro b b' k i i' z z' F F' p p' c1 c2 hb hb' hB hB'
    rcases hfm b F p c1 hB with ⟨hlt, hB1⟩ | ⟨q, F1, d1, rfl, hC, rfl, rfl⟩
    · have hb1 := hψold b _ hlt hb
      have hk1 := rr.lt b k i z hb1
      rcases hfm b' F' p' c2 hB' with ⟨hlt', hB2⟩ | ⟨q', F2, d2, rfl, hC', rfl, rfl⟩
      · exact rr.one b b' k i i' z z' F F' p p' c1 c2 hb1 (hψold b' _ hlt' hb') hB1 hB2
      · have := himg _ _ _ _ (by omega) (hψq q' _ (by rw [hC']; simp) hb'); omega
    · have hq := hψq q _ (by rw [hC]; simp) hb
      have hk1 := himg _ _ _ _ (by omega) hq
      rcases hfm b' F' p' c2 hB' with ⟨hlt', hB2⟩ | ⟨q', F2, d2, rfl, hC', rfl, rfl⟩
      · have := rr.lt b' k i' z' (hψold b' _ hlt' hb'); omega
      · obtain ⟨e1, e2⟩ := r'.one _ _ k i i' z z' F1 F2 p p' d1 d2 hq (hψq q' _ (by rw [hC']; simp) hb') hC hC'
        exact ⟨by rw [e1], e2⟩
  · intro b b' k i i' z z' F p p' c1 c2 hb hb' hB hB'
    rcases hfm b F p c1 hB with ⟨hlt, hB1⟩ | ⟨q, F1, d1, rfl, hC, rfl, rfl⟩
    · have hb1 := hψold b _ hlt hb
      have hk1 := rr.lt b k i z hb1
      rcases hψ b' _ hb' with ⟨_, h5⟩ | ⟨h4, h5⟩
      · have := himg _ _ _ _ (by omega) h5; omega
      · obtain ⟨_, hB2⟩ := hold b' _ h4 hB'
        exact rr.sep b b' k i i' z z' F p p' c1 c2 hb1 h5 hB1 hB2
    · have hq := hψq q _ (by rw [hC]; simp) hb
      have hk1 := himg _ _ _ _ (by omega) hq
      by_cases hlt' : b' < h.next
      · have := rr.lt b' k i' z' (hψold b' _ hlt' hb'); omega
      · obtain ⟨q', rfl⟩ : ∃ q', b' = h.next + q' := ⟨b' - h.next, by omega⟩
        rw [frozo_new, Option.map_eq_some_iff] at hB'
        obtain ⟨C, hC', hB'⟩ := hB'
        have hq' := hψq q' _ (by rw [hC']; simp) hb'
        cases C with
        | obj F2 x =>
          have e := r'.map _ _ k i' i z' z F2 x _ hq' hq hC' hC
          rw [e, hC] at hC'; cases hC'
        | cells F2 p2 d2 =>
          cases F2 with
          | none => exact r'.sep _ _ k i i' z z' F1 p p2 d1 d2 hq hq' hC hC'
          | some F2 => cases hB'
  · intro b b' k i i' z z' F x B hb hb' hB hB'
    obtain ⟨hlt, hB⟩ := hom b F x hB
    have hb1 := hψold b _ hlt hb
    have hk1 := rr.lt b k i z hb1
    rcases hψ b' _ hb' with ⟨_, h5⟩ | ⟨h4, h5⟩
    · have := himg _ _ _ _ (by omega) h5; omega
    · obtain ⟨_, hB2⟩ := hold b' _ h4 hB'
      exact rr.map b b' k i i' z z' F x B hb1 h5 hB hB2
  · intro b F p cs' hB
    rcases hfm b F p cs' hB with ⟨hlt, hB1⟩ | ⟨q, F1, c1, rfl, hC, rfl, rfl⟩
    · obtain ⟨f, hf, he⟩ := rr.ext b F p cs' hB1
      exact ⟨f, by rw [frozo_famOld h m h1 (AHeap.fam_lt hf)]; exact hf, he⟩
    · obtain ⟨f, hf, he⟩ := r'.ext _ F1 p c1 hC
      exact ⟨f.shf m h.next, by rw [frozo_famNew, hf]; rfl, by rw [List.length_map]; exact he⟩
end Go.Am

namespace Go.Am
def chkO (m : Nat) (h1 : AHeap) (s : Nat) (xs : List AV) : AV → Bool
  | .slc b o n s' full => decide (m ≤ b) && (decide (s' = s) && (decide (0 < s) && (decide (xs.length = n * s) && (h1.valid b && (xs.all AV.plain && match h1.get b with
    | some (.cells (some F) p cs) => AV.isP 3 (.agg ((cs.drop o).take xs.length)) (.agg xs) && (full || match h1.fam F with | some f => decide (p + o + xs.length = f.ext) | none => false)
    | _ => false)))))
  | .nils => xs.isEmpty
  | _ => false
theorem chkO_mu {h h1 : AHeap} {m n s : Nat} {xs : List AV} {r : AV} (hc : chkO m h1 s xs r = true) : ∃ F : Option Nat, Mu h.next (h.frozo m h1) F ⟨AV.shm m h.next n r, s, xs, true⟩ ∧ ∀ G, F = some G → h.nfam ≤ G := by
  cases r with
  | slc b o k s' full =>
    have hc : (decide (m ≤ b) && (decide (s' = s) && (decide (0 < s) && (decide (xs.length = k * s) && (h1.valid b && (xs.all AV.plain && match h1.get b with
      | some (.cells (some F) p cs) => AV.isP 3 (.agg ((cs.drop o).take xs.length)) (.agg xs) && (full || match h1.fam F with | some f => decide (p + o + xs.length = f.ext) | none => false)
      | _ => false)))))) = true := hc
    simp only [Bool.and_eq_true, decide_eq_true_eq] at hc
    obtain ⟨hb, rfl, hs, hl, hv, hp, hg⟩ := hc
    split at hg
    · rename_i F p cs he
      rw [Bool.and_eq_true] at hg
      obtain ⟨hg, ht⟩ := hg
      have e := AV.isP_eq 3 _ _ hg
      injection e with e
      have hsh : AV.shm m h.next n (.slc b o k s' full) = .slc (h.next + (b - m)) o k s' full := by
        cases n <;> simp only [AV.shm] <;> rw [if_neg (by omega)]
      have hbm : m + (b - m) = b := by omega
      have hget : (h.frozo m h1).get (h.next + (b - m)) = some (.cells (some (h.nfam + F)) p (cs.map (AV.shm m h.next 4))) := by
        rw [frozo_new, hbm, he]; rfl
      have hvf := hv
      simp only [AHeap.valid, he] at hvf
      cases hf : h1.fam F with
      | none => rw [hf] at hvf; cases hvf
      | some f =>
        rw [hf] at hvf ht
        refine ⟨some (h.nfam + F), .inl ⟨h.next + (b - m), o, p, _, f.shf m h.next, Nat.le_add_right _ _, ?_, hget, ?_, ?_, ?_, fun _ => ?_⟩, fun G hG => by cases hG; exact Nat.le_add_right _ _⟩
        · rw [hsh]; exact .inl ⟨k, full, rfl, hl, hs⟩
        · rw [frozo_famNew, hf]; rfl
        · rw [Fam.shf_sees, hbm]; exact hvf
        · show ((cs.map (AV.shm m h.next 4)).drop o).take xs.length = xs
          rw [← List.map_drop, ← List.map_take, e]
          exact (List.map_congr_left fun x hx => shm_plain (List.all_eq_true.1 hp x hx)).trans (List.map_id' xs)
        · rw [Bool.or_eq_true] at ht
          rcases ht with rfl | ht
          · exact .inl ⟨k, hsh⟩
          · exact .inr (of_decide_eq_true ht)
    · cases hg
  | nils =>
    have hc : xs.isEmpty = true := hc
    have e : AV.shm m h.next n .nils = .nils := by cases n <;> rfl
    rw [e]
    exact ⟨none, ⟨rfl, List.isEmpty_iff.1 hc⟩, fun G hG => by cases hG⟩
  | _ => cases hc
theorem chkO_st {h h1 : AHeap} {m n s : Nat} {xs : List AV} {r : AV} (hc : chkO m h1 s xs r = true) : St h (h.frozo m h1) [⟨AV.shm m h.next n r, s, xs, true⟩] := by
  obtain ⟨F, hm, hF⟩ := chkO_mu (h := h) (n := n) hc
  refine ⟨frozo_keeps h m h1, [F], rfl, ?_, ?_, ?_⟩
  · intro i o G ho hG
    cases i with
    | zero => cases ho; cases hG; exact hm
    | succ i => cases ho
  · intro i j G hi hj
    cases i with
    | zero =>
      cases j with
      | zero => rfl
      | succ j => cases hj
    | succ i => cases hi
  · intro i G hG
    cases i with
    | zero =>
      have hG : F = some G := Option.some.inj hG
      exact hF G hG
    | succ i => cases hG
theorem over_evP {P : Program} {orc : Orc} (ho : OrcOk P orc) (hm : P.follows .mixedOrders = true) {n : Nat} {f : FuncId} {args args' : List AV} {h : AHeap} (bs : List ArgB) (gs : List Nat) {test : AV → AHeap → Bool} (hok : ∀ p ∈ bs, OkG h bs p) (hg : ∀ g ∈ gs, g ∈ h.globs ∧ ∃ p, bs[g]? = some p ∧ p.v = .ptr g 0) (hl : args.length = args'.length) (hi : ∀ (j : Nat) (x y : AV), args[j]? = some x → args'[j]? = some y → ImG bs x y)
    (hr : runsQ P orc n f args' (bs.map ArgB.ys) gs test = true) : ∃ r h1, test r h1 = true ∧ Ev P f args h (AV.shm bs.length h.next 4 r) (h.frozo bs.length h1) := by
  unfold runsQ at hr
  split at hr
  · rename_i r h1 hc
    rw [List.map_map] at hc
    have hev : Ev P f args' (hArgG bs gs) r h1 := bcallY_run (ok := okY P) ho hm (by intro f hf; simp only [okY, Bool.and_eq_true] at hf; exact hf.1) (by intro f hf; simp only [okY, Bool.and_eq_true] at hf; exact hf.2) n hc
    refine ⟨r, h1, hr, ?_⟩
    have := hev.overO (args := args) (fun b B hB => by obtain ⟨p, _, h2⟩ := hArgG_get hB; exact ⟨0, _, h2⟩) h (fun φ w cs rr ha => ⟨embG φ bs, ?_, hArgG_rel hok hg rr, by have := ha.1; omega, ?_⟩)
    · rwa [hArgG_next] at this
    · intro b hb
      rw [hArgG_next] at hb
      simp only [embG, List.getElem?_eq_none hb]
    · intro j y c hy hc'
      have hj : j < args.length := by have := (List.getElem?_eq_some_iff.1 hy).1; omega
      exact ImG.rel hok (hi j _ y (List.getElem?_eq_getElem hj) hy) (ha.2 j _ c (List.getElem?_eq_getElem hj) hc')
  · cases hr
theorem over_evO {P : Program} (hm : P.follows .mixedOrders = true) {n : Nat} {f : FuncId} {args args' : List AV} {h : AHeap} (bs : List ArgB) (gs : List Nat) {test : AV → AHeap → Bool} (hok : ∀ p ∈ bs, OkG h bs p) (hg : ∀ g ∈ gs, g ∈ h.globs ∧ ∃ p, bs[g]? = some p ∧ p.v = .ptr g 0) (hl : args.length = args'.length) (hi : ∀ (j : Nat) (x y : AV), args[j]? = some x → args'[j]? = some y → ImG bs x y)
    (hr : runsG P n f args' (bs.map ArgB.ys) gs test = true) : ∃ r h1, test r h1 = true ∧ Ev P f args h (AV.shm bs.length h.next 4 r) (h.frozo bs.length h1) := over_evP noOrc_ok hm bs gs hok hg hl hi hr
def chkTupO (m : Nat) (s : Nat) (xs : List AV) (q : AV) (r : AV) (h1 : AHeap) : Bool := match r with
  | .tup [a, b] => chkO m h1 s xs a && (AV.isP 3 b q && q.plain)
  | _ => false
/-- A row, and a value without addresses. -/
theorem over_tupO {P : Program} (hm : P.follows .mixedOrders = true) {n m s : Nat} {f : FuncId} {args args' : List AV} {ys : List (List AV)} {gs : List Nat} {xs : List AV} {q : AV} (hr : runsG P n f args' ys gs (chkTupO m s xs q) = true) {h : AHeap} (bs : List ArgB) (hys : bs.map ArgB.ys = ys) (hmb : bs.length = m) (hok : ∀ p ∈ bs, OkG h bs p) (hg : ∀ g ∈ gs, g ∈ h.globs ∧ ∃ p, bs[g]? = some p ∧ p.v = .ptr g 0) (hl : args.length = args'.length) (hi : ∀ (j : Nat) (x y : AV), args[j]? = some x → args'[j]? = some y → ImG bs x y) :
    ACalls P f args h (fun r h' => ∃ a, r = .tup [a, q] ∧ St h h' [⟨a, s, xs, true⟩]) := by
  subst hys hmb
  obtain ⟨r, h1, ht, he⟩ := over_evO hm bs gs hok hg hl hi hr
  unfold chkTupO at ht
  split at ht
  · rename_i a b
    simp only [Bool.and_eq_true] at ht
    obtain ⟨ha, hb, hq⟩ := ht
    obtain rfl := AV.isP_eq 3 _ _ hb
    exact ⟨_, _, he, AV.shm bs.length h.next 3 a, by simp only [AV.shm, List.map_cons, List.map_nil, shm_plain hq], chkO_st ha⟩
  · cases ht
theorem over_tupP {P : Program} {orc : Orc} (ho : OrcOk P orc) (hm : P.follows .mixedOrders = true) {n m s : Nat} {f : FuncId} {args args' : List AV} {ys : List (List AV)} {gs : List Nat} {xs : List AV} {q : AV} (hr : runsQ P orc n f args' ys gs (chkTupO m s xs q) = true) {h : AHeap} (bs : List ArgB) (hys : bs.map ArgB.ys = ys) (hmb : bs.length = m) (hok : ∀ p ∈ bs, OkG h bs p) (hg : ∀ g ∈ gs, g ∈ h.globs ∧ ∃ p, bs[g]? = some p ∧ p.v = .ptr g 0) (hl : args.length = args'.length) (hi : ∀ (j : Nat) (x y : AV), args[j]? = some x → args'[j]? = some y → ImG bs x y) :
    ACalls P f args h (fun r h' => ∃ a, r = .tup [a, q] ∧ St h h' [⟨a, s, xs, true⟩]) := by
  subst hys hmb
  obtain ⟨r, h1, ht, he⟩ := over_evP ho hm bs gs hok hg hl hi hr
  unfold chkTupO at ht
  split at ht
  · rename_i a b
    simp only [Bool.and_eq_true] at ht
    obtain ⟨ha, hb, hq⟩ := ht
    obtain rfl := AV.isP_eq 3 _ _ hb
    exact ⟨_, _, he, AV.shm bs.length h.next 3 a, by simp only [AV.shm, List.map_cons, List.map_nil, shm_plain hq], chkO_st ha⟩
  · cases ht
end Go.Am

namespace Go.Am
open Go.RowKit
/-- What lies unchanged below, and a row behind it. -/
theorem HRel.adopt {φ : Emb} {h : AHeap} {w w' : World} (r : HRel φ h w) (bel : Below w.heap.size w w') (hφ : φ h.next = none) (cs : List AV) {k i0 : Nat} {c : Array Value} {e : TypeId} (hk : w.heap.size ≤ k) (hnew : RowAt w' k c e) (hlen : i0 + cs.length ≤ c.size) (hc : CellsAt φ cs c i0) :
    HRel (φ.upd h.next (k, i0, c.size)) (h.alloc cs) w' ∧ Trans φ h w (φ.upd h.next (k, i0, c.size)) (h.alloc cs) w' := by
  have hle := Emb.le_upd (φ := φ) (k, i0, c.size) hφ
  have hold : ∀ j, j < w.heap.size → w'.heap[j]? = w.heap[j]? := fun j hj => bel.block j hj
  have hkl := hnew.lt
  have hcase : ∀ b k' i z, φ.upd h.next (k, i0, c.size) b = some (k', i, z) → (b = h.next ∧ k' = k ∧ i = i0 ∧ z = c.size) ∨ (b ≠ h.next ∧ φ b = some (k', i, z)) := by
    intro b k' i z hb
    by_cases hbn : b = h.next
    · subst hbn; rw [Emb.upd_same] at hb; cases hb; exact .inl ⟨rfl, rfl, rfl, rfl⟩
    · rw [Emb.upd_other φ _ hbn] at hb; exact .inr ⟨hbn, hb⟩
  refine ⟨⟨?_, ?_, ?_, ?_, ?_, ?_, ?_, ?_⟩, hle, ?_, ?_, ?_, ?_, bel.os, bel.tape, bel.output, bel.size⟩
  · intro g hg
    obtain ⟨z, hz⟩ := r.glob g hg
    exact ⟨z, hle _ _ hz⟩
  · intro b k' i z hb
    rcases hcase b k' i z hb with ⟨_, rfl, _⟩ | ⟨hne, hb'⟩
    · exact hkl
    · exact Nat.lt_of_lt_of_le (r.lt b k' i z hb') bel.size
  · intro b k' i z B hb hg hv
    rcases hcase b k' i z hb with ⟨rfl, rfl, rfl, rfl⟩ | ⟨hne, hb'⟩
    · rw [AHeap.get_alloc, if_pos rfl] at hg
      cases hg
      exact ⟨c, e, hnew, rfl, fun j x hx => let ⟨v, h1, h2⟩ := hc j x hx; ⟨v, h1, h2.mono hle⟩⟩
    · rw [AHeap.get_alloc, if_neg hne] at hg
      rw [AHeap.valid_alloc_old h cs (AHeap.get_lt hg) r] at hv
      exact ((r.blk b k' i z B hb' hg hv).world (hold k' (r.lt b k' i z hb'))).mono hle
  · intro b k' i z F p cs' hb hg
    rcases hcase b k' i z hb with ⟨rfl, rfl, rfl, rfl⟩ | ⟨hne, hb'⟩
    · rw [AHeap.get_alloc, if_pos rfl] at hg
      cases hg
      exact ⟨c, e, hnew, rfl, by omega⟩
    · rw [AHeap.get_alloc, if_neg hne] at hg
      obtain ⟨c', e', h1, h2⟩ := r.arr b k' i z F p cs' hb' hg
      exact ⟨c', e', h1.old (hold k' (r.lt b k' i z hb')), h2⟩
  · intro b b' k' i i' z z' F F' p p' cs1 cs2 hb hb' hg hg'
    rcases hcase b k' i z hb with ⟨rfl, rfl, rfl, rfl⟩ | ⟨hne, h1⟩ <;> rcases hcase b' _ i' z' hb' with ⟨rfl, hk', rfl, rfl⟩ | ⟨hne', h1'⟩
    · rw [hg] at hg'; cases hg'; exact ⟨rfl, rfl⟩
    · have := r.lt b' _ i' z' h1'; omega
    · have := r.lt b _ i z h1; omega
    · rw [AHeap.get_alloc, if_neg hne] at hg
      rw [AHeap.get_alloc, if_neg hne'] at hg'
      exact r.one b b' k' i i' z z' F F' p p' cs1 cs2 h1 h1' hg hg'
  · intro b b' k' i i' z z' F p p' cs1 cs2 hb hb' hg hg'
    rcases hcase b k' i z hb with ⟨rfl, rfl, rfl, rfl⟩ | ⟨hne, h1⟩ <;> rcases hcase b' _ i' z' hb' with ⟨rfl, hk', rfl, rfl⟩ | ⟨hne', h1'⟩
    · rw [hg] at hg'; cases hg'
    · have := r.lt b' _ i' z' h1'; omega
    · rw [AHeap.get_alloc, if_pos rfl] at hg'; cases hg'
    · rw [AHeap.get_alloc, if_neg hne] at hg
      rw [AHeap.get_alloc, if_neg hne'] at hg'
      exact r.sep b b' k' i i' z z' F p p' cs1 cs2 h1 h1' hg hg'
  · intro b b' k' i i' z z' F0 x0 B hb hb' hg hg'
    rcases hcase b k' i z hb with ⟨rfl, rfl, rfl, rfl⟩ | ⟨hne, h1⟩ <;> rcases hcase b' _ i' z' hb' with ⟨rfl, hk', rfl, rfl⟩ | ⟨hne', h1'⟩
    · rfl
    · rw [AHeap.get_alloc, if_pos rfl] at hg; cases hg
    · have := r.lt b _ i z h1; omega
    · rw [AHeap.get_alloc, if_neg hne] at hg
      rw [AHeap.get_alloc, if_neg hne'] at hg'
      exact r.map b b' k' i i' z z' F0 x0 B h1 h1' hg hg'
  · intro b F p cs' hg
    rw [AHeap.get_alloc] at hg
    rw [AHeap.fam_alloc]
    split at hg
    · cases hg
      exact ⟨_, if_pos rfl, by simp⟩
    · obtain ⟨f, hf, hl⟩ := r.ext b F p cs' hg
      have := AHeap.fam_lt hf
      exact ⟨f, by rw [if_neg (by omega)]; exact hf, hl⟩
  · intro b h1 h2
    rw [AHeap.next_alloc] at h2
    have : b = h.next := by omega
    subst this
    exact ⟨_, Emb.upd_same _ _ _⟩
  · intro b p h1 h2
    by_cases hbn : b = h.next
    · subst hbn; rw [AHeap.next_alloc]; omega
    · rw [Emb.upd_other φ _ hbn, h1] at h2; cases h2
  · intro b k' i z h1 h2
    rcases hcase b k' i z h2 with ⟨_, rfl, _⟩ | ⟨hne, hb'⟩
    · exact .inl hk
    · rw [h1] at hb'; cases hb'
  · intro j hj _
    exact hold j hj
/-- A call that returns a row of one-cell elements that it laid down. -/
theorem Ev.of_fresh {P : Program} {f : FuncId} {args : List AV} {h : AHeap} {xs : List AV} (hok : Okf P f)
    (hc : ∀ (φ : Emb) (w : World) (cv : List Value), HRel φ h w → VRels φ args cv → Calls P f cv.toArray w fun e w' => ∃ k i c t cap, e = .returned (.slice (some ⟨k, i, none⟩) xs.length cap) ∧ Below w.heap.size w w' ∧ w.heap.size ≤ k ∧ RowAt w' k c t ∧ CellsAt φ xs c i ∧ xs.length ≤ cap ∧ i + cap ≤ c.size ∧ cap ≤ maxLen) :
    Ev P f args h (.slc h.next 0 xs.length 1 false) (h.alloc xs) := by
  refine ⟨hok, HGrow.alloc _ _, ?_⟩
  intro φ w cv hfr rr ha
  have hφ : φ h.next = none := hfr h.next (Nat.le_refl _) (by rw [AHeap.next_alloc]; omega)
  refine (hc φ w cv rr ha).mono ?_
  rintro e w' ⟨k, i, c, t, cap, rfl, bel, hk, hrow, hca, hcl, hcs, hmx⟩
  obtain ⟨r', tr⟩ := rr.adopt bel hφ xs hk hrow (by omega) hca
  exact ⟨_, _, rfl, tr, r', .slc _ 0 _ 1 false _ cap hcl hmx (fun h => by cases h) (.inr ⟨_, i, _, Emb.upd_same _ _ _, by simp, by omega⟩)⟩
end Go.Am

namespace Go.Am
instance : ScT Go.Proofs.Tryz.prog 3 := ScT.of (by kernel_rfl)
instance : IntT Go.Proofs.Tryz.prog 3 .i64 := IntT.of (by kernel_rfl)
instance : ZeT Go.Proofs.Tryz.prog 3 [.int .i64 0] := ⟨by kernel_rfl⟩
instance : ScT Go.Proofs.Tryz.prog 4 := ScT.of (by kernel_rfl)
instance : ScT Go.Proofs.Tryz.prog 5 := ScT.of (by kernel_rfl)
instance : IntT Go.Proofs.Tryz.prog 5 .u8 := IntT.of (by kernel_rfl)
instance : AgT Go.Proofs.Tryz.prog 22 4 := AgT.of (by kernel_rfl)
instance : ScT Go.Proofs.Tryz.prog 23 := ScT.of (by kernel_rfl)
instance : ZeT Go.Proofs.Tryz.prog 23 [.nils] := ⟨by kernel_rfl⟩
instance : SlT Go.Proofs.Tryz.prog 23 3 1 [.int .i64 0] := SlT.of (by kernel_rfl) rfl (by decide)
instance : AgT Go.Proofs.Tryz.prog 30 4 := AgT.of (by kernel_rfl)
instance : ZeT Go.Proofs.Tryz.prog 30 [.int .i64 0, .int .i64 0, .int .i64 0, .nils] := ⟨by kernel_rfl⟩
instance : ScT Go.Proofs.Tryz.prog 46 := ScT.of (by kernel_rfl)
instance : SlT Go.Proofs.Tryz.prog 46 52 4 [.int .i64 0, .int .i64 0, .int .i64 0, .int .i64 0] := SlT.of (by kernel_rfl) rfl (by decide)
instance : AgT Go.Proofs.Tryz.prog 48 2 := AgT.of (by kernel_rfl)
instance : AgT Go.Proofs.Tryz.prog 52 4 := AgT.of (by kernel_rfl)
instance : ZeT Go.Proofs.Tryz.prog 52 [.int .i64 0, .int .i64 0, .int .i64 0, .int .i64 0] := ⟨by kernel_rfl⟩
instance : SlT Go.Proofs.Tryz.prog 67 72 2 [.int .i64 0, .int .i64 0] := SlT.of (by kernel_rfl) rfl (by decide)
instance : ScT Go.Proofs.Tryz.prog 130 := ScT.of (by kernel_rfl)
instance : AgT Go.Proofs.Tryz.prog 142 3 := AgT.of (by kernel_rfl)
instance : IntT Go.Proofs.Tryz.prog 193 .u16 := IntT.of (by kernel_rfl)
instance : AgT Go.Proofs.Tryz.prog 197 3 := AgT.of (by kernel_rfl)
instance : ZeT Go.Proofs.Tryz.prog 197 [.int .i64 0, .int .i64 0, .bool false] := ⟨by kernel_rfl⟩
instance : ScT Go.Proofs.Tryz.prog 198 := ScT.of (by kernel_rfl)
instance : ZeT Go.Proofs.Tryz.prog 198 [.nilm] := ⟨by kernel_rfl⟩
instance : IntT Go.Proofs.Tryz.prog 202 .u32 := IntT.of (by kernel_rfl)
instance : AgT Go.Proofs.Tryz.prog 225 5 := AgT.of (by kernel_rfl)
instance : ZeT Go.Proofs.Tryz.prog 225 [.int .i64 0, .int .i64 0, .int .i64 0, .int .i64 0, .int .i64 0] := ⟨by kernel_rfl⟩
instance : ScT Go.Proofs.Tryz.prog 270 := ScT.of (by kernel_rfl)
end Go.Am

namespace Go.Proofs
open Go.RowKit Go.Shelf
attribute [local go_sem] Oper.semAt_some
/-- The pieces of a row of sixteen cells. -/
abbrev Tryz.Pc := { x : Nat // x < 4 }
def Tryz.pcs (k : Nat) : List Tryz.Pc := [⟨0, by decide⟩, ⟨1, by decide⟩, ⟨2, by decide⟩, ⟨3, by decide⟩].take k
theorem Tryz.pcs_succ {k : Nat} (h : k < 4) : Tryz.pcs (k + 1) = Tryz.pcs k ++ [⟨k, h⟩] := by
  match k, h with
  | 0, _ => rfl
  | 1, _ => rfl
  | 2, _ => rfl
  | 3, _ => rfl
theorem Tryz.pcs_len {k : Nat} (h : k ≤ 4) : (Tryz.pcs k).length = k := by
  match k, h with
  | 0, _ => rfl
  | 1, _ => rfl
  | 2, _ => rfl
  | 3, _ => rfl
  | 4, _ => rfl
/-- Two blocks lie as they lay. -/
def Tryz.Two (s n : Nat) (A B : World) : Prop := B.heap[s]? = A.heap[s]? ∧ B.heap[n]? = A.heap[n]?
theorem Tryz.Two.trans {s n : Nat} {A B C : World} (h : Tryz.Two s n A B) (k : Tryz.Two s n B C) : Tryz.Two s n A C := ⟨k.1.trans h.1, k.2.trans h.2⟩
set_option maxRecDepth 100000 in
set_option maxHeartbeats 2000000 in
theorem Tryz.chunk1_in (F : Fence) (n : Nat) (h7 : F.fn 216) (hro : F.round = none) (hn : 1 ≤ n) (l Bs Bn g o cap : Nat) (hcap : 16 ≤ cap) (hcm : cap ≤ maxLen) (J Jx : List Tryz.Pc → World → Prop) (hJd : ∀ s W, J s W → J s W.drew)
    (hY : ∀ pre x W, J pre W → pre.length < 4 → YieldAt F (n - 1) Tryz.prog l #[.slice (some ⟨g, o + 4 * x.1, none⟩) 4 4] W fun e W' =>
      (e = .returned (.bool true) ∧ J (pre ++ [x]) W' ∧ Tryz.Two Bs Bn W W') ∨ (e = .returned (.bool false) ∧ Jx (pre ++ [x]) W'))
    (W : World) (hBs : W.cell? ⟨Bs, 0, none⟩ = some (.slice (some ⟨g, o, none⟩) 16 cap)) (hBn : W.cell? ⟨Bn, 0, none⟩ = some (.int .i64 4)) (h0 : J [] W) :
    CallsIn F n Tryz.prog 216 #[.func (.yield l) #[] #[], .pointer (some ⟨Bs, 0, none⟩), .pointer (some ⟨Bn, 0, none⟩)] W fun e W' => (∃ v, e = .returned v) ∧
      ((∃ ys, ys = Tryz.pcs 4 ∧ J ys W') ∨ (∃ pre, True ∧ Jx pre W')) := by
  refine callsIn_of_wp Tryz.func216 rfl h7 ?_ hro
  simp only [Tryz.ntmps216, List.size_toArray, List.length_cons, List.length_nil, Nat.reduceAdd, Nat.reduceSub, Array.replicate_succ, Array.replicate_zero, List.push_toArray, List.append_toArray, List.nil_append, List.cons_append]
  gi_wp2
  gi_loopw [4] (fun i wr => ∃ k : Nat, k ≤ 4 ∧ i = .int .i64 (4 * k : Nat) ∧ J (Tryz.pcs k) wr ∧ Tryz.Two Bs Bn W wr)
    (fun i _ => 16 - (intOf i).toNat)
  case atStart => exact ⟨0, Nat.zero_le _, rfl, h0, rfl, rfl⟩
  case round =>
    obtain ⟨k, hk, rfl, hJs, hnx⟩ := hrel
    have hcs : wr.cell? ⟨Bs, 0, none⟩ = some (.slice (some ⟨g, o, none⟩) 16 cap) := (World.cell?_of_block hnx.1).trans hBs
    have hcn : wr.cell? ⟨Bn, 0, none⟩ = some (.int .i64 4) := (World.cell?_of_block hnx.2).trans hBn
    by_cases hlt : k < 4
    · obtain ⟨fn, tmps, assign, body, hy, hR⟩ := hY _ ⟨k, hlt⟩ wr.drew (hJd _ _ hJs) (by rw [Tryz.pcs_len hk]; exact hlt)
      dsimp only at hy
      have hend : ∀ W3, J (Tryz.pcs k ++ [⟨k, hlt⟩]) W3 → Tryz.Two Bs Bn wr.drew W3 → J (Tryz.pcs (k + 1)) W3 ∧ Tryz.Two Bs Bn W W3 := fun W3 h1 h2 => ⟨by rw [Tryz.pcs_succ hlt]; exact h1, hnx.trans h2⟩
      have hcase : k = 0 ∨ k = 1 ∨ k = 2 ∨ k = 3 := by omega
      rcases hcase with rfl | rfl | rfl | rfl
      all_goals (simp only [Nat.reduceMul, Nat.add_zero] at hy ⊢)
      all_goals gi_wp2
      all_goals gi_region
      all_goals gi_wp2
      all_goals (
        refine hR.mono ?_
        rintro e W3 (⟨rfl, hJ3, hk3⟩ | ⟨rfl, hJx3⟩)
        · obtain ⟨hJ4, hT4⟩ := hend W3 hJ3 hk3
          have hcn3 : W3.cell? ⟨Bn, 0, none⟩ = some (.int .i64 4) := (World.cell?_of_block hT4.2).trans hBn
          gi_wp2
          go_roundw
          case rel => exact ⟨_, by decide, rfl, hJ4, hT4⟩
          case measure => decide
        · gi_wp2
          refine bodyPost_ret (results_none rfl _ _ _) rfl ?_
          exact ⟨⟨_, rfl⟩, .inr ⟨_, trivial, hJx3⟩⟩)
    · obtain rfl : k = 4 := by omega
      gi_wp2
      go_end0
      exact ⟨⟨_, rfl⟩, .inl ⟨_, rfl, hJs⟩⟩
end Go.Proofs

namespace Go.Am
instance ky3 : KeyT Go.Proofs.Tryz.prog 3 (AV.int .i64) := KeyT.int (by kernel_rfl)
instance st9 : StT Go.Proofs.Tryz.prog 9 := ⟨by kernel_rfl⟩
instance fd48_0 : FdT Go.Proofs.Tryz.prog 48 0 0 := FdT.of (by kernel_rfl)
instance fd48_1 : FdT Go.Proofs.Tryz.prog 48 1 1 := FdT.of (by kernel_rfl)
instance fd52_0 : FdT Go.Proofs.Tryz.prog 52 0 0 := FdT.of (by kernel_rfl)
instance fd52_1 : FdT Go.Proofs.Tryz.prog 52 1 1 := FdT.of (by kernel_rfl)
instance fd52_2 : FdT Go.Proofs.Tryz.prog 52 2 2 := FdT.of (by kernel_rfl)
instance fd52_3 : FdT Go.Proofs.Tryz.prog 52 3 3 := FdT.of (by kernel_rfl)
instance mp137 : MpT Go.Proofs.Tryz.prog 137 3 (.bool false) := MpT.of (by kernel_rfl)
instance fd142_0 : FdT Go.Proofs.Tryz.prog 142 0 0 := FdT.of (by kernel_rfl)
instance fd142_1 : FdT Go.Proofs.Tryz.prog 142 1 1 := FdT.of (by kernel_rfl)
instance fd142_2 : FdT Go.Proofs.Tryz.prog 142 2 2 := FdT.of (by kernel_rfl)
instance fd149_0 : FdT Go.Proofs.Tryz.prog 149 0 0 := FdT.of (by kernel_rfl)
instance fd149_1 : FdT Go.Proofs.Tryz.prog 149 1 2 := FdT.of (by kernel_rfl)
instance fd197_0 : FdT Go.Proofs.Tryz.prog 197 0 0 := FdT.of (by kernel_rfl)
instance fd197_1 : FdT Go.Proofs.Tryz.prog 197 1 1 := FdT.of (by kernel_rfl)
instance fd197_2 : FdT Go.Proofs.Tryz.prog 197 2 2 := FdT.of (by kernel_rfl)
instance mp198 : MpT Go.Proofs.Tryz.prog 198 3 (.agg [.int .i64 0, .int .i64 0, .bool false]) := MpT.of (by kernel_rfl)
instance ar225 : ArT Go.Proofs.Tryz.prog 225 5 := ArT.of (by kernel_rfl)
instance ky226 : KeyT Go.Proofs.Tryz.prog 226 (AV.int .u16) := KeyT.int (by kernel_rfl)
instance mp270 : MpT Go.Proofs.Tryz.prog 270 226 (.int .i64 0) := MpT.of (by kernel_rfl)
instance fd272_0 : FdT Go.Proofs.Tryz.prog 272 0 0 := FdT.of (by kernel_rfl)
instance fd272_1 : FdT Go.Proofs.Tryz.prog 272 1 3 := FdT.of (by kernel_rfl)
instance ar315 : ArT Go.Proofs.Tryz.prog 315 32 := ArT.of (by kernel_rfl)
theorem mixed : Go.Proofs.Tryz.prog.follows .mixedOrders = true := by kernel_rfl
end Go.Am

namespace Go.Am
/-- A tray: how many kinds, what places have, and what they want. -/
structure Tray where
  k : Nat
  has : List Int
  wants : List Int
structure Tray.Ok (t : Tray) : Prop where
  k : 1 ≤ t.k ∧ t.k ≤ 5
  n : 1 ≤ t.has.length ∧ t.has.length ≤ 10
  len : t.wants.length = t.has.length
  h : ∀ i, i < t.has.length → 0 ≤ t.has.getD i 0 ∧ t.has.getD i 0 < t.k
  w : ∀ i, i < t.has.length → 0 ≤ t.wants.getD i 0 ∧ t.wants.getD i 0 < t.k
/-- One more, or one less, of a kind. -/
def addAt (l : List Int) (i : Int) (d : Int) : List Int := l.set i.toNat (l.getD i.toNat 0 + d)
theorem addAt_len (l : List Int) (i d : Int) : (addAt l i d).length = l.length := List.length_set
def Tray.more (t : Tray) (p : Nat → Bool) : Nat → List Int
  | 0 => [0, 0, 0, 0, 0]
  | i + 1 => if p i = true then addAt (addAt (t.more p i) (t.has.getD i 0) 1) (t.wants.getD i 0) (-1) else t.more p i
theorem Tray.more_len (t : Tray) (p : Nat → Bool) (i : Nat) : (t.more p i).length = 5 := by
  induction i with
  | zero => rfl
  | succ i ih => rw [Tray.more]; split <;> simp only [addAt_len, ih]
def small (m : Int) (l : List Int) : Prop := ∀ j, -m ≤ l.getD j 0 ∧ l.getD j 0 ≤ m
theorem small_addAt {m : Int} {l : List Int} {i d : Int} (h : small m l) (hd : -1 ≤ d ∧ d ≤ 1) (hm : 0 ≤ m) : small (m + 1) (addAt l i d) := by
  intro j
  have h1 := h j
  have h2 := h i.toNat
  unfold addAt
  rw [List.getD_eq_getElem?_getD, List.getElem?_set]
  split
  · split
    · simp only [Option.getD_some]; omega
    · simp only [Option.getD_none]; omega
  · rw [← List.getD_eq_getElem?_getD]; omega
theorem Tray.more_small (t : Tray) (p : Nat → Bool) (i : Nat) : small (2 * (i : Int)) (t.more p i) := by
  induction i with
  | zero =>
    intro j
    have : (t.more p 0).getD j 0 = 0 := by
      show ([0, 0, 0, 0, 0] : List Int).getD j 0 = 0
      match j with
      | 0 => rfl
      | 1 => rfl
      | 2 => rfl
      | 3 => rfl
      | 4 => rfl
      | j + 5 => rfl
    rw [this]; omega
  | succ i ih =>
    rw [Tray.more]
    split
    · have h1 := small_addAt (i := t.has.getD i 0) (d := 1) ih (by omega) (by omega)
      have h2 := small_addAt (i := t.wants.getD i 0) (d := -1) h1 (by omega) (by omega)
      intro j
      have := h2 j
      omega
    · intro j
      have := ih j
      omega
/-- Is nothing wanted more than there is? -/
def Tray.evenB (t : Tray) (p : Nat → Bool) : Bool := decide (t.more p t.has.length = [0, 0, 0, 0, 0])
/-- Places that are wrong. -/
def Tray.wrongTo (t : Tray) : Nat → Nat
  | 0 => 0
  | i + 1 => if t.has.getD i 0 = t.wants.getD i 0 then t.wrongTo i else t.wrongTo i ||| 2 ^ i
def Tray.wrongS (t : Tray) : Nat := t.wrongTo t.has.length
theorem Tray.wrongTo_lt (t : Tray) (i : Nat) : t.wrongTo i < 2 ^ i := by
  induction i with
  | zero => exact Nat.two_pow_pos _
  | succ i ih =>
    rw [Tray.wrongTo]
    have h1 : 2 ^ i < 2 ^ (i + 1) := Nat.pow_lt_pow_right (by decide) (by omega)
    split
    · omega
    · exact Nat.or_lt_two_pow (by omega) h1
/-- The places of a set. -/
def bitsOf (s : Nat) : List Nat := (List.range 16).filter s.testBit
theorem mem_bitsOf {s j : Nat} : j ∈ bitsOf s ↔ j < 16 ∧ s.testBit j = true := by unfold bitsOf; rw [List.mem_filter, List.mem_range]
theorem bitsOf_nodup (s : Nat) : (bitsOf s).Nodup := (List.nodup_range).filter _
/-- A set without a place. -/
def dropB (s i : Nat) : Nat := s ^^^ (s &&& 2 ^ i)
theorem dropB_bit (s i j : Nat) : (dropB s i).testBit j = (s.testBit j && !decide (j = i)) := by
  unfold dropB
  rw [Nat.testBit_xor, Nat.testBit_and, Nat.testBit_two_pow]
  by_cases h : i = j
  · subst h; cases s.testBit i <;> simp
  · rw [decide_eq_false h, decide_eq_false (p := j = i) (fun e => h e.symm)]; cases s.testBit j <;> rfl
theorem bitsOf_drop (s i : Nat) : bitsOf (dropB s i) = (bitsOf s).filter fun j => decide (j ≠ i) := by
  unfold bitsOf
  rw [List.filter_filter]
  refine List.filter_congr fun j _ => ?_
  rw [dropB_bit]
  by_cases h : j = i
  · simp [h]
  · simp [h]
theorem dropB_le (s i : Nat) : dropB s i ≤ s := by
  refine Nat.le_of_testBit fun j hj => ?_
  rw [dropB_bit] at hj
  cases h : s.testBit j with
  | true => rfl
  | false => rw [h] at hj; cases hj
/-- Into how many rings a set can be divided at most: the best of the sets without one place, and one more if it is even. -/
def Tray.mostF (t : Tray) : Nat → Nat → Nat
  | 0, _ => 0
  | f + 1, s => if s = 0 then 0 else ((bitsOf s).foldl (fun b i => max b (t.mostF f (dropB s i))) 0) + if t.evenB s.testBit = true then 1 else 0
theorem bitsOf_drop_len {s i : Nat} (h : i ∈ bitsOf s) : (bitsOf (dropB s i)).length + 1 = (bitsOf s).length := by
  rw [bitsOf_drop, ← List.countP_eq_length_filter]
  have h1 : (bitsOf s).countP (fun j => decide (j = i)) = 1 := by
    have := (bitsOf_nodup s).count (a := i)
    rw [if_pos h] at this
    rw [← this]
    exact List.countP_congr fun j _ => by simp
  have h2 := List.length_eq_countP_add_countP (fun j => decide (j ≠ i)) (l := bitsOf s)
  have h3 : (bitsOf s).countP (fun j => decide ¬(decide (j ≠ i)) = true) = (bitsOf s).countP (fun j => decide (j = i)) := List.countP_congr fun j _ => by simp
  omega
theorem bitsOf_zero {s : Nat} (hs : s < 2 ^ 16) (h : (bitsOf s).length = 0) : s = 0 := by
  have h1 : bitsOf s = [] := List.length_eq_zero_iff.1 h
  refine Nat.eq_of_testBit_eq fun j => ?_
  rw [Nat.zero_testBit]
  by_cases hj : j < 16
  · cases hb : s.testBit j with
    | false => rfl
    | true =>
      have := mem_bitsOf.2 ⟨hj, hb⟩
      rw [h1] at this; cases this
  · exact Nat.testBit_lt_two_pow (Nat.lt_of_lt_of_le hs (Nat.pow_le_pow_right (by decide) (by omega)))
theorem foldl_congr {α β : Type} {f g : β → α → β} {l : List α} (h : ∀ b, ∀ a ∈ l, f b a = g b a) : ∀ b, l.foldl f b = l.foldl g b := by
  induction l with
  | nil => intro b; rfl
  | cons a l ih =>
    intro b
    rw [List.foldl_cons, List.foldl_cons, h b a List.mem_cons_self]
    exact ih (fun b x hx => h b x (List.mem_cons_of_mem _ hx)) _
theorem Tray.mostF_fuel (t : Tray) : ∀ (d s : Nat), s < 2 ^ 16 → (bitsOf s).length = d → ∀ f g, d ≤ f → d ≤ g → t.mostF f s = t.mostF g s := by
  intro d
  induction d using Nat.strongRecOn with
  | _ d ih =>
    intro s hs hd f g hf hg
    by_cases h0 : s = 0
    · have e : ∀ f, t.mostF f s = 0 := fun f => by
        cases f with
        | zero => rfl
        | succ f => rw [Tray.mostF, if_pos h0]
      rw [e, e]
    · have hpos : d ≠ 0 := fun e => h0 (bitsOf_zero hs (by omega))
      obtain ⟨f, rfl⟩ : ∃ k, f = k + 1 := ⟨f - 1, by omega⟩
      obtain ⟨g, rfl⟩ : ∃ k, g = k + 1 := ⟨g - 1, by omega⟩
      rw [Tray.mostF, Tray.mostF, if_neg h0, if_neg h0]
      congr 1
      refine foldl_congr (fun b i hi => ?_) 0
      have h1 := bitsOf_drop_len hi
      rw [ih (bitsOf (dropB s i)).length (by omega) (dropB s i) (Nat.lt_of_le_of_lt (dropB_le s i) hs) rfl f g (by omega) (by omega)]
def Tray.mostS (t : Tray) (s : Nat) : Nat := t.mostF 16 s
def Tray.bestK (t : Tray) (s : Nat) (k : Nat) : Nat := ((bitsOf s).take k).foldl (fun b i => max b (t.mostS (dropB s i))) 0
theorem Tray.bestK_succ (t : Tray) {s k : Nat} (h : k < (bitsOf s).length) : t.bestK s (k + 1) = max (t.bestK s k) (t.mostS (dropB s ((bitsOf s).getD k 0))) := by
  unfold Tray.bestK
  rw [List.take_add_one, List.getElem?_eq_getElem h, List.foldl_append]
  rw [List.getD_eq_getElem?_getD, List.getElem?_eq_getElem h]
  rfl
theorem bitsOf_len (s : Nat) : (bitsOf s).length ≤ 16 := Nat.le_trans (List.length_filter_le ..) (by rw [List.length_range]; exact Nat.le_refl _)
theorem Tray.mostF_step (t : Tray) {s : Nat} (hs : s < 2 ^ 16) (h0 : s ≠ 0) (f : Nat) (hf : 16 ≤ f + 1) : t.mostF (f + 1) s = ((bitsOf s).foldl (fun b i => max b (t.mostF (f + 1) (dropB s i))) 0) + if t.evenB s.testBit = true then 1 else 0 := by
  rw [Tray.mostF, if_neg h0]
  congr 1
  refine foldl_congr (fun b i hi => ?_) 0
  have h1 := bitsOf_drop_len hi
  have h2 := bitsOf_len s
  rw [t.mostF_fuel (bitsOf (dropB s i)).length (dropB s i) (Nat.lt_of_le_of_lt (dropB_le s i) hs) rfl f (f + 1) (by omega) (by omega)]
theorem Tray.mostS_step (t : Tray) {s : Nat} (hs : s < 2 ^ 16) (h0 : s ≠ 0) : t.mostS s = t.bestK s (bitsOf s).length + if t.evenB s.testBit = true then 1 else 0 := by
  unfold Tray.bestK
  rw [List.take_length]
  exact t.mostF_step hs h0 15 (by decide)
theorem Tray.mostS_zero (t : Tray) : t.mostS 0 = 0 := by unfold Tray.mostS; rw [Tray.mostF, if_pos rfl]
theorem foldl_max_le {α : Type} {f : α → Nat} {m : Nat} : ∀ {l : List α} {b : Nat}, b ≤ m → (∀ x ∈ l, f x ≤ m) → l.foldl (fun b i => max b (f i)) b ≤ m := by
  intro l
  induction l with
  | nil => intro b h _; exact h
  | cons x l ih =>
    intro b h1 h2
    rw [List.foldl_cons]
    exact ih (Nat.max_le.2 ⟨h1, h2 x List.mem_cons_self⟩) (fun y hy => h2 y (List.mem_cons_of_mem _ hy))
theorem Tray.mostF_le (t : Tray) : ∀ f s, t.mostF f s ≤ f := by
  intro f
  induction f with
  | zero => intro s; exact Nat.le_refl _
  | succ f ih =>
    intro s
    rw [Tray.mostF]
    split
    · exact Nat.zero_le _
    · have := foldl_max_le (l := bitsOf s) (b := 0) (f := fun i => t.mostF f (dropB s i)) (m := f) (Nat.zero_le _) (fun i _ => ih _)
      split <;> omega
theorem Tray.mostS_le (t : Tray) (s : Nat) : t.mostS s ≤ 16 := t.mostF_le 16 s
theorem Tray.bestK_le (t : Tray) (s k : Nat) : t.bestK s k ≤ 16 := foldl_max_le (Nat.zero_le _) fun i _ => t.mostS_le _
/-- How few exchanges put a tray right. -/
def Tray.fewS (t : Tray) : Int := ((bitsOf t.wrongS).length : Int) - (t.mostS t.wrongS : Int)
/-- The error of a tray whose kinds are kinds. -/
def Tray.chk (t : Tray) : Int := if t.evenB (fun _ => true) = true then 0 else 17
end Go.Am


namespace Go.Am
/-- Places in a circle, turned. -/
def pos (n s i : Nat) : Nat := (i + s) % n
end Go.Am


namespace Go.Am
section
variable {P : Program} {n : Nat} {ops : Array Oper} {ex : List Nat} {Q : KF → AHeap → Prop} {k : Nat} {os : List Oper} {K : KF} {h h0 : AHeap} {d : Nat} {ty : TypeId} {pos : String} {after : Array Edge} {objs : List Obj}
/-- A byte of a string. -/
theorem KOps.sAt {t : TypeId} {x ix : Operand} {s : ByteArray} {kd : IntKind} {i : Int} {j : Nat} [hx : EvK h.globs n K x (.str s)] [hi : EvK h.globs n K ix (.int kd i)] [ht : StT P t] (hj : i = (j : Int)) (hlt : j < s.size) (hk : KOps P n ops ex Q (k + 1) os ((d, .int .u8 ((s.get! j).toNat : Int)) :: K) h) :
    KOps P n ops ex Q k (⟨some d, .index t x ix, ty, pos, after, none⟩ :: os) K h := by
  subst hj
  refine KOps.pure rfl (v := .int .u8 ((s.get! j).toNat : Int)) ?_ hk
  simp only [apure, hx.eq, hi.eq, aindex, ht.st, Int.toNat_natCast]
  rw [if_pos ⟨trivial, by omega⟩, getElem?_pos s j hlt]
  have h2 : s.get! j = s[j]'hlt := by
    show s.data[j]! = s.data[j]'hlt
    rw [getElem!_pos _ j hlt]
  rw [h2]; rfl
end
end Go.Am


namespace Go.Am
abbrev popS : ByteArray := ⟨(([0, 1, 1, 2, 1, 2, 2, 3, 1, 2, 2, 3, 2, 3, 3, 4, 1, 2, 2, 3, 2, 3, 3, 4, 2, 3, 3, 4, 3, 4, 4, 5, 1, 2, 2, 3, 2, 3, 3, 4, 2, 3, 3, 4, 3, 4, 4, 5, 2, 3, 3, 4, 3, 4, 4, 5, 3, 4, 4,
  5, 4, 5, 5, 6].append [1, 2, 2, 3, 2, 3, 3, 4, 2, 3, 3, 4, 3, 4, 4, 5, 2, 3, 3, 4, 3, 4, 4, 5, 3, 4, 4, 5, 4, 5, 5, 6, 2, 3, 3, 4, 3, 4, 4, 5, 3, 4, 4, 5, 4, 5, 5, 6, 3, 4, 4, 5,
  4, 5, 5, 6, 4, 5, 5, 6, 5, 6, 6, 7]).append ([1, 2, 2, 3, 2, 3, 3, 4, 2, 3, 3, 4, 3, 4, 4, 5, 2, 3, 3, 4, 3, 4, 4, 5, 3, 4, 4, 5, 4, 5, 5, 6, 2, 3, 3, 4, 3, 4, 4, 5, 3, 4, 4, 5, 4,
  5, 5, 6, 3, 4, 4, 5, 4, 5, 5, 6, 4, 5, 5, 6, 5, 6, 6, 7].append [2, 3, 3, 4, 3, 4, 4, 5, 3, 4, 4, 5, 4, 5, 5, 6, 3, 4, 4, 5, 4, 5, 5, 6, 4, 5, 5, 6, 5, 6, 6, 7, 3, 4, 4, 5, 4, 5,
  5, 6, 4, 5, 5, 6, 5, 6, 6, 7, 4, 5, 5, 6, 5, 6, 6, 7, 5, 6, 6, 7, 6, 7, 7, 8])).toArray⟩
theorem popS_size : popS.size = 256 := by kernel_rfl
/-- The table of the lowest bits. -/
def tzL : List Nat := [0, 1, 28, 2, 29, 14, 24, 3, 30, 22, 20, 15, 25, 17, 4, 8, 31, 27, 13, 23, 21, 19, 16, 7, 26, 12, 18, 6, 11, 5, 10, 9]
def tzC : List AV := tzL.map fun (v : Nat) => .int .u8 (v : Int)
def Tab (h : AHeap) : Prop := h.globs.contains 3 = true ∧ Rd h (.ptr 3 0) 0 tzC
theorem Tab.ext {h h' : AHeap} (z : Tab h) (k : Keeps h h') : Tab h' := ⟨by rw [k.globs]; exact z.1, Rd.ext k z.2⟩
theorem Tab.ev {h : AHeap} (z : Tab h) (n : Nat) (K : KF) : EvK h.globs n K (.global 3) (.ptr 3 0) := ⟨by simp only [evalK]; rw [if_pos z.1]⟩
theorem addr0 : AddrOf (.ptr 3 0) (.ptr 3 0) 0 0 := ⟨3, 0, .inr ⟨rfl, rfl⟩, rfl⟩
def tzJ (t : Nat) : Nat := (2 ^ t * 125613361 % 4294967296) >>> 27
theorem tz_idx : ∀ t : Nat, t < 32 → (IntKind.u32.wrap (((2 ^ t : Nat) : Int) * 125613361)).fdiv (2 ^ Min.min (27 : Int).toNat (IntKind.bits .u32)) = (tzJ t : Int) ∧ tzJ t < 32 ∧ tzC[tzJ t]? = some (.int .u8 (t : Int)) := by
  intro t ht
  refine ⟨?_, ?_, ?_⟩
  · revert t; decide +kernel
  · revert t; decide +kernel
  · have : ∀ t : Nat, t < 32 → tzL[tzJ t]? = some t := by decide +kernel
    rw [tzC, List.getElem?_map, this t ht]; rfl
section
variable {P : Program} {n : Nat} {ops : Array Oper} {ex : List Nat} {Q : KF → AHeap → Prop} {k : Nat} {os : List Oper} {K : KF} {h h0 : AHeap} {d : Nat} {ty : TypeId} {pos : String} {after : Array Edge} {objs : List Obj}
theorem KOps.negK {t : TypeId} {x : Operand} {kd : IntKind} {a : Int} [hx : EvK h.globs n K x (.int kd a)] (hk : KOps P n ops ex Q (k + 1) os ((d, .int kd (kd.wrap (0 - a))) :: K) h) : KOps P n ops ex Q k (⟨some d, .unOp .neg t x, ty, pos, after, none⟩ :: os) K h :=
  KOps.pure rfl (by simp only [apure, hx.eq, aun]) hk
end
end Go.Am


namespace Go.Am
/-- The tables of the lowest bits. -/
def tzL64 : List Nat := [0, 1, 56, 2, 57, 49, 28, 3, 61, 58, 42, 50, 38, 29, 17, 4, 62, 47, 59, 36, 45, 43, 51, 22, 53, 39, 33, 30, 24, 18, 12, 5, 63, 55, 48, 27, 60, 41, 37, 16, 46, 35, 44, 21, 52, 32, 23, 11, 54, 26, 40, 15, 34, 20, 31, 10, 25, 14, 19, 9, 13, 8, 7, 6]
def tzC64 : List AV := tzL64.map fun (v : Nat) => .int .u8 (v : Int)
def Tabs (h : AHeap) : Prop := Tab h ∧ h.globs.contains 2 = true ∧ Rd h (.ptr 2 0) 0 tzC64
theorem Tabs.ext {h h' : AHeap} (z : Tabs h) (k : Keeps h h') : Tabs h' := ⟨z.1.ext k, by rw [k.globs]; exact z.2.1, Rd.ext k z.2.2⟩
def lowB (s : Nat) : Nat := (bitsOf s).headD 0
theorem low_16 : ∀ s, s < 1024 → s ≠ 0 → s &&& (65536 - s) = 2 ^ lowB s ∧ lowB s < 10 ∧ bitsOf (s &&& (s - 1)) = (bitsOf s).tail ∧ bitsOf s ≠ [] := by decide +kernel
theorem low_lt : ∀ s, s < 1024 → s &&& (s - 1) < 1024 := fun s h => Nat.lt_of_le_of_lt Nat.and_le_left h
theorem neg16 {x : Nat} (h0 : 0 < x) (hx : x < 65536) : IntKind.u16.wrap (0 - (x : Int)) = ((65536 - x : Nat) : Int) := by
  unfold IntKind.wrap
  simp only [IntKind.bits, IntKind.signed, Bool.false_and]
  have e1 : (2 : Int) ^ 16 = 65536 := by decide
  rw [e1]
  simp
  omega
theorem bit_dec {s i : Nat} : decide (((s >>> i &&& 1 : Nat) : Int) = 1) = s.testBit i := by
  rw [and_one_bit]
  cases s.testBit i <;> rfl
theorem pop_len : ∀ s, s < 1024 → ((popS.get! (s >>> 8)).toNat + (popS.get! (s &&& 255)).toNat : Nat) = (bitsOf s).length ∧ s >>> 8 < 256 ∧ s &&& 255 < 256 ∧ (popS.get! (s >>> 8)).toNat ≤ 8 ∧ (popS.get! (s &&& 255)).toNat ≤ 8 := by decide +kernel
abbrev nI (l : List Nat) : List Int := l.map fun n : Nat => (n : Int)
theorem bits1024 : ∀ s, s < 1024 → ∀ i ∈ bitsOf s, i < 10 := by decide +kernel
section
variable {P : Program} {n : Nat} {ops : Array Oper} {ex : List Nat} {Q : KF → AHeap → Prop} {k : Nat} {os : List Oper} {K : KF} {h : AHeap} {d : Nat} {ty : TypeId} {pos : String} {after : Array Edge}
theorem KOps.eqlArr {t t' e : TypeId} {x y : Operand} {l m : List Int} {z : Nat} [hx : EvK h.globs n K x (.agg (ints l))] [hy : EvK h.globs n K y (.agg (ints m))] (h1 : arrA P t = some (z, e)) (h2 : intA P e = some .i64) (h3 : P.eqGuardType P.depth t = false) (h4 : szA P e = some 1) (hl : l.length = z) (hm : m.length = z)
    (hk : KOps P n ops ex Q (k + 1) os ((d, .bool (decide (l = m))) :: K) h) : KOps P n ops ex Q k (⟨some d, .binOp .eql t x y t', ty, pos, after, none⟩ :: os) K h := by
  refine KOps.pure rfl ?_ hk
  simp only [apure, hx.eq, hy.eq, abin, aarr, h1, h2, h3, h4, alits_map, if_true, Option.map_some, hl, hm, true_and, and_self]
  rw [show (l == m) = decide (l = m) by rw [Bool.eq_iff_iff, beq_iff_eq, decide_eq_true_iff]]
theorem KOps.neqArr {t t' e : TypeId} {x y : Operand} {l m : List Int} {z : Nat} [hx : EvK h.globs n K x (.agg (ints l))] [hy : EvK h.globs n K y (.agg (ints m))] (h1 : arrA P t = some (z, e)) (h2 : intA P e = some .i64) (h3 : P.eqGuardType P.depth t = false) (h4 : szA P e = some 1) (hl : l.length = z) (hm : m.length = z)
    (hk : KOps P n ops ex Q (k + 1) os ((d, .bool (!decide (l = m))) :: K) h) : KOps P n ops ex Q k (⟨some d, .binOp .neq t x y t', ty, pos, after, none⟩ :: os) K h := by
  refine KOps.pure rfl ?_ hk
  simp only [apure, hx.eq, hy.eq, abin, aarr, h1, h2, h3, h4, alits_map, if_true, Option.map_some, hl, hm, true_and, and_self]
  rw [show (l == m) = decide (l = m) by rw [Bool.eq_iff_iff, beq_iff_eq, decide_eq_true_iff]]
end
theorem mdBetween_c {h : AHeap} {a b c : Int} : ACalls Go.Proofs.Tryz.prog 145 [.int .i64 a, .int .i64 b, .int .i64 c] h (fun q h' => q = .bool (decide (a ≤ b ∧ b ≤ c)) ∧ h = h') := by
  refine KA.fn 15 [.tmp 6] Go.Proofs.Tryz.func145 rfl (by decide) rfl rfl (Nat.le_of_ble_eq_true rfl) ?_
  show KA _ 15 _ _ [(0, .int .i64 a), (1, .int .i64 b), (2, .int .i64 c)] _
  refine KA.seq ?_
  refine KA.region rfl ?_
  refine KOps.assign ?_
  refine KOps.done ?_
  refine sqQ.normal ?_
  refine KA.sub (Sub.cons (t := 0) Look.eq (Sub.cons (t := 1) Look.eq (Sub.cons (t := 2) Look.eq (Sub.nil _)))) ?_
  refine KA.seq ?_
  refine KA.region rfl ?_
  refine KOps.move ?_
  refine KOps.move ?_
  refine KOps.leq ?_
  refine KOps.move ?_
  refine KOps.guardB (dj := 10) rfl rfl true false rfl ?_ ?_
  · intro g10
    have g10 := of_decide_eq_true g10
    refine KOps.move ?_
    refine KOps.guardYes (dj := 10) rfl rfl ?_
    refine KOps.move ?_
    refine KOps.guardYes (dj := 10) rfl rfl ?_
    refine KOps.leq ?_
    refine KOps.pickT ?_
    refine KOps.assign ?_
    refine KOps.done ?_
    refine sqQ.normal ?_
    refine KA.sub (Sub.cons (t := 6) Look.eq (Sub.nil _)) ?_
    refine KA.ret ?_
    refine fnQ.ret1 ?_
    first | exact ⟨congrArg AV.bool (decide_eq_decide.2 (by omega)), rfl⟩ | exact ⟨congrArg AV.bool (decide_eq_false (by omega)).symm, rfl⟩
  · intro g10
    have g10 := of_decide_eq_false g10
    refine KOps.guardNo (dj := 10) rfl rfl rfl ?_
    refine KOps.guardNo (dj := 10) rfl rfl rfl ?_
    refine KOps.pickF ?_
    refine KOps.assign ?_
    refine KOps.done ?_
    refine sqQ.normal ?_
    refine KA.sub (Sub.cons (t := 6) Look.eq (Sub.nil _)) ?_
    refine KA.ret ?_
    refine fnQ.ret1 ?_
    first | exact ⟨congrArg AV.bool (decide_eq_decide.2 (by omega)), rfl⟩ | exact ⟨congrArg AV.bool (decide_eq_false (by omega)).symm, rfl⟩

theorem setHas_c {h : AHeap} {s i : Nat} (hs : s < 1024) (hi : i ≤ 16) : ACalls Go.Proofs.Tryz.prog 208 [.int .u16 (s : Int), .int .i64 (i : Int)] h (fun q h' => q = .bool (s.testBit i) ∧ h = h') := by
  refine KA.fn 10 [.tmp 4] Go.Proofs.Tryz.func208 rfl (by decide) rfl rfl (Nat.le_of_ble_eq_true rfl) ?_
  show KA _ 10 _ _ [(0, .int .u16 (s : Int)), (1, .int .i64 (i : Int))] _
  refine KA.seq ?_
  refine KA.region rfl ?_
  refine KOps.assign ?_
  refine KOps.done ?_
  refine sqQ.normal ?_
  refine KA.sub (Sub.cons (t := 0) Look.eq (Sub.cons (t := 1) Look.eq (Sub.nil _))) ?_
  refine KA.seq ?_
  refine KA.region rfl ?_
  refine KOps.move ?_
  refine KOps.move ?_
  refine KOps.shrN (s) (i) rfl rfl (by exact hi) ?_
  refine KOps.andN (s >>> i) (1) rfl rfl (by rw [Nat.shiftRight_eq_div_pow]; exact Nat.lt_of_le_of_lt (Nat.div_le_self ..) (show s < 65536 by omega)) (by first | assumption | decide | omega | (simp only [topK, IntKind.bits]; omega)) ?_
  refine KOps.eql ?_
  refine KOps.assign ?_
  refine KOps.done ?_
  refine sqQ.normal ?_
  refine KA.sub (Sub.cons (t := 4) Look.eq (Sub.nil _)) ?_
  refine KA.ret ?_
  refine fnQ.ret1 ?_
  rw [bit_dec]
  exact ⟨rfl, rfl⟩

theorem tz16_c {h : AHeap} {s : Nat} (hT : Tab h) (hs : s < 1024) (h0 : s ≠ 0) : ACalls Go.Proofs.Tryz.prog 207 [.int .u16 (s : Int)] h (fun q h' => q = .int .i64 (lowB s : Int) ∧ h = h') := by
  refine KA.fn 15 [.tmp 2] Go.Proofs.Tryz.func207 rfl (by decide) rfl rfl (Nat.le_of_ble_eq_true rfl) ?_
  have hl := low_16 s hs h0
  have hj := tz_idx (lowB s) (by omega)
  haveI hzi := hT.ev
  show KA _ 15 _ _ [(0, .int .u16 (s : Int))] _
  refine KA.seq ?_
  refine KA.region rfl ?_
  refine KOps.assign ?_
  refine KOps.done ?_
  refine sqQ.normal ?_
  refine KA.sub (Sub.cons (t := 0) Look.eq (Sub.nil _)) ?_
  refine KA.seq ?_
  refine KA.seq ?_
  refine KA.region rfl ?_
  refine KOps.move ?_
  refine KOps.eql ?_
  refine KOps.done ?_
  refine sqQ.normal ?_
  refine KA.sub (Sub.cons (t := 0) Look.eq (Sub.cons (t := 4) Look.eq (Sub.nil _))) ?_
  refine KA.condD ?_ ?_
  · intro c4
    exact absurd c4 (by omega)
  · intro c4
    refine KA.skip ?_
    refine sqQ.normal ?_
    refine KA.sub (Sub.cons (t := 0) Look.eq (Sub.nil _)) ?_
    refine KA.seq ?_
    refine KA.region rfl ?_
    refine KOps.move ?_
    refine KOps.move ?_
    refine KOps.negK ?_
    rw [neg16 (by omega) (by omega)]
    refine KOps.andN (s) (65536 - s) rfl rfl (by show s < 65536; omega) (by show 65536 - s < 65536; omega) ?_
    rw [hl.1]
    have hp := Nat.pow_lt_pow_right (a := 2) (by decide) hl.2.1
    refine KOps.convIn (wrapN (show 2 ^ lowB s < 4294967296 by omega)) ?_
    refine KOps.int (v := .int .u32 (IntKind.u32.wrap (((2 ^ lowB s : Nat) : Int) * 125613361))) (.inr (.inr rfl)) rfl ?_
    refine KOps.shr (by omega) ?_
    rw [hj.1]
    refine KOps.indexA addr0 (j := tzJ (lowB s)) rfl hj.2.1 ?_
    intro p12 hp12
    refine KOps.load hp12 hT.2 hj.2.2 ?_
    refine KOps.convU (by omega) (by omega) ?_
    refine KOps.assign ?_
    refine KOps.done ?_
    refine sqQ.normal ?_
    refine KA.sub (Sub.cons (t := 2) Look.eq (Sub.nil _)) ?_
    refine KA.ret ?_
    refine fnQ.ret1 ?_
    exact ⟨rfl, rfl⟩

theorem ones16_c {h : AHeap} {s : Nat} (hs : s < 1024) : ACalls Go.Proofs.Tryz.prog 147 [.int .u16 (s : Int)] h (fun q h' => q = .int .i64 ((bitsOf s).length : Int) ∧ h = h') := by
  refine KA.fn 11 [.tmp 2] Go.Proofs.Tryz.func147 rfl (by decide) rfl rfl (Nat.le_of_ble_eq_true rfl) ?_
  have hp := pop_len s hs
  show KA _ 11 _ _ [(0, .int .u16 (s : Int))] _
  refine KA.seq ?_
  refine KA.region rfl ?_
  refine KOps.assign ?_
  refine KOps.done ?_
  refine sqQ.normal ?_
  refine KA.sub (Sub.cons (t := 0) Look.eq (Sub.nil _)) ?_
  refine KA.seq ?_
  refine KA.draw [] mixed rfl (by kernel_rfl) ?_
  refine KOps.move ?_
  refine KOps.shrN (s) (8) (by first | rfl | (simp; done) | omega) (by first | rfl | (simp; done) | omega) (by first | assumption | decide | omega | (simp only [topK, IntKind.bits]; omega)) ?_
  refine KOps.sAt (s := popS) (j := s >>> 8) rfl (by rw [popS_size]; exact hp.2.1) ?_
  refine KOps.move ?_
  refine KOps.andN (s) (255) rfl rfl (by show s < 65536; omega) (by decide) ?_
  refine KOps.sAt (s := popS) (j := s &&& 255) rfl (by rw [popS_size]; exact hp.2.2.1) ?_
  refine KOps.addN ((popS.get! (s >>> 8)).toNat) ((popS.get! (s &&& 255)).toNat) rfl rfl (by show _ < 256; omega) ?_
  refine KOps.convU (by omega) (by omega) ?_
  refine KOps.assign ?_
  refine KOps.done ?_
  refine sqQ.normal ?_
  refine KA.sub (Sub.cons (t := 2) Look.eq (Sub.nil _)) ?_
  refine KA.ret ?_
  refine fnQ.ret1 ?_
  rw [hp.1]
  exact ⟨rfl, rfl⟩

theorem setList_c {h : AHeap} {s : Nat} (hTab : Tab h) (hs : s < 1024) : ACalls Go.Proofs.Tryz.prog 177 [.int .u16 (s : Int)] h (fun v h' => St h h' [⟨v, 1, ints (nI (bitsOf s)), true⟩]) := by
  refine KA.fn 16 [.tmp 2] Go.Proofs.Tryz.func177 rfl (by decide) rfl rfl (Nat.le_of_ble_eq_true rfl) ?_
  have hS := St.refl h
  have hbl := bitsOf_len s
  show KA _ 16 _ _ [(0, .int .u16 (s : Int))] _
  refine KA.seq ?_
  refine KA.region rfl ?_
  refine KOps.assign ?_
  refine KOps.done ?_
  refine sqQ.normal ?_
  refine KA.sub (Sub.cons (t := 0) Look.eq (Sub.nil _)) ?_
  refine KA.seq ?_
  refine KA.region rfl ?_
  refine KOps.assign ?_
  refine KOps.done ?_
  refine sqQ.normal ?_
  refine KA.seq ?_
  refine KA.block ?_
  refine KA.loop (X := Nat × Nat × AV) (fun x => [(0, .int .u16 (x.1 : Int)), (3, x.2.2)]) (fun x h' => x.1 < 1024 ∧ x.2.1 ≤ (bitsOf s).length ∧ bitsOf x.1 = (bitsOf s).drop x.2.1 ∧ St h h' [⟨x.2.2, 1, ints (nI ((bitsOf s).take x.2.1)), true⟩]) (fun x => (bitsOf s).length - x.2.1) (s, 0, .nils) (by repeat (first | exact Sub.nil _ | refine Sub.cons Look.eq ?_ | refine Sub.cons (Eq.trans Look.eq (congrArg (AV.int _) (by first | omega | (dsimp only; omega)))) ?_)) ?_ ?_
  · exact ⟨hs, Nat.zero_le _, rfl, hS.nil 1⟩
  rintro ⟨x, k, v⟩ h2 ⟨hx1, hk, hd, hS⟩
  dsimp only at hx1 hk hd hS ⊢
  refine KA.seq ?_
  refine KA.seq ?_
  refine KA.region rfl ?_
  refine KOps.move ?_
  refine KOps.neq ?_
  refine KOps.done ?_
  refine sqQ.normal ?_
  refine KA.sub (Sub.cons (t := 0) Look.eq (Sub.cons (t := 3) Look.eq (Sub.cons (t := 5) Look.eq (Sub.nil _)))) ?_
  refine KA.condN ?_ ?_
  · intro c5
    have hx0 : x ≠ 0 := fun e => c5 (by rw [e]; rfl)
    refine KA.skip ?_
    refine sqQ.normal ?_
    refine KA.sub (Sub.cons (t := 0) Look.eq (Sub.cons (t := 3) Look.eq (Sub.nil _))) ?_
    refine KA.seq ?_
    refine KA.block ?_
    refine KA.region rfl ?_
    refine KOps.move ?_
    refine KOps.move ?_
    refine KOps.call rfl (tz16_c (hTab.ext hS.keeps) hx1 hx0) ?_
    rintro _ _ ⟨rfl, rfl⟩
    refine KOps.buildSlice hS rfl (by decide) rfl ?_
    intro v13 h' hS
    refine KOps.appendI hS (fun _ => rfl) (i := 0) rfl (by first | omega | (simp; done) | (simp; omega)) ?_
    intro r14 h' hr14 hS
    refine KOps.assign ?_
    refine KOps.done ?_
    refine blQ.normal ?_
    refine sqQ.normal ?_
    refine KA.sub (Sub.cons (t := 0) Look.eq (Sub.cons (t := 3) Look.eq (Sub.nil _))) ?_
    refine KA.region rfl ?_
    refine KOps.move ?_
    refine KOps.move ?_
    refine KOps.subN (x) (1) rfl rfl (by omega) (by show x < 65536; omega) ?_
    refine KOps.andN (x) (x - 1) rfl rfl (by show x < 65536; omega) (by show x - 1 < 65536; omega) ?_
    refine KOps.assign ?_
    refine KOps.done ?_
    have hlow := low_16 x hx1 hx0
    have hkl : k < (bitsOf s).length := by
      rcases Nat.lt_or_eq_of_le hk with q | q
      · exact q
      · rw [q, List.drop_length] at hd; exact absurd hd hlow.2.2.2
    have hg : (bitsOf s).getD k 0 = lowB x := by
      unfold lowB
      rw [hd, List.getD_eq_getElem?_getD, List.headD_eq_head?_getD, List.head?_drop]
    have e8 : (bitsOf s).take (k + 1) = (bitsOf s).take k ++ [lowB x] := by
      rw [List.take_add_one, List.getElem?_eq_getElem hkl, ← hg, List.getD_eq_getElem?_getD, List.getElem?_eq_getElem hkl]; rfl
    have e9 : nI ((bitsOf s).take k) ++ [((lowB x : Nat) : Int)] = nI ((bitsOf s).take (k + 1)) := by
      rw [e8]
      exact (List.map_append (f := fun n : Nat => (n : Int)) (l₁ := (bitsOf s).take k) (l₂ := [lowB x])).symm
    simp only [List.set_cons_zero] at hS
    rw [e9] at hS
    exact lpQ.normal (x &&& (x - 1), k + 1, _) (by repeat (first | exact Sub.nil _ | refine Sub.cons Look.eq ?_ | refine Sub.cons (Eq.trans Look.eq (congrArg (AV.int _) (by first | omega | (dsimp only; omega)))) ?_)) ⟨low_lt x hx1, hkl, by dsimp only; rw [hlow.2.2.1, hd, List.tail_drop], hS⟩ (by dsimp only; omega)
  · intro c5
    have hx0 : x = 0 := by omega
    refine KA.exit ?_
    refine sqQ.exit ?_
    refine lpQ.exit ?_
    refine blQ.here ?_
    refine sqQ.normal ?_
    refine KA.sub (Sub.cons (t := 3) Look.eq (Sub.nil _)) ?_
    refine KA.seq ?_
    refine KA.region rfl ?_
    refine KOps.move ?_
    refine KOps.assign ?_
    refine KOps.done ?_
    refine sqQ.normal ?_
    refine KA.sub (Sub.cons (t := 2) Look.eq (Sub.nil _)) ?_
    refine KA.ret ?_
    refine fnQ.ret1 ?_
    subst hx0
    have hk2 : (bitsOf s).length ≤ k := by
      have e0 : bitsOf 0 = [] := by decide
      rw [e0] at hd
      have := congrArg List.length hd
      rw [List.length_drop, List.length_nil] at this
      omega
    rw [List.take_of_length_le hk2] at hS
    exact hS

end Go.Am


namespace Go.Am
theorem run_sorts : runsG Go.Proofs.Tryz.prog 4000 103 [.agg [.int .i64 3, .slc 0 0 3 2 false]] [ints [0, 1, 1, 2, 0, 1], ints [0, 1, 1, 2, 0, 1], tzC64] [2] (fun r _ => AV.isP 3 r (.tup [.bool true, .int .i64 0])) = true := by kernel_rfl
theorem run_ways : runsG Go.Proofs.Tryz.prog 4000 152 [.slc 0 0 5 1 false, .int .i64 3] [ints [0, 2, 1, 3, 4]] [] (fun r _ => AV.isP 3 r (.tup [.int .i64 6, .int .i64 0])) = true := by kernel_rfl
theorem run_cut : runsG Go.Proofs.Tryz.prog 4000 187 [.agg [.int .i64 2, .int .i64 3, .int .i64 2, .int .i64 1]] [] [] (fun r _ => AV.isP 3 r (.tup [.int .i64 3, .int .i64 0])) = true := by kernel_rfl
theorem run_back : runsG Go.Proofs.Tryz.prog 4000 186 [.agg [.int .i64 2, .int .i64 2, .int .i64 2, .slc 0 0 4 1 false]] [ints [0, 1, 2, 3]] [] (fun r _ => AV.isP 3 r (.tup [.int .i64 6, .int .i64 0])) = true := by kernel_rfl
theorem sorts_c {h : AHeap} {v : AV} (hv : Rd h v 2 (ints [0, 1, 1, 2, 0, 1])) (hT : Tabs h) : ACalls Go.Proofs.Tryz.prog 103 [.agg [.int .i64 3, v]] h (fun q h' => q = .tup [.bool true, .int .i64 0] ∧ Keeps h h') :=
  over_runG mixed run_sorts [⟨v, 2, ints [0, 1, 1, 2, 0, 1], ints [0, 1, 1, 2, 0, 1]⟩, ⟨v, 2, ints [0, 1, 1, 2, 0, 1], ints [0, 1, 1, 2, 0, 1]⟩, ⟨.ptr 2 0, 0, tzC64, tzC64⟩] rfl (okGs_cons (okG_plain hv (by decide) (by simp [ints]) rfl) (okGs_cons (okG_plain hv (by decide) (by simp [ints]) rfl) (okGs_cons (okG_glob hT.2.2 rfl) okGs_nil))) (hgs_cons hT.2.1 rfl rfl hgs_nil) rfl
    (imG_cons (.agg _ _ rfl (imG_cons (.plain _ rfl) (imG_cons (imG_slc rfl (by decide) rfl) imG_nil))) imG_nil) (fun _ _ => rfl)
theorem ways_c {h : AHeap} {v : AV} (hv : Rd h v 1 (ints [0, 2, 1, 3, 4])) : ACalls Go.Proofs.Tryz.prog 152 [v, .int .i64 3] h (fun q h' => q = .tup [.int .i64 6, .int .i64 0] ∧ Keeps h h') :=
  over_runG mixed run_ways [⟨v, 1, ints [0, 2, 1, 3, 4], ints [0, 2, 1, 3, 4]⟩] rfl (okGs_cons (okG_plain hv (by decide) (by simp [ints]) rfl) okGs_nil) hgs_nil rfl
    (imG_cons (imG_slc rfl (by decide) rfl) (imG_cons (.plain _ rfl) imG_nil)) (fun _ _ => rfl)
theorem cut23_c {h : AHeap} : ACalls Go.Proofs.Tryz.prog 187 [.agg [.int .i64 2, .int .i64 3, .int .i64 2, .int .i64 1]] h (fun q h' => q = .tup [.int .i64 3, .int .i64 0] ∧ Keeps h h') :=
  over_runG mixed run_cut [] rfl okGs_nil hgs_nil rfl (imG_cons (.agg _ _ rfl (imG_plain rfl)) imG_nil) (fun _ _ => rfl)
theorem backCount_c {h : AHeap} {v : AV} (hv : Rd h v 1 (ints [0, 1, 2, 3])) : ACalls Go.Proofs.Tryz.prog 186 [.agg [.int .i64 2, .int .i64 2, .int .i64 2, v]] h (fun q h' => q = .tup [.int .i64 6, .int .i64 0] ∧ Keeps h h') :=
  over_runG mixed run_back [⟨v, 1, ints [0, 1, 2, 3], ints [0, 1, 2, 3]⟩] rfl (okGs_cons (okG_plain hv (by decide) (by simp [ints]) rfl) okGs_nil) hgs_nil rfl
    (imG_cons (.agg _ _ rfl (imG_cons (.plain _ rfl) (imG_cons (.plain _ rfl) (imG_cons (.plain _ rfl) (imG_cons (imG_slc rfl (by decide) rfl) imG_nil))))) imG_nil) (fun _ _ => rfl)
end Go.Am


namespace Go.Am
theorem wrong_c {h : AHeap} {t : Tray} {vH vW : AV} (ht : t.Ok) (hH : Row h vH t.has) (hW : Row h vW t.wants) : ACalls Go.Proofs.Tryz.prog 146 [.agg [.int .i64 (t.k : Int), vH, vW]] h (fun q h' => q = .int .u16 (t.wrongS : Int) ∧ Keeps h h') := by
  refine KA.fn 27 [.tmp 2] Go.Proofs.Tryz.func146 rfl (by decide) rfl rfl (Nat.le_of_ble_eq_true rfl) ?_
  have hS := St.refl h
  have hvh : vH.one = true := Rd.one hH
  have hvw : vW.one = true := Rd.one hW
  have hn := ht.n
  have hln := ht.len
  have hk := ht.k
  show KA _ 27 _ _ [(0, .agg [.int .i64 (t.k : Int), vH, vW])] _
  refine KA.seq ?_
  refine KA.region rfl ?_
  refine KOps.boxAll hS (by show (true && (vH.one && (vW.one && true))) = true; rw [hvh, hvw]; rfl) ?_
  intro p1 h' hp1 hS
  refine KOps.assign ?_
  refine KOps.done ?_
  refine sqQ.normal ?_
  refine KA.sub (Sub.cons (t := 1) Look.eq (Sub.nil _)) ?_
  refine KA.seq ?_
  refine KA.region rfl ?_
  refine KOps.assign ?_
  refine KOps.done ?_
  refine sqQ.normal ?_
  refine KA.seq ?_
  refine KA.seq ?_
  refine KA.region rfl ?_
  refine KOps.fieldAddr hp1 ?_
  intro p6 hp6
  refine KOps.load hp6 (hS.rd 0 rfl) rfl ?_
  refine KOps.lenI (Row.ext hS.keeps hH) ?_
  refine KOps.move ?_
  refine KOps.done ?_
  refine sqQ.normal ?_
  refine KA.sub (Sub.cons (t := 1) Look.eq (Sub.cons (t := 3) Look.eq (Sub.cons (t := 7) Look.eq (Sub.cons (t := 8) Look.eq (Sub.cons (t := 9) Look.eq (Sub.nil _)))))) ?_
  refine KA.block ?_
  refine KA.loop (X := Nat) (fun i => [(1, p1), (3, .int .u16 (t.wrongTo i : Int)), (7, vH), (8, .int .i64 (t.has.length : Int)), (9, .int .i64 (i : Int))]) (fun i h' => i ≤ t.has.length ∧ St h h' [⟨p1, 0, [.int .i64 (t.k : Int), vH, vW], true⟩]) (fun i => t.has.length - i) 0 (by repeat (first | exact Sub.nil _ | refine Sub.cons Look.eq ?_ | refine Sub.cons (Eq.trans Look.eq (congrArg (AV.int _) (by first | omega | (dsimp only; omega)))) ?_)) ?_ ?_
  · exact ⟨Nat.zero_le _, hS⟩
  rintro i h2 ⟨hi, hS⟩
  have hwl := t.wrongTo_lt i
  have hp10 : 2 ^ i ≤ 2 ^ 10 := Nat.pow_le_pow_right (by decide) (by omega)
  refine KA.seq ?_
  refine KA.region rfl ?_
  refine KOps.lss ?_
  refine KOps.done ?_
  refine sqQ.normal ?_
  refine KA.seq ?_
  refine KA.condD ?_ ?_
  · intro c10
    refine KA.skip ?_
    refine sqQ.normal ?_
    refine KA.sub (Sub.cons (t := 1) Look.eq (Sub.cons (t := 3) Look.eq (Sub.cons (t := 7) Look.eq (Sub.cons (t := 8) Look.eq (Sub.cons (t := 9) Look.eq (Sub.nil _)))))) ?_
    refine KA.seq ?_
    refine KA.block ?_
    refine KA.seq ?_
    refine KA.region rfl ?_
    refine KOps.move ?_
    refine KOps.indexIJ (Row.ext hS.keeps hH) (j := i) rfl (by first | omega | (simp; done) | (simp; omega)) ?_
    intro p12 hp12
    refine KOps.loadI hp12 (Row.ext hS.keeps hH) (by first | omega | (simp; done) | (simp; omega)) ?_
    refine KOps.assign ?_
    refine KOps.assign ?_
    refine KOps.done ?_
    refine sqQ.normal ?_
    refine KA.sub (Sub.cons (t := 1) Look.eq (Sub.cons (t := 3) Look.eq (Sub.cons (t := 4) Look.eq (Sub.cons (t := 5) Look.eq (Sub.cons (t := 7) Look.eq (Sub.cons (t := 8) Look.eq (Sub.cons (t := 9) Look.eq (Sub.nil _)))))))) ?_
    refine KA.seq ?_
    refine KA.region rfl ?_
    refine KOps.move ?_
    refine KOps.fieldAddr hp1 ?_
    intro p15 hp15
    refine KOps.load hp15 (hS.rd 0 rfl) rfl ?_
    refine KOps.move ?_
    refine KOps.indexIJ (Row.ext hS.keeps hW) (j := i) rfl (by first | omega | (simp; done) | (simp; omega)) ?_
    intro p18 hp18
    refine KOps.loadI hp18 (Row.ext hS.keeps hW) (by first | omega | (simp; done) | (simp; omega)) ?_
    refine KOps.neq ?_
    refine KOps.done ?_
    refine sqQ.normal ?_
    refine KA.sub (Sub.cons (t := 1) Look.eq (Sub.cons (t := 3) Look.eq (Sub.cons (t := 4) Look.eq (Sub.cons (t := 7) Look.eq (Sub.cons (t := 8) Look.eq (Sub.cons (t := 9) Look.eq (Sub.cons (t := 20) Look.eq (Sub.nil _)))))))) ?_
    refine KA.condN ?_ ?_
    · intro c20
      refine KA.region rfl ?_
      refine KOps.move ?_
      refine KOps.move ?_
      refine KOps.shlN (1) (i) rfl rfl (by show i ≤ 16; omega) (by rw [Nat.one_shiftLeft]; exact Nat.lt_of_lt_of_le (Nat.pow_lt_pow_right (by decide) (show i < 10 by omega)) (by decide)) ?_
      rw [Nat.one_shiftLeft]
      refine KOps.orN (t.wrongTo i) (2 ^ i) rfl rfl (Nat.lt_of_lt_of_le hwl (Nat.le_trans hp10 (by decide))) (Nat.lt_of_lt_of_le (Nat.pow_lt_pow_right (by decide) (show i < 10 by omega)) (by decide)) ?_
      refine KOps.assign ?_
      refine KOps.done ?_
      refine blQ.normal ?_
      refine sqQ.normal ?_
      refine KA.sub (Sub.cons (t := 1) Look.eq (Sub.cons (t := 3) Look.eq (Sub.cons (t := 7) Look.eq (Sub.cons (t := 8) Look.eq (Sub.cons (t := 9) Look.eq (Sub.nil _)))))) ?_
      refine KA.region rfl ?_
      refine KOps.add (by first | omega | (simp; omega)) (by first | omega | (simp; omega)) ?_
      refine KOps.move ?_
      refine KOps.done ?_
      exact lpQ.normal (i + 1) (by repeat (first | exact Sub.nil _ | refine Sub.cons Look.eq ?_ | refine Sub.cons (Eq.trans Look.eq (congrArg (AV.int _) (by first | omega | (dsimp only; omega)))) ?_ | refine Sub.cons (Eq.trans Look.eq (by rw [Tray.wrongTo, if_neg c20])) ?_)) ⟨by omega, hS⟩ (by omega)
    · intro c20
      refine KA.skip ?_
      refine blQ.normal ?_
      refine sqQ.normal ?_
      refine KA.sub (Sub.cons (t := 1) Look.eq (Sub.cons (t := 3) Look.eq (Sub.cons (t := 7) Look.eq (Sub.cons (t := 8) Look.eq (Sub.cons (t := 9) Look.eq (Sub.nil _)))))) ?_
      refine KA.region rfl ?_
      refine KOps.add (by first | omega | (simp; omega)) (by first | omega | (simp; omega)) ?_
      refine KOps.move ?_
      refine KOps.done ?_
      exact lpQ.normal (i + 1) (by repeat (first | exact Sub.nil _ | refine Sub.cons Look.eq ?_ | refine Sub.cons (Eq.trans Look.eq (congrArg (AV.int _) (by first | omega | (dsimp only; omega)))) ?_ | refine Sub.cons (Eq.trans Look.eq (by rw [Tray.wrongTo, if_pos c20])) ?_)) ⟨by omega, hS⟩ (by omega)
  · intro c10
    refine KA.exit ?_
    refine sqQ.exit ?_
    refine lpQ.exit ?_
    refine blQ.here ?_
    refine sqQ.normal ?_
    refine KA.sub (Sub.cons (t := 3) Look.eq (Sub.nil _)) ?_
    refine KA.seq ?_
    refine KA.region rfl ?_
    refine KOps.move ?_
    refine KOps.assign ?_
    refine KOps.done ?_
    refine sqQ.normal ?_
    refine KA.sub (Sub.cons (t := 2) Look.eq (Sub.nil _)) ?_
    refine KA.ret ?_
    refine fnQ.ret1 ?_
    obtain rfl : i = t.has.length := by omega
    exact ⟨rfl, hS.keeps⟩

theorem even_c {h : AHeap} {t : Tray} {s : Nat} {vH vW : AV} (ht : t.Ok) (hH : Row h vH t.has) (hW : Row h vW t.wants) (hs : s < 1024) : ACalls Go.Proofs.Tryz.prog 178 [.agg [.int .i64 (t.k : Int), vH, vW], .int .u16 (s : Int)] h (fun q h' => q = .bool (t.evenB s.testBit) ∧ Keeps h h') := by
  refine KA.fn 38 [.tmp 4] Go.Proofs.Tryz.func178 rfl (by decide) rfl rfl (Nat.le_of_ble_eq_true rfl) ?_
  have hS := St.refl h
  have hvh : vH.one = true := Rd.one hH
  have hvw : vW.one = true := Rd.one hW
  have hn := ht.n
  have hln := ht.len
  have hk := ht.k
  show KA _ 38 _ _ [(0, .agg [.int .i64 (t.k : Int), vH, vW]), (1, .int .u16 (s : Int))] _
  refine KA.seq ?_
  refine KA.region rfl ?_
  refine KOps.boxAll hS (by show (true && (vH.one && (vW.one && true))) = true; rw [hvh, hvw]; rfl) ?_
  intro p2 h' hp2 hS
  refine KOps.assign ?_
  refine KOps.done ?_
  refine sqQ.normal ?_
  refine KA.sub (Sub.cons (t := 1) Look.eq (Sub.cons (t := 2) Look.eq (Sub.nil _))) ?_
  refine KA.seq ?_
  refine KA.region rfl ?_
  refine KOps.alloc hS ?_
  intro p5 h' hp5 hS
  refine KOps.done ?_
  refine sqQ.normal ?_
  refine KA.seq ?_
  refine KA.seq ?_
  refine KA.region rfl ?_
  refine KOps.fieldAddr hp2 ?_
  intro p7 hp7
  refine KOps.load hp7 (hS.rd 1 rfl) rfl ?_
  refine KOps.lenI (Row.ext hS.keeps hH) ?_
  refine KOps.move ?_
  refine KOps.done ?_
  refine sqQ.normal ?_
  refine KA.sub (Sub.cons (t := 1) Look.eq (Sub.cons (t := 2) Look.eq (Sub.cons (t := 5) Look.eq (Sub.cons (t := 9) Look.eq (Sub.cons (t := 10) Look.eq (Sub.nil _)))))) ?_
  refine KA.block ?_
  refine KA.loop (X := Nat) (fun i => [(1, .int .u16 (s : Int)), (2, p2), (5, p5), (9, .int .i64 (t.has.length : Int)), (10, .int .i64 (i : Int))]) (fun i h' => i ≤ t.has.length ∧ St h h' [⟨p5, 0, ints (t.more s.testBit i), true⟩, ⟨p2, 0, [.int .i64 (t.k : Int), vH, vW], true⟩]) (fun i => t.has.length - i) 0 (by repeat (first | exact Sub.nil _ | refine Sub.cons Look.eq ?_ | refine Sub.cons (Eq.trans Look.eq (congrArg (AV.int _) (by first | omega | (dsimp only; omega)))) ?_)) ?_ ?_
  · exact ⟨Nat.zero_le _, hS⟩
  rintro i h2 ⟨hi, hS⟩
  refine KA.seq ?_
  refine KA.region rfl ?_
  refine KOps.lss ?_
  refine KOps.done ?_
  refine sqQ.normal ?_
  refine KA.seq ?_
  refine KA.condD ?_ ?_
  · intro c11
    have hml := t.more_len s.testBit i
    have hsm := t.more_small s.testBit i
    have hhi := ht.h i (by omega)
    have hwi := ht.w i (by omega)
    have hs1 := hsm (t.has.getD i 0).toNat
    have hs2 := small_addAt (i := t.has.getD i 0) (d := 1) hsm (by omega) (by omega) (t.wants.getD i 0).toNat
    have hal := addAt_len (t.more s.testBit i) (t.has.getD i 0) 1
    refine KA.skip ?_
    refine sqQ.normal ?_
    refine KA.sub (Sub.cons (t := 1) Look.eq (Sub.cons (t := 2) Look.eq (Sub.cons (t := 5) Look.eq (Sub.cons (t := 9) Look.eq (Sub.cons (t := 10) Look.eq (Sub.nil _)))))) ?_
    refine KA.seq ?_
    refine KA.block ?_
    refine KA.seq ?_
    refine KA.region rfl ?_
    refine KOps.move ?_
    refine KOps.assign ?_
    refine KOps.done ?_
    refine sqQ.normal ?_
    refine KA.sub (Sub.cons (t := 1) Look.eq (Sub.cons (t := 2) Look.eq (Sub.cons (t := 5) Look.eq (Sub.cons (t := 6) Look.eq (Sub.cons (t := 9) Look.eq (Sub.cons (t := 10) Look.eq (Sub.nil _))))))) ?_
    refine KA.seq ?_
    refine KA.region rfl ?_
    refine KOps.move ?_
    refine KOps.move ?_
    refine KOps.call rfl (setHas_c hs (by omega)) ?_
    rintro _ _ ⟨rfl, rfl⟩
    refine KOps.done ?_
    refine sqQ.normal ?_
    refine KA.sub (Sub.cons (t := 1) Look.eq (Sub.cons (t := 2) Look.eq (Sub.cons (t := 5) Look.eq (Sub.cons (t := 6) Look.eq (Sub.cons (t := 9) Look.eq (Sub.cons (t := 10) Look.eq (Sub.cons (t := 15) Look.eq (Sub.nil _)))))))) ?_
    refine KA.condB ?_ ?_
    · intro c15
      refine KA.seq ?_
      refine KA.region rfl ?_
      refine KOps.fieldAddr hp2 ?_
      intro p16 hp16
      refine KOps.load hp16 (hS.rd 1 rfl) rfl ?_
      refine KOps.move ?_
      refine KOps.indexIJ (Row.ext hS.keeps hH) (j := i) rfl (by first | omega | (simp; done) | (simp; omega)) ?_
      intro p19 hp19
      refine KOps.loadI hp19 (Row.ext hS.keeps hH) (by first | omega | (simp; done) | (simp; omega)) ?_
      refine KOps.indexA hp5 (j := (t.has.getD i 0).toNat) (by first | omega | (simp; omega)) (by first | omega | (simp; done) | (simp; omega)) ?_
      intro p21 hp21
      refine KOps.loadA hS (i := 0) rfl hp21 (by first | omega | (simp; done) | (simp; omega)) ?_
      refine KOps.add (by first | omega | (simp; omega)) (by first | omega | (simp; omega)) ?_
      refine KOps.indexA hp5 (j := (t.has.getD i 0).toNat) (by first | omega | (simp; omega)) (by first | omega | (simp; done) | (simp; omega)) ?_
      intro p24 hp24
      refine KOps.storeA hS rfl (i := 0) rfl hp24 (by first | omega | (simp; done) | (simp; omega)) ?_
      intro h' hS
      refine KOps.done ?_
      refine sqQ.normal ?_
      refine KA.sub (Sub.cons (t := 1) Look.eq (Sub.cons (t := 2) Look.eq (Sub.cons (t := 5) Look.eq (Sub.cons (t := 6) Look.eq (Sub.cons (t := 9) Look.eq (Sub.cons (t := 10) Look.eq (Sub.nil _))))))) ?_
      refine KA.region rfl ?_
      change St h _ (_ :: _) at hS
      have hS0 : St h _ [⟨p5, 0, ints (addAt (t.more s.testBit i) (t.has.getD i 0) 1), true⟩, ⟨p2, 0, [.int .i64 (t.k : Int), vH, vW], true⟩] := hS
      clear hS
      have hS := hS0
      clear hS0
      refine KOps.fieldAddr hp2 ?_
      intro p25 hp25
      refine KOps.load hp25 (hS.rd 1 rfl) rfl ?_
      refine KOps.move ?_
      refine KOps.indexIJ (Row.ext hS.keeps hW) (j := i) rfl (by first | omega | (simp; done) | (simp; omega)) ?_
      intro p28 hp28
      refine KOps.loadI hp28 (Row.ext hS.keeps hW) (by first | omega | (simp; done) | (simp; omega)) ?_
      refine KOps.indexA hp5 (j := (t.wants.getD i 0).toNat) (by first | omega | (simp; omega)) (by first | omega | (simp; done) | (simp; omega)) ?_
      intro p30 hp30
      refine KOps.loadA hS (i := 0) rfl hp30 (by first | omega | (simp; done) | (simp; omega)) ?_
      refine KOps.sub (by first | omega | (simp; omega)) (by first | omega | (simp; omega)) ?_
      rw [Int.sub_eq_add_neg]
      refine KOps.indexA hp5 (j := (t.wants.getD i 0).toNat) (by first | omega | (simp; omega)) (by first | omega | (simp; done) | (simp; omega)) ?_
      intro p33 hp33
      refine KOps.storeA hS rfl (i := 0) rfl hp33 (by first | omega | (simp; done) | (simp; omega)) ?_
      intro h' hS
      refine KOps.done ?_
      refine blQ.normal ?_
      refine sqQ.normal ?_
      refine KA.sub (Sub.cons (t := 1) Look.eq (Sub.cons (t := 2) Look.eq (Sub.cons (t := 5) Look.eq (Sub.cons (t := 9) Look.eq (Sub.cons (t := 10) Look.eq (Sub.nil _)))))) ?_
      refine KA.region rfl ?_
      refine KOps.add (by first | omega | (simp; omega)) (by first | omega | (simp; omega)) ?_
      refine KOps.move ?_
      refine KOps.done ?_
      refine lpQ.normal (i + 1) (by repeat (first | exact Sub.nil _ | refine Sub.cons Look.eq ?_ | refine Sub.cons (Eq.trans Look.eq (congrArg (AV.int _) (by first | omega | (dsimp only; omega)))) ?_)) ⟨by omega, ?_⟩ (by omega)
      rw [Tray.more, if_pos c15]
      exact hS
    · intro c15
      refine KA.skip ?_
      refine blQ.normal ?_
      refine sqQ.normal ?_
      refine KA.sub (Sub.cons (t := 1) Look.eq (Sub.cons (t := 2) Look.eq (Sub.cons (t := 5) Look.eq (Sub.cons (t := 9) Look.eq (Sub.cons (t := 10) Look.eq (Sub.nil _)))))) ?_
      refine KA.region rfl ?_
      refine KOps.add (by first | omega | (simp; omega)) (by first | omega | (simp; omega)) ?_
      refine KOps.move ?_
      refine KOps.done ?_
      refine lpQ.normal (i + 1) (by repeat (first | exact Sub.nil _ | refine Sub.cons Look.eq ?_ | refine Sub.cons (Eq.trans Look.eq (congrArg (AV.int _) (by first | omega | (dsimp only; omega)))) ?_)) ⟨by omega, ?_⟩ (by omega)
      rw [Tray.more, if_neg (by rw [c15]; decide)]
      exact hS
  · intro c11
    refine KA.exit ?_
    refine sqQ.exit ?_
    refine lpQ.exit ?_
    refine blQ.here ?_
    refine sqQ.normal ?_
    refine KA.sub (Sub.cons (t := 5) Look.eq (Sub.nil _)) ?_
    refine KA.seq ?_
    refine KA.region rfl ?_
    refine KOps.loadArrI hS (i := 0) rfl hp5 (t.more_len _ _) (by decide) ?_
    refine KOps.buildG (zs := [.int .i64 0, .int .i64 0, .int .i64 0, .int .i64 0, .int .i64 0]) (cs := [_, _, _, _, _]) (by kernel_rfl) (by rfl) (by kernel_rfl) .nil (by rfl) ?_
    show KOps _ _ _ _ _ _ _ ((36, .agg (ints [0, 0, 0, 0, 0])) :: _) _
    refine KOps.eqlArr (e := 3) (by kernel_rfl) (by kernel_rfl) (by kernel_rfl) (by kernel_rfl) (t.more_len _ _) (by rfl) ?_
    refine KOps.assign ?_
    refine KOps.done ?_
    refine sqQ.normal ?_
    refine KA.sub (Sub.cons (t := 4) Look.eq (Sub.nil _)) ?_
    refine KA.ret ?_
    refine fnQ.ret1 ?_
    obtain rfl : i = t.has.length := by omega
    exact ⟨rfl, hS.keeps⟩

theorem mdCheck_c {h : AHeap} {t : Tray} {vH vW : AV} (ht : t.Ok) (hH : Row h vH t.has) (hW : Row h vW t.wants) : ACalls Go.Proofs.Tryz.prog 101 [.agg [.int .i64 (t.k : Int), vH, vW]] h (fun q h' => q = .int .i64 t.chk ∧ Keeps h h') := by
  refine KA.fn 73 [.tmp 2] Go.Proofs.Tryz.func101 rfl (by decide) rfl rfl (Nat.le_of_ble_eq_true rfl) ?_
  have hS := St.refl h
  have hvh : vH.one = true := Rd.one hH
  have hvw : vW.one = true := Rd.one hW
  have hn := ht.n
  have hln := ht.len
  have hk := ht.k
  show KA _ 73 _ _ [(0, .agg [.int .i64 (t.k : Int), vH, vW])] _
  refine KA.seq ?_
  refine KA.region rfl ?_
  refine KOps.boxAll hS (by show (true && (vH.one && (vW.one && true))) = true; rw [hvh, hvw]; rfl) ?_
  intro p1 h' hp1 hS
  refine KOps.assign ?_
  refine KOps.done ?_
  refine sqQ.normal ?_
  refine KA.sub (Sub.cons (t := 1) Look.eq (Sub.nil _)) ?_
  refine KA.seq ?_
  refine KA.block ?_
  refine KA.seq ?_
  refine KA.region rfl ?_
  refine KOps.fieldAddr hp1 ?_
  intro p8 hp8
  refine KOps.load hp8 (hS.rd 0 rfl) rfl ?_
  refine KOps.call rfl (mdBetween_c) ?_
  rintro _ _ ⟨rfl, rfl⟩
  refine KOps.not ?_
  refine KOps.assign ?_
  refine KOps.done ?_
  refine sqQ.normal ?_
  refine KA.sub (Sub.cons (t := 1) Look.eq (Sub.cons (t := 7) Look.eq (Sub.nil _))) ?_
  refine KA.condN ?_ ?_
  · intro c7
    exfalso
    omega
  · intro c7
    refine KA.seq ?_
    refine KA.region rfl ?_
    refine KOps.fieldAddr hp1 ?_
    intro p13 hp13
    refine KOps.load hp13 (hS.rd 0 rfl) rfl ?_
    refine KOps.lenI (Row.ext hS.keeps hH) ?_
    refine KOps.eql ?_
    refine KOps.assign ?_
    refine KOps.done ?_
    refine sqQ.normal ?_
    refine KA.sub (Sub.cons (t := 1) Look.eq (Sub.cons (t := 12) Look.eq (Sub.nil _))) ?_
    refine KA.condD ?_ ?_
    · intro c12
      exfalso
      omega
    · intro c12
      refine KA.seq ?_
      refine KA.region rfl ?_
      refine KOps.fieldAddr hp1 ?_
      intro p18 hp18
      refine KOps.load hp18 (hS.rd 0 rfl) rfl ?_
      refine KOps.lenI (Row.ext hS.keeps hH) ?_
      refine KOps.gtr ?_
      refine KOps.assign ?_
      refine KOps.done ?_
      refine sqQ.normal ?_
      refine KA.sub (Sub.cons (t := 1) Look.eq (Sub.cons (t := 17) Look.eq (Sub.nil _))) ?_
      refine KA.condD ?_ ?_
      · intro c17
        exfalso
        omega
      · intro c17
        refine KA.seq ?_
        refine KA.region rfl ?_
        refine KOps.fieldAddr hp1 ?_
        intro p23 hp23
        refine KOps.load hp23 (hS.rd 0 rfl) rfl ?_
        refine KOps.lenI (Row.ext hS.keeps hW) ?_
        refine KOps.fieldAddr hp1 ?_
        intro p26 hp26
        refine KOps.load hp26 (hS.rd 0 rfl) rfl ?_
        refine KOps.lenI (Row.ext hS.keeps hH) ?_
        refine KOps.neq ?_
        refine KOps.assign ?_
        refine KOps.done ?_
        refine sqQ.normal ?_
        refine KA.sub (Sub.cons (t := 1) Look.eq (Sub.cons (t := 22) Look.eq (Sub.nil _))) ?_
        refine KA.condN ?_ ?_
        · intro c22
          exfalso
          omega
        · intro c22
          refine KA.skip ?_
          refine blQ.normal ?_
          refine sqQ.normal ?_
          refine KA.sub (Sub.cons (t := 1) Look.eq (Sub.nil _)) ?_
          refine KA.seq ?_
          refine KA.region rfl ?_
          refine KOps.alloc hS ?_
          intro p3 h' hp3 hS
          refine KOps.done ?_
          refine sqQ.normal ?_
          refine KA.seq ?_
          refine KA.seq ?_
          refine KA.region rfl ?_
          refine KOps.fieldAddr hp1 ?_
          intro p30 hp30
          refine KOps.load hp30 (hS.rd 1 rfl) rfl ?_
          refine KOps.lenI (Row.ext hS.keeps hH) ?_
          refine KOps.move ?_
          refine KOps.done ?_
          refine sqQ.normal ?_
          refine KA.sub (Sub.cons (t := 1) Look.eq (Sub.cons (t := 3) Look.eq (Sub.cons (t := 31) Look.eq (Sub.cons (t := 32) Look.eq (Sub.cons (t := 33) Look.eq (Sub.nil _)))))) ?_
          refine KA.block ?_
          refine KA.loop (X := Nat) (fun i => [(1, p1), (3, p3), (31, vH), (32, .int .i64 (t.has.length : Int)), (33, .int .i64 (i : Int))]) (fun i h' => i ≤ t.has.length ∧ St h h' [⟨p3, 0, ints (t.more (fun _ => true) i), true⟩, ⟨p1, 0, [.int .i64 (t.k : Int), vH, vW], true⟩]) (fun i => t.has.length - i) 0 (by repeat (first | exact Sub.nil _ | refine Sub.cons Look.eq ?_ | refine Sub.cons (Eq.trans Look.eq (congrArg (AV.int _) (by first | omega | (dsimp only; omega)))) ?_)) ?_ ?_
          · exact ⟨Nat.zero_le _, hS⟩
          rintro i h2 ⟨hi, hS⟩
          refine KA.seq ?_
          refine KA.region rfl ?_
          refine KOps.lss ?_
          refine KOps.done ?_
          refine sqQ.normal ?_
          refine KA.seq ?_
          refine KA.condD ?_ ?_
          · intro c34
            have hml := t.more_len (fun _ => true) i
            have hsm := t.more_small (fun _ => true) i
            have hhi := ht.h i (by omega)
            have hwi := ht.w i (by omega)
            have hs1 := hsm (t.has.getD i 0).toNat
            have hs2 := small_addAt (i := t.has.getD i 0) (d := 1) hsm (by omega) (by omega) (t.wants.getD i 0).toNat
            have hal := addAt_len (t.more (fun _ => true) i) (t.has.getD i 0) 1
            refine KA.skip ?_
            refine sqQ.normal ?_
            refine KA.sub (Sub.cons (t := 1) Look.eq (Sub.cons (t := 3) Look.eq (Sub.cons (t := 31) Look.eq (Sub.cons (t := 32) Look.eq (Sub.cons (t := 33) Look.eq (Sub.nil _)))))) ?_
            refine KA.seq ?_
            refine KA.block ?_
            refine KA.seq ?_
            refine KA.region rfl ?_
            refine KOps.move ?_
            refine KOps.indexIJ (Row.ext hS.keeps hH) (j := i) rfl (by first | omega | (simp; done) | (simp; omega)) ?_
            intro p36 hp36
            refine KOps.loadI hp36 (Row.ext hS.keeps hH) (by first | omega | (simp; done) | (simp; omega)) ?_
            refine KOps.assign ?_
            refine KOps.assign ?_
            refine KOps.done ?_
            refine sqQ.normal ?_
            refine KA.sub (Sub.cons (t := 1) Look.eq (Sub.cons (t := 3) Look.eq (Sub.cons (t := 4) Look.eq (Sub.cons (t := 5) Look.eq (Sub.cons (t := 31) Look.eq (Sub.cons (t := 32) Look.eq (Sub.cons (t := 33) Look.eq (Sub.nil _)))))))) ?_
            refine KA.seq ?_
            refine KA.region rfl ?_
            refine KOps.fieldAddr hp1 ?_
            intro p38 hp38
            refine KOps.load hp38 (hS.rd 1 rfl) rfl ?_
            refine KOps.move ?_
            refine KOps.indexIJ (Row.ext hS.keeps hW) (j := i) rfl (by first | omega | (simp; done) | (simp; omega)) ?_
            intro p41 hp41
            refine KOps.loadI hp41 (Row.ext hS.keeps hW) (by first | omega | (simp; done) | (simp; omega)) ?_
            refine KOps.assign ?_
            refine KOps.done ?_
            refine sqQ.normal ?_
            refine KA.sub (Sub.cons (t := 1) Look.eq (Sub.cons (t := 3) Look.eq (Sub.cons (t := 5) Look.eq (Sub.cons (t := 6) Look.eq (Sub.cons (t := 31) Look.eq (Sub.cons (t := 32) Look.eq (Sub.cons (t := 33) Look.eq (Sub.nil _)))))))) ?_
            refine KA.seq ?_
            refine KA.seq ?_
            refine KA.region rfl ?_
            refine KOps.move ?_
            refine KOps.move ?_
            refine KOps.min ?_
            refine KOps.fieldAddr hp1 ?_
            intro p46 hp46
            refine KOps.load hp46 (hS.rd 1 rfl) rfl ?_
            refine KOps.sub (by first | omega | (simp; omega)) (by first | omega | (simp; omega)) ?_
            refine KOps.call rfl (mdBetween_c) ?_
            rintro _ _ ⟨rfl, rfl⟩
            refine KOps.not ?_
            refine KOps.move ?_
            refine KOps.guardB (dj := 51) rfl rfl false true rfl ?_ ?_
            · intro g51
              have g51 := of_not_decide g51
              refine KOps.move ?_
              refine KOps.guardYes (dj := 51) rfl rfl ?_
              refine KOps.move ?_
              refine KOps.guardYes (dj := 51) rfl rfl ?_
              refine KOps.max ?_
              refine KOps.guardYes (dj := 51) rfl rfl ?_
              refine KOps.fieldAddr hp1 ?_
              intro p55 hp55
              refine KOps.guardYes (dj := 51) rfl rfl ?_
              refine KOps.load hp55 (hS.rd 1 rfl) rfl ?_
              refine KOps.guardYes (dj := 51) rfl rfl ?_
              refine KOps.geq ?_
              refine KOps.pickF ?_
              refine KOps.done ?_
              refine sqQ.normal ?_
              refine KA.sub (Sub.cons (t := 1) Look.eq (Sub.cons (t := 3) Look.eq (Sub.cons (t := 5) Look.eq (Sub.cons (t := 6) Look.eq (Sub.cons (t := 31) Look.eq (Sub.cons (t := 32) Look.eq (Sub.cons (t := 33) Look.eq (Sub.cons (t := 52) Look.eq (Sub.cons (t := 53) Look.eq (Sub.cons (t := 54) Look.eq (Sub.cons (t := 55) Look.eq (Sub.cons (t := 56) Look.eq (Sub.cons (t := 57) Look.eq (Sub.cons (t := 58) Look.eq (Sub.nil _))))))))))))))) ?_
              refine KA.condD ?_ ?_
              · intro c58
                exfalso
                omega
              · intro c58
                refine KA.skip ?_
                refine sqQ.normal ?_
                refine KA.sub (Sub.cons (t := 1) Look.eq (Sub.cons (t := 3) Look.eq (Sub.cons (t := 5) Look.eq (Sub.cons (t := 6) Look.eq (Sub.cons (t := 31) Look.eq (Sub.cons (t := 32) Look.eq (Sub.cons (t := 33) Look.eq (Sub.cons (t := 52) Look.eq (Sub.cons (t := 53) Look.eq (Sub.cons (t := 54) Look.eq (Sub.cons (t := 55) Look.eq (Sub.cons (t := 56) Look.eq (Sub.cons (t := 57) Look.eq (Sub.nil _)))))))))))))) ?_
                refine KA.seq ?_
                refine KA.region rfl ?_
                refine KOps.move ?_
                refine KOps.indexA hp3 (j := (t.has.getD i 0).toNat) (by first | omega | (simp; omega)) (by first | omega | (simp; done) | (simp; omega)) ?_
                intro p60 hp60
                refine KOps.loadA hS (i := 0) rfl hp60 (by first | omega | (simp; done) | (simp; omega)) ?_
                refine KOps.add (by first | omega | (simp; omega)) (by first | omega | (simp; omega)) ?_
                refine KOps.indexA hp3 (j := (t.has.getD i 0).toNat) (by first | omega | (simp; omega)) (by first | omega | (simp; done) | (simp; omega)) ?_
                intro p63 hp63
                refine KOps.storeA hS rfl (i := 0) rfl hp63 (by first | omega | (simp; done) | (simp; omega)) ?_
                intro h' hS
                refine KOps.done ?_
                refine sqQ.normal ?_
                refine KA.sub (Sub.cons (t := 1) Look.eq (Sub.cons (t := 3) Look.eq (Sub.cons (t := 6) Look.eq (Sub.cons (t := 31) Look.eq (Sub.cons (t := 32) Look.eq (Sub.cons (t := 33) Look.eq (Sub.cons (t := 52) Look.eq (Sub.cons (t := 53) Look.eq (Sub.cons (t := 54) Look.eq (Sub.cons (t := 55) Look.eq (Sub.cons (t := 56) Look.eq (Sub.cons (t := 57) Look.eq (Sub.nil _))))))))))))) ?_
                refine KA.region rfl ?_
                have hS0 : St h _ [⟨p3, 0, ints (addAt (t.more (fun _ => true) i) (t.has.getD i 0) 1), true⟩, ⟨p1, 0, [.int .i64 (t.k : Int), vH, vW], true⟩] := hS
                clear hS
                have hS := hS0
                clear hS0
                refine KOps.move ?_
                refine KOps.indexA hp3 (j := (t.wants.getD i 0).toNat) (by first | omega | (simp; omega)) (by first | omega | (simp; done) | (simp; omega)) ?_
                intro p65 hp65
                refine KOps.loadA hS (i := 0) rfl hp65 (by first | omega | (simp; done) | (simp; omega)) ?_
                refine KOps.sub (by first | omega | (simp; omega)) (by first | omega | (simp; omega)) ?_
                rw [Int.sub_eq_add_neg]
                refine KOps.indexA hp3 (j := (t.wants.getD i 0).toNat) (by first | omega | (simp; omega)) (by first | omega | (simp; done) | (simp; omega)) ?_
                intro p68 hp68
                refine KOps.storeA hS rfl (i := 0) rfl hp68 (by first | omega | (simp; done) | (simp; omega)) ?_
                intro h' hS
                refine KOps.done ?_
                refine blQ.normal ?_
                refine sqQ.normal ?_
                refine KA.sub (Sub.cons (t := 1) Look.eq (Sub.cons (t := 3) Look.eq (Sub.cons (t := 31) Look.eq (Sub.cons (t := 32) Look.eq (Sub.cons (t := 33) Look.eq (Sub.cons (t := 52) Look.eq (Sub.cons (t := 53) Look.eq (Sub.cons (t := 54) Look.eq (Sub.cons (t := 55) Look.eq (Sub.cons (t := 56) Look.eq (Sub.cons (t := 57) Look.eq (Sub.nil _)))))))))))) ?_
                refine KA.region rfl ?_
                refine KOps.add (by first | omega | (simp; omega)) (by first | omega | (simp; omega)) ?_
                refine KOps.move ?_
                refine KOps.done ?_
                refine lpQ.normal (i + 1) (by repeat (first | exact Sub.nil _ | refine Sub.cons Look.eq ?_ | refine Sub.cons (Eq.trans Look.eq (congrArg (AV.int _) (by first | omega | (dsimp only; omega)))) ?_)) ⟨by omega, ?_⟩ (by omega)
                rw [Tray.more, if_pos rfl]
                exact hS
            · intro g51
              have g51 := not_of_not_decide g51
              exfalso
              omega
          · intro c34
            refine KA.exit ?_
            refine sqQ.exit ?_
            refine lpQ.exit ?_
            refine blQ.here ?_
            refine sqQ.normal ?_
            refine KA.sub (Sub.cons (t := 3) Look.eq (Sub.nil _)) ?_
            refine KA.seq ?_
            refine KA.seq ?_
            refine KA.region rfl ?_
            refine KOps.loadArrI hS (i := 0) rfl hp3 (t.more_len _ _) (by decide) ?_
            refine KOps.buildG (zs := [.int .i64 0, .int .i64 0, .int .i64 0, .int .i64 0, .int .i64 0]) (cs := [_, _, _, _, _]) (by kernel_rfl) (by rfl) (by kernel_rfl) .nil (by rfl) ?_
            show KOps _ _ _ _ _ _ _ ((71, .agg (ints [0, 0, 0, 0, 0])) :: _) _
            refine KOps.neqArr (e := 3) (by kernel_rfl) (by kernel_rfl) (by kernel_rfl) (by kernel_rfl) (t.more_len _ _) (by rfl) ?_
            refine KOps.done ?_
            refine sqQ.normal ?_
            refine KA.sub (Sub.cons (t := 72) Look.eq (Sub.nil _)) ?_
            refine KA.condN ?_ ?_
            · intro c72
              refine KA.seq ?_
              refine KA.region rfl ?_
              refine KOps.assign ?_
              refine KOps.done ?_
              refine sqQ.normal ?_
              refine KA.sub (Sub.cons (t := 2) Look.eq (Sub.nil _)) ?_
              refine KA.ret ?_
              refine sqQ.ret ?_
              refine fnQ.ret1 ?_
              obtain rfl : i = t.has.length := by omega
              refine ⟨congrArg (AV.int .i64) ?_, hS.keeps⟩
              unfold Tray.chk Tray.evenB
              rw [if_neg (by simpa using c72)]
            · intro c72
              refine KA.skip ?_
              refine sqQ.normal ?_
              refine KA.sub (Sub.nil _) ?_
              refine KA.seq ?_
              refine KA.region rfl ?_
              refine KOps.assign ?_
              refine KOps.done ?_
              refine sqQ.normal ?_
              refine KA.ret ?_
              refine fnQ.ret1 ?_
              obtain rfl : i = t.has.length := by omega
              refine ⟨congrArg (AV.int .i64) ?_, hS.keeps⟩
              unfold Tray.chk Tray.evenB
              rw [if_pos (by simpa using c72)]

end Go.Am

