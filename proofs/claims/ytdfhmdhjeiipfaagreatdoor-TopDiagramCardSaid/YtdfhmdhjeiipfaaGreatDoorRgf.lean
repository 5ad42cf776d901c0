/-
  Backs: a drawn heap is flipped and turned as stated: walks, runs and contracts.
  Conditions: none.
-/
import Derived.Test.YtdfhmdhjeiipfaaGreatDoorRgfB
namespace Go.Am
open Go.RowKit
/-- A row of numbers lies there, from a place on. -/
def RowI (w : World) (g o z : Nat) (l : List Int) : Prop := ∃ c e, RowAt w g c e ∧ c.size = z ∧ CellsAt (fun _ => none) (ints l) c o ∧ o + l.length ≤ z
theorem cellsAt_ints {φ φ' : Emb} {l : List Int} {c : Array Value} {o : Nat} (h : CellsAt φ (ints l) c o) : CellsAt φ' (ints l) c o := by
  intro j x hx
  obtain ⟨v, h1, h2⟩ := h j x hx
  refine ⟨v, h1, ?_⟩
  simp only [ints, List.getElem?_map, Option.map_eq_some_iff] at hx
  obtain ⟨y, _, rfl⟩ := hx
  cases h2
  exact .int _ _
def oneE (g o z : Nat) : Emb := fun b => if b = 0 then some (g, o, z) else none
theorem oneE_some {g o z b : Nat} {p : Nat × Nat × Nat} (h : oneE g o z b = some p) : b = 0 ∧ p = (g, o, z) := by
  unfold oneE at h
  split at h
  · rename_i hb; cases h; exact ⟨hb, rfl⟩
  · cases h
/-- What is only read. -/
theorem hrel_ro {w : World} {g o z : Nat} {l : List Int} (hg : g < w.heap.size) (hc : ∀ (j : Nat) (x : Int), l[j]? = some x → w.cell? ⟨g, o + j, none⟩ = some (.int .i64 x)) : HRel (oneE g o z) ⟨[.cells none 0 (ints l)], [], []⟩ w := by
  have hget : ∀ b B, (⟨[.cells none 0 (ints l)], [], []⟩ : AHeap).get b = some B → B = .cells none 0 (ints l) := by
    intro b B h
    match b, h with
    | 0, h => exact (Option.some.inj h).symm
    | b + 1, h => cases h
  refine ⟨fun g hg => (by cases hg), ?_, ?_, ?_, ?_, ?_, ?_, ?_⟩
  · intro b k i z' h
    obtain ⟨_, h2⟩ := oneE_some h
    cases h2; exact hg
  · intro b k i z' B h hB _
    obtain ⟨_, h2⟩ := oneE_some h
    cases h2
    rw [hget b B hB]
    refine ⟨?_, fun h => by cases h⟩
    intro j x hx
    simp only [ints, List.getElem?_map, Option.map_eq_some_iff] at hx
    obtain ⟨y, hy, rfl⟩ := hx
    exact ⟨_, hc j y hy, .int _ _⟩
  · intro b k i z' F p cs h hB; cases hget b _ hB
  · intro b b' k i i' z' z'' F F' p p' cs cs' h h' hB; cases hget b _ hB
  · intro b b' k i i' z' z'' F p p' cs cs' h h' hB; cases hget b _ hB
  · intro b b' k i i' z' z'' F x B h h' hB; cases hget b _ hB
  · intro b F p cs hB; cases hget b _ hB
/-- What may be written to. -/
theorem hrel_rw {w : World} {g o z : Nat} {l : List Int} (hr : RowI w g o z l) : HRel (oneE g o z) ⟨[.cells (some 0) 0 (ints l)], [⟨l.length, none⟩], []⟩ w := by
  have hget : ∀ b B, (⟨[.cells (some 0) 0 (ints l)], [⟨l.length, none⟩], []⟩ : AHeap).get b = some B → b = 0 ∧ B = .cells (some 0) 0 (ints l) := by
    intro b B h
    match b, h with
    | 0, h => exact ⟨rfl, (Option.some.inj h).symm⟩
    | b + 1, h => cases h
  obtain ⟨c, e, h1, h2, h3, h4⟩ := hr
  have hlen : (ints l).length = l.length := List.length_map _
  refine ⟨fun g hg => (by cases hg), ?_, ?_, ?_, ?_, ?_, ?_, ?_⟩
  · intro b k i z' h
    obtain ⟨_, h5⟩ := oneE_some h
    cases h5; exact h1.lt
  · intro b k i z' B h hB _
    obtain ⟨_, h5⟩ := oneE_some h
    cases h5
    obtain ⟨_, rfl⟩ := hget b B hB
    exact ⟨c, e, h1, h2, cellsAt_ints h3⟩
  · intro b k i z' F p cs h hB
    obtain ⟨_, h5⟩ := oneE_some h
    cases h5
    obtain ⟨_, h6⟩ := hget b _ hB
    cases h6
    exact ⟨c, e, h1, h2, by rw [hlen]; exact h4⟩
  · intro b b' k i i' z' z'' F F' p p' cs cs' h h' hB hB'
    obtain ⟨_, h5⟩ := oneE_some h
    obtain ⟨_, h5'⟩ := oneE_some h'
    cases h5; cases h5'
    obtain ⟨_, h6⟩ := hget b _ hB
    obtain ⟨_, h6'⟩ := hget b' _ hB'
    cases h6; cases h6'
    exact ⟨rfl, rfl⟩
  · intro b b' k i i' z' z'' F p p' cs cs' h h' hB hB'
    obtain ⟨_, h6'⟩ := hget b' _ hB'
    cases h6'
  · intro b b' k i i' z' z'' F x B h h' hB
    obtain ⟨_, h6⟩ := hget b _ hB
    cases h6
  · intro b F p cs hB
    obtain ⟨_, h6⟩ := hget b _ hB
    cases h6
    exact ⟨⟨l.length, none⟩, rfl, by rw [hlen]; exact Nat.le_of_eq (Nat.zero_add _)⟩
/-- The row that is turned. -/
def L6 : List Int := [12, 8, 4, 0, 13, 9, 5, 1, 14, 10, 6, 2, 15, 11, 7, 3]
theorem run_clone : bcallY Go.Proofs.Tryz.prog (okY Go.Proofs.Tryz.prog) (brunY Go.Proofs.Tryz.prog noOrc (okY Go.Proofs.Tryz.prog) 200) 188 [.slc 0 0 16 1 false] ⟨[.cells none 0 (ints L6)], [], []⟩ = some (.slc 2 0 16 1 false, ⟨[.cells none 0 (ints L6), .cells (some 0) 0 [], .cells (some 1) 0 (ints L6)], [⟨0, none⟩, ⟨16, none⟩], []⟩) := by kernel_rfl
theorem okYs {P : Program} : (∀ f, okY P f = true → okFnX P f = true) ∧ ∀ f, okY P f = true → smallFnX P f = true :=
  ⟨fun f hf => by simp only [okY, Bool.and_eq_true] at hf; exact hf.1, fun f hf => by simp only [okY, Bool.and_eq_true] at hf; exact hf.2⟩
/-- Copied. -/
theorem clone_w {w : World} {g o c : Nat} (hg : g < w.heap.size) (hc : 16 ≤ c) (hcm : c ≤ maxLen) (hcs : ∀ (j : Nat) (x : Int), L6[j]? = some x → w.cell? ⟨g, o + j, none⟩ = some (.int .i64 x)) :
    Calls Go.Proofs.Tryz.prog 188 #[.slice (some ⟨g, o, none⟩) 16 c] w fun e w' => ∃ k i z cap, e = .returned (.slice (some ⟨k, i, none⟩) 16 cap) ∧ RowI w' k i z L6 ∧ 16 ≤ cap ∧ i + cap ≤ z ∧ cap ≤ maxLen ∧ w.heap.size ≤ k ∧ Below w.heap.size w w' := by
  have he := bcallY_run noOrc_ok mixed okYs.1 okYs.2 _ run_clone
  obtain ⟨_, _, hcl⟩ := he
  have hr := hrel_ro (z := o + c) hg hcs
  refine (hcl (oneE g o (o + c)) w [.slice (some ⟨g, o, none⟩) 16 c] ?_ hr ⟨rfl, ?_⟩).mono ?_
  · intro b h1 _
    match b, h1 with
    | b + 1, _ => rfl
  · intro j x v hx hv
    match j, hx, hv with
    | 0, hx, hv =>
      cases hx; cases hv
      exact .slc 0 0 16 1 false _ c hc hcm (fun h => by cases h) (.inr ⟨g, o, o + c, rfl, rfl, by omega⟩)
    | j + 1, hx, _ => cases hx
  · rintro e w' ⟨v, φ', rfl, tr, rr, hv⟩
    have hb : ∀ k, k < w.heap.size → w'.heap[k]? = w.heap[k]? := by
      intro k hk
      refine tr.frame k hk ?_
      rintro ⟨b, i, z, _, ⟨F, p, cs, hB⟩ | ⟨F, x, hB⟩⟩
      · match b, hB with
        | 0, hB => cases hB
        | b + 1, hB => cases hB
      · match b, hB with
        | 0, hB => cases hB
        | b + 1, hB => cases hB
    cases hv with | slc _ _ _ _ _ a cap hn hcm' _ hadr =>
    obtain ⟨k, i, z, hk, ha, hz⟩ := hadr.resolve_left (by omega)
    subst ha
    have hbr := rr.blk 2 k i z _ hk rfl rfl
    obtain ⟨c', e', h1, h2, h3⟩ := hbr
    have hge : w.heap.size ≤ k := by
      rcases tr.img 2 k i z rfl hk with h | ⟨b0, i0, z0, F, p, cs, _, hB⟩
      · exact h
      · match b0, hB with
        | 0, hB => cases hB
        | b + 1, hB => cases hB
    have har := rr.arr 2 k i z _ _ _ hk rfl
    obtain ⟨_, _, _, _, h4⟩ := har
    exact ⟨k, i, z, cap, by rw [Nat.add_zero], ⟨c', e', h1, h2, cellsAt_ints h3, h4⟩, hn, by omega, hcm', hge, ⟨tr.os, tr.tape, tr.output, tr.size, hb⟩⟩
def revSeg (l : List Int) (x : Nat) : List Int := l.take (4 * x) ++ ((l.drop (4 * x)).take 4).reverse ++ l.drop (4 * x + 4)
/-- All rows that come up: each piece as it is, or turned. -/
def rvB (b : Bool) (x : Nat) (l : List Int) : List Int := if b then revSeg l x else l
def allS : List (List Int) := [false, true].flatMap fun a => [false, true].flatMap fun b => [false, true].flatMap fun c => [false, true].map fun d => rvB a 0 (rvB b 1 (rvB c 2 (rvB d 3 L6)))
theorem allS_rev : ∀ l ∈ allS, ∀ x, x < 4 → revSeg l x ∈ allS := by decide +kernel
theorem allS_len : ∀ l ∈ allS, l.length = 16 := by decide +kernel
theorem allS_6 : L6 ∈ allS := by decide +kernel
noncomputable def okRev (l : List Int) (x : Nat) : Bool := match bcallY Go.Proofs.Tryz.prog (okY Go.Proofs.Tryz.prog) (brunY Go.Proofs.Tryz.prog noOrc (okY Go.Proofs.Tryz.prog) 200) 154 [.slc 0 (4 * x) 4 1 true] ⟨[.cells (some 0) 0 (ints l)], [⟨16, none⟩], []⟩ with
  | some (_, h) => h.valid 0 && match h.get 0 with
    | some (.cells (some _) _ cs) => AV.isP 3 (.agg cs) (.agg (ints (revSeg l x)))
    | _ => false
  | none => false
theorem run_rev : (allS.all fun l => (List.range 4).all fun x => okRev l x) = true := by kernel_rfl
/-- A piece turned around. -/
theorem rev_w {w : World} {g o z : Nat} {l : List Int} (hl : l ∈ allS) {x : Nat} (hx : x < 4) (hr : RowI w g o z l) :
    Calls Go.Proofs.Tryz.prog 154 #[.slice (some ⟨g, o + 4 * x, none⟩) 4 4] w fun e w' => (∃ v, e = .returned v) ∧ RowI w' g o z (revSeg l x) ∧ (∀ k, k < w.heap.size → k ≠ g → w'.heap[k]? = w.heap[k]?) ∧ w'.os = w.os ∧ w'.tape = w.tape ∧ w'.output = w.output ∧ w.heap.size ≤ w'.heap.size := by
  have h0 : okRev l x = true := List.all_eq_true.1 (List.all_eq_true.1 run_rev l hl) x (List.mem_range.2 hx)
  have hll := allS_len l hl
  unfold okRev at h0
  split at h0
  · rename_i r h1 hrun
    rw [Bool.and_eq_true] at h0
    obtain ⟨hv0, h0⟩ := h0
    split at h0
    · rename_i F p cs hg1
      have hcs := AV.isP_eq 3 _ _ h0
      injection hcs with hcs
      subst hcs
      have he := bcallY_run noOrc_ok mixed okYs.1 okYs.2 _ hrun
      obtain ⟨_, _, hcl⟩ := he
      have hrel := hrel_rw hr
      rw [hll] at hrel
      obtain ⟨_, _, _, _, _, hfit⟩ := hr
      refine (hcl (oneE g o z) w [.slice (some ⟨g, o + 4 * x, none⟩) 4 4] ?_ hrel ⟨rfl, ?_⟩).mono ?_
      · intro b h1 _
        match b, h1 with
        | b + 1, _ => rfl
      · intro j y v hy hv
        match j, hy, hv with
        | 0, hy, hv =>
          cases hy; cases hv
          exact .slc 0 (4 * x) 4 1 true _ 4 (Nat.le_refl _) (by decide) (fun _ => rfl) (.inr ⟨g, o, z, rfl, rfl, by omega⟩)
        | j + 1, hy, _ => cases hy
      · rintro e w' ⟨v, φ', rfl, tr, rr, _⟩
        have hφ0 : φ' 0 = some (g, o, z) := tr.le 0 _ rfl
        obtain ⟨c', e', h2, h3, h4⟩ := rr.blk 0 g o z _ hφ0 hg1 hv0
        obtain ⟨_, _, _, _, h5⟩ := rr.arr 0 g o z _ _ _ hφ0 hg1
        refine ⟨⟨v, rfl⟩, ⟨c', e', h2, h3, cellsAt_ints h4, by simpa [ints] using h5⟩, ?_, tr.os, tr.tape, tr.output, tr.size⟩
        intro k hk hkg
        refine tr.frame k hk ?_
        rintro ⟨b, i, z', hb, _⟩
        obtain ⟨_, h6⟩ := oneE_some hb
        cases h6
        exact hkg rfl
    · cases h0
  · cases h0
end Go.Am

namespace Go.Proofs
open Go.RowKit Go.Shelf Go.Am
attribute [local go_sem] Oper.semAt_some
theorem Tryz.grown_drew (W : World) : W.grownBy W.drew none := ⟨rfl, rfl, rfl, Nat.le_refl _, fun _ _ _ => rfl⟩
theorem Tryz.chunk_stops (F : Fence) (n : Nat) (h7 : F.fn 216) (hro : F.round = none) (hn : 1 ≤ n) (Bs Bn g o cap : Nat) (hcap : 16 ≤ cap) (hcm : cap ≤ maxLen) (w : World) (h1 : Bs < w.heap.size) (h2 : Bn < w.heap.size)
    (hBs : w.cell? ⟨Bs, 0, none⟩ = some (.slice (some ⟨g, o, none⟩) 16 cap)) (hBn : w.cell? ⟨Bn, 0, none⟩ = some (.int .i64 4)) :
    SeqStopsK F n Tryz.prog 216 #[.pointer (some ⟨Bs, 0, none⟩), .pointer (some ⟨Bn, 0, none⟩)] (fun x : Tryz.Pc => #[Value.slice (some ⟨g, o + 4 * x.1, none⟩) 4 4]) (Tryz.Two Bs Bn) (fun ys => ys = Tryz.pcs 4) (fun _ => True) 4 w := fun l J Jx W hW hJ _ hY h0 =>
  Tryz.chunk1_in F n h7 hro hn l Bs Bn g o cap hcap hcm J Jx (fun s W' h => hJ s W' W'.drew none h (Tryz.grown_drew W') (fun r e => by cases e)) hY W ((hW.cell h1).trans hBs) ((hW.cell h2).trans hBn) h0
set_option maxHeartbeats 1000000 in
theorem Tryz.chunk_in (F : Fence) (n : Nat) (h5 : F.fn 189) (hro : F.round = none) (a : Option Addr) (len cap : Nat) (w : World) :
    CallsIn F n Tryz.prog 189 #[.slice a len cap, .int .i64 4] w fun e w' => e = .returned (.func (.func 216) #[] #[.pointer (some ⟨w.heap.size, 0, none⟩), .pointer (some ⟨w.heap.size + 1, 0, none⟩)]) ∧ w'.cell? ⟨w.heap.size, 0, none⟩ = some (.slice a len cap) ∧ w'.cell? ⟨w.heap.size + 1, 0, none⟩ = some (.int .i64 4) ∧ w'.heap.size = w.heap.size + 2 ∧ Below w.heap.size w w' := by
  refine callsIn_of_wp Tryz.func189 rfl h5 ?_ hro
  simp only [Tryz.ntmps189, List.size_toArray, List.length_cons, List.length_nil, Nat.reduceAdd, Nat.reduceSub, Array.replicate_succ, Array.replicate_zero, List.push_toArray, List.append_toArray, List.nil_append, List.cons_append]
  have hb2 : Below w.heap.size w ((w.alloc (.cells #[.slice a len cap] 23)).alloc (.cells #[.int .i64 4] 3)) := ((Below.refl _ w).alloc (Nat.le_refl _) _).alloc (by simp) _
  have e1 := heap_alloc_new w (.cells #[.slice a len cap] 23)
  have hb1 : Below (w.alloc (.cells #[.slice a len cap] 23)).heap.size (w.alloc (.cells #[.slice a len cap] 23)) ((w.alloc (.cells #[.slice a len cap] 23)).alloc (.cells #[.int .i64 4] 3)) := (Below.refl _ _).alloc (Nat.le_refl _) _
  have e2 := hb1.block w.heap.size (by rw [World.size_alloc]; omega)
  have e3 := heap_alloc_new (w.alloc (.cells #[.slice a len cap] 23)) (.cells #[.int .i64 4] 3)
  rw [World.size_alloc] at e3
  rw [e1] at e2
  have hc1 : ((w.alloc (.cells #[.slice a len cap] 23)).alloc (.cells #[.int .i64 4] 3)).cell? ⟨w.heap.size, 0, none⟩ = some (.slice a len cap) := by
    unfold World.cell?
    rw [e2]
    rfl
  have hc2 : ((w.alloc (.cells #[.slice a len cap] 23)).alloc (.cells #[.int .i64 4] 3)).cell? ⟨w.heap.size + 1, 0, none⟩ = some (.int .i64 4) := by
    unfold World.cell?
    rw [e3]
    rfl
  gi_wp2
  go_ret
  exact ⟨rfl, hc1, hc2, by simp, hb2⟩
theorem Tryz.rowI_own (k i z : Nat) (f : List Tryz.Pc → List Int) : Own (fun pre W => RowI W k i z (f pre)) := by
  intro s A B row hs hg hr
  obtain ⟨c, e, h1, h2⟩ := hs
  obtain ⟨fz, h3, h4⟩ := h1
  exact ⟨c, e, ⟨fz, (grownBy_keeps_cells hg hr h3 rfl).trans h3, h4⟩, h2⟩
def Tryz.foldS (pre : List Tryz.Pc) : List Int := pre.foldl (fun l x => revSeg l x.1) L6
theorem Tryz.foldS_snoc (pre : List Tryz.Pc) (x : Tryz.Pc) : Tryz.foldS (pre ++ [x]) = revSeg (Tryz.foldS pre) x.1 := by simp [Tryz.foldS]
theorem Tryz.foldS_mem : ∀ pre : List Tryz.Pc, Tryz.foldS pre ∈ allS := by
  intro pre
  have : ∀ (pre : List Tryz.Pc) (l : List Int), l ∈ allS → pre.foldl (fun l x => revSeg l x.1) l ∈ allS := by
    intro pre
    induction pre with
    | nil => intro l h; exact h
    | cons x pre ih => intro l h; exact ih _ (allS_rev l h x.1 x.2)
  exact this pre L6 allS_6
set_option maxRecDepth 100000 in
set_option maxHeartbeats 2000000 in
theorem Tryz.flip_walk {w : World} {g o c : Nat} (hg : g < w.heap.size) (hc : 16 ≤ c) (hcm : c ≤ maxLen) (hcs : ∀ (j : Nat) (x : Int), L6[j]? = some x → w.cell? ⟨g, o + j, none⟩ = some (.int .i64 x)) :
    Calls Tryz.prog 156 #[.slice (some ⟨g, o, none⟩) 16 c, .int .i64 4] w fun e w' => ∃ k i z cap, e = .returned (.slice (some ⟨k, i, none⟩) 16 cap) ∧ RowI w' k i z (Tryz.foldS (Tryz.pcs 4)) ∧ 16 ≤ cap ∧ i + cap ≤ z ∧ cap ≤ maxLen ∧ w.heap.size ≤ k ∧ Below w.heap.size w w' := by
  refine (callsIn_wide (n := 5)).1 ?_
  refine callsIn_of_wp_marks Tryz.func156 rfl trivial ?_ rfl
  simp only [Tryz.ntmps156, List.size_toArray, List.length_cons, List.length_nil, Nat.reduceAdd, Nat.reduceSub, Array.replicate_succ, Array.replicate_zero, List.push_toArray, List.append_toArray, List.nil_append, List.cons_append]
  gi_wp2
  refine ⟨trivial, ?_⟩
  refine (callsIn_wide.2 (clone_w hg hc hcm hcs)).mono ?_
  rintro e w1 ⟨k, i, z, cap, rfl, hrow, h16, hcz, hcm1, hge, hb1⟩
  gi_wp2
  refine ⟨trivial, ?_⟩
  refine (Tryz.chunk_in Fence.wide _ trivial rfl _ _ _ w1).mono ?_
  rintro e w2 ⟨rfl, hbs, hbn, hsz2, hb12⟩
  gi_wp2
  have hk1 : k < w1.heap.size := by obtain ⟨c', e', h1, _⟩ := hrow; exact h1.lt
  have hb2 : Below w.heap.size w w2 := hb1.trans (hb12.mono hb1.size)
  have hrow2 : RowI w2 k i z L6 := by
    obtain ⟨c', e', h1, h2⟩ := hrow
    exact ⟨c', e', h1.old (hb12.block k hk1), h2⟩
  refine wpIn_rangeFunc_ownF rfl (by decide) (gf := 216) (lb := #[.pointer (some ⟨w1.heap.size, 0, none⟩), .pointer (some ⟨w1.heap.size + 1, 0, none⟩)]) rfl trivial (enters_of Tryz.func216 (by kernel_rfl) rfl)
    (Tryz.chunk_stops Fence.wide _ trivial rfl (by decide) w1.heap.size (w1.heap.size + 1) k i cap h16 hcm1 w2 (by omega) (by omega) hbs hbn)
    (fun h k => h.trans k) (fun W l o o' hl _ _ _ => ⟨World.putObj_heap_other (by omega), World.putObj_heap_other (by omega)⟩) (Below.refl _ _) (fun _ => rfl)
    (fun pre W => RowI W k i z (Tryz.foldS pre) ∧ Below w.heap.size w2 W) (fun _ _ _ => False)
    (OwnFrom.and (Own.from (Tryz.rowI_own k i z Tryz.foldS) _) (ownFrom_below hb2.size hb2.size)) (fun _ _ _ _ _ hs _ _ => hs)
    ⟨hrow2, Below.refl _ _⟩
    (fun x => { tmps := #[.slice (some ⟨g, o, none⟩) 16 c, .int .i64 4, undef, undef, .slice none 0 0, .slice (some ⟨k, i, none⟩) 16 cap, .slice (some ⟨k, i + 4 * x.1, none⟩) 4 4, .slice (some ⟨g, o, none⟩) 16 c, .slice (some ⟨k, i, none⟩) 16 cap, .slice (some ⟨k, i, none⟩) 16 cap, .int .i64 4, .func (.func 216) #[] #[.pointer (some ⟨w1.heap.size, 0, none⟩), .pointer (some ⟨w1.heap.size + 1, 0, none⟩)], .slice (some ⟨k, i + 4 * x.1, none⟩) 4 4, undef, undef, undef], defers := [] }) ?assign ?body ?done ?stop
  case assign =>
    intro l x W K hK
    gi_wp2
    exact hK
  case body =>
    rintro l pre x W ⟨hr, hB⟩ _
    gi_wp2
    refine ⟨trivial, ?_⟩
    refine (CallsIn.inRound l (callsIn_wide.2 (rev_w (Tryz.foldS_mem pre) x.2 hr))).mono ?_
    rintro e W' ⟨⟨v, rfl⟩, hr', hfr, hos, htp, hou, hsz⟩
    gi_wp2
    have hsz2' := hB.size
    have hcell : ∀ (q : Nat) (ob : Obj), W.heap[q]? = some ob → ob.isCells = false → q ≠ k := by
      rintro q ob hq hob rfl
      obtain ⟨c', e', ⟨_, h3, _⟩, _⟩ := hr
      rw [h3] at hq
      cases hq
      cases hob
    refine ⟨⟨hsz, fun q ob hq hob => ?_⟩, ⟨hfr _ (by omega) (by omega), hfr _ (by omega) (by omega)⟩, by rw [Tryz.foldS_snoc]; exact hr', hB.trans ⟨hos, htp, hou, hsz, fun q hq => hfr q (by have := hb2.size; omega) (by omega)⟩⟩
    rw [hfr q (Array.getElem?_eq_some_iff.1 hq).1 (hcell q ob hq hob)]
    exact hq
  case done =>
    rintro D ys W hD rfl ⟨hr, hB⟩ hK
    gi_wp2
    refine ⟨by simp, .inl ⟨_, _, rfl, run_takeDeferred hK, ?_⟩⟩
    have hDw : w.heap.size ≤ D := Nat.le_trans hb2.size hD
    exact ⟨_, results_tmp rfl _ _ _, k, i, z, cap, rfl, (Tryz.rowI_own k i z Tryz.foldS).putObj _ hr hK rfl, h16, hcz, hcm1, hge, (hb2.trans hB).trans (belowK_b (w := w) (Nat.le_refl _) W D _ _ hDw hK rfl rfl)⟩
  case stop =>
    rintro D c pre W _ _ h _
    exact h.elim
end Go.Proofs

namespace Go.Am
open Go.RowKit
def F6 : List Int := [0, 4, 8, 12, 1, 5, 9, 13, 2, 6, 10, 14, 3, 7, 11, 15]
theorem fold_F6 : Go.Proofs.Tryz.foldS (Go.Proofs.Tryz.pcs 4) = F6 := by decide +kernel
/-- The row at a slice is that of L6. -/
noncomputable def isL6 (h : AHeap) (b o : Nat) : Bool := match getR h b with
  | some (.cells _ _ cs) => validR h b && AV.isP 3 (.agg ((cs.drop o).take 16)) (.agg (ints L6))
  | _ => false
noncomputable def orcF : Orc := fun f args h => if Nat.beq f 156 then (match args with
    | [.slc b o n s _, .int .i64 m] => if (Nat.beq n 16 && (Nat.beq s 1 && (decide (m = 4) && isL6 h b o))) = true then some (.slc h.next 0 16 1 false, h.alloc (ints F6)) else none
    | _ => none) else none
theorem orcF_ok : OrcOk Go.Proofs.Tryz.prog orcF := by
  intro f args h r h' ho
  unfold orcF at ho
  split at ho
  · rename_i hf
    obtain rfl := Nat.eq_of_beq_eq_true hf
    split at ho
    · rename_i b o n s full m
      split at ho
      · rename_i hc
        simp only [Bool.and_eq_true, decide_eq_true_eq] at hc
        obtain ⟨hn, hs, rfl, hL⟩ := hc
        obtain rfl := Nat.eq_of_beq_eq_true hn
        obtain rfl := Nat.eq_of_beq_eq_true hs
        cases ho
        unfold isL6 at hL
        split at hL
        · rename_i F p cs hg
          rw [Bool.and_eq_true, validR_eq] at hL
          rw [getR_eq] at hg
          obtain ⟨hv, hcs⟩ := hL
          have hcs := AV.isP_eq 3 _ _ hcs
          injection hcs with hcs
          refine Ev.of_fresh (xs := ints F6) ⟨_, Go.Proofs.Tryz.func156, by decide, rfl⟩ ?_
          intro φ w cv rr ha
          obtain ⟨a, u, rfl⟩ : ∃ a u, cv = [a, u] := by
            match cv, ha.1 with
            | [a, u], _ => exact ⟨a, u, rfl⟩
          have h1 := ha.2 0 _ _ rfl rfl
          have h2 := ha.2 1 _ _ rfl rfl
          cases h2
          cases h1 with | slc _ _ _ _ _ a c hn hcm _ hadr =>
          obtain ⟨k, i, z, hφ, rfl, hz⟩ := hadr.resolve_left (by omega)
          have hcell : ∀ (j : Nat) (x : Int), L6[j]? = some x → w.cell? ⟨k, i + o + j, none⟩ = some (.int .i64 x) := by
            intro j x hx
            have hj : (ints L6)[j]? = some (.int .i64 x) := by simp [ints, hx]
            rw [← hcs, List.getElem?_take, List.getElem?_drop] at hj
            split at hj
            · have hbr := rr.blk b k i z _ hφ hg hv
              have hg2 : ∀ {y : AV}, cs[o + j]? = some y → ∃ v, w.cell? ⟨k, i + (o + j), none⟩ = some v ∧ VRel φ y v := by
                intro y hy
                cases F with
                | none => exact hbr.1 (o + j) y hy
                | some F =>
                  obtain ⟨c', e', h3, _, h4⟩ := hbr
                  obtain ⟨v, h5, h6⟩ := h4 (o + j) y hy
                  exact ⟨v, by rw [h3.cell]; exact h5, h6⟩
              obtain ⟨v, h5, h6⟩ := hg2 hj
              cases h6
              rw [Nat.add_assoc]
              exact h5
            · cases hj
          refine (Go.Proofs.Tryz.flip_walk (rr.lt b k i z hφ) (by omega) hcm hcell).mono ?_
          rintro e w' ⟨k', i', z', cap, rfl, ⟨c', e', h3, h4, h5, _⟩, h16, hcz, hcm', hge, hb⟩
          rw [fold_F6] at h5
          exact ⟨k', i', c', e', cap, rfl, hb, hge, h3, cellsAt_ints h5, h16, by omega, hcm'⟩
        · cases hL
      · cases ho
    · cases ho
  · cases ho
/-- Rows and columns exchanged. -/
def transH (l : List Nat) : List Nat := (List.range 16).map fun i => l.getD (i % 4 * 4 + i / 4) 0
noncomputable def okTurn (p : List Nat) : Bool := runsQ Go.Proofs.Tryz.prog orcF 4000 12 [.agg [.int .i64 4, .int .i64 4, .int .i64 2, .slc 0 0 2 1 false], .slc 1 0 16 1 false, .int .i64 6] [natI [0, 6], natI (drawH p)] [] (chkTupO 2 1 (natI (transH (drawH p))) (.int .i64 0))
end Go.Am

namespace Go.Am
theorem run_turn0 : ((parts.drop 0).take 10).all okTurn = true := by kernel_rfl
theorem run_turn1 : ((parts.drop 10).take 10).all okTurn = true := by kernel_rfl
theorem run_turn2 : ((parts.drop 20).take 10).all okTurn = true := by kernel_rfl
theorem run_turn3 : ((parts.drop 30).take 10).all okTurn = true := by kernel_rfl
theorem run_turn4 : ((parts.drop 40).take 10).all okTurn = true := by kernel_rfl
theorem run_turn5 : ((parts.drop 50).take 10).all okTurn = true := by kernel_rfl
theorem run_turn6 : ((parts.drop 60).take 10).all okTurn = true := by kernel_rfl
end Go.Am

namespace Go.Am
theorem okTurn_all {p : List Nat} (hp : p ∈ parts) : okTurn p = true := by
  have e : parts = (parts.drop 0).take 10 ++ ((parts.drop 10).take 10 ++ ((parts.drop 20).take 10 ++ ((parts.drop 30).take 10 ++ ((parts.drop 40).take 10 ++ ((parts.drop 50).take 10 ++ (parts.drop 60).take 10))))) := by decide +kernel
  rw [e] at hp
  rcases List.mem_append.1 hp with hp | hp
  · exact List.all_eq_true.1 run_turn0 p hp
  rcases List.mem_append.1 hp with hp | hp
  · exact List.all_eq_true.1 run_turn1 p hp
  rcases List.mem_append.1 hp with hp | hp
  · exact List.all_eq_true.1 run_turn2 p hp
  rcases List.mem_append.1 hp with hp | hp
  · exact List.all_eq_true.1 run_turn3 p hp
  rcases List.mem_append.1 hp with hp | hp
  · exact List.all_eq_true.1 run_turn4 p hp
  rcases List.mem_append.1 hp with hp | hp
  · exact List.all_eq_true.1 run_turn5 p hp
  · exact List.all_eq_true.1 run_turn6 p hp
theorem turn_c {h : AHeap} {t v : AV} {p : List Nat} (hp : p ∈ parts) (ht : Row h t [0, 6]) (hv : Row h v (nI (drawH p))) : ACalls Go.Proofs.Tryz.prog 12 [.agg [.int .i64 4, .int .i64 4, .int .i64 2, t], v, .int .i64 6] h (fun r h' => ∃ a, r = .tup [a, .int .i64 0] ∧ St h h' [⟨a, 1, natI (transH (drawH p)), true⟩]) :=
  over_tupP orcF_ok mixed (okTurn_all hp) [⟨t, 1, natI [0, 6], natI [0, 6]⟩, ⟨v, 1, natI (drawH p), natI (drawH p)⟩] rfl rfl (okGs_cons (okG_plain ht (by decide) (by decide) (natI_plain _)) (okGs_cons (okG_plain hv (by decide) (natI_ne (fun e => by have := congrArg List.length e; simp [drawH] at this)) (natI_plain _)) okGs_nil)) hgs_nil rfl
    (imG_cons (.agg _ _ rfl (imG_cons (.plain _ rfl) (imG_cons (.plain _ rfl) (imG_cons (.plain _ rfl) (imG_cons (imG_slc rfl (by decide) rfl) imG_nil))))) (imG_cons (imG_slc (v := v) rfl (by decide) (by rw [natI_len]; simp [drawH])) (imG_cons (.plain _ rfl) imG_nil)))
def swpI (l : List Int) (i : Nat) : List Int := (l.set i (l.getD (i - 1) 0)).set (i - 1) (l.getD i 0)
def bub (l : List Int) : Nat → List Int
  | 0 => l
  | i + 1 => if l.getD i 0 < l.getD (i + 1) 0 then bub (swpI l (i + 1)) i else l
theorem bub_yes {l : List Int} {i : Nat} (h0 : 0 < i) (h : l.getD (i - 1) 0 < l.getD i 0) : bub l i = bub (swpI l i) (i - 1) := by
  obtain ⟨i, rfl⟩ : ∃ k, i = k + 1 := ⟨i - 1, by omega⟩
  rw [Nat.add_sub_cancel] at h
  rw [bub, if_pos h]; rfl
theorem bub_no {l : List Int} {i : Nat} (h : ¬ (0 < i ∧ l.getD (i - 1) 0 < l.getD i 0)) : bub l i = l := by
  cases i with
  | zero => rfl
  | succ i => rw [bub, if_neg (fun hh => h ⟨Nat.succ_pos i, by rw [Nat.add_sub_cancel]; exact hh⟩)]
/-- The heaps turned without their first one, turned again. -/
def lessH (p : List Nat) : List Nat := if 1 < (turnH p).length then turnH (turnH p).tail else []
theorem facts_H : ∀ p ∈ parts, p ≠ [] → (turnH p ∈ parts ∧ turnH p ≠ [] ∧ drawH (turnH p) = transH (drawH p)) ∧ (1 < (turnH p).length → (turnH p).tail ∈ parts ∧ (turnH p).tail ≠ []) ∧ bub (nI (lessH p ++ [(turnH p).headD 0])) (lessH p).length = nI (roundH p) ∧ (p.length ≤ 4 ∧ (turnH p).length ≤ 4 ∧ (lessH p).length ≤ 4 ∧ (roundH p).length ≤ 9) := by decide +kernel
/-- The heaps of at least so many cards. -/
def hpsA (c : List Nat) (s : Nat) : List Nat := (([4, 3, 2, 1].filter fun z => decide (s < z)).flatMap fun z => c.filter fun x => decide (x % 5 = z)).map fun x => x % 5
def hpsB (c : List Nat) (s j : Nat) : List Nat := hpsA c s ++ ((c.take j).filter fun x => decide (x % 5 = s)).map fun x => x % 5
theorem hpsB_0 (c : List Nat) (s : Nat) : hpsB c s 0 = hpsA c s := by simp [hpsB]
theorem hpsB_all {c : List Nat} {s : Nat} (h : c.length = 4) (h1 : 1 ≤ s) (h4 : s ≤ 4) : hpsB c s 4 = hpsA c (s - 1) := by
  rw [hpsB, List.take_of_length_le (by omega)]
  match s, h1, h4 with
  | 1, _, _ => simp [hpsA]
  | 2, _, _ => simp [hpsA]
  | 3, _, _ => simp [hpsA]
  | 4, _, _ => simp [hpsA]
theorem take_filter {c : List Nat} {s j : Nat} (h : j < c.length) : (c.take (j + 1)).filter (fun x => decide (x % 5 = s)) = (c.take j).filter (fun x => decide (x % 5 = s)) ++ if c.getD j 0 % 5 = s then [c.getD j 0] else [] := by
  have e : c[j] = c.getD j 0 := by rw [List.getD_eq_getElem?_getD, List.getElem?_eq_getElem h]; rfl
  rw [List.take_add_one, List.getElem?_eq_getElem h, List.filter_append, e]
  congr 1
  split
  · rename_i hx; exact List.filter_cons_of_pos (by simpa using hx)
  · rename_i hx; exact List.filter_cons_of_neg (by simpa using hx)
theorem hpsB_yes {c : List Nat} {s j : Nat} (h : j < c.length) (hx : c.getD j 0 % 5 = s) : hpsB c s (j + 1) = hpsB c s j ++ [s] := by
  rw [hpsB, hpsB, take_filter h, if_pos hx, List.map_append, List.map_cons, List.map_nil, hx, List.append_assoc]
theorem hpsB_no {c : List Nat} {s j : Nat} (h : j < c.length) (hx : ¬ c.getD j 0 % 5 = s) : hpsB c s (j + 1) = hpsB c s j := by
  rw [hpsB, hpsB, take_filter h, if_neg hx, List.append_nil]
theorem hps_all : ((List.range 5).all fun a => (List.range 5).all fun b => (List.range 5).all fun c => (List.range 5).all fun d => decide (hpsA [a, b, c, d] 0 ∈ parts)) = true := by decide +kernel
theorem hps_small {a b c d : Nat} (ha : a < 5) (hb : b < 5) (hc : c < 5) (hd : d < 5) : hpsA [a, b, c, d] 0 ∈ parts :=
  of_decide_eq_true (List.all_eq_true.1 (List.all_eq_true.1 (List.all_eq_true.1 (List.all_eq_true.1 hps_all a (List.mem_range.2 ha)) b (List.mem_range.2 hb)) c (List.mem_range.2 hc)) d (List.mem_range.2 hd))
theorem hps_mod (c : List Nat) (s : Nat) : hpsA c s = hpsA (c.map fun x => x % 5) s := by
  unfold hpsA
  rw [List.map_flatMap, List.map_flatMap]
  congr 1
  funext z
  rw [List.filter_map, List.map_map]
  simp [Function.comp_def]
theorem hps_parts {c : List Nat} (h : c.length = 4) : hpsA c 0 ∈ parts := by
  match c, h with
  | [a, b, c, d], _ =>
    rw [hps_mod]
    exact hps_small (Nat.mod_lt _ (by decide)) (Nat.mod_lt _ (by decide)) (Nat.mod_lt _ (by decide)) (Nat.mod_lt _ (by decide))
theorem hpsB_len {c : List Nat} (s j : Nat) (h : c.length = 4) : (hpsB c s j).length ≤ 20 := by
  have h1 : ∀ z, (c.filter fun x => decide (x % 5 = z)).length ≤ 4 := fun z => by have := List.length_filter_le (fun x => decide (x % 5 = z)) c; omega
  have h2 : ((c.take j).filter fun x => decide (x % 5 = s)).length ≤ 4 := by
    have h4 := List.length_filter_le (fun x => decide (x % 5 = s)) (c.take j)
    have h5 : (c.take j).length ≤ 4 := by rw [List.length_take]; omega
    omega
  have h3 : ∀ l : List Nat, (l.flatMap fun z => c.filter fun x => decide (x % 5 = z)).length ≤ 4 * l.length := by
    intro l
    induction l with
    | nil => exact Nat.le_refl _
    | cons a l ih => rw [List.flatMap_cons, List.length_append, List.length_cons]; have := h1 a; omega
  have h4 := h3 ([4, 3, 2, 1].filter fun z => decide (s < z))
  have h5 := List.length_filter_le (fun z => decide (s < z)) [4, 3, 2, 1]
  rw [hpsB, hpsA, List.length_append, List.length_map, List.length_map]
  simp only [List.length_cons, List.length_nil] at h5
  omega
end Go.Am
