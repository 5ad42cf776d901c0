/-
  Layer 01: flows are checked (plain).
  Conditions: none.
-/
import Derived.Test.YtdfhmdhjeiipfaaSCh
namespace Go.Am

def withinB (ws : List W) (n : List Int) : Bool := (List.range ws.length).all fun i => decide ((ws.getD i default).l ≤ n.getD i 0 ∧ n.getD i 0 ≤ (ws.getD i default).m)
def zeroB (r : Nat) (ws : List W) (n : List Int) : Bool := (List.range r).all fun x : Nat => decide (kept ws n (x : Int) = 0)
/-- The error of a flow, or 0. -/
def verE (rm : Int) (ws : List W) (n : List Int) : Int :=
  if chkB rm ws ≠ 0 then chkB rm ws else if n.length ≠ ws.length then 5 else if withinB ws n = false then 1 else if zeroB rm.toNat ws n = false then 17 else 0
theorem withinB_iff {ws : List W} {n : List Int} : withinB ws n = true ↔ ∀ i, i < ws.length → (ws.getD i default).l ≤ n.getD i 0 ∧ n.getD i 0 ≤ (ws.getD i default).m := by
  unfold withinB
  rw [List.all_eq_true]
  exact ⟨fun h i hi => of_decide_eq_true (h i (List.mem_range.2 hi)), fun h i hi => decide_eq_true (h i (List.mem_range.1 hi))⟩
theorem withinB_no {ws : List W} {n : List Int} {i : Nat} (hi : i < ws.length) (h : ¬ ((ws.getD i default).l ≤ n.getD i 0 ∧ n.getD i 0 ≤ (ws.getD i default).m)) : withinB ws n = false := by
  cases hb : withinB ws n with
  | false => rfl
  | true => exact absurd (withinB_iff.1 hb i hi) h
theorem zeroB_iff {r : Nat} {ws : List W} {n : List Int} : zeroB r ws n = true ↔ ∀ x : Nat, x < r → kept ws n (x : Int) = 0 := by
  unfold zeroB
  rw [List.all_eq_true]
  exact ⟨fun h i hi => of_decide_eq_true (h i (List.mem_range.2 hi)), fun h i hi => decide_eq_true (h i (List.mem_range.1 hi))⟩
theorem verE_flow {rm : Int} {ws : List W} {n : List Int} (h : verE rm ws n = 0) : BOk rm ws ∧ Flow ws n := by
  unfold verE at h
  by_cases h1 : chkB rm ws = 0
  · have hB := BOk.of h1
    have h2 := hB.r2
    rw [if_neg (fun h2 => h2 h1)] at h
    by_cases h3 : n.length = ws.length
    · rw [if_neg (fun h2 => h2 h3)] at h
      cases h4 : withinB ws n with
      | false => rw [h4, if_pos rfl] at h; cases h
      | true =>
        rw [h4, if_neg (by decide)] at h
        cases h5 : zeroB rm.toNat ws n with
        | false => rw [h5, if_pos rfl] at h; cases h
        | true =>
          have hw := withinB_iff.1 h4
          refine ⟨hB, ⟨h3, fun i hi => (hw i hi).1, fun i hi => (hw i hi).2⟩, ?_⟩
          intro x
          by_cases hx : x < 0 ∨ rm ≤ x
          · exact kept_out hB.inR n hx _ (Nat.le_refl _)
          · have := zeroB_iff.1 h5 x.toNat (by omega)
            rwa [show ((x.toNat : Nat) : Int) = x by omega] at this
    · rw [if_pos h3] at h; cases h
  · rw [if_pos h1] at h; exact absurd h h1
end Go.Am


namespace Go.Am

theorem nz63_c {h : AHeap} {a : Int} : ACalls Go.Proofs.Try.prog 28 [.int .i64 a] h (fun q h' => q = .bool (!decide (a = 0)) ∧ h = h') := by
  refine KA.fn 5 [.tmp 2] Go.Proofs.Try.func28 rfl (by decide) rfl rfl (Nat.le_of_ble_eq_true rfl) ?_
  show KA _ 5 _ _ [(0, .int .i64 a)] _
  refine KA.seq ?_
  refine KA.region rfl ?_
  refine KOps.assign ?_
  refine KOps.done ?_
  refine sqQ.normal ?_
  refine KA.sub (Sub.cons (t := 0) Look.eq (Sub.nil _)) ?_
  refine KA.seq ?_
  refine KA.region rfl ?_
  refine KOps.move ?_
  refine KOps.neq ?_
  refine KOps.assign ?_
  refine KOps.done ?_
  refine sqQ.normal ?_
  refine KA.sub (Sub.cons (t := 2) Look.eq (Sub.nil _)) ?_
  refine KA.ret ?_
  refine fnQ.ret1 ?_
  exact ⟨rfl, rfl⟩

theorem nz90_c {h : AHeap} {a : Int} : ACalls Go.Proofs.Try.prog 52 [.int .i64 a] h (fun q h' => q = .bool (!decide (a = 0)) ∧ h = h') := by
  refine KA.fn 5 [.tmp 2] Go.Proofs.Try.func52 rfl (by decide) rfl rfl (Nat.le_of_ble_eq_true rfl) ?_
  show KA _ 5 _ _ [(0, .int .i64 a)] _
  refine KA.seq ?_
  refine KA.region rfl ?_
  refine KOps.assign ?_
  refine KOps.done ?_
  refine sqQ.normal ?_
  refine KA.sub (Sub.cons (t := 0) Look.eq (Sub.nil _)) ?_
  refine KA.seq ?_
  refine KA.region rfl ?_
  refine KOps.move ?_
  refine KOps.neq ?_
  refine KOps.assign ?_
  refine KOps.done ?_
  refine sqQ.normal ?_
  refine KA.sub (Sub.cons (t := 2) Look.eq (Sub.nil _)) ?_
  refine KA.ret ?_
  refine fnQ.ret1 ?_
  exact ⟨rfl, rfl⟩

theorem indexNz_c {h : AHeap} {v : AV} {f : FuncId} {l : List Int} (hv : Row h v l) (hl : l.length ≤ 1000000) (hf : ∀ (h : AHeap) (a : Int), ACalls Go.Proofs.Try.prog f [.int .i64 a] h (fun q h' => q = .bool (!decide (a = 0)) ∧ h = h')) : ACalls Go.Proofs.Try.prog 58 [v, .fn f []] h (fun q h' => (∃ c : Int, q = .int .i64 c ∧ (0 ≤ c ↔ ∃ j, j < l.length ∧ l.getD j 0 ≠ 0)) ∧ h = h') := by
  refine KA.fn 19 [.tmp 4] Go.Proofs.Try.func58 rfl (by decide) rfl rfl (Nat.le_of_ble_eq_true rfl) ?_
  show KA _ 19 _ _ [(0, v), (1, .fn f [])] _
  refine KA.seq ?_
  refine KA.region rfl ?_
  refine KOps.assign ?_
  refine KOps.done ?_
  refine sqQ.normal ?_
  refine KA.sub (Sub.cons (t := 0) Look.eq (Sub.cons (t := 1) Look.eq (Sub.nil _))) ?_
  refine KA.seq ?_
  refine KA.seq ?_
  refine KA.region rfl ?_
  refine KOps.move ?_
  refine KOps.lenI hv ?_
  refine KOps.move ?_
  refine KOps.done ?_
  refine sqQ.normal ?_
  refine KA.sub (Sub.cons (t := 0) Look.eq (Sub.cons (t := 1) Look.eq (Sub.cons (t := 7) Look.eq (Sub.cons (t := 8) Look.eq (Sub.nil _))))) ?_
  refine KA.block ?_
  refine KA.loop (X := Nat) (fun i => [(0, v), (1, .fn f []), (7, .int .i64 (l.length : Int)), (8, .int .i64 (i : Int))]) (fun i h' => h = h' ∧ i ≤ l.length ∧ ∀ j, j < i → l.getD j 0 = 0) (fun i => l.length - i) 0 (by repeat (first | exact Sub.nil _ | refine Sub.cons Look.eq ?_ | refine Sub.cons (Eq.trans Look.eq (congrArg (AV.int _) (by first | omega | (dsimp only; omega)))) ?_)) ?_ ?_
  · exact ⟨rfl, Nat.zero_le _, fun j hj => by omega⟩
  rintro i _ ⟨rfl, hi, hj⟩
  refine KA.seq ?_
  refine KA.region rfl ?_
  refine KOps.lss ?_
  refine KOps.done ?_
  refine sqQ.normal ?_
  refine KA.seq ?_
  refine KA.condD ?_ ?_
  · intro c9
    refine KA.skip ?_
    refine sqQ.normal ?_
    refine KA.sub (Sub.cons (t := 0) Look.eq (Sub.cons (t := 1) Look.eq (Sub.cons (t := 7) Look.eq (Sub.cons (t := 8) Look.eq (Sub.nil _))))) ?_
    refine KA.seq ?_
    refine KA.block ?_
    refine KA.seq ?_
    refine KA.region rfl ?_
    refine KOps.move ?_
    refine KOps.assign ?_
    refine KOps.done ?_
    refine sqQ.normal ?_
    refine KA.sub (Sub.cons (t := 0) Look.eq (Sub.cons (t := 1) Look.eq (Sub.cons (t := 5) Look.eq (Sub.cons (t := 7) Look.eq (Sub.cons (t := 8) Look.eq (Sub.nil _)))))) ?_
    refine KA.seq ?_
    refine KA.region rfl ?_
    refine KOps.move ?_
    refine KOps.move ?_
    refine KOps.move ?_
    refine KOps.indexIJ hv (j := i) rfl (by first | omega | (simp; omega)) ?_
    intro p14 hp14
    refine KOps.loadI hp14 hv (by first | omega | (simp; omega)) ?_
    refine KOps.call rfl (hf _ _) ?_
    rintro _ _ ⟨rfl, rfl⟩
    refine KOps.done ?_
    refine sqQ.normal ?_
    refine KA.sub (Sub.cons (t := 0) Look.eq (Sub.cons (t := 1) Look.eq (Sub.cons (t := 5) Look.eq (Sub.cons (t := 7) Look.eq (Sub.cons (t := 8) Look.eq (Sub.cons (t := 16) Look.eq (Sub.nil _))))))) ?_
    refine KA.condN ?_ ?_
    · intro c16
      refine KA.seq ?_
      refine KA.region rfl ?_
      refine KOps.move ?_
      refine KOps.assign ?_
      refine KOps.done ?_
      refine sqQ.normal ?_
      refine KA.sub (Sub.cons (t := 4) Look.eq (Sub.nil _)) ?_
      refine KA.ret ?_
      refine blQ.ret ?_
      refine sqQ.ret ?_
      refine lpQ.ret ?_
      refine blQ.ret ?_
      refine sqQ.ret ?_
      refine fnQ.ret1 ?_
      exact ⟨⟨_, rfl, fun _ => ⟨i, by omega, by omega⟩, fun _ => by omega⟩, rfl⟩
    · intro c16
      refine KA.skip ?_
      refine blQ.normal ?_
      refine sqQ.normal ?_
      refine KA.sub (Sub.cons (t := 0) Look.eq (Sub.cons (t := 1) Look.eq (Sub.cons (t := 7) Look.eq (Sub.cons (t := 8) Look.eq (Sub.nil _))))) ?_
      refine KA.region rfl ?_
      refine KOps.add (by first | omega | (simp; omega)) (by first | omega | (simp; omega)) ?_
      refine KOps.move ?_
      refine KOps.done ?_
      refine lpQ.normal (i + 1) (by repeat (first | exact Sub.nil _ | refine Sub.cons Look.eq ?_ | refine Sub.cons (Eq.trans Look.eq (congrArg (AV.int _) (by first | omega | (dsimp only; omega)))) ?_)) ⟨rfl, by omega, ?_⟩ (by omega)
      intro j hj2
      rcases Nat.lt_succ_iff_lt_or_eq.1 hj2 with h3 | rfl
      · exact hj j h3
      · omega
  · intro c9
    refine KA.exit ?_
    refine sqQ.exit ?_
    refine lpQ.exit ?_
    refine blQ.here ?_
    refine sqQ.normal ?_
    refine KA.sub (Sub.nil _) ?_
    refine KA.seq ?_
    refine KA.region rfl ?_
    refine KOps.assign ?_
    refine KOps.done ?_
    refine sqQ.normal ?_
    refine KA.ret ?_
    refine fnQ.ret1 ?_
    exact ⟨⟨_, rfl, fun h0 => absurd h0 (by decide), fun ⟨j, h1, h2⟩ => absurd (hj j (by omega)) h2⟩, rfl⟩

theorem anyNz_c {h : AHeap} {v : AV} {f : FuncId} {l : List Int} (hv : Row h v l) (hl : l.length ≤ 1000000) (hf : ∀ (h : AHeap) (a : Int), ACalls Go.Proofs.Try.prog f [.int .i64 a] h (fun q h' => q = .bool (!decide (a = 0)) ∧ h = h')) : ACalls Go.Proofs.Try.prog 26 [v, .fn f []] h (fun q h' => q = .bool (l.any fun x => !decide (x = 0)) ∧ h = h') := by
  refine KA.fn 9 [.tmp 4] Go.Proofs.Try.func26 rfl (by decide) rfl rfl (Nat.le_of_ble_eq_true rfl) ?_
  show KA _ 9 _ _ [(0, v), (1, .fn f [])] _
  refine KA.seq ?_
  refine KA.region rfl ?_
  refine KOps.assign ?_
  refine KOps.done ?_
  refine sqQ.normal ?_
  refine KA.sub (Sub.cons (t := 0) Look.eq (Sub.cons (t := 1) Look.eq (Sub.nil _))) ?_
  refine KA.seq ?_
  refine KA.region rfl ?_
  refine KOps.move ?_
  refine KOps.move ?_
  refine KOps.call rfl (indexNz_c hv hl hf) ?_
  rintro _ _ ⟨⟨c, rfl, hc⟩, rfl⟩
  refine KOps.geq ?_
  refine KOps.assign ?_
  refine KOps.done ?_
  refine sqQ.normal ?_
  refine KA.sub (Sub.cons (t := 4) Look.eq (Sub.nil _)) ?_
  refine KA.ret ?_
  refine fnQ.ret1 ?_
  refine ⟨congrArg AV.bool ?_, rfl⟩
  rw [Bool.eq_iff_iff, decide_eq_true_iff, List.any_eq_true]
  constructor
  · intro h0
    obtain ⟨j, h1, h2⟩ := hc.1 h0
    refine ⟨l.getD j 0, ?_, by simpa using h2⟩
    rw [List.getD_eq_getElem?_getD, List.getElem?_eq_getElem h1]
    exact List.getElem_mem h1
  · rintro ⟨x, hx, h2⟩
    obtain ⟨j, h1, rfl⟩ := List.getElem_of_mem hx
    refine hc.2 ⟨j, h1, ?_⟩
    rw [List.getD_eq_getElem?_getD, List.getElem?_eq_getElem h1]
    simpa using h2

end Go.Am


namespace Go.Am
/-- The step that leads to a room: way, room, whether it has more then. -/
structure Stp where
  w : Int
  u : Int
  b : Bool
  deriving DecidableEq, Inhabited
abbrev stA (s : Stp) : AV := .agg [.int .i64 s.w, .int .i64 s.u, .bool s.b]
abbrev entS (M : List (Int × Stp)) : List (AV × AV) := entL (AV.int .i64) stA M
theorem mput_new {κ ν : Type} [DecidableEq κ] {l : List (κ × ν)} {a : κ} {b : ν} (h : a ∉ l.map (·.1)) : mput l a b = l ++ [(a, b)] := by
  induction l with
  | nil => rfl
  | cons p l ih =>
    simp only [List.map_cons, List.mem_cons, not_or] at h
    simp only [mput, if_neg h.1, ih h.2, List.cons_append]
theorem mget_none {κ ν : Type} [DecidableEq κ] {l : List (κ × ν)} {a : κ} (h : a ∉ l.map (·.1)) : mget l a = none := by
  cases hm : mget l a with
  | none => rfl
  | some x => exact absurd ((mget_isSome l a).1 (by rw [hm]; rfl)) h
/-- The steps back. -/
inductive Trl (M : List (Int × Stp)) (u : Int) : Int → List (Int × Bool) → Prop where
  | nil : Trl M u u []
  | cons {x : Int} {s : Stp} {E : List (Int × Bool)} (hx : x ≠ u) (hm : mget M x = some s) (t : Trl M u s.u E) : Trl M u x ((s.w, s.b) :: E)
theorem Trl.put {M : List (Int × Stp)} {u x : Int} {E : List (Int × Bool)} (t : Trl M u x E) {y : Int} {s : Stp} (hy : mget M y = none) : Trl (mput M y s) u x E := by
  induction t with
  | nil => exact .nil
  | @cons x s' E hx hm t ih =>
    refine .cons hx ?_ ih
    rw [mget_mput, if_neg (by rintro rfl; rw [hm] at hy; cases hy)]
    exact hm
theorem Trl.stop {M : List (Int × Stp)} {u : Int} {E : List (Int × Bool)} (t : Trl M u u E) : E = [] := by
  cases t with
  | nil => rfl
  | cons hx => exact absurd rfl hx
theorem Trl.go {M : List (Int × Stp)} {u x : Int} {E : List (Int × Bool)} (t : Trl M u x E) (hx : x ≠ u) : ∃ s E', mget M x = some s ∧ E = (s.w, s.b) :: E' ∧ Trl M u s.u E' := by
  cases t with
  | nil => exact absurd rfl hx
  | cons _ hm t => exact ⟨_, _, hm, rfl, t⟩
/-- A search: rooms that are done, rooms that wait. -/
structure Bfs (r : Int) (ws : List W) (n : List Int) (A : Nat → Bool) (u : Int) (M : List (Int × Stp)) (P Q : List Int) : Prop where
  keys : M.map (·.1) = P ++ Q
  nd : (P ++ Q).Nodup
  rg : ∀ x ∈ P ++ Q, 0 ≤ x ∧ x < r
  st : u ∈ P ++ Q
  tr : ∀ x ∈ P ++ Q, ∃ vs E, Path ws n A u vs x E ∧ Trl M u x E ∧ ∀ y ∈ vs, y ∈ P ++ Q
  cl : ∀ i, i < ws.length → A i = true → ((ws.getD i default).f ∈ P → n.getD i 0 < (ws.getD i default).m → (ws.getD i default).t ∈ P ++ Q) ∧ ((ws.getD i default).t ∈ P → (ws.getD i default).l < n.getD i 0 → (ws.getD i default).f ∈ P ++ Q)
section
variable {r : Int} {ws : List W} {n : List Int} {A : Nat → Bool} {u : Int} {M : List (Int × Stp)} {P Q : List Int}
theorem Bfs.init (h0 : 0 ≤ u) (h1 : u < r) (s : Stp) : Bfs r ws n A u [(u, s)] [] [u] where
  keys := rfl
  nd := by simp
  rg := fun x hx => by simp only [List.nil_append, List.mem_singleton] at hx; subst hx; exact ⟨h0, h1⟩
  st := by simp
  tr := fun x hx => by
    simp only [List.nil_append, List.mem_singleton] at hx; subst hx
    exact ⟨_, _, .nil, .nil, fun y hy => by simpa using hy⟩
  cl := fun i _ _ => ⟨fun h => absurd h (by simp), fun h => absurd h (by simp)⟩
theorem Bfs.none (b : Bfs r ws n A u M P Q) {x : Int} (hx : x ∉ P ++ Q) : mget M x = none := mget_none (by rw [b.keys]; exact hx)
theorem Bfs.has (b : Bfs r ws n A u M P Q) (x : Int) : (mget M x).isSome = true ↔ x ∈ P ++ Q := by rw [mget_isSome, b.keys]
theorem Bfs.put (b : Bfs r ws n A u M P Q) {v x : Int} {i : Nat} {more : Bool} (hv : v ∈ P ++ Q) (s : StepOK ws n A v x i more) (h0 : 0 ≤ x) (h1 : x < r) (hx : x ∉ P ++ Q) : Bfs r ws n A u (mput M x ⟨i, v, more⟩) P (Q ++ [x]) := by
  have hkn := b.none hx
  have hass : P ++ (Q ++ [x]) = (P ++ Q) ++ [x] := (List.append_assoc _ _ _).symm
  have hsub : ∀ y, y ∈ P ++ Q → y ∈ P ++ (Q ++ [x]) := fun y hy => by rw [hass]; exact List.mem_append_left _ hy
  refine ⟨?_, ?_, ?_, hsub _ b.st, ?_, ?_⟩
  · rw [mput_keys, b.keys, if_neg hx, hass]
  · rw [hass]
    refine List.nodup_append.2 ⟨b.nd, by simp, ?_⟩
    intro y hy z hz
    simp only [List.mem_singleton] at hz
    subst hz
    rintro rfl
    exact hx hy
  · intro y hy
    rw [hass] at hy
    rcases List.mem_append.1 hy with hy | hy
    · exact b.rg y hy
    · simp only [List.mem_singleton] at hy; subst hy; exact ⟨h0, h1⟩
  · intro y hy
    rw [hass] at hy
    rcases List.mem_append.1 hy with hy | hy
    · obtain ⟨vs, E, p, t, hs⟩ := b.tr y hy
      exact ⟨vs, E, p, t.put hkn, fun z hz => hsub z (hs z hz)⟩
    · simp only [List.mem_singleton] at hy
      subst hy
      obtain ⟨vs, E, p, t, hs⟩ := b.tr v hv
      refine ⟨_, _, .snoc p s (fun hm => hx (hs _ hm)), .cons (s := ⟨i, v, more⟩) ?_ ?_ (t.put hkn), ?_⟩
      · rintro rfl; exact hx b.st
      · rw [mget_mput, if_pos rfl]
      · intro z hz
        rcases List.mem_cons.1 hz with rfl | hz
        · rw [hass]; simp
        · exact hsub z (hs z hz)
  · intro j hj hA
    have := b.cl j hj hA
    exact ⟨fun h2 h3 => hsub _ (this.1 h2 h3), fun h2 h3 => hsub _ (this.2 h2 h3)⟩
/-- The first ways have been looked at. -/
def Seen (ws : List W) (n : List Int) (A : Nat → Bool) (v : Int) (K : List Int) (k : Nat) : Prop := ∀ i, i < k → A i = true → ((ws.getD i default).f = v → n.getD i 0 < (ws.getD i default).m → (ws.getD i default).t ∈ K) ∧ ((ws.getD i default).t = v → (ws.getD i default).l < n.getD i 0 → (ws.getD i default).f ∈ K)
theorem Seen.more {v : Int} {K K' : List Int} {k : Nat} (h : Seen ws n A v K k) (hs : ∀ x ∈ K, x ∈ K') : Seen ws n A v K' k := fun i hi hA => ⟨fun a b => hs _ ((h i hi hA).1 a b), fun a b => hs _ ((h i hi hA).2 a b)⟩
theorem Bfs.next {v : Int} (b : Bfs r ws n A u M P (v :: Q)) (hs : Seen ws n A v (P ++ v :: Q) ws.length) : Bfs r ws n A u M (P ++ [v]) Q := by
  have hass : (P ++ [v]) ++ Q = P ++ v :: Q := by simp
  refine ⟨by rw [hass]; exact b.keys, by rw [hass]; exact b.nd, by rw [hass]; exact b.rg, by rw [hass]; exact b.st, by rw [hass]; exact b.tr, ?_⟩
  intro i hi hA
  rw [hass]
  refine ⟨fun h2 h3 => ?_, fun h2 h3 => ?_⟩
  · rcases List.mem_append.1 h2 with h2 | h2
    · exact (b.cl i hi hA).1 h2 h3
    · exact (hs i hi hA).1 (by simpa using h2) h3
  · rcases List.mem_append.1 h2 with h2 | h2
    · exact (b.cl i hi hA).2 h2 h3
    · exact (hs i hi hA).2 (by simpa using h2) h3
theorem Bfs.no (b : Bfs r ws n A u M P []) {v : Int} (hv : v ∉ P) : ¬ ∃ vs E, Path ws n A u vs v E := by
  have key : ∀ {vs : List Int} {x : Int} {E : List (Int × Bool)}, Path ws n A u vs x E → x ∈ P := by
    intro vs x E p
    induction p with
    | nil => have := b.st; simpa using this
    | @snoc vs y x E i more p s hx ih =>
      obtain ⟨h1, h2, h3⟩ := s
      have hc := b.cl i h1 h2
      cases more with
      | true =>
        obtain ⟨e1, e2, e3⟩ := h3
        have := hc.1 (by rw [e1]; exact ih) e3
        rw [e2] at this; simpa using this
      | false =>
        obtain ⟨e1, e2, e3⟩ := h3
        have := hc.2 (by rw [e1]; exact ih) e3
        rw [e2] at this; simpa using this
  rintro ⟨vs, E, p⟩
  exact hv (key p)
theorem Bfs.len (b : Bfs r ws n A u M P Q) (h0 : 0 ≤ r) : ((P.length + Q.length : Nat) : Int) ≤ r := by
  have hnd : ((P ++ Q).map Int.toNat).Nodup := List.pairwise_map.2 (b.nd.imp_of_mem fun {x y} hx hy hne he => by
    have h2 := b.rg x hx
    have h3 := b.rg y hy
    omega)
  have h1 := nodup_sub_le (m := List.range r.toNat) hnd (fun x hx => by
    obtain ⟨y, hy, rfl⟩ := List.mem_map.1 hx
    have := b.rg y hy
    exact List.mem_range.2 (by omega))
  rw [List.length_map, List.length_range, List.length_append] at h1
  omega
end
end Go.Am


namespace Go.Am
/-- Equal but for one way and those that are allowed. -/
def Near (i : Nat) (A : Nat → Bool) (n n' : List Int) : Prop := ∀ k, k ≠ i → A k = false → n'.getD k 0 = n.getD k 0
theorem Near.refl (i : Nat) (A : Nat → Bool) (n : List Int) : Near i A n n := fun _ _ _ => rfl
theorem Near.trans {i : Nat} {A : Nat → Bool} {a b c : List Int} (h : Near i A a b) (k : Near i A b c) : Near i A a c := fun j h1 h2 => (k j h1 h2).trans (h j h1 h2)
abbrev but (i : Nat) (A : Nat → Bool) (k : Nat) : Bool := !decide ((k : Int) = (i : Int)) && A k
theorem but_self (i : Nat) (A : Nat → Bool) : but i A i = false := by simp [but]
theorem but_no {i : Nat} {A : Nat → Bool} {k : Nat} (h : A k = false) : but i A k = false := by simp [but, h]
theorem but_or {i : Nat} {A : Nat → Bool} {k : Nat} (h : but i A k = false) (hk : k ≠ i) : A k = false := by
  simp only [but, Bool.and_eq_false_iff] at h
  rcases h with h | h
  · rw [decide_eq_false (by omega)] at h; cases h
  · exact h
section
variable {ws : List W} {n : List Int} {A : Nat → Bool} {i : Nat} {vs : List Int} {E : List (Int × Bool)}
theorem Path.turn {c : Int} {u v : Int} (hf : Flow ws n) (hi : i < ws.length) (p : Path ws n (but i A) u vs v E) (hu : ∀ x, dl v x - dl u x = c * (dl (ws.getD i default).f x - dl (ws.getD i default).t x)) (h1 : (ws.getD i default).l ≤ n.getD i 0 + c) (h2 : n.getD i 0 + c ≤ (ws.getD i default).m) :
    Flow ws ((pushE E n).set i (n.getD i 0 + c)) ∧ Near i A n ((pushE E n).set i (n.getD i 0 + c)) ∧ ((pushE E n).set i (n.getD i 0 + c)).getD i 0 = n.getD i 0 + c := by
  have hl := hf.len
  have hw := p.within hf.toWithin
  have hpl := pushE_len E n
  have hsame := p.same (but_self i A)
  refine ⟨⟨⟨by rw [List.length_set, hpl, hl], fun k hk => ?_, fun k hk => ?_⟩, fun x => ?_⟩, fun k hk hA => ?_, ?_⟩
  · rw [getD_setJ]
    by_cases hki : k = i
    · subst hki; rw [if_pos ⟨rfl, by omega⟩]; exact h1
    · rw [if_neg (fun h => hki h.1)]; exact hw.lo k hk
  · rw [getD_setJ]
    by_cases hki : k = i
    · subst hki; rw [if_pos ⟨rfl, by omega⟩]; exact h2
    · rw [if_neg (fun h => hki h.1)]; exact hw.hi k hk
  · rw [kept_set (by omega) hi, p.kept hl, hf.kp, hsame]
    have := hu x
    rw [show n.getD i 0 + c - n.getD i 0 = c by omega, Int.mul_sub]
    rw [Int.mul_sub] at this
    omega
  · rw [getD_setJ, if_neg (fun h => hk h.1)]
    exact p.same (but_no hA)
  · rw [getD_setJ, if_pos ⟨rfl, by omega⟩]
/-- One less by a way. -/
theorem Path.lower (hf : Flow ws n) (hi : i < ws.length) (h1 : (ws.getD i default).l < n.getD i 0) (p : Path ws n (but i A) (ws.getD i default).f vs (ws.getD i default).t E) :
    Flow ws ((pushE E n).set i (n.getD i 0 - 1)) ∧ Near i A n ((pushE E n).set i (n.getD i 0 - 1)) ∧ ((pushE E n).set i (n.getD i 0 - 1)).getD i 0 = n.getD i 0 - 1 := by
  have := hf.hi i hi
  exact Path.turn (c := -1) hf hi p (fun x => by omega) (by omega) (by omega)
/-- One more. -/
theorem Path.raise (hf : Flow ws n) (hi : i < ws.length) (h1 : n.getD i 0 < (ws.getD i default).m) (p : Path ws n (but i A) (ws.getD i default).t vs (ws.getD i default).f E) :
    Flow ws ((pushE E n).set i (n.getD i 0 + 1)) ∧ Near i A n ((pushE E n).set i (n.getD i 0 + 1)) ∧ ((pushE E n).set i (n.getD i 0 + 1)).getD i 0 = n.getD i 0 + 1 := by
  have := hf.lo i hi
  exact Path.turn (c := 1) hf hi p (fun x => by omega) (by omega) (by omega)
def Low (ws : List W) (i : Nat) (A : Nat → Bool) (n : List Int) : Prop := ∀ m, Flow ws m → Near i A n m → n.getD i 0 ≤ m.getD i 0
def High (ws : List W) (i : Nat) (A : Nat → Bool) (n : List Int) : Prop := ∀ m, Flow ws m → Near i A n m → m.getD i 0 ≤ n.getD i 0
open Classical in
theorem low_of {r : Nat} (hr : InR r ws) (hf : Flow ws n) (hi : i < ws.length) (h : ¬ ∃ vs E, Path ws n (but i A) (ws.getD i default).f vs (ws.getD i default).t E) : Low ws i A n := by
  intro m hm hn
  refine cut_least hr (A := but i A) (ρ := fun x => decide (∃ vs E, Path ws n (but i A) (ws.getD i default).f vs x E)) hf hm hi ?_ (but_self i A) ?_ (decide_eq_true ⟨_, _, .nil⟩) (decide_eq_false h)
  · have := path_or (ws := ws) (n := n) (A := but i A) (ws.getD i default).f
    intro k hk hA
    have := this k hk hA
    simp only [decide_eq_true_iff]
    exact this
  · intro k _ hA hk
    exact hn k hk (but_or hA hk)
open Classical in
theorem high_of {r : Nat} (hr : InR r ws) (hf : Flow ws n) (hi : i < ws.length) (h : ¬ ∃ vs E, Path ws n (but i A) (ws.getD i default).t vs (ws.getD i default).f E) : High ws i A n := by
  intro m hm hn
  refine cut_most hr (A := but i A) (ρ := fun x => decide (∃ vs E, Path ws n (but i A) (ws.getD i default).t vs x E)) hf hm hi ?_ (but_self i A) ?_ (decide_eq_true ⟨_, _, .nil⟩) (decide_eq_false h)
  · have := path_or (ws := ws) (n := n) (A := but i A) (ws.getD i default).t
    intro k hk hA
    have := this k hk hA
    simp only [decide_eq_true_iff]
    exact this
  · intro k _ hA hk
    exact hn k hk (but_or hA hk)
/-- First among those that are the same in some first ways; up to some way. -/
structure FromTo (ws : List W) (n : List Int) (j i : Nat) (c : List Int) : Prop where
  fl : Flow ws c
  same : ∀ k, k < j → c.getD k 0 = n.getD k 0
  le : ∀ m, Flow ws m → ∀ k, j ≤ k → k < i → (∀ x, x < k → m.getD x 0 = c.getD x 0) → c.getD k 0 ≤ m.getD k 0
theorem FromTo.init {j : Nat} (hf : Flow ws n) : FromTo ws n j j n := ⟨hf, fun _ _ => rfl, fun _ _ k h1 h2 => by omega⟩
theorem FromTo.step {j : Nat} {c c' : List Int} (h : FromTo ws n j i c) (hji : j ≤ i) (hf : Flow ws c') (hn : Near i (fun k => decide (i < k)) c c') (hl : Low ws i (fun k => decide (i < k)) c') : FromTo ws n j (i + 1) c' := by
  have hs : ∀ k, k < i → c'.getD k 0 = c.getD k 0 := fun k hk => hn k (by omega) (decide_eq_false (by omega))
  refine ⟨hf, fun k hk => by rw [hs k (by omega), h.same k hk], ?_⟩
  intro m hm k h1 h2 h3
  rcases Nat.lt_succ_iff_lt_or_eq.1 h2 with h4 | rfl
  · rw [hs k h4]
    exact h.le m hm k h1 h4 (fun x hx => by rw [h3 x hx, hs x (by omega)])
  · refine hl m hm ?_
    intro x hx hA
    have := of_decide_eq_false hA
    exact h3 x (by omega)
theorem FromTo.lex {c : List Int} (h : FromTo ws n 0 ws.length c) : LexMin ws c := ⟨h.fl, fun m hm i hi hk => h.le m hm i (Nat.zero_le _) hi hk⟩
end
end Go.Am


namespace Go.Am
def putM (M : List (Int × Stp)) (x : Int) (s : Stp) : List (Int × Stp) := if (mget M x).isSome = true then M else mput M x s
def putQ (M : List (Int × Stp)) (Q : List Int) (x : Int) : List Int := if (mget M x).isSome = true then Q else Q ++ [x]

theorem put_c {h0 h : AHeap} {x i v : Int} {b : Bool} {pm pa pq vm vq : AV} {M : List (Int × Stp)} {Q : List Int} {tq : Bool} {G : List Obj} (hpq : AddrOf pq pq 0 0) (hpm : AddrOf pm pm 0 0) (hpa : AddrOf pa pa 0 0) (hvm : IsMp vm) (hQ : Q.length ≤ 1000) (hS : St h0 h (⟨pq, 0, [vq], true⟩ :: ⟨vq, 1, ints Q, tq⟩ :: ⟨pm, 0, [vm], true⟩ :: mapO vm (entS M) :: ⟨pa, 0, [.int .i64 v], true⟩ :: G)) : ACalls Go.Proofs.Try.prog 69 [.int .i64 x, .int .i64 i, .bool b, pm, pa, pq] h (fun _ h' => ∃ vq' tq', St h0 h' (⟨pq, 0, [vq'], true⟩ :: ⟨vq', 1, ints (putQ M Q x), tq'⟩ :: ⟨pm, 0, [vm], true⟩ :: mapO vm (entS (putM M x ⟨i, v, b⟩)) :: ⟨pa, 0, [.int .i64 v], true⟩ :: G)) := by
  refine KA.fn 29 [] Go.Proofs.Try.func69 rfl (by decide) rfl rfl (Nat.le_of_ble_eq_true rfl) ?_
  show KA _ 29 _ _ [(0, .int .i64 x), (1, .int .i64 i), (2, .bool b), (3, pm), (4, pa), (5, pq)] _
  refine KA.seq ?_
  refine KA.region rfl ?_
  refine KOps.loadBox hS (i := 2) rfl hpm ?_
  refine KOps.move ?_
  refine KOps.lookupD2 (kf := AV.int .i64) (vf := stA) (l := M) (w := ⟨0, 0, false⟩) EvK.eq (St.rdM hS 3 rfl hvm) rfl rfl ?_
  refine KOps.move ?_
  refine KOps.extract ?_
  refine KOps.extract ?_
  refine KOps.alloc hS ?_
  intro p9 h' hp9 hS
  refine KOps.storeAll hS rfl (i := 0) rfl hp9 (by first | rfl | (simp [AV.one]; done) | (simp [AV.one]; assumption) | (simp [AV.one, *]; done)) (by rfl) (by rfl) (by decide) ?_
  intro h' hS
  simp only [List.set_cons_zero, List.set_cons_succ, Nat.zero_add] at hS
  refine KOps.assign ?_
  refine KOps.done ?_
  refine sqQ.normal ?_
  refine KA.sub (Sub.cons (t := 0) Look.eq (Sub.cons (t := 1) Look.eq (Sub.cons (t := 2) Look.eq (Sub.cons (t := 3) Look.eq (Sub.cons (t := 4) Look.eq (Sub.cons (t := 5) Look.eq (Sub.cons (t := 10) Look.eq (Sub.nil _)))))))) ?_
  refine KA.seq ?_
  refine KA.region rfl ?_
  refine KOps.move ?_
  refine KOps.not ?_
  refine KOps.done ?_
  refine sqQ.normal ?_
  refine KA.sub (Sub.cons (t := 0) Look.eq (Sub.cons (t := 1) Look.eq (Sub.cons (t := 2) Look.eq (Sub.cons (t := 3) Look.eq (Sub.cons (t := 4) Look.eq (Sub.cons (t := 5) Look.eq (Sub.cons (t := 18) Look.eq (Sub.nil _)))))))) ?_
  refine KA.condB ?_ ?_
  · intro c18
    refine KA.seq ?_
    refine KA.region rfl ?_
    refine KOps.loadBox hS (i := 3) rfl hpm ?_
    refine KOps.move ?_
    refine KOps.move ?_
    refine KOps.loadBox hS (i := 5) rfl hpa ?_
    refine KOps.move ?_
    refine KOps.buildS3 (z0 := .int .i64 0) (z1 := .int .i64 0) (z2 := .bool false) (by kernel_rfl) (by rfl) (by kernel_rfl) (by kernel_rfl) (by kernel_rfl) (by kernel_rfl) (by first | rfl | assumption) (by first | rfl | assumption) (by first | rfl | assumption) ?_
    refine KOps.mapPutK (kf := AV.int .i64) (vf := stA) (l := M) (i := 4) (b := ⟨i, v, b⟩) EvK.eq rfl hS hvm rfl rfl ?_
    intro h' hS
    simp only [List.set_cons_zero, List.set_cons_succ, Nat.zero_add] at hS
    refine KOps.done ?_
    refine sqQ.normal ?_
    refine KA.sub (Sub.cons (t := 0) Look.eq (Sub.cons (t := 5) Look.eq (Sub.nil _))) ?_
    refine KA.region rfl ?_
    refine KOps.loadBox hS (i := 1) rfl hpq ?_
    refine KOps.move ?_
    refine KOps.buildSlice hS rfl (by decide) rfl ?_
    intro v27 h' hS
    refine KOps.appendI hS (fun hx => absurd hx (by decide)) (i := 2) rfl (by first | omega | (simp; omega)) ?_
    intro r28 h' hr28 hS
    refine KOps.storeBox hS rfl (i := 1) rfl hpq (by first | rfl | assumption | exact St.one hS (k := 2) rfl) ?_
    intro h' hS
    refine KOps.done ?_
    refine fnQ.norm0 ?_
    refine ⟨r28, tq, ?_⟩
    rw [putQ, putM, if_neg (by simpa using c18), if_neg (by simpa using c18)]
    exact St.tail hS
  · intro c18
    refine KA.skip ?_
    refine fnQ.norm0 ?_
    refine ⟨vq, tq, ?_⟩
    rw [putQ, putM, if_pos (by simpa using c18), if_pos (by simpa using c18)]
    exact St.tail hS

end Go.Am


namespace Go.Am

theorem bumps_bound {E : List (Int × Bool)} (B : Int) : ∀ (D : List Nat) (l : List Int), (∀ x ∈ l, -B ≤ x ∧ x ≤ B) → ∀ x ∈ bumps E l D, -(B + D.length) ≤ x ∧ x ≤ B + D.length := by
  intro D
  induction D generalizing B with
  | nil => intro l h x hx; simpa using h x hx
  | cons j D ih =>
    intro l h x hx
    have h1 : ∀ y ∈ bump E l j, -(B + 1) ≤ y ∧ y ≤ B + 1 := by
      intro y hy
      unfold bump at hy
      split at hy
      · rename_i w m _
        rcases List.mem_or_eq_of_mem_set hy with hy | rfl
        · have := h y hy; omega
        · have h2 : -B ≤ l.getD w.toNat 0 ∧ l.getD w.toNat 0 ≤ B ∨ l.getD w.toNat 0 = 0 := by
            rw [List.getD_eq_getElem?_getD]
            by_cases hw : w.toNat < l.length
            · rw [List.getElem?_eq_getElem hw]; exact .inl (h _ (List.getElem_mem hw))
            · rw [List.getElem?_eq_none (by omega)]; exact .inr rfl
          by_cases hB : 0 ≤ B
          · split <;> omega
          · have : l = [] := by
              cases l with
              | nil => rfl
              | cons a l => have := h a (by simp); omega
            subst this
            simp at hy
      · have := h y hy; omega
    have h2 := ih (B + 1) (bump E l j) h1 x hx
    rw [List.length_cons]
    omega

abbrev entB (E : List (Int × Bool)) : List (AV × AV) := entL (AV.int .i64) AV.bool E
/-- push (68). -/
theorem push_c {h0 h : AHeap} {pf vn vm a0 a1 : AV} {ns : List Int} {E : List (Int × Bool)} {tf tn : Bool} {G : List Obj} (hpf : AddrOf pf pf 0 0) (hvm : IsMp vm) (hn0 : ns ≠ []) (hE : ∀ p ∈ E, 0 ≤ p.1 ∧ p.1 < ns.length) (hb : ∀ x ∈ ns, -1000000000 ≤ x ∧ x ≤ 1000000000) (hEl : E.length ≤ 1000000000)
    (hS : St h0 h (⟨pf, 0, [a0, a1, vn], tf⟩ :: ⟨vn, 1, ints ns, tn⟩ :: mapO vm (entB E) :: G)) :
    ACalls Go.Proofs.Try.prog 54 [pf, vm] h (fun _ h' => St h0 h' (⟨pf, 0, [a0, a1, vn], tf⟩ :: ⟨vn, 1, ints (bumps E ns (List.range E.length)), tn⟩ :: mapO vm (entB E) :: G)) := by
  obtain ⟨bm, Fm, hvm', hgm⟩ := St.rdM hS 2 rfl hvm
  have hlen : (entB E).length = E.length := by simp [entB]
  have hS1 := St.allocT hS (.mwalk bm (entB E).length [])
  have hgI : (h.allocT (.mwalk bm (entB E).length [])).get h.next = some (.obj h.nfam (.mwalk bm (entB E).length [])) := by rw [AHeap.get_allocT, if_pos rfl]
  have hgM : (h.allocT (.mwalk bm (entB E).length [])).get bm = some (.obj Fm (.map (entB E))) := by
    rw [AHeap.get_allocT, if_neg (by have := AHeap.get_lt hgm; omega)]; exact hgm
  generalize hh1 : h.allocT (.mwalk bm (entB E).length []) = h1 at hS1 hgI hgM
  have hrow : ∃ bn off full Fn pn cs f, vn = .slc bn off ns.length 1 full ∧ h1.get bn = some (.cells (some Fn) pn cs) ∧ h1.fam Fn = some f ∧ f.sees bn = true ∧ (cs.drop off).take ns.length = ints ns := by
    obtain ⟨_, fs, e1, e2, _⟩ := id hS1
    have hlt : 2 < fs.length := by rw [e1]; simp
    have hmu := e2 2 _ _ rfl (List.getElem?_eq_getElem hlt)
    generalize fs[2]'hlt = F at hmu
    cases F with
    | none =>
      have := hmu.2
      simp only [ints, List.map_eq_nil_iff] at this
      exact absurd this hn0
    | some Fn =>
      rcases hmu with ⟨bn, off, pn, cs, f, _, hv, hg, hf, hs, hx, _⟩ | ⟨_, _, _, _, _, hz, _⟩
      · rcases hv with ⟨m, full, hv, hm, _⟩ | ⟨hz, _⟩
        · simp only [ints, List.length_map, Nat.mul_one] at hm hx
          subst hm
          exact ⟨bn, off, full, Fn, pn, cs, f, hv, hg, hf, hs, by simpa [ints] using hx⟩
        · cases hz
      · cases hz
  obtain ⟨bn, off, full, Fn, pn, cs, f, hvn, hgn, hfn, hsee, hcut⟩ := hrow
  have hne : h.next ≠ bn := by rintro rfl; rw [hgI] at hgn; cases hgn
  have hneM : bm ≠ bn := by rintro rfl; rw [hgM] at hgn; cases hgn
  have hneI : bm ≠ h.next := by have := AHeap.get_lt hgm; omega
  have hIlt := AHeap.get_lt hgI
  have hnlt := AHeap.get_lt hgn
  have hFlt := AHeap.fam_lt hfn
  have hcl : off + ns.length ≤ cs.length := by
    have h2 := congrArg List.length hcut
    have h3 := List.length_pos_iff.2 hn0
    simp only [List.length_take, List.length_drop, ints, List.length_map] at h2
    omega
  let HS : List Nat → AHeap := fun D => hpush h1 h.next h.nfam bm (entB E).length bn Fn pn cs off f D (ints (bumps E ns D))
  have hbl : ∀ D, (bumps E ns D).length = ns.length := fun D => bumps_len E D ns
  have hH0 : HS [] = h1 := hpush_nil hgI hgn hfn (by simpa [bumps] using hcut)
  have hgetI : ∀ D, (HS D).get h.next = some (.obj h.nfam (.mwalk bm (entB E).length D)) := fun D => by
    show (hpush _ _ _ _ _ _ _ _ _ _ _ _ _).get _ = _
    rw [hpush_get _ hIlt hnlt, if_neg hne, if_pos rfl]
  have hgetM : ∀ D, (HS D).get bm = some (.obj Fm (.map (entB E))) := fun D => by
    show (hpush _ _ _ _ _ _ _ _ _ _ _ _ _).get _ = _
    rw [hpush_get _ hIlt hnlt, if_neg hneM, if_neg hneI]; exact hgM
  have hgetN : ∀ D, (HS D).get bn = some (.cells (some Fn) pn (putL cs off (ints (bumps E ns D)))) := fun D => by
    show (hpush _ _ _ _ _ _ _ _ _ _ _ _ _).get _ = _
    rw [hpush_get _ hIlt hnlt, if_pos rfl]
  have hfamN : ∀ D, (HS D).fam Fn = some (if D = [] then f else { f with live := some [bn] }) := fun D => hpush_fam hFlt
  -- the iterator moves on
  have hmove : ∀ (D : List Nat) (j : Nat), St h0 (HS D) (⟨.it h.next, 0, Thing.enc (.mwalk bm (entB E).length D), false⟩ :: ⟨pf, 0, [a0, a1, vn], tf⟩ :: ⟨vn, 1, ints (bumps E ns D), tn⟩ :: mapO vm (entB E) :: G) →
      St h0 ((HS D).set h.next (.obj h.nfam (.mwalk bm (entB E).length (D ++ [j])))) (⟨.it h.next, 0, Thing.enc (.mwalk bm (entB E).length (D ++ [j])), false⟩ :: ⟨pf, 0, [a0, a1, vn], tf⟩ :: ⟨vn, 1, ints (bumps E ns D), tn⟩ :: mapO vm (entB E) :: G) := by
    intro D j hD
    refine St.setT (k := 0) hD rfl (x := .mwalk bm (entB E).length D) (x' := .mwalk bm (entB E).length (D ++ [j])) (fun _ => rfl) rfl (hgetI D) ?_
    intro F hmu
    cases F with
    | none => cases hmu.1
    | some F =>
      rcases hmu with ⟨b, o, p, c, f', _, hv, _⟩ | ⟨b, x, f', hlo, hv, _, hg, hf, _⟩
      · rcases hv with ⟨_, _, hv, _⟩ | ⟨_, hv⟩ <;> cases hv
      · have hbb : h.next = b := by cases x <;> first | exact AV.it.inj hv | cases hv
        subst hbb
        rw [hgetI D] at hg
        cases hg
        exact ⟨rfl, hlo, f', hf⟩
  have hput : ∀ (xs : List AV) (w : Nat) (x : AV), w < xs.length → off + xs.length ≤ cs.length → putL (putL cs off xs) (off + w) [x] = putL cs off (xs.set w x) := by
    intro xs w x hw hc
    have hl : (putL cs off xs).length = cs.length := putL_length _ _ _ hc
    have hl2 : (putL cs off (xs.set w x)).length = cs.length := putL_length _ _ _ (by rw [List.length_set]; exact hc)
    rw [putL_one _ _ _ (by omega)]
    unfold putL
    have e1 : (cs.take off).length = off := by rw [List.length_take]; omega
    rw [List.append_assoc, List.append_assoc, List.set_append_right _ _ (by omega), e1, Nat.add_sub_cancel_left, List.set_append_left _ _ hw, List.length_set]
  have hints : ∀ (l : List Int) (w : Nat) (c : Int), (ints l).set w (.int .i64 c) = ints (l.set w c) := fun l w c => by simp [ints, List.map_set]
  have hbump : ∀ (D : List Nat) (j : Nat) (w : Int) (m : Bool), E[j]? = some (w, m) → bumps E ns (D ++ [j]) = (bumps E ns D).set w.toNat ((bumps E ns D).getD w.toNat 0 + if m then 1 else -1) := by
    intro D j w m hj
    rw [bumps_snoc, bump, hj]
  have hstore : ∀ (D : List Nat) (j : Nat) (w : Int) (m : Bool), E[j]? = some (w, m) → astore Go.Proofs.Try.prog ((HS D).set h.next (.obj h.nfam (.mwalk bm (entB E).length (D ++ [j])))) 3 (.ptr bn (off + w.toNat)) (.int .i64 ((bumps E ns D).getD w.toNat 0 + if m then 1 else -1)) = some (.tup [], HS (D ++ [j])) := by
    intro D j w m hj
    have hwl := hE _ (List.mem_of_getElem? hj)
    dsimp only at hwl
    have hg : ((HS D).set h.next (.obj h.nfam (.mwalk bm (entB E).length (D ++ [j])))).get bn = some (.cells (some Fn) pn (putL cs off (ints (bumps E ns D)))) := by
      rw [AHeap.get_set, if_neg (by rintro ⟨rfl, _⟩; exact hne rfl)]; exact hgetN D
    have hf : ((HS D).set h.next (.obj h.nfam (.mwalk bm (entB E).length (D ++ [j])))).fam Fn = some (if D = [] then f else { f with live := some [bn] }) := hfamN D
    have hlp : (putL cs off (ints (bumps E ns D))).length = cs.length := putL_length _ _ _ (by simpa [ints, hbl D] using hcl)
    have hsz : szA Go.Proofs.Try.prog 3 = some 1 := ScT.sz
    have hval : ((HS D).set h.next (.obj h.nfam (.mwalk bm (entB E).length (D ++ [j])))).valid bn = true := by
      unfold AHeap.valid
      rw [hg]
      simp only [hf]
      by_cases hD : D = []
      · rw [if_pos hD]; exact hsee
      · rw [if_neg hD]; simp [Fam.sees]
    simp only [astore, hg, hf, hsz, AV.cells?, AV.one, if_true, Option.bind_eq_bind, Option.bind_some]
    rw [if_pos ⟨hval, rfl, by rw [hlp]; simp only [List.length_singleton]; omega⟩]
    refine congrArg (fun q => some (AV.tup [], q)) ?_
    refine hpush_step hne (by simp) ?_ ?_
    · rw [hput _ _ _ (by simp only [ints, List.length_map, hbl]; omega) (by simpa [ints, hbl D] using hcl), hints, hbump D j w m hj]
    · by_cases hD : D = []
      · rw [if_pos hD]
      · rw [if_neg hD]
  have hEj : ∀ j, j < (entB E).length → ∃ w m, E[j]? = some (w, m) := fun j hj => ⟨_, _, List.getElem?_eq_getElem (by omega)⟩
  have hSt : ∀ (k : Nat) (D : List Nat), D.length = k → (∀ j ∈ D, j < (entB E).length) → St h0 (HS D) (⟨.it h.next, 0, Thing.enc (.mwalk bm (entB E).length D), false⟩ :: ⟨pf, 0, [a0, a1, vn], tf⟩ :: ⟨vn, 1, ints (bumps E ns D), tn⟩ :: mapO vm (entB E) :: G) := by
    intro k
    induction k with
    | zero =>
      intro D hD _
      obtain rfl := List.length_eq_zero_iff.1 hD
      rw [hH0]
      exact hS1
    | succ k ih =>
      intro D hD hin
      rcases List.eq_nil_or_concat D with rfl | ⟨D', j, rfl⟩
      · cases hD
      · rw [List.concat_eq_append] at hD hin ⊢
        have hD' := ih D' (by simpa using hD) (fun i hi => hin i (by simp [hi]))
        obtain ⟨w, m, hj⟩ := hEj j (hin j (by simp))
        have hwl := hE _ (List.mem_of_getElem? hj)
        dsimp only at hwl
        have hm := hmove D' j hD'
        obtain ⟨h', e1, e2⟩ := St.store (P := Go.Proofs.Try.prog) (t := 3) hm (k := 2) rfl (p := .ptr bn (off + w.toNat)) (y := .int .i64 ((bumps E ns D').getD w.toNat 0 + if m then 1 else -1)) (j := w.toNat) (l := [.int .i64 ((bumps E ns D').getD w.toNat 0 + if m then 1 else -1)]) ⟨bn, off, .inl ⟨Nat.one_pos, _, _, hvn⟩, rfl⟩ rfl ScT.sz (by simp) (by simp only [ints, List.length_map, hbl, List.length_singleton]; omega)
        rw [hstore D' j w m hj] at e1
        simp only [Option.some.injEq, Prod.mk.injEq, true_and] at e1
        subst e1
        simp only [List.set_cons_succ, List.set_cons_zero] at e2
        rw [putL_one _ _ _ (by simp only [ints, List.length_map, hbl]; omega), hints, ← hbump D' j w m hj] at e2
        exact e2
  have hmap : mapA Go.Proofs.Try.prog 114 = some (3, 4) := by kernel_rfl
  refine KA.fn 32 [] Go.Proofs.Try.func54 rfl (by decide) rfl rfl (Nat.le_of_ble_eq_true rfl) ?_
  show KA _ 32 _ _ [(0, pf), (1, vm)] _
  refine KA.seq ?_
  refine KA.region rfl ?_
  refine KOps.move ?_
  refine KOps.stepT (mrange_step rfl hmap (EvK.eq.trans hvm') hgm) ?_
  refine KOps.done ?_
  refine sqQ.normal ?_
  refine KA.block ?_
  rw [hh1]
  refine KA.mapLoop (b := h.next) (F := h.nfam) (bm := bm) (Fm := Fm) (es := entB E) (id := 0) (fun D => [(0, pf), (7, .it h.next)]) HS (KE := []) (HE := (HS (List.range (entB E).length)).set h.next (.obj h.nfam .gone)) rfl (fun _ _ => EvK.eq) (fun D _ => hgetI D) (fun D _ => hgetM D) ?_ ?_ (Sub.cons Look.eq (Sub.cons Look.eq (Sub.nil _))) hH0.symm ?_
  · intro D j k v hD hj hjk
    have hjl := (List.getElem?_eq_some_iff.1 hjk).1
    obtain ⟨w, m, hw⟩ := hEj j hjl
    have hkv : k = .int .i64 w ∧ v = .bool m := by
      simp only [entB, entL, List.getElem?_map, hw, Option.map_some, Option.some.injEq, Prod.mk.injEq] at hjk
      exact ⟨hjk.1.symm, hjk.2.symm⟩
    obtain ⟨rfl, rfl⟩ := hkv
    have hwl := hE _ (List.mem_of_getElem? hw)
    dsimp only at hwl
    have hSt' := hmove D j (hSt D.length D rfl hD.2)
    have hst := hstore D j w m hw
    have hDl : D.length ≤ 1000000000 := by
      have := nodup_sub_le (m := List.range (entB E).length) hD.1 (fun x hx => List.mem_range.2 (hD.2 x hx))
      rw [List.length_range] at this
      omega
    have hbd := bumps_bound (E := E) 1000000000 D ns hb ((bumps E ns D).getD w.toNat 0) (by
      rw [List.getD_eq_getElem?_getD, List.getElem?_eq_getElem (by rw [hbl]; omega)]
      exact List.getElem_mem _)
    have hgI' : ((HS D).set h.next (.obj h.nfam (.mwalk bm (entB E).length (D ++ [j])))).get h.next = some (.obj h.nfam (.mwalk bm (entB E).length (D ++ [j]))) := by
      rw [AHeap.get_set, if_pos ⟨rfl, AHeap.get_lt (hgetI D)⟩]
    have hgM' : ((HS D).set h.next (.obj h.nfam (.mwalk bm (entB E).length (D ++ [j])))).get bm = some (.obj Fm (.map (entB E))) := by
      rw [AHeap.get_set, if_neg (by rintro ⟨h3, _⟩; exact hneI h3)]; exact hgetM D
    refine KOps.extract ?_
    refine KOps.done ?_
    refine KA.seq ?_
    refine KA.condT ?_
    refine KA.skip ?_
    refine sqQ.normal ?_
    refine KA.block ?_
    refine KA.seq ?_
    refine KA.region rfl ?_
    refine KOps.stepT (mentry_step rfl EvK.eq hgI' hgM' hjk) ?_
    refine KOps.extract ?_
    refine KOps.extract ?_
    refine KOps.assign ?_
    refine KOps.assign ?_
    refine KOps.done ?_
    refine sqQ.normal ?_
    refine KA.seq ?_
    refine KA.region rfl ?_
    refine KOps.move ?_
    refine KOps.done ?_
    refine sqQ.normal ?_
    cases m with
    | true =>
      refine KA.condT ?_
      · skip
        refine KA.region rfl ?_
        refine KOps.move ?_
        refine KOps.nilP hpf ?_
        refine KOps.fieldAddr hpf ?_
        intro p16 hp16
        refine KOps.load hp16 (hSt'.rd 1 rfl) rfl ?_
        refine KOps.move ?_
        refine KOps.indexIJ (hSt'.rd 2 rfl) (j := w.toNat) (by omega) (by rw [hbl]; omega) ?_
        intro q hq
        refine KOps.loadI hq (hSt'.rd 2 rfl) (by rw [hbl]; omega) ?_
        refine KOps.add (by omega) (by omega) ?_
        refine KOps.indexIJ (hSt'.rd 2 rfl) (j := w.toNat) (by omega) (by rw [hbl]; omega) ?_
        intro q2 hq2
        obtain ⟨bq, oq, hq3, rfl⟩ := hq2
        rcases hq3 with ⟨_, _, _, hq4⟩ | ⟨hq4, _⟩
        rotate_left
        · cases hq4
        rw [hvn] at hq4
        cases hq4
        refine KOps.storeE rfl (h' := HS (D ++ [j])) ?_ ?_
        · exact hst
        refine KOps.done ?_
        refine blQ.normal ?_
        exact ⟨rfl, Sub.cons Look.eq (Sub.cons Look.eq (Sub.nil _)), rfl⟩
    | false =>
      refine KA.condF ?_
      · skip
        refine KA.region rfl ?_
        refine KOps.move ?_
        refine KOps.nilP hpf ?_
        refine KOps.fieldAddr hpf ?_
        intro p25 hp25
        refine KOps.load hp25 (hSt'.rd 1 rfl) rfl ?_
        refine KOps.move ?_
        refine KOps.indexIJ (hSt'.rd 2 rfl) (j := w.toNat) (by omega) (by rw [hbl]; omega) ?_
        intro q hq
        refine KOps.loadI hq (hSt'.rd 2 rfl) (by rw [hbl]; omega) ?_
        refine KOps.sub (by omega) (by omega) ?_
        refine KOps.indexIJ (hSt'.rd 2 rfl) (j := w.toNat) (by omega) (by rw [hbl]; omega) ?_
        intro q2 hq2
        obtain ⟨bq, oq, hq3, rfl⟩ := hq2
        rcases hq3 with ⟨_, _, _, hq4⟩ | ⟨hq4, _⟩
        rotate_left
        · cases hq4
        rw [hvn] at hq4
        cases hq4
        refine KOps.storeE rfl (h' := HS (D ++ [j])) ?_ ?_
        · rw [show (bumps E ns D).getD w.toNat 0 - 1 = (bumps E ns D).getD w.toNat 0 + -1 from rfl]; exact hst
        refine KOps.done ?_
        refine blQ.normal ?_
        exact ⟨rfl, Sub.cons Look.eq (Sub.cons Look.eq (Sub.nil _)), rfl⟩
  · intro D hD hf
    have hperm : D.Perm (List.range (entB E).length) := (List.perm_ext_iff_of_nodup hD.1 List.nodup_range).2 fun i => ⟨fun hi => List.mem_range.2 (hD.2 i hi), fun hi => hf i (List.mem_range.1 hi)⟩
    refine KOps.extract ?_
    refine KOps.done ?_
    refine KA.seq ?_
    refine KA.condF ?_
    refine KA.exit ?_
    refine sqQ.exit ?_
    refine ⟨rfl, Sub.nil _, ⟨_, hgetI D⟩, ?_⟩
    show (hpush _ _ _ _ _ _ _ _ _ _ _ D _).set _ _ = (hpush _ _ _ _ _ _ _ _ _ _ _ _ _).set _ _
    rw [bumps_perm hperm ns]
    refine hpush_gone hne ⟨fun h3 => ?_, fun h3 => ?_⟩
    · subst h3; exact (List.nil_perm.1 hperm)
    · rw [h3] at hperm; exact List.perm_nil.1 hperm
  · refine blQ.here ?_
    refine fnQ.norm0 ?_
    have h3 := hSt _ (List.range (entB E).length) (List.length_range) (fun i hi => List.mem_range.1 hi)
    have h4 : St h0 ((HS (List.range (entB E).length)).set h.next (.obj h.nfam .gone)) (⟨.it h.next, 0, Thing.enc .gone, false⟩ :: ⟨pf, 0, [a0, a1, vn], tf⟩ :: ⟨vn, 1, ints (bumps E ns (List.range (entB E).length)), tn⟩ :: mapO vm (entB E) :: G) := by
      refine St.setT (k := 0) h3 rfl (x := .mwalk bm (entB E).length (List.range (entB E).length)) (x' := .gone) (fun _ => rfl) rfl (hgetI _) ?_
      intro F hmu
      cases F with
      | none => cases hmu.1
      | some F =>
        rcases hmu with ⟨b, o, p, c, f', _, hv, _⟩ | ⟨b, x, f', hlo, hv, _, hg, hf, _⟩
        · rcases hv with ⟨_, _, hv, _⟩ | ⟨_, hv⟩ <;> cases hv
        · have hbb : h.next = b := by cases x <;> first | exact AV.it.inj hv | cases hv
          subst hbb
          rw [hgetI] at hg
          cases hg
          exact ⟨rfl, hlo, f', hf⟩
    rw [← hlen]
    exact St.tail h4
end Go.Am


namespace Go.Am
section
variable {r : Int} {ws : List W} {n : List Int} {A : Nat → Bool} {u : Int} {M : List (Int × Stp)} {P Q : List Int}
theorem Bfs.step {v x : Int} {i : Nat} {more : Bool} {Qt : List Int} (b : Bfs r ws n A u M P (v :: Qt)) (s : StepOK ws n A v x i more) (h0 : 0 ≤ x) (h1 : x < r) :
    ∃ Qt', putQ M (v :: Qt) x = v :: Qt' ∧ Bfs r ws n A u (putM M x ⟨i, v, more⟩) P (v :: Qt') ∧ (∀ y, y ∈ P ++ v :: Qt → y ∈ P ++ v :: Qt') ∧ x ∈ P ++ v :: Qt' := by
  unfold putQ putM
  by_cases hx : (mget M x).isSome = true
  · rw [if_pos hx, if_pos hx]
    exact ⟨Qt, rfl, b, fun y hy => hy, (b.has x).1 hx⟩
  · rw [if_neg hx, if_neg hx]
    have hm : x ∉ P ++ v :: Qt := fun h => hx ((b.has x).2 h)
    refine ⟨Qt ++ [x], rfl, ?_, ?_, ?_⟩
    · exact b.put (by simp) s h0 h1 hm
    · intro y hy
      have : P ++ v :: (Qt ++ [x]) = (P ++ v :: Qt) ++ [x] := by simp
      rw [this]; exact List.mem_append_left _ hy
    · simp
theorem Seen.succ {v : Int} {K : List Int} {i : Nat} (h : Seen ws n A v K i) (h1 : A i = true → (ws.getD i default).f = v → n.getD i 0 < (ws.getD i default).m → (ws.getD i default).t ∈ K) (h2 : A i = true → (ws.getD i default).t = v → (ws.getD i default).l < n.getD i 0 → (ws.getD i default).f ∈ K) : Seen ws n A v K (i + 1) := by
  intro j hj hA
  rcases Nat.lt_succ_iff_lt_or_eq.1 hj with h3 | rfl
  · exact h j h3 hA
  · exact ⟨h1 hA, h2 hA⟩
end

theorem path_c {h : AHeap} {r : Nat} {u z : Int} {pf vW vn : AV} {ws : List W} {n : List Int} {A : Nat → Bool} {fa : FuncId} {caps : List AV} (hpf : AddrOf pf pf 0 0) (hf : Rd h pf 0 [.int .i64 (r : Int), vW, vn]) (hv : Rd h vW 4 (flr wc ws)) (hn : Row h vn n) (hB : BOk (r : Int) ws) (hl : n.length = ws.length) (hu0 : 0 ≤ u) (hu1 : u < r)
    (hA : ∀ (h' : AHeap) (k : Nat), Keeps h h' → k < ws.length → ACalls Go.Proofs.Try.prog fa ([.int .i64 (k : Int)] ++ caps) h' (fun q h2 => q = .bool (A k) ∧ h' = h2)) : ACalls Go.Proofs.Try.prog 53 [pf, .int .i64 u, .int .i64 z, .fn fa caps] h (fun q h' => ∃ b G, q.mapNil = some b ∧ St h h' G ∧ (b = true → ¬ ∃ vs E, Path ws n A u vs z E) ∧ (b = false → ∃ vs E, Path ws n A u vs z E ∧ G = [mapO q (entB E)])) := by
  refine KA.fn 115 [.tmp 8] Go.Proofs.Try.func53 rfl (by decide) rfl rfl (Nat.le_of_ble_eq_true rfl) ?_
  have hS := St.refl h
  have hr6 := hB.r6
  have hwl := hB.len
  show KA _ 115 _ _ [(0, pf), (1, .int .i64 u), (2, .int .i64 z), (3, .fn fa caps)] _
  refine KA.seq ?_
  refine KA.region rfl ?_
  refine KOps.assign ?_
  refine KOps.done ?_
  refine sqQ.normal ?_
  refine KA.sub (Sub.cons (t := 0) Look.eq (Sub.cons (t := 1) Look.eq (Sub.cons (t := 2) Look.eq (Sub.cons (t := 3) Look.eq (Sub.nil _))))) ?_
  refine KA.seq ?_
  refine KA.region rfl ?_
  refine KOps.makeMap hS rfl ?_
  intro v17 h' hv17 hS
  refine KOps.move ?_
  refine KOps.buildS1 (z0 := .int .i64 0) (z1 := .int .i64 0) (z2 := .bool false) (by kernel_rfl) (by rfl) (by kernel_rfl) (by kernel_rfl) (by first | rfl | assumption) ?_
  refine KOps.insertK (kf := AV.int .i64) (vf := stA) (l := []) (i := 0) (b := ⟨-1, 0, false⟩) EvK.eq rfl hS hv17 rfl rfl ?_
  intro h' hS
  simp only [List.set_cons_zero, List.set_cons_succ, Nat.zero_add] at hS
  refine KOps.move ?_
  refine KOps.alloc hS ?_
  intro p9 h' hp9 hS
  refine KOps.storeBox hS rfl (i := 0) rfl hp9 (by first | rfl | assumption | exact St.one hS (k := 1) rfl) ?_
  intro h' hS
  refine KOps.done ?_
  refine sqQ.normal ?_
  refine KA.sub (Sub.cons (t := 0) Look.eq (Sub.cons (t := 1) Look.eq (Sub.cons (t := 2) Look.eq (Sub.cons (t := 3) Look.eq (Sub.cons (t := 9) Look.eq (Sub.nil _)))))) ?_
  refine KA.seq ?_
  refine KA.seq ?_
  refine KA.region rfl ?_
  refine KOps.move ?_
  refine KOps.buildSlice hS rfl (by decide) rfl ?_
  intro v22 h' hS
  refine KOps.alloc hS ?_
  intro p10 h' hp10 hS
  refine KOps.storeBox hS rfl (i := 0) rfl hp10 (by first | rfl | assumption | exact St.one hS (k := 1) rfl) ?_
  intro h' hS
  refine KOps.done ?_
  refine sqQ.normal ?_
  refine KA.sub (Sub.cons (t := 0) Look.eq (Sub.cons (t := 1) Look.eq (Sub.cons (t := 2) Look.eq (Sub.cons (t := 3) Look.eq (Sub.cons (t := 9) Look.eq (Sub.cons (t := 10) Look.eq (Sub.nil _))))))) ?_
  refine KA.block ?_
  refine KA.loop (X := List (Int × Stp) × List Int × List Int × AV × Bool × AV) (fun x => [(0, pf), (1, .int .i64 u), (2, .int .i64 z), (3, .fn fa caps), (9, p9), (10, x.2.2.2.2.2)]) (fun x h' => Bfs (r : Int) ws n A u x.1 x.2.1 x.2.2.1 ∧ z ∉ x.2.1 ∧ AddrOf x.2.2.2.2.2 x.2.2.2.2.2 0 0 ∧ St h h' [⟨x.2.2.2.2.2, 0, [x.2.2.2.1], true⟩, ⟨x.2.2.2.1, 1, ints x.2.2.1, x.2.2.2.2.1⟩, ⟨p9, 0, [v17], true⟩, mapO v17 (entS x.1)]) (fun x => r - x.2.1.length) ([(u, ⟨-1, 0, false⟩)], [], [u], v22, true, p10) (by repeat (first | exact Sub.nil _ | refine Sub.cons Look.eq ?_ | refine Sub.cons (Eq.trans Look.eq (congrArg (AV.int _) (by first | omega | (dsimp only; omega)))) ?_)) ?_ ?_
  · exact ⟨Bfs.init hu0 hu1 _, by simp, hp10, hS⟩
  rintro ⟨M, P, Q, vq, tq, pq⟩ h2 ⟨hb, hz, hpq, hS⟩
  dsimp only at hb hz hpq hS ⊢
  refine KA.seq ?_
  refine KA.seq ?_
  refine KA.region rfl ?_
  refine KOps.loadBox hS (i := 0) rfl hpq ?_
  refine KOps.lenI (hS.rd 1 rfl) ?_
  refine KOps.gtr ?_
  refine KOps.done ?_
  refine sqQ.normal ?_
  refine KA.sub (Sub.cons (t := 0) Look.eq (Sub.cons (t := 1) Look.eq (Sub.cons (t := 2) Look.eq (Sub.cons (t := 3) Look.eq (Sub.cons (t := 9) Look.eq (Sub.cons (t := 10) Look.eq (Sub.cons (t := 25) Look.eq (Sub.nil _)))))))) ?_
  refine KA.condD ?_ ?_
  · intro c25
    obtain ⟨v, Qt, rfl⟩ : ∃ v Qt, Q = v :: Qt := by
      cases Q with
      | nil => simp at c25
      | cons v Qt => exact ⟨v, Qt, rfl⟩
    refine KA.skip ?_
    refine sqQ.normal ?_
    refine KA.sub (Sub.cons (t := 0) Look.eq (Sub.cons (t := 1) Look.eq (Sub.cons (t := 2) Look.eq (Sub.cons (t := 3) Look.eq (Sub.cons (t := 9) Look.eq (Sub.cons (t := 10) Look.eq (Sub.nil _))))))) ?_
    refine KA.seq ?_
    refine KA.block ?_
    refine KA.seq ?_
    refine KA.region rfl ?_
    refine KOps.loadBox hS (i := 0) rfl hpq ?_
    refine KOps.indexIJ (hS.rd 1 rfl) (j := 0) rfl (by first | omega | (simp; omega)) ?_
    intro p29 hp29
    refine KOps.loadI hp29 (hS.rd 1 rfl) (by first | omega | (simp; omega)) ?_
    show KOps _ _ _ _ _ _ _ ((30, .int .i64 v) :: _) _
    refine KOps.alloc hS ?_
    intro p11 h' hp11 hS
    refine KOps.storeBox hS rfl (i := 0) rfl hp11 (by first | rfl | assumption) ?_
    intro h' hS
    refine KOps.done ?_
    refine sqQ.normal ?_
    refine KA.sub (Sub.cons (t := 0) Look.eq (Sub.cons (t := 1) Look.eq (Sub.cons (t := 2) Look.eq (Sub.cons (t := 3) Look.eq (Sub.cons (t := 9) Look.eq (Sub.cons (t := 10) Look.eq (Sub.cons (t := 11) Look.eq (Sub.nil _)))))))) ?_
    refine KA.seq ?_
    refine KA.seq ?_
    refine KA.region rfl ?_
    refine KOps.loadBox hS (i := 0) rfl hp11 ?_
    refine KOps.move ?_
    refine KOps.eql ?_
    refine KOps.done ?_
    refine sqQ.normal ?_
    refine KA.sub (Sub.cons (t := 0) Look.eq (Sub.cons (t := 1) Look.eq (Sub.cons (t := 2) Look.eq (Sub.cons (t := 3) Look.eq (Sub.cons (t := 9) Look.eq (Sub.cons (t := 10) Look.eq (Sub.cons (t := 11) Look.eq (Sub.cons (t := 33) Look.eq (Sub.nil _))))))))) ?_
    refine KA.condD ?_ ?_
    · intro c33
      subst c33
      obtain ⟨vs, E0, hp, htr, -⟩ := hb.tr v (by simp)
      refine KA.seq ?_
      refine KA.region rfl ?_
      refine KOps.makeMap hS rfl ?_
      intro v34 h' hv34 hS
      refine KOps.assign ?_
      refine KOps.done ?_
      refine sqQ.normal ?_
      refine KA.sub (Sub.cons (t := 1) Look.eq (Sub.cons (t := 9) Look.eq (Sub.cons (t := 11) Look.eq (Sub.cons (t := 12) Look.eq (Sub.nil _))))) ?_
      refine KA.seq ?_
      refine KA.block ?_
      refine KA.loop (X := Int × List (Int × Bool) × List (Int × Bool)) (fun y => [(1, .int .i64 u), (9, p9), (11, p11), (12, v34)]) (fun y h' => Trl M u y.1 y.2.2 ∧ y.2.1 ++ y.2.2 = E0 ∧ St h h' [mapO v34 (entB y.2.1), ⟨p11, 0, [.int .i64 y.1], true⟩, ⟨pq, 0, [vq], true⟩, ⟨vq, 1, ints (v :: Qt), tq⟩, ⟨p9, 0, [v17], true⟩, mapO v17 (entS M)]) (fun y => y.2.2.length) (v, [], E0) (by repeat (first | exact Sub.nil _ | refine Sub.cons Look.eq ?_ | refine Sub.cons (Eq.trans Look.eq (congrArg (AV.int _) (by first | omega | (dsimp only; omega)))) ?_)) ?_ ?_
      · exact ⟨htr, rfl, hS⟩
      rintro ⟨cur, done, E1⟩ h5 ⟨htc, he, hS⟩
      dsimp only at htc he hS ⊢
      refine KA.seq ?_
      refine KA.seq ?_
      refine KA.region rfl ?_
      refine KOps.loadBox hS (i := 1) rfl hp11 ?_
      refine KOps.move ?_
      refine KOps.neq ?_
      refine KOps.done ?_
      refine sqQ.normal ?_
      refine KA.sub (Sub.cons (t := 1) Look.eq (Sub.cons (t := 9) Look.eq (Sub.cons (t := 11) Look.eq (Sub.cons (t := 12) Look.eq (Sub.cons (t := 37) Look.eq (Sub.nil _)))))) ?_
      refine KA.condN ?_ ?_
      · intro c37
        refine KA.skip ?_
        refine sqQ.normal ?_
        refine KA.sub (Sub.cons (t := 1) Look.eq (Sub.cons (t := 9) Look.eq (Sub.cons (t := 11) Look.eq (Sub.cons (t := 12) Look.eq (Sub.nil _))))) ?_
        refine KA.block ?_
        refine KA.seq ?_
        refine KA.region rfl ?_
        obtain ⟨s, E2, hm, rfl, ht2⟩ := htc.go c37
        refine KOps.loadBox hS (i := 4) rfl hp9 ?_
        refine KOps.loadBox hS (i := 1) rfl hp11 ?_
        refine KOps.lookupS (kf := AV.int .i64) (vf := stA) EvK.eq (St.rdM hS 5 rfl hv17) rfl hm ?_
        refine KOps.alloc hS ?_
        intro p13 h' hp13 hS
        refine KOps.storeAll hS rfl (i := 0) rfl hp13 (by first | rfl | (simp [AV.one]; done) | (simp [AV.one]; assumption) | (simp [AV.one, *]; done)) (by rfl) (by rfl) (by decide) ?_
        intro h' hS
        simp only [List.set_cons_zero, List.set_cons_succ, Nat.zero_add] at hS
        refine KOps.done ?_
        refine sqQ.normal ?_
        refine KA.sub (Sub.cons (t := 1) Look.eq (Sub.cons (t := 9) Look.eq (Sub.cons (t := 11) Look.eq (Sub.cons (t := 12) Look.eq (Sub.cons (t := 13) Look.eq (Sub.nil _)))))) ?_
        refine KA.seq ?_
        refine KA.region rfl ?_
        refine KOps.move ?_
        refine KOps.fieldAddr hp13 ?_
        intro p42 hp42
        refine KOps.load hp42 (hS.rd 0 rfl) rfl ?_
        refine KOps.fieldAddr hp13 ?_
        intro p44 hp44
        refine KOps.load hp44 (hS.rd 0 rfl) rfl ?_
        refine KOps.mapPutK (kf := AV.int .i64) (vf := AV.bool) (l := done) (i := 1) (b := s.b) EvK.eq rfl hS hv34 rfl rfl ?_
        intro h' hS
        simp only [List.set_cons_zero, List.set_cons_succ, Nat.zero_add] at hS
        refine KOps.done ?_
        refine sqQ.normal ?_
        refine KA.sub (Sub.cons (t := 1) Look.eq (Sub.cons (t := 9) Look.eq (Sub.cons (t := 11) Look.eq (Sub.cons (t := 12) Look.eq (Sub.cons (t := 13) Look.eq (Sub.nil _)))))) ?_
        refine KA.region rfl ?_
        refine KOps.fieldAddr hp13 ?_
        intro p46 hp46
        refine KOps.load hp46 (hS.rd 0 rfl) rfl ?_
        refine KOps.storeBox hS rfl (i := 2) rfl hp11 (by first | rfl | assumption) ?_
        intro h' hS
        refine KOps.done ?_
        refine blQ.normal ?_
        have hk : (s.w) ∉ done.map (·.1) := by
          have := hp.keys
          rw [← he, List.map_append, List.map_cons] at this
          exact fun h0 => (List.nodup_append.1 this).2.2 _ h0 _ (List.mem_cons_self ..) rfl
        rw [mput_new hk] at hS
        refine lpQ.normal (s.u, done ++ [(s.w, s.b)], E2) (by repeat (first | exact Sub.nil _ | refine Sub.cons Look.eq ?_ | refine Sub.cons (Eq.trans Look.eq (congrArg (AV.int _) (by first | omega | (dsimp only; omega)))) ?_)) ⟨ht2, by simpa using he, St.tail hS⟩ (by dsimp only; simp)
      · intro c37
        refine KA.exit ?_
        refine sqQ.exit ?_
        refine lpQ.exit ?_
        refine blQ.here ?_
        refine sqQ.normal ?_
        refine KA.sub (Sub.cons (t := 12) Look.eq (Sub.nil _)) ?_
        refine KA.seq ?_
        refine KA.region rfl ?_
        refine KOps.move ?_
        refine KOps.assign ?_
        refine KOps.done ?_
        refine sqQ.normal ?_
        refine KA.sub (Sub.cons (t := 8) Look.eq (Sub.nil _)) ?_
        refine KA.ret ?_
        refine sqQ.ret ?_
        refine blQ.ret ?_
        refine sqQ.ret ?_
        refine lpQ.ret ?_
        refine blQ.ret ?_
        refine sqQ.ret ?_
        refine fnQ.ret1 ?_
        have hcu : cur = u := by omega
        subst hcu
        have hE := htc.stop
        subst hE
        rw [List.append_nil] at he
        subst he
        obtain ⟨bm, rfl⟩ := hv34
        exact ⟨false, [mapO (.mp bm) (entB done)], rfl, St.pick [0] (by decide) rfl hS, fun h0 => absurd h0 (by decide), fun _ => ⟨vs, _, hp, rfl⟩⟩
    · intro c33
      refine KA.skip ?_
      refine sqQ.normal ?_
      refine KA.sub (Sub.cons (t := 0) Look.eq (Sub.cons (t := 1) Look.eq (Sub.cons (t := 2) Look.eq (Sub.cons (t := 3) Look.eq (Sub.cons (t := 9) Look.eq (Sub.cons (t := 10) Look.eq (Sub.cons (t := 11) Look.eq (Sub.nil _)))))))) ?_
      refine KA.seq ?_
      refine KA.region rfl ?_
      refine KOps.makeFunc ?_
      refine KOps.assign ?_
      refine KOps.done ?_
      refine sqQ.normal ?_
      refine KA.sub (Sub.cons (t := 0) Look.eq (Sub.cons (t := 1) Look.eq (Sub.cons (t := 2) Look.eq (Sub.cons (t := 3) Look.eq (Sub.cons (t := 9) Look.eq (Sub.cons (t := 10) Look.eq (Sub.cons (t := 11) Look.eq (Sub.cons (t := 14) Look.eq (Sub.nil _))))))))) ?_
      refine KA.seq ?_
      refine KA.region rfl ?_
      refine KOps.move ?_
      refine KOps.nilP hpf ?_
      refine KOps.fieldAddr hpf ?_
      intro p52 hp52
      refine KOps.fieldAddr hp52 ?_
      intro p53 hp53
      refine KOps.load hp53 (Rd.ext hS.keeps hf) rfl ?_
      refine KOps.lenF wc_len (Rd.ext hS.keeps hv) ?_
      refine KOps.move ?_
      refine KOps.done ?_
      refine sqQ.normal ?_
      refine KA.sub (Sub.cons (t := 0) Look.eq (Sub.cons (t := 1) Look.eq (Sub.cons (t := 2) Look.eq (Sub.cons (t := 3) Look.eq (Sub.cons (t := 9) Look.eq (Sub.cons (t := 10) Look.eq (Sub.cons (t := 11) Look.eq (Sub.cons (t := 14) Look.eq (Sub.cons (t := 54) Look.eq (Sub.cons (t := 55) Look.eq (Sub.cons (t := 56) Look.eq (Sub.nil _)))))))))))) ?_
      refine KA.block ?_
      refine KA.loop (X := Nat × List (Int × Stp) × List Int × AV × Bool) (fun y => [(0, pf), (3, .fn fa caps), (9, p9), (10, pq), (11, p11), (14, .fn 69 [p9, p11, pq]), (1, .int .i64 u), (2, .int .i64 z), (54, vW), (55, .int .i64 (ws.length : Int)), (56, .int .i64 (y.1 : Int))]) (fun y h' => y.1 ≤ ws.length ∧ Bfs (r : Int) ws n A u y.2.1 P (v :: y.2.2.1) ∧ Seen ws n A v (P ++ v :: y.2.2.1) y.1 ∧ St h h' [⟨pq, 0, [y.2.2.2.1], true⟩, ⟨y.2.2.2.1, 1, ints (v :: y.2.2.1), y.2.2.2.2⟩, ⟨p9, 0, [v17], true⟩, mapO v17 (entS y.2.1), ⟨p11, 0, [.int .i64 v], true⟩]) (fun y => ws.length - y.1) (0, M, Qt, vq, tq) (by repeat (first | exact Sub.nil _ | refine Sub.cons Look.eq ?_ | refine Sub.cons (Eq.trans Look.eq (congrArg (AV.int _) (by first | omega | (dsimp only; omega)))) ?_)) ?_ ?_
      · exact ⟨Nat.zero_le _, hb, fun _ h0 => absurd h0 (Nat.not_lt_zero _), St.rot (A := [_]) hS⟩
      rintro ⟨i, M, Qt, vq, tq⟩ h5 ⟨hi, hb, hseen, hS⟩
      dsimp only at hi hb hseen hS ⊢
      refine KA.seq ?_
      refine KA.region rfl ?_
      refine KOps.lss ?_
      refine KOps.done ?_
      refine sqQ.normal ?_
      refine KA.seq ?_
      refine KA.condD ?_ ?_
      · intro c57
        refine KA.skip ?_
        refine sqQ.normal ?_
        refine KA.sub (Sub.cons (t := 0) Look.eq (Sub.cons (t := 1) Look.eq (Sub.cons (t := 2) Look.eq (Sub.cons (t := 3) Look.eq (Sub.cons (t := 9) Look.eq (Sub.cons (t := 10) Look.eq (Sub.cons (t := 11) Look.eq (Sub.cons (t := 14) Look.eq (Sub.cons (t := 54) Look.eq (Sub.cons (t := 55) Look.eq (Sub.cons (t := 56) Look.eq (Sub.nil _)))))))))))) ?_
        refine KA.seq ?_
        refine KA.block ?_
        refine KA.seq ?_
        refine KA.region rfl ?_
        refine KOps.move ?_
        refine KOps.indexF wc_len (Rd.ext hS.keeps hv) (j := i) rfl (by first | omega | (simp; omega)) ?_
        intro p59 hp59
        refine KOps.loadFl wc_len (by decide) hp59 (Rd.ext hS.keeps hv) (by first | omega | (simp; omega)) ?_
        refine KOps.alloc hS ?_
        intro p16 h' hp16 hS
        refine KOps.assign ?_
        refine KOps.storeAll hS rfl (i := 0) rfl hp16 (by rfl) (by rfl) (by rfl) (by decide) ?_
        intro h' hS
        simp only [List.set_cons_zero, List.set_cons_succ, Nat.zero_add] at hS
        have hS9 := St.rot (A := [_]) hS
        clear hS
        have hS := hS9
        clear hS9
        simp only [List.cons_append, List.nil_append] at hS
        refine KOps.done ?_
        refine sqQ.normal ?_
        refine KA.sub (Sub.cons (t := 0) Look.eq (Sub.cons (t := 1) Look.eq (Sub.cons (t := 2) Look.eq (Sub.cons (t := 3) Look.eq (Sub.cons (t := 9) Look.eq (Sub.cons (t := 10) Look.eq (Sub.cons (t := 11) Look.eq (Sub.cons (t := 14) Look.eq (Sub.cons (t := 15) Look.eq (Sub.cons (t := 16) Look.eq (Sub.cons (t := 54) Look.eq (Sub.cons (t := 55) Look.eq (Sub.cons (t := 56) Look.eq (Sub.nil _)))))))))))))) ?_
        refine KA.meet (X := List (Int × Stp) × List Int × AV × Bool) (fun y => [(0, pf), (3, .fn fa caps), (9, p9), (10, pq), (11, p11), (14, .fn 69 [p9, p11, pq]), (1, .int .i64 u), (2, .int .i64 z), (54, vW), (55, .int .i64 (ws.length : Int)), (56, .int .i64 (i : Int)), (15, .int .i64 (i : Int)), (16, p16)]) (fun y h' => Bfs (r : Int) ws n A u y.1 P (v :: y.2.1) ∧ Seen ws n A v (P ++ v :: y.2.1) i ∧ (A i = true → (ws.getD i default).f = v → n.getD i 0 < (ws.getD i default).m → (ws.getD i default).t ∈ P ++ v :: y.2.1) ∧ St h h' [⟨pq, 0, [y.2.2.1], true⟩, ⟨y.2.2.1, 1, ints (v :: y.2.1), y.2.2.2⟩, ⟨p9, 0, [v17], true⟩, mapO v17 (entS y.1), ⟨p11, 0, [.int .i64 v], true⟩, ⟨p16, 0, wc (ws.getD i default), true⟩]) ?_ ?_
        ·
          refine KA.seq ?_
          refine KA.draw [] mixed rfl (by kernel_rfl) ?_
          have hwi := hB.way i (by omega)
          have hwf0 := hwi.f0
          have hwf1 := hwi.f1
          have hwt0 := hwi.t0
          have hwt1 := hwi.t1
          refine KOps.fieldAddr hp16 ?_
          intro p61 hp61
          refine KOps.load hp61 (hS.rd 5 rfl) rfl ?_
          refine KOps.loadBox hS (i := 4) rfl hp11 ?_
          refine KOps.eql ?_
          refine KOps.move ?_
          refine KOps.guardB (dj := 65) rfl rfl true false rfl ?_ ?_
          · intro g65
            have g65 := of_decide_eq_true g65
            refine KOps.move ?_
            refine KOps.guardYes (dj := 65) rfl rfl ?_
            refine KOps.nilP hpf ?_
            refine KOps.guardYes (dj := 65) rfl rfl ?_
            refine KOps.fieldAddr hpf ?_
            intro p68 hp68
            refine KOps.guardYes (dj := 65) rfl rfl ?_
            refine KOps.load hp68 (Rd.ext hS.keeps hf) rfl ?_
            refine KOps.guardYes (dj := 65) rfl rfl ?_
            refine KOps.move ?_
            refine KOps.guardYes (dj := 65) rfl rfl ?_
            refine KOps.indexIJ (Row.ext hS.keeps hn) (j := i) rfl (by first | omega | (simp; omega)) ?_
            intro p71 hp71
            refine KOps.guardYes (dj := 65) rfl rfl ?_
            refine KOps.loadI hp71 (Row.ext hS.keeps hn) (by first | omega | (simp; omega)) ?_
            refine KOps.guardYes (dj := 65) rfl rfl ?_
            refine KOps.fieldAddr hp16 ?_
            intro p73 hp73
            refine KOps.guardYes (dj := 65) rfl rfl ?_
            refine KOps.load hp73 (hS.rd 5 rfl) rfl ?_
            refine KOps.guardYes (dj := 65) rfl rfl ?_
            refine KOps.lss ?_
            refine KOps.pickT ?_
            refine KOps.move ?_
            refine KOps.guardB (dj := 77) rfl rfl true false rfl ?_ ?_
            · intro g77
              have g77 := of_decide_eq_true g77
              refine KOps.move ?_
              refine KOps.guardYes (dj := 77) rfl rfl ?_
              refine KOps.move ?_
              refine KOps.guardYes (dj := 77) rfl rfl ?_
              refine KOps.call rfl (hA _ i hS.keeps (by omega)) ?_
              rintro _ _ ⟨rfl, rfl⟩
              refine KOps.pickT ?_
              refine KOps.done ?_
              refine sqQ.normal ?_
              refine KA.sub (Sub.cons (t := 0) Look.eq (Sub.cons (t := 1) Look.eq (Sub.cons (t := 2) Look.eq (Sub.cons (t := 3) Look.eq (Sub.cons (t := 9) Look.eq (Sub.cons (t := 10) Look.eq (Sub.cons (t := 11) Look.eq (Sub.cons (t := 14) Look.eq (Sub.cons (t := 15) Look.eq (Sub.cons (t := 16) Look.eq (Sub.cons (t := 54) Look.eq (Sub.cons (t := 55) Look.eq (Sub.cons (t := 56) Look.eq (Sub.cons (t := 66) Look.eq (Sub.cons (t := 67) Look.eq (Sub.cons (t := 68) Look.eq (Sub.cons (t := 69) Look.eq (Sub.cons (t := 70) Look.eq (Sub.cons (t := 71) Look.eq (Sub.cons (t := 72) Look.eq (Sub.cons (t := 73) Look.eq (Sub.cons (t := 74) Look.eq (Sub.cons (t := 75) Look.eq (Sub.cons (t := 78) Look.eq (Sub.cons (t := 79) Look.eq (Sub.cons (t := 80) Look.eq (Sub.cons (t := 81) Look.eq (Sub.nil _)))))))))))))))))))))))))))) ?_
              refine KA.condB ?_ ?_
              · intro c81
                refine KA.region rfl ?_
                refine KOps.move ?_
                refine KOps.fieldAddr hp16 ?_
                intro p83 hp83
                refine KOps.load hp83 (hS.rd 5 rfl) rfl ?_
                refine KOps.move ?_
                refine KOps.call rfl (put_c (i := (i : Int)) (b := true) (G := [_]) hpq hp9 hp11 hv17 (by have := hb.len (by omega); simp only [List.length_cons] at this ⊢; omega) hS) ?_
                rintro _ h9 ⟨vq2, tq2, hS9⟩
                have hstep : StepOK ws n A v (ws.getD i default).t i true := ⟨by omega, c81, g65, rfl, g77⟩
                obtain ⟨Qt2, eQ, hb2, hsub, hin⟩ := hb.step hstep (by omega) (by omega)
                rw [eQ] at hS9
                clear hS
                have hS := hS9
                clear hS9
                refine KOps.done ?_
                exact mtQ.normal (_, Qt2, vq2, tq2) (by repeat (first | exact Sub.nil _ | refine Sub.cons Look.eq ?_ | refine Sub.cons (Eq.trans Look.eq (congrArg (AV.int _) (by first | omega | (dsimp only; omega)))) ?_)) ⟨hb2, hseen.more hsub, fun _ _ _ => hin, hS⟩
              · intro c81
                refine KA.skip ?_
                exact mtQ.normal (M, Qt, vq, tq) (by repeat (first | exact Sub.nil _ | refine Sub.cons Look.eq ?_ | refine Sub.cons (Eq.trans Look.eq (congrArg (AV.int _) (by first | omega | (dsimp only; omega)))) ?_)) ⟨hb, hseen, fun a _ _ => absurd a (by rw [c81]; decide), hS⟩
            · intro g77
              have g77 := of_decide_eq_false g77
              refine KOps.guardNo (dj := 77) rfl rfl rfl ?_
              refine KOps.guardNo (dj := 77) rfl rfl rfl ?_
              refine KOps.pickF ?_
              refine KOps.done ?_
              refine sqQ.normal ?_
              refine KA.sub (Sub.cons (t := 0) Look.eq (Sub.cons (t := 1) Look.eq (Sub.cons (t := 2) Look.eq (Sub.cons (t := 3) Look.eq (Sub.cons (t := 9) Look.eq (Sub.cons (t := 10) Look.eq (Sub.cons (t := 11) Look.eq (Sub.cons (t := 14) Look.eq (Sub.cons (t := 15) Look.eq (Sub.cons (t := 16) Look.eq (Sub.cons (t := 54) Look.eq (Sub.cons (t := 55) Look.eq (Sub.cons (t := 56) Look.eq (Sub.cons (t := 66) Look.eq (Sub.cons (t := 67) Look.eq (Sub.cons (t := 68) Look.eq (Sub.cons (t := 69) Look.eq (Sub.cons (t := 70) Look.eq (Sub.cons (t := 71) Look.eq (Sub.cons (t := 72) Look.eq (Sub.cons (t := 73) Look.eq (Sub.cons (t := 74) Look.eq (Sub.cons (t := 75) Look.eq (Sub.cons (t := 78) Look.eq (Sub.cons (t := 79) Look.eq (Sub.cons (t := 80) Look.eq (Sub.cons (t := 81) Look.eq (Sub.nil _)))))))))))))))))))))))))))) ?_
              refine KA.condF ?_
              refine KA.skip ?_
              exact mtQ.normal (M, Qt, vq, tq) (by repeat (first | exact Sub.nil _ | refine Sub.cons Look.eq ?_ | refine Sub.cons (Eq.trans Look.eq (congrArg (AV.int _) (by first | omega | (dsimp only; omega)))) ?_)) ⟨hb, hseen, fun _ _ a => absurd a g77, hS⟩
          · intro g65
            have g65 := of_decide_eq_false g65
            refine KOps.guardNo (dj := 65) rfl rfl rfl ?_
            refine KOps.guardNo (dj := 65) rfl rfl rfl ?_
            refine KOps.guardNo (dj := 65) rfl rfl rfl ?_
            refine KOps.guardNo (dj := 65) rfl rfl rfl ?_
            refine KOps.guardNo (dj := 65) rfl rfl rfl ?_
            refine KOps.guardNo (dj := 65) rfl rfl rfl ?_
            refine KOps.guardNo (dj := 65) rfl rfl rfl ?_
            refine KOps.guardNo (dj := 65) rfl rfl rfl ?_
            refine KOps.guardNo (dj := 65) rfl rfl rfl ?_
            refine KOps.pickF ?_
            refine KOps.move ?_
            refine KOps.guardNo (dj := 77) rfl rfl rfl ?_
            refine KOps.guardNo (dj := 77) rfl rfl rfl ?_
            refine KOps.guardNo (dj := 77) rfl rfl rfl ?_
            refine KOps.pickF ?_
            refine KOps.done ?_
            refine sqQ.normal ?_
            refine KA.sub (Sub.cons (t := 0) Look.eq (Sub.cons (t := 1) Look.eq (Sub.cons (t := 2) Look.eq (Sub.cons (t := 3) Look.eq (Sub.cons (t := 9) Look.eq (Sub.cons (t := 10) Look.eq (Sub.cons (t := 11) Look.eq (Sub.cons (t := 14) Look.eq (Sub.cons (t := 15) Look.eq (Sub.cons (t := 16) Look.eq (Sub.cons (t := 54) Look.eq (Sub.cons (t := 55) Look.eq (Sub.cons (t := 56) Look.eq (Sub.cons (t := 66) Look.eq (Sub.cons (t := 67) Look.eq (Sub.cons (t := 68) Look.eq (Sub.cons (t := 69) Look.eq (Sub.cons (t := 70) Look.eq (Sub.cons (t := 71) Look.eq (Sub.cons (t := 72) Look.eq (Sub.cons (t := 73) Look.eq (Sub.cons (t := 74) Look.eq (Sub.cons (t := 75) Look.eq (Sub.cons (t := 78) Look.eq (Sub.cons (t := 79) Look.eq (Sub.cons (t := 80) Look.eq (Sub.cons (t := 81) Look.eq (Sub.nil _)))))))))))))))))))))))))))) ?_
            refine KA.condF ?_
            refine KA.skip ?_
            exact mtQ.normal (M, Qt, vq, tq) (by repeat (first | exact Sub.nil _ | refine Sub.cons Look.eq ?_ | refine Sub.cons (Eq.trans Look.eq (congrArg (AV.int _) (by first | omega | (dsimp only; omega)))) ?_)) ⟨hb, hseen, fun _ a _ => absurd a g65, hS⟩
        ·
          rintro ⟨M, Qt, vq, tq⟩ h6 ⟨hb, hseen, hhalf, hS⟩
          dsimp only at hb hseen hhalf hS ⊢
          refine KA.seq ?_
          refine KA.draw [] mixed rfl (by kernel_rfl) ?_
          have hwi := hB.way i (by omega)
          have hwf0 := hwi.f0
          have hwf1 := hwi.f1
          have hwt0 := hwi.t0
          have hwt1 := hwi.t1
          refine KOps.fieldAddr hp16 ?_
          intro p87 hp87
          refine KOps.load hp87 (hS.rd 5 rfl) rfl ?_
          refine KOps.loadBox hS (i := 4) rfl hp11 ?_
          refine KOps.eql ?_
          refine KOps.move ?_
          refine KOps.guardB (dj := 91) rfl rfl true false rfl ?_ ?_
          · intro g91
            have g91 := of_decide_eq_true g91
            refine KOps.move ?_
            refine KOps.guardYes (dj := 91) rfl rfl ?_
            refine KOps.nilP hpf ?_
            refine KOps.guardYes (dj := 91) rfl rfl ?_
            refine KOps.fieldAddr hpf ?_
            intro p94 hp94
            refine KOps.guardYes (dj := 91) rfl rfl ?_
            refine KOps.load hp94 (Rd.ext hS.keeps hf) rfl ?_
            refine KOps.guardYes (dj := 91) rfl rfl ?_
            refine KOps.move ?_
            refine KOps.guardYes (dj := 91) rfl rfl ?_
            refine KOps.indexIJ (Row.ext hS.keeps hn) (j := i) rfl (by first | omega | (simp; omega)) ?_
            intro p97 hp97
            refine KOps.guardYes (dj := 91) rfl rfl ?_
            refine KOps.loadI hp97 (Row.ext hS.keeps hn) (by first | omega | (simp; omega)) ?_
            refine KOps.guardYes (dj := 91) rfl rfl ?_
            refine KOps.fieldAddr hp16 ?_
            intro p99 hp99
            refine KOps.guardYes (dj := 91) rfl rfl ?_
            refine KOps.load hp99 (hS.rd 5 rfl) rfl ?_
            refine KOps.guardYes (dj := 91) rfl rfl ?_
            refine KOps.gtr ?_
            refine KOps.pickT ?_
            refine KOps.move ?_
            refine KOps.guardB (dj := 103) rfl rfl true false rfl ?_ ?_
            · intro g103
              have g103 := of_decide_eq_true g103
              refine KOps.move ?_
              refine KOps.guardYes (dj := 103) rfl rfl ?_
              refine KOps.move ?_
              refine KOps.guardYes (dj := 103) rfl rfl ?_
              refine KOps.call rfl (hA _ i hS.keeps (by omega)) ?_
              rintro _ _ ⟨rfl, rfl⟩
              refine KOps.pickT ?_
              refine KOps.done ?_
              refine sqQ.normal ?_
              refine KA.sub (Sub.cons (t := 0) Look.eq (Sub.cons (t := 1) Look.eq (Sub.cons (t := 2) Look.eq (Sub.cons (t := 3) Look.eq (Sub.cons (t := 9) Look.eq (Sub.cons (t := 10) Look.eq (Sub.cons (t := 11) Look.eq (Sub.cons (t := 14) Look.eq (Sub.cons (t := 15) Look.eq (Sub.cons (t := 16) Look.eq (Sub.cons (t := 54) Look.eq (Sub.cons (t := 55) Look.eq (Sub.cons (t := 56) Look.eq (Sub.cons (t := 92) Look.eq (Sub.cons (t := 93) Look.eq (Sub.cons (t := 94) Look.eq (Sub.cons (t := 95) Look.eq (Sub.cons (t := 96) Look.eq (Sub.cons (t := 97) Look.eq (Sub.cons (t := 98) Look.eq (Sub.cons (t := 99) Look.eq (Sub.cons (t := 100) Look.eq (Sub.cons (t := 101) Look.eq (Sub.cons (t := 104) Look.eq (Sub.cons (t := 105) Look.eq (Sub.cons (t := 106) Look.eq (Sub.cons (t := 107) Look.eq (Sub.nil _)))))))))))))))))))))))))))) ?_
              refine KA.condB ?_ ?_
              · intro c107
                refine KA.region rfl ?_
                refine KOps.move ?_
                refine KOps.fieldAddr hp16 ?_
                intro p109 hp109
                refine KOps.load hp109 (hS.rd 5 rfl) rfl ?_
                refine KOps.move ?_
                refine KOps.call rfl (put_c (i := (i : Int)) (b := false) (G := [_]) hpq hp9 hp11 hv17 (by have := hb.len (by omega); simp only [List.length_cons] at this ⊢; omega) hS) ?_
                rintro _ h9 ⟨vq2, tq2, hS9⟩
                have hstep : StepOK ws n A v (ws.getD i default).f i false := ⟨by omega, c107, g91, rfl, g103⟩
                obtain ⟨Qt2, eQ, hb2, hsub, hin⟩ := hb.step hstep (by omega) (by omega)
                rw [eQ] at hS9
                clear hS
                have hS := hS9
                clear hS9
                refine KOps.done ?_
                refine blQ.normal ?_
                refine sqQ.normal ?_
                refine KA.sub (Sub.cons (t := 0) Look.eq (Sub.cons (t := 1) Look.eq (Sub.cons (t := 2) Look.eq (Sub.cons (t := 3) Look.eq (Sub.cons (t := 9) Look.eq (Sub.cons (t := 10) Look.eq (Sub.cons (t := 11) Look.eq (Sub.cons (t := 14) Look.eq (Sub.cons (t := 54) Look.eq (Sub.cons (t := 55) Look.eq (Sub.cons (t := 56) Look.eq (Sub.cons (t := 92) Look.eq (Sub.cons (t := 93) Look.eq (Sub.cons (t := 94) Look.eq (Sub.cons (t := 95) Look.eq (Sub.cons (t := 96) Look.eq (Sub.cons (t := 97) Look.eq (Sub.cons (t := 98) Look.eq (Sub.cons (t := 99) Look.eq (Sub.cons (t := 100) Look.eq (Sub.cons (t := 101) Look.eq (Sub.cons (t := 104) Look.eq (Sub.cons (t := 105) Look.eq (Sub.cons (t := 106) Look.eq (Sub.nil _))))))))))))))))))))))))) ?_
                refine KA.region rfl ?_
                refine KOps.add (by first | omega | (simp; omega)) (by first | omega | (simp; omega)) ?_
                refine KOps.move ?_
                refine KOps.done ?_
                refine lpQ.normal (i + 1, _, Qt2, vq2, tq2) (by repeat (first | exact Sub.nil _ | refine Sub.cons Look.eq ?_ | refine Sub.cons (Eq.trans Look.eq (congrArg (AV.int _) (by first | omega | (dsimp only; omega)))) ?_)) ⟨by dsimp only; omega, hb2, (hseen.more hsub).succ (fun a b c => hsub _ (hhalf a b c)) (fun _ _ _ => hin), St.keep (B := [_]) hS⟩ (by dsimp only; omega)
              · intro c107
                refine KA.skip ?_
                refine blQ.normal ?_
                refine sqQ.normal ?_
                refine KA.sub (Sub.cons (t := 0) Look.eq (Sub.cons (t := 1) Look.eq (Sub.cons (t := 2) Look.eq (Sub.cons (t := 3) Look.eq (Sub.cons (t := 9) Look.eq (Sub.cons (t := 10) Look.eq (Sub.cons (t := 11) Look.eq (Sub.cons (t := 14) Look.eq (Sub.cons (t := 54) Look.eq (Sub.cons (t := 55) Look.eq (Sub.cons (t := 56) Look.eq (Sub.cons (t := 92) Look.eq (Sub.cons (t := 93) Look.eq (Sub.cons (t := 94) Look.eq (Sub.cons (t := 95) Look.eq (Sub.cons (t := 96) Look.eq (Sub.cons (t := 97) Look.eq (Sub.cons (t := 98) Look.eq (Sub.cons (t := 99) Look.eq (Sub.cons (t := 100) Look.eq (Sub.cons (t := 101) Look.eq (Sub.cons (t := 104) Look.eq (Sub.cons (t := 105) Look.eq (Sub.cons (t := 106) Look.eq (Sub.nil _))))))))))))))))))))))))) ?_
                refine KA.region rfl ?_
                refine KOps.add (by first | omega | (simp; omega)) (by first | omega | (simp; omega)) ?_
                refine KOps.move ?_
                refine KOps.done ?_
                exact lpQ.normal (i + 1, M, Qt, vq, tq) (by repeat (first | exact Sub.nil _ | refine Sub.cons Look.eq ?_ | refine Sub.cons (Eq.trans Look.eq (congrArg (AV.int _) (by first | omega | (dsimp only; omega)))) ?_)) ⟨by dsimp only; omega, hb, hseen.succ hhalf (fun a _ _ => absurd a (by rw [c107]; decide)), St.keep (B := [_]) hS⟩ (by dsimp only; omega)
            · intro g103
              have g103 := of_decide_eq_false g103
              refine KOps.guardNo (dj := 103) rfl rfl rfl ?_
              refine KOps.guardNo (dj := 103) rfl rfl rfl ?_
              refine KOps.pickF ?_
              refine KOps.done ?_
              refine sqQ.normal ?_
              refine KA.sub (Sub.cons (t := 0) Look.eq (Sub.cons (t := 1) Look.eq (Sub.cons (t := 2) Look.eq (Sub.cons (t := 3) Look.eq (Sub.cons (t := 9) Look.eq (Sub.cons (t := 10) Look.eq (Sub.cons (t := 11) Look.eq (Sub.cons (t := 14) Look.eq (Sub.cons (t := 15) Look.eq (Sub.cons (t := 16) Look.eq (Sub.cons (t := 54) Look.eq (Sub.cons (t := 55) Look.eq (Sub.cons (t := 56) Look.eq (Sub.cons (t := 92) Look.eq (Sub.cons (t := 93) Look.eq (Sub.cons (t := 94) Look.eq (Sub.cons (t := 95) Look.eq (Sub.cons (t := 96) Look.eq (Sub.cons (t := 97) Look.eq (Sub.cons (t := 98) Look.eq (Sub.cons (t := 99) Look.eq (Sub.cons (t := 100) Look.eq (Sub.cons (t := 101) Look.eq (Sub.cons (t := 104) Look.eq (Sub.cons (t := 105) Look.eq (Sub.cons (t := 106) Look.eq (Sub.cons (t := 107) Look.eq (Sub.nil _)))))))))))))))))))))))))))) ?_
              refine KA.condF ?_
              refine KA.skip ?_
              refine blQ.normal ?_
              refine sqQ.normal ?_
              refine KA.sub (Sub.cons (t := 0) Look.eq (Sub.cons (t := 1) Look.eq (Sub.cons (t := 2) Look.eq (Sub.cons (t := 3) Look.eq (Sub.cons (t := 9) Look.eq (Sub.cons (t := 10) Look.eq (Sub.cons (t := 11) Look.eq (Sub.cons (t := 14) Look.eq (Sub.cons (t := 54) Look.eq (Sub.cons (t := 55) Look.eq (Sub.cons (t := 56) Look.eq (Sub.cons (t := 92) Look.eq (Sub.cons (t := 93) Look.eq (Sub.cons (t := 94) Look.eq (Sub.cons (t := 95) Look.eq (Sub.cons (t := 96) Look.eq (Sub.cons (t := 97) Look.eq (Sub.cons (t := 98) Look.eq (Sub.cons (t := 99) Look.eq (Sub.cons (t := 100) Look.eq (Sub.cons (t := 101) Look.eq (Sub.cons (t := 104) Look.eq (Sub.cons (t := 105) Look.eq (Sub.cons (t := 106) Look.eq (Sub.nil _))))))))))))))))))))))))) ?_
              refine KA.region rfl ?_
              refine KOps.add (by first | omega | (simp; omega)) (by first | omega | (simp; omega)) ?_
              refine KOps.move ?_
              refine KOps.done ?_
              exact lpQ.normal (i + 1, M, Qt, vq, tq) (by repeat (first | exact Sub.nil _ | refine Sub.cons Look.eq ?_ | refine Sub.cons (Eq.trans Look.eq (congrArg (AV.int _) (by first | omega | (dsimp only; omega)))) ?_)) ⟨by dsimp only; omega, hb, hseen.succ hhalf (fun _ _ a => absurd a g103), St.keep (B := [_]) hS⟩ (by dsimp only; omega)
          · intro g91
            have g91 := of_decide_eq_false g91
            refine KOps.guardNo (dj := 91) rfl rfl rfl ?_
            refine KOps.guardNo (dj := 91) rfl rfl rfl ?_
            refine KOps.guardNo (dj := 91) rfl rfl rfl ?_
            refine KOps.guardNo (dj := 91) rfl rfl rfl ?_
            refine KOps.guardNo (dj := 91) rfl rfl rfl ?_
            refine KOps.guardNo (dj := 91) rfl rfl rfl ?_
            refine KOps.guardNo (dj := 91) rfl rfl rfl ?_
            refine KOps.guardNo (dj := 91) rfl rfl rfl ?_
            refine KOps.guardNo (dj := 91) rfl rfl rfl ?_
            refine KOps.pickF ?_
            refine KOps.move ?_
            refine KOps.guardNo (dj := 103) rfl rfl rfl ?_
            refine KOps.guardNo (dj := 103) rfl rfl rfl ?_
            refine KOps.guardNo (dj := 103) rfl rfl rfl ?_
            refine KOps.pickF ?_
            refine KOps.done ?_
            refine sqQ.normal ?_
            refine KA.sub (Sub.cons (t := 0) Look.eq (Sub.cons (t := 1) Look.eq (Sub.cons (t := 2) Look.eq (Sub.cons (t := 3) Look.eq (Sub.cons (t := 9) Look.eq (Sub.cons (t := 10) Look.eq (Sub.cons (t := 11) Look.eq (Sub.cons (t := 14) Look.eq (Sub.cons (t := 15) Look.eq (Sub.cons (t := 16) Look.eq (Sub.cons (t := 54) Look.eq (Sub.cons (t := 55) Look.eq (Sub.cons (t := 56) Look.eq (Sub.cons (t := 92) Look.eq (Sub.cons (t := 93) Look.eq (Sub.cons (t := 94) Look.eq (Sub.cons (t := 95) Look.eq (Sub.cons (t := 96) Look.eq (Sub.cons (t := 97) Look.eq (Sub.cons (t := 98) Look.eq (Sub.cons (t := 99) Look.eq (Sub.cons (t := 100) Look.eq (Sub.cons (t := 101) Look.eq (Sub.cons (t := 104) Look.eq (Sub.cons (t := 105) Look.eq (Sub.cons (t := 106) Look.eq (Sub.cons (t := 107) Look.eq (Sub.nil _)))))))))))))))))))))))))))) ?_
            refine KA.condF ?_
            refine KA.skip ?_
            refine blQ.normal ?_
            refine sqQ.normal ?_
            refine KA.sub (Sub.cons (t := 0) Look.eq (Sub.cons (t := 1) Look.eq (Sub.cons (t := 2) Look.eq (Sub.cons (t := 3) Look.eq (Sub.cons (t := 9) Look.eq (Sub.cons (t := 10) Look.eq (Sub.cons (t := 11) Look.eq (Sub.cons (t := 14) Look.eq (Sub.cons (t := 54) Look.eq (Sub.cons (t := 55) Look.eq (Sub.cons (t := 56) Look.eq (Sub.cons (t := 92) Look.eq (Sub.cons (t := 93) Look.eq (Sub.cons (t := 94) Look.eq (Sub.cons (t := 95) Look.eq (Sub.cons (t := 96) Look.eq (Sub.cons (t := 97) Look.eq (Sub.cons (t := 98) Look.eq (Sub.cons (t := 99) Look.eq (Sub.cons (t := 100) Look.eq (Sub.cons (t := 101) Look.eq (Sub.cons (t := 104) Look.eq (Sub.cons (t := 105) Look.eq (Sub.cons (t := 106) Look.eq (Sub.nil _))))))))))))))))))))))))) ?_
            refine KA.region rfl ?_
            refine KOps.add (by first | omega | (simp; omega)) (by first | omega | (simp; omega)) ?_
            refine KOps.move ?_
            refine KOps.done ?_
            exact lpQ.normal (i + 1, M, Qt, vq, tq) (by repeat (first | exact Sub.nil _ | refine Sub.cons Look.eq ?_ | refine Sub.cons (Eq.trans Look.eq (congrArg (AV.int _) (by first | omega | (dsimp only; omega)))) ?_)) ⟨by dsimp only; omega, hb, hseen.succ hhalf (fun _ a _ => absurd a g91), St.keep (B := [_]) hS⟩ (by dsimp only; omega)
      · intro c57
        refine KA.exit ?_
        refine sqQ.exit ?_
        refine lpQ.exit ?_
        refine blQ.here ?_
        refine blQ.normal ?_
        refine sqQ.normal ?_
        refine KA.sub (Sub.cons (t := 0) Look.eq (Sub.cons (t := 1) Look.eq (Sub.cons (t := 2) Look.eq (Sub.cons (t := 3) Look.eq (Sub.cons (t := 9) Look.eq (Sub.cons (t := 10) Look.eq (Sub.nil _))))))) ?_
        refine KA.seq ?_
        refine KA.seq ?_
        refine KA.region rfl ?_
        refine KOps.loadBox hS (i := 0) rfl hpq ?_
        refine KOps.done ?_
        refine sqQ.normal ?_
        refine KA.sub (Sub.cons (t := 0) Look.eq (Sub.cons (t := 1) Look.eq (Sub.cons (t := 2) Look.eq (Sub.cons (t := 3) Look.eq (Sub.cons (t := 9) Look.eq (Sub.cons (t := 114) Look.eq (Sub.nil _))))))) ?_
        refine KA.region rfl ?_
        refine KOps.alloc hS ?_
        intro p10 h' hp10 hS
        refine KOps.storeBox hS rfl (i := 0) rfl hp10 (by first | rfl | assumption | exact St.one hS (k := 2) rfl) ?_
        intro h' hS
        refine KOps.done ?_
        refine sqQ.normal ?_
        refine KA.sub (Sub.cons (t := 0) Look.eq (Sub.cons (t := 1) Look.eq (Sub.cons (t := 2) Look.eq (Sub.cons (t := 3) Look.eq (Sub.cons (t := 9) Look.eq (Sub.cons (t := 10) Look.eq (Sub.nil _))))))) ?_
        refine KA.region rfl ?_
        refine KOps.loadBox hS (i := 0) rfl hp10 ?_
        refine KOps.sliceLo (hS.rd 2 rfl) (m := Qt.length + 1) (by simp [ints]) (by decide) (by omega) ?_
        intro v27 hv27
        refine KOps.storeBox hS rfl (i := 0) rfl hp10 (by first | rfl | assumption | exact hv27.one) ?_
        intro h' hS
        refine KOps.done ?_
        have hlen := hb.len (by omega)
        simp only [List.length_cons] at hlen
        rw [show i = ws.length by omega] at hseen
        have hS9 := St.slice hS (k := 2) rfl (m := Qt.length + 1) (by simp [ints]) hv27 (by omega) (by omega)
        have e9 : ((ints (v :: Qt)).drop (1 * 1)).take ((Qt.length + 1 - 1) * 1) = ints Qt := by
          show (ints Qt).take _ = _
          exact List.take_of_length_le (by simp [ints])
        refine lpQ.normal (M, P ++ [v], Qt, v27, false, p10) (by repeat (first | exact Sub.nil _ | refine Sub.cons Look.eq ?_ | refine Sub.cons (Eq.trans Look.eq (congrArg (AV.int _) (by first | omega | (dsimp only; omega)))) ?_)) ⟨hb.next hseen, ?_, hp10, ?_⟩ ?_
        · simp only [List.mem_append, List.mem_singleton, not_or]; exact ⟨hz, fun h0 => c33 h0.symm⟩
        · rw [← e9]; exact St.pick [0, 2, 3, 4] (by decide) rfl hS9
        · simp only [List.length_append, List.length_singleton]; omega
  · intro c25
    refine KA.exit ?_
    refine sqQ.exit ?_
    refine lpQ.exit ?_
    refine blQ.here ?_
    refine sqQ.normal ?_
    refine KA.sub (Sub.nil _) ?_
    refine KA.seq ?_
    refine KA.region rfl ?_
    refine KOps.assign ?_
    refine KOps.done ?_
    refine sqQ.normal ?_
    refine KA.ret ?_
    refine fnQ.ret1 ?_
    have hQ : Q = [] := by
      cases Q with
      | nil => rfl
      | cons a l => simp at c25
    subst hQ
    exact ⟨true, [], rfl, St.ofK hS.keeps, fun _ => hb.no hz, fun h0 => absurd h0 (by decide)⟩

end Go.Am


namespace Go.Am
theorem St.swap {h0 h : AHeap} {A B C : List Obj} (st : St h0 h (A ++ B ++ C)) : St h0 h (B ++ A ++ C) := st.perm (List.perm_append_comm.append_right C)
theorem St.mid {h0 h : AHeap} {A B C : List Obj} (st : St h0 h (A ++ B ++ C)) : St h0 h (A ++ C) := St.drop (A := B) (by rw [← List.append_assoc]; exact St.swap st)
theorem St.sink2 {h0 h : AHeap} {a b c : Obj} {G : List Obj} (st : St h0 h (a :: b :: c :: G)) : St h0 h (b :: c :: a :: G) := St.swap (A := [a]) (B := [b, c]) st
theorem Path.short {ws : List W} {n : List Int} {A : Nat → Bool} {u v : Int} {vs : List Int} {E : List (Int × Bool)} (p : Path ws n A u vs v E) : E.length ≤ ws.length := by
  have hr : ∀ q ∈ E, 0 ≤ q.1 ∧ q.1 < ws.length := fun q hq => by obtain ⟨j, h1, h2, _⟩ := p.ends q hq; omega
  have hnd : ((E.map (·.1)).map Int.toNat).Nodup := List.pairwise_map.2 (p.keys.imp_of_mem fun {x y} hx hy hne he => by
    obtain ⟨q, hq, rfl⟩ := List.mem_map.1 hx
    obtain ⟨q', hq', rfl⟩ := List.mem_map.1 hy
    have h2 := hr q hq
    have h3 := hr q' hq'
    omega)
  have h1 := nodup_sub_le (m := List.range ws.length) hnd (fun x hx => by
    obtain ⟨y, hy, rfl⟩ := List.mem_map.1 hx
    obtain ⟨q, hq, rfl⟩ := List.mem_map.1 hy
    have := hr q hq
    exact List.mem_range.2 (by omega))
  simpa using h1
theorem within_bound {rm : Int} {ws : List W} {n : List Int} (hB : BOk rm ws) (hw : Within ws n) : ∀ i, i < ws.length → 0 ≤ n.getD i 0 ∧ n.getD i 0 ≤ 99 := by
  intro i hi
  have h1 := hw.lo i hi
  have h2 := hw.hi i hi
  have h3 := hB.way i hi
  have h4 := h3.l0
  have h5 := h3.m1
  omega
theorem pushP_c {h0 h : AHeap} {rm : Int} {pf vn vm vW : AV} {ws : List W} {n : List Int} {A : Nat → Bool} {u v : Int} {vs : List Int} {E : List (Int × Bool)} {tf tn : Bool} {G : List Obj} (hpf : AddrOf pf pf 0 0) (hvm : IsMp vm) (hB : BOk rm ws) (hw : Within ws n) (h0l : 0 < ws.length) (p : Path ws n A u vs v E)
    (hS : St h0 h (⟨pf, 0, [.int .i64 rm, vW, vn], tf⟩ :: ⟨vn, 1, ints n, tn⟩ :: mapO vm (entB E) :: G)) :
    ACalls Go.Proofs.Try.prog 54 [pf, vm] h (fun _ h' => St h0 h' (⟨pf, 0, [.int .i64 rm, vW, vn], tf⟩ :: ⟨vn, 1, ints (pushE E n), tn⟩ :: G)) := by
  have hl := hw.len
  have hwl := hB.len
  have hsh := p.short
  obtain ⟨r, h', h1, h2⟩ := push_c hpf hvm (ns := n) (by rintro rfl; simp at hl; omega) (fun q hq => by obtain ⟨j, h1, h2, _⟩ := p.ends q hq; omega) (fun x hx => by
    obtain ⟨i, hi, rfl⟩ := List.getElem_of_mem hx
    have := within_bound hB hw i (by omega)
    rw [List.getD_eq_getElem?_getD, List.getElem?_eq_getElem hi] at this
    simp only [Option.getD_some] at this
    omega) (by omega) hS
  rw [bumps_push] at h2
  exact ⟨r, h', h1, St.out (A := [_, _]) h2⟩

theorem lower1_c {h : AHeap} {i k : Nat} {A : Nat → Bool} {p4 p5 : AV} {fa : FuncId} {caps : List AV} (hp4 : AddrOf p4 p4 0 0) (hp5 : AddrOf p5 p5 0 0) (h4 : Rd h p4 0 [.int .i64 (i : Int)]) (h5 : Rd h p5 0 [.fn fa caps]) (hA : ACalls Go.Proofs.Try.prog fa ([.int .i64 (k : Int)] ++ caps) h (fun q h2 => q = .bool (A k) ∧ h = h2)) : ACalls Go.Proofs.Try.prog 70 [.int .i64 (k : Int), p4, p5] h (fun q h' => q = .bool (but i A k) ∧ h = h') := by
  refine KA.fn 13 [.tmp 4] Go.Proofs.Try.func70 rfl (by decide) rfl rfl (Nat.le_of_ble_eq_true rfl) ?_
  show KA _ 13 _ _ [(0, .int .i64 (k : Int)), (1, p4), (2, p5)] _
  refine KA.seq ?_
  refine KA.region rfl ?_
  refine KOps.assign ?_
  refine KOps.done ?_
  refine sqQ.normal ?_
  refine KA.sub (Sub.cons (t := 0) Look.eq (Sub.cons (t := 1) Look.eq (Sub.cons (t := 2) Look.eq (Sub.nil _)))) ?_
  refine KA.seq ?_
  refine KA.region rfl ?_
  refine KOps.move ?_
  refine KOps.load hp4 h4 rfl ?_
  refine KOps.neq ?_
  refine KOps.move ?_
  refine KOps.guardB (dj := 8) rfl rfl true false rfl ?_ ?_
  · intro g8
    have g8 := not_of_not_decide g8
    refine KOps.load hp5 h5 rfl ?_
    refine KOps.guardYes (dj := 8) rfl rfl ?_
    refine KOps.move ?_
    refine KOps.guardYes (dj := 8) rfl rfl ?_
    refine KOps.call rfl (hA) ?_
    rintro _ _ ⟨rfl, rfl⟩
    refine KOps.pickT ?_
    refine KOps.assign ?_
    refine KOps.done ?_
    refine sqQ.normal ?_
    refine KA.sub (Sub.cons (t := 4) Look.eq (Sub.nil _)) ?_
    refine KA.ret ?_
    refine fnQ.ret1 ?_
    refine ⟨congrArg AV.bool ?_, rfl⟩
    rw [but, decide_eq_false g8]; rfl
  · intro g8
    have g8 := of_not_decide g8
    refine KOps.guardNo (dj := 8) rfl rfl rfl ?_
    refine KOps.guardNo (dj := 8) rfl rfl rfl ?_
    refine KOps.pickF ?_
    refine KOps.assign ?_
    refine KOps.done ?_
    refine sqQ.normal ?_
    refine KA.sub (Sub.cons (t := 4) Look.eq (Sub.nil _)) ?_
    refine KA.ret ?_
    refine fnQ.ret1 ?_
    refine ⟨congrArg AV.bool ?_, rfl⟩
    rw [but, decide_eq_true g8]; rfl

theorem raise1_c {h : AHeap} {i k : Nat} {p3 : AV} (hp3 : AddrOf p3 p3 0 0) (h3 : Rd h p3 0 [.int .i64 (i : Int)]) : ACalls Go.Proofs.Try.prog 71 [.int .i64 (k : Int), p3] h (fun q h' => q = .bool (but i (fun _ => true) k) ∧ h = h') := by
  refine KA.fn 7 [.tmp 3] Go.Proofs.Try.func71 rfl (by decide) rfl rfl (Nat.le_of_ble_eq_true rfl) ?_
  show KA _ 7 _ _ [(0, .int .i64 (k : Int)), (1, p3)] _
  refine KA.seq ?_
  refine KA.region rfl ?_
  refine KOps.assign ?_
  refine KOps.done ?_
  refine sqQ.normal ?_
  refine KA.sub (Sub.cons (t := 0) Look.eq (Sub.cons (t := 1) Look.eq (Sub.nil _))) ?_
  refine KA.seq ?_
  refine KA.region rfl ?_
  refine KOps.move ?_
  refine KOps.load hp3 h3 rfl ?_
  refine KOps.neq ?_
  refine KOps.assign ?_
  refine KOps.done ?_
  refine sqQ.normal ?_
  refine KA.sub (Sub.cons (t := 3) Look.eq (Sub.nil _)) ?_
  refine KA.ret ?_
  refine fnQ.ret1 ?_
  refine ⟨congrArg AV.bool ?_, rfl⟩
  rw [but, Bool.and_true]

theorem span1_c {h : AHeap} {k : Nat} : ACalls Go.Proofs.Try.prog 56 [.int .i64 (k : Int)] h (fun q h' => q = .bool true ∧ h = h') := by
  refine KA.fn 3 [.tmp 2] Go.Proofs.Try.func56 rfl (by decide) rfl rfl (Nat.le_of_ble_eq_true rfl) ?_
  show KA _ 3 _ _ [(0, .int .i64 (k : Int))] _
  refine KA.seq ?_
  refine KA.region rfl ?_
  refine KOps.assign ?_
  refine KOps.done ?_
  refine sqQ.normal ?_
  refine KA.sub (Sub.nil _) ?_
  refine KA.seq ?_
  refine KA.region rfl ?_
  refine KOps.assign ?_
  refine KOps.done ?_
  refine sqQ.normal ?_
  refine KA.ret ?_
  refine fnQ.ret1 ?_
  exact ⟨rfl, rfl⟩

theorem found1_c {h : AHeap} {k : Nat} : ACalls Go.Proofs.Try.prog 51 [.int .i64 (k : Int)] h (fun q h' => q = .bool true ∧ h = h') := by
  refine KA.fn 3 [.tmp 2] Go.Proofs.Try.func51 rfl (by decide) rfl rfl (Nat.le_of_ble_eq_true rfl) ?_
  show KA _ 3 _ _ [(0, .int .i64 (k : Int))] _
  refine KA.seq ?_
  refine KA.region rfl ?_
  refine KOps.assign ?_
  refine KOps.done ?_
  refine sqQ.normal ?_
  refine KA.sub (Sub.nil _) ?_
  refine KA.seq ?_
  refine KA.region rfl ?_
  refine KOps.assign ?_
  refine KOps.done ?_
  refine sqQ.normal ?_
  refine KA.ret ?_
  refine fnQ.ret1 ?_
  exact ⟨rfl, rfl⟩

theorem first1_c {h : AHeap} {i k : Nat} {p4 : AV} (hp4 : AddrOf p4 p4 0 0) (h4 : Rd h p4 0 [.int .i64 (i : Int)]) : ACalls Go.Proofs.Try.prog 65 [.int .i64 (k : Int), p4] h (fun q h' => q = .bool (decide (i < k)) ∧ h = h') := by
  refine KA.fn 7 [.tmp 3] Go.Proofs.Try.func65 rfl (by decide) rfl rfl (Nat.le_of_ble_eq_true rfl) ?_
  show KA _ 7 _ _ [(0, .int .i64 (k : Int)), (1, p4)] _
  refine KA.seq ?_
  refine KA.region rfl ?_
  refine KOps.assign ?_
  refine KOps.done ?_
  refine sqQ.normal ?_
  refine KA.sub (Sub.cons (t := 0) Look.eq (Sub.cons (t := 1) Look.eq (Sub.nil _))) ?_
  refine KA.seq ?_
  refine KA.region rfl ?_
  refine KOps.move ?_
  refine KOps.load hp4 h4 rfl ?_
  refine KOps.gtr ?_
  refine KOps.assign ?_
  refine KOps.done ?_
  refine sqQ.normal ?_
  refine KA.sub (Sub.cons (t := 3) Look.eq (Sub.nil _)) ?_
  refine KA.ret ?_
  refine fnQ.ret1 ?_
  refine ⟨congrArg AV.bool ?_, rfl⟩
  exact decide_eq_decide.2 (by omega)

theorem lower_c {h0 h : AHeap} {r : Nat} {i : Nat} {pf vW vn : AV} {ws : List W} {n : List Int} {tn : Bool} {G : List Obj} (hpf : AddrOf pf pf 0 0) (hv : Rd h0 vW 4 (flr wc ws)) (hB : BOk (r : Int) ws) (hfl : Flow ws n) (hi : i < ws.length) {A : Nat → Bool} {fa : FuncId} {caps : List AV} (hA : ∀ (h' : AHeap) (X : List Obj) (k : Nat), St h0 h' (X ++ G) → k < ws.length → ACalls Go.Proofs.Try.prog fa ([.int .i64 (k : Int)] ++ caps) h' (fun q h2 => q = .bool (A k) ∧ h' = h2)) (hS : St h0 h (⟨pf, 0, [.int .i64 (r : Int), vW, vn], true⟩ :: ⟨vn, 1, ints n, tn⟩ :: G)) : ACalls Go.Proofs.Try.prog 55 [pf, .int .i64 (i : Int), .fn fa caps] h (fun _ h' => ∃ n', St h0 h' (⟨pf, 0, [.int .i64 (r : Int), vW, vn], true⟩ :: ⟨vn, 1, ints n', tn⟩ :: G) ∧ Flow ws n' ∧ Near i A n n' ∧ Low ws i A n') := by
  refine KA.fn 47 [] Go.Proofs.Try.func55 rfl (by decide) rfl rfl (Nat.le_of_ble_eq_true rfl) ?_
  have hwi := hB.way i hi
  have hwf0 := hwi.f0
  have hwf1 := hwi.f1
  have hwt0 := hwi.t0
  have hwt1 := hwi.t1
  have hwl0 := hwi.l0
  have hwm1 := hwi.m1
  have hwl := hB.len
  show KA _ 47 _ _ [(0, pf), (1, .int .i64 (i : Int)), (2, .fn fa caps)] _
  refine KA.seq ?_
  refine KA.region rfl ?_
  refine KOps.box hS (l := [_]) rfl ?_
  intro p4 h' hp4 hS
  refine KOps.box hS (l := [_]) rfl ?_
  intro p5 h' hp5 hS
  refine KOps.done ?_
  refine sqQ.normal ?_
  refine KA.sub (Sub.cons (t := 0) Look.eq (Sub.cons (t := 4) Look.eq (Sub.cons (t := 5) Look.eq (Sub.nil _)))) ?_
  refine KA.seq ?_
  refine KA.draw [] mixed rfl (by kernel_rfl) ?_
  refine KOps.move ?_
  refine KOps.nilP hpf ?_
  refine KOps.fieldAddr hpf ?_
  intro p10 hp10
  refine KOps.fieldAddr hp10 ?_
  intro p11 hp11
  refine KOps.load hp11 (hS.rd 2 rfl) rfl ?_
  refine KOps.loadBox hS (i := 1) rfl hp4 ?_
  refine KOps.indexF wc_len (Rd.ext hS.keeps hv) (j := i) (by first | omega | (simp; omega)) (by first | omega | (simp; omega)) ?_
  intro p14 hp14
  refine KOps.loadFl wc_len (by decide) hp14 (Rd.ext hS.keeps hv) (by first | omega | (simp; omega)) ?_
  refine KOps.alloc hS ?_
  intro p6 h' hp6 hS
  refine KOps.storeAll hS rfl (i := 0) rfl hp6 (by first | rfl | (simp [AV.one]; done) | (simp [AV.one]; assumption) | (simp [AV.one, *]; done)) (by rfl) (by rfl) (by decide) ?_
  intro h' hS
  simp only [List.set_cons_zero, List.set_cons_succ, Nat.zero_add] at hS
  refine KOps.done ?_
  refine sqQ.normal ?_
  refine KA.sub (Sub.cons (t := 0) Look.eq (Sub.cons (t := 4) Look.eq (Sub.cons (t := 5) Look.eq (Sub.cons (t := 6) Look.eq (Sub.nil _))))) ?_
  refine KA.block ?_
  refine KA.loop (X := List Int) (fun c => [(0, pf), (4, p4), (5, p5), (6, p6)]) (fun c h' => Flow ws c ∧ Near i A n c ∧ St h0 h' (⟨pf, 0, [.int .i64 (r : Int), vW, vn], true⟩ :: ⟨vn, 1, ints c, tn⟩ :: ⟨p6, 0, wc (ws.getD i default), true⟩ :: ⟨p5, 0, [.fn fa caps], true⟩ :: ⟨p4, 0, [.int .i64 (i : Int)], true⟩ :: G)) (fun c => (c.getD i 0).toNat) n (by repeat (first | exact Sub.nil _ | refine Sub.cons Look.eq ?_ | refine Sub.cons (Eq.trans Look.eq (congrArg (AV.int _) (by first | omega | (dsimp only; omega)))) ?_)) ?_ ?_
  · exact ⟨hfl, Near.refl _ _ _, St.swap (A := [_, _, _]) (B := [_, _]) hS⟩
  rintro c h3 ⟨hc, hnear, hS⟩
  have hcb := within_bound hB hc.toWithin i hi
  have hcl := hc.len
  refine KA.seq ?_
  refine KA.seq ?_
  refine KA.draw [] mixed rfl (by kernel_rfl) ?_
  refine KOps.move ?_
  refine KOps.nilP hpf ?_
  refine KOps.fieldAddr hpf ?_
  intro p18 hp18
  refine KOps.load hp18 (hS.rd 0 rfl) rfl ?_
  refine KOps.loadBox hS (i := 4) rfl hp4 ?_
  refine KOps.indexIJ (hS.rd 1 rfl) (j := i) (by first | omega | (simp; omega)) (by first | omega | (simp; omega)) ?_
  intro p21 hp21
  refine KOps.loadI hp21 (hS.rd 1 rfl) (by first | omega | (simp; omega)) ?_
  refine KOps.fieldAddr hp6 ?_
  intro p23 hp23
  refine KOps.load hp23 (hS.rd 2 rfl) rfl ?_
  refine KOps.gtr ?_
  refine KOps.done ?_
  refine sqQ.normal ?_
  refine KA.sub (Sub.cons (t := 0) Look.eq (Sub.cons (t := 4) Look.eq (Sub.cons (t := 5) Look.eq (Sub.cons (t := 6) Look.eq (Sub.cons (t := 25) Look.eq (Sub.nil _)))))) ?_
  refine KA.condD ?_ ?_
  · intro c25
    refine KA.skip ?_
    refine sqQ.normal ?_
    refine KA.sub (Sub.cons (t := 0) Look.eq (Sub.cons (t := 4) Look.eq (Sub.cons (t := 5) Look.eq (Sub.cons (t := 6) Look.eq (Sub.nil _))))) ?_
    refine KA.block ?_
    refine KA.seq ?_
    refine KA.region rfl ?_
    refine KOps.move ?_
    refine KOps.fieldAddr hp6 ?_
    intro p27 hp27
    refine KOps.load hp27 (hS.rd 2 rfl) rfl ?_
    refine KOps.fieldAddr hp6 ?_
    intro p29 hp29
    refine KOps.load hp29 (hS.rd 2 rfl) rfl ?_
    refine KOps.makeFunc ?_
    refine KOps.call rfl (path_c hpf (hS.rd 0 rfl) (Rd.ext hS.keeps hv) (hS.rd 1 rfl) hB hc.len hwf0 hwf1 (A := but i A) (by
      intro h' k hK hk
      have hS' : St h0 h' (_ :: _) := St.trans hS (St.ofK hK)
      exact lower1_c hp4 hp5 (hS'.rd 4 rfl) (hS'.rd 3 rfl) (hA h' [_, _, _, _, _] k hS' hk))) ?_
    rintro q h4 ⟨b, G9, hq, hG, hno, hyes⟩
    have hS9 := St.trans hS hG
    clear hS
    refine KOps.assign ?_
    refine KOps.done ?_
    refine sqQ.normal ?_
    refine KA.sub (Sub.cons (t := 0) Look.eq (Sub.cons (t := 4) Look.eq (Sub.cons (t := 5) Look.eq (Sub.cons (t := 6) Look.eq (Sub.cons (t := 7) Look.eq (Sub.nil _)))))) ?_
    refine KA.seq ?_
    refine KA.seq ?_
    refine KA.region rfl ?_
    refine KOps.move ?_
    refine KOps.eqNilm (p := (3, 4)) (by kernel_rfl) hq ?_
    refine KOps.done ?_
    refine sqQ.normal ?_
    refine KA.sub (Sub.cons (t := 0) Look.eq (Sub.cons (t := 4) Look.eq (Sub.cons (t := 5) Look.eq (Sub.cons (t := 6) Look.eq (Sub.cons (t := 7) Look.eq (Sub.cons (t := 34) Look.eq (Sub.nil _))))))) ?_
    refine KA.condB ?_ ?_
    · intro c34
      subst c34
      refine KA.ret ?_
      refine sqQ.ret ?_
      refine blQ.ret ?_
      refine lpQ.ret ?_
      refine blQ.ret ?_
      refine fnQ.ret0 ?_
      exact ⟨c, St.mid (A := [_, _]) (B := [_, _, _]) (St.drop hS9), hc, hnear, low_of hB.inR hc hi (hno rfl)⟩
    · intro c34
      subst c34
      obtain ⟨vs, E, p, rfl⟩ := hyes rfl
      have hS := St.sink2 hS9
      clear hS9
      have hpl := pushE_len E c
      have hsm := p.same (but_self i A)
      refine KA.skip ?_
      refine sqQ.normal ?_
      refine KA.sub (Sub.cons (t := 0) Look.eq (Sub.cons (t := 4) Look.eq (Sub.cons (t := 5) Look.eq (Sub.cons (t := 6) Look.eq (Sub.cons (t := 7) Look.eq (Sub.nil _)))))) ?_
      refine KA.seq ?_
      refine KA.region rfl ?_
      refine KOps.move ?_
      refine KOps.move ?_
      refine KOps.call rfl (pushP_c hpf (AV.mapNil_mp hq) hB hc.toWithin (by omega) p hS) ?_
      rintro _ h5 hS
      refine KOps.done ?_
      refine sqQ.normal ?_
      refine KA.sub (Sub.cons (t := 0) Look.eq (Sub.cons (t := 4) Look.eq (Sub.cons (t := 5) Look.eq (Sub.cons (t := 6) Look.eq (Sub.nil _))))) ?_
      refine KA.draw [] mixed rfl (by kernel_rfl) ?_
      refine KOps.move ?_
      refine KOps.nilP hpf ?_
      refine KOps.fieldAddr hpf ?_
      intro p40 hp40
      refine KOps.load hp40 (hS.rd 0 rfl) rfl ?_
      refine KOps.loadBox hS (i := 4) rfl hp4 ?_
      refine KOps.indexIJ (hS.rd 1 rfl) (j := i) (by first | omega | (simp; omega)) (by first | omega | (simp; omega)) ?_
      intro p43 hp43
      refine KOps.loadI hp43 (hS.rd 1 rfl) (by first | omega | (simp; omega)) ?_
      refine KOps.sub (by first | omega | (simp; omega)) (by first | omega | (simp; omega)) ?_
      refine KOps.indexIJ (hS.rd 1 rfl) (j := i) (by first | omega | (simp; omega)) (by first | omega | (simp; omega)) ?_
      intro p46 hp46
      refine KOps.storeI hS rfl (i := 1) rfl hp46 (by first | omega | (simp; omega)) ?_
      intro h' hS
      refine KOps.done ?_
      refine blQ.normal ?_
      obtain ⟨hf2, hn2, hg2⟩ := p.lower hc hi c25
      rw [hsm] at hS
      exact lpQ.normal ((pushE E c).set i (c.getD i 0 - 1)) (by repeat (first | exact Sub.nil _ | refine Sub.cons Look.eq ?_ | refine Sub.cons (Eq.trans Look.eq (congrArg (AV.int _) (by first | omega | (dsimp only; omega)))) ?_)) ⟨hf2, hnear.trans hn2, hS⟩ (by rw [hg2]; omega)
  · intro c25
    refine KA.exit ?_
    refine sqQ.exit ?_
    refine lpQ.exit ?_
    refine blQ.here ?_
    refine fnQ.norm0 ?_
    refine ⟨c, St.mid (A := [_, _]) (B := [_, _, _]) hS, hc, hnear, ?_⟩
    intro m hm _
    have := hm.lo i hi
    have := hc.lo i hi
    omega

theorem raise_c {h0 h : AHeap} {r : Nat} {i : Nat} {pf vW vn : AV} {ws : List W} {n : List Int} {tn : Bool} {G : List Obj} (hpf : AddrOf pf pf 0 0) (hv : Rd h0 vW 4 (flr wc ws)) (hB : BOk (r : Int) ws) (hfl : Flow ws n) (hi : i < ws.length) (hS : St h0 h (⟨pf, 0, [.int .i64 (r : Int), vW, vn], true⟩ :: ⟨vn, 1, ints n, tn⟩ :: G)) : ACalls Go.Proofs.Try.prog 57 [pf, .int .i64 (i : Int)] h (fun _ h' => ∃ n', St h0 h' (⟨pf, 0, [.int .i64 (r : Int), vW, vn], true⟩ :: ⟨vn, 1, ints n', tn⟩ :: G) ∧ Flow ws n' ∧ Near i (fun _ => true) n n' ∧ High ws i (fun _ => true) n') := by
  refine KA.fn 45 [] Go.Proofs.Try.func57 rfl (by decide) rfl rfl (Nat.le_of_ble_eq_true rfl) ?_
  have hwi := hB.way i hi
  have hwf0 := hwi.f0
  have hwf1 := hwi.f1
  have hwt0 := hwi.t0
  have hwt1 := hwi.t1
  have hwl0 := hwi.l0
  have hwm1 := hwi.m1
  have hwl := hB.len
  show KA _ 45 _ _ [(0, pf), (1, .int .i64 (i : Int))] _
  refine KA.seq ?_
  refine KA.region rfl ?_
  refine KOps.box hS (l := [_]) rfl ?_
  intro p3 h' hp3 hS
  refine KOps.done ?_
  refine sqQ.normal ?_
  refine KA.sub (Sub.cons (t := 0) Look.eq (Sub.cons (t := 3) Look.eq (Sub.nil _))) ?_
  refine KA.seq ?_
  refine KA.draw [] mixed rfl (by kernel_rfl) ?_
  refine KOps.move ?_
  refine KOps.nilP hpf ?_
  refine KOps.fieldAddr hpf ?_
  intro p8 hp8
  refine KOps.fieldAddr hp8 ?_
  intro p9 hp9
  refine KOps.load hp9 (hS.rd 1 rfl) rfl ?_
  refine KOps.loadBox hS (i := 0) rfl hp3 ?_
  refine KOps.indexF wc_len (Rd.ext hS.keeps hv) (j := i) (by first | omega | (simp; omega)) (by first | omega | (simp; omega)) ?_
  intro p12 hp12
  refine KOps.loadFl wc_len (by decide) hp12 (Rd.ext hS.keeps hv) (by first | omega | (simp; omega)) ?_
  refine KOps.alloc hS ?_
  intro p4 h' hp4 hS
  refine KOps.storeAll hS rfl (i := 0) rfl hp4 (by first | rfl | (simp [AV.one]; done) | (simp [AV.one]; assumption) | (simp [AV.one, *]; done)) (by rfl) (by rfl) (by decide) ?_
  intro h' hS
  simp only [List.set_cons_zero, List.set_cons_succ, Nat.zero_add] at hS
  refine KOps.done ?_
  refine sqQ.normal ?_
  refine KA.sub (Sub.cons (t := 0) Look.eq (Sub.cons (t := 3) Look.eq (Sub.cons (t := 4) Look.eq (Sub.nil _)))) ?_
  refine KA.block ?_
  refine KA.loop (X := List Int) (fun c => [(0, pf), (3, p3), (4, p4)]) (fun c h' => Flow ws c ∧ Near i (fun _ => true) n c ∧ St h0 h' (⟨pf, 0, [.int .i64 (r : Int), vW, vn], true⟩ :: ⟨vn, 1, ints c, tn⟩ :: ⟨p4, 0, wc (ws.getD i default), true⟩ :: ⟨p3, 0, [.int .i64 (i : Int)], true⟩ :: G)) (fun c => ((ws.getD i default).m - c.getD i 0).toNat) n (by repeat (first | exact Sub.nil _ | refine Sub.cons Look.eq ?_ | refine Sub.cons (Eq.trans Look.eq (congrArg (AV.int _) (by first | omega | (dsimp only; omega)))) ?_)) ?_ ?_
  · exact ⟨hfl, Near.refl _ _ _, St.swap (A := [_, _]) (B := [_, _]) hS⟩
  rintro c h3 ⟨hc, hnear, hS⟩
  have hcb := within_bound hB hc.toWithin i hi
  have hcl := hc.len
  refine KA.seq ?_
  refine KA.seq ?_
  refine KA.draw [] mixed rfl (by kernel_rfl) ?_
  refine KOps.move ?_
  refine KOps.nilP hpf ?_
  refine KOps.fieldAddr hpf ?_
  intro p16 hp16
  refine KOps.load hp16 (hS.rd 0 rfl) rfl ?_
  refine KOps.loadBox hS (i := 3) rfl hp3 ?_
  refine KOps.indexIJ (hS.rd 1 rfl) (j := i) (by first | omega | (simp; omega)) (by first | omega | (simp; omega)) ?_
  intro p19 hp19
  refine KOps.loadI hp19 (hS.rd 1 rfl) (by first | omega | (simp; omega)) ?_
  refine KOps.fieldAddr hp4 ?_
  intro p21 hp21
  refine KOps.load hp21 (hS.rd 2 rfl) rfl ?_
  refine KOps.lss ?_
  refine KOps.done ?_
  refine sqQ.normal ?_
  refine KA.sub (Sub.cons (t := 0) Look.eq (Sub.cons (t := 3) Look.eq (Sub.cons (t := 4) Look.eq (Sub.cons (t := 23) Look.eq (Sub.nil _))))) ?_
  refine KA.condD ?_ ?_
  · intro c23
    refine KA.skip ?_
    refine sqQ.normal ?_
    refine KA.sub (Sub.cons (t := 0) Look.eq (Sub.cons (t := 3) Look.eq (Sub.cons (t := 4) Look.eq (Sub.nil _)))) ?_
    refine KA.block ?_
    refine KA.seq ?_
    refine KA.region rfl ?_
    refine KOps.move ?_
    refine KOps.fieldAddr hp4 ?_
    intro p25 hp25
    refine KOps.load hp25 (hS.rd 2 rfl) rfl ?_
    refine KOps.fieldAddr hp4 ?_
    intro p27 hp27
    refine KOps.load hp27 (hS.rd 2 rfl) rfl ?_
    refine KOps.makeFunc ?_
    refine KOps.call rfl (path_c hpf (hS.rd 0 rfl) (Rd.ext hS.keeps hv) (hS.rd 1 rfl) hB hc.len hwt0 hwt1 (A := but i (fun _ => true)) (by
      intro h' k hK hk
      have hS' : St h0 h' (_ :: _) := St.trans hS (St.ofK hK)
      exact raise1_c hp3 (hS'.rd 3 rfl))) ?_
    rintro q h4 ⟨b, G9, hq, hG, hno, hyes⟩
    have hS9 := St.trans hS hG
    clear hS
    refine KOps.assign ?_
    refine KOps.done ?_
    refine sqQ.normal ?_
    refine KA.sub (Sub.cons (t := 0) Look.eq (Sub.cons (t := 3) Look.eq (Sub.cons (t := 4) Look.eq (Sub.cons (t := 5) Look.eq (Sub.nil _))))) ?_
    refine KA.seq ?_
    refine KA.seq ?_
    refine KA.region rfl ?_
    refine KOps.move ?_
    refine KOps.eqNilm (p := (3, 4)) (by kernel_rfl) hq ?_
    refine KOps.done ?_
    refine sqQ.normal ?_
    refine KA.sub (Sub.cons (t := 0) Look.eq (Sub.cons (t := 3) Look.eq (Sub.cons (t := 4) Look.eq (Sub.cons (t := 5) Look.eq (Sub.cons (t := 32) Look.eq (Sub.nil _)))))) ?_
    refine KA.condB ?_ ?_
    · intro c32
      subst c32
      refine KA.ret ?_
      refine sqQ.ret ?_
      refine blQ.ret ?_
      refine lpQ.ret ?_
      refine blQ.ret ?_
      refine fnQ.ret0 ?_
      exact ⟨c, St.mid (A := [_, _]) (B := [_, _]) (St.drop hS9), hc, hnear, high_of hB.inR hc hi (hno rfl)⟩
    · intro c32
      subst c32
      obtain ⟨vs, E, p, rfl⟩ := hyes rfl
      have hS := St.sink2 hS9
      clear hS9
      have hpl := pushE_len E c
      have hsm := p.same (but_self i (fun _ => true))
      refine KA.skip ?_
      refine sqQ.normal ?_
      refine KA.sub (Sub.cons (t := 0) Look.eq (Sub.cons (t := 3) Look.eq (Sub.cons (t := 4) Look.eq (Sub.cons (t := 5) Look.eq (Sub.nil _))))) ?_
      refine KA.seq ?_
      refine KA.region rfl ?_
      refine KOps.move ?_
      refine KOps.move ?_
      refine KOps.call rfl (pushP_c hpf (AV.mapNil_mp hq) hB hc.toWithin (by omega) p hS) ?_
      rintro _ h5 hS
      refine KOps.done ?_
      refine sqQ.normal ?_
      refine KA.sub (Sub.cons (t := 0) Look.eq (Sub.cons (t := 3) Look.eq (Sub.cons (t := 4) Look.eq (Sub.nil _)))) ?_
      refine KA.draw [] mixed rfl (by kernel_rfl) ?_
      refine KOps.move ?_
      refine KOps.nilP hpf ?_
      refine KOps.fieldAddr hpf ?_
      intro p38 hp38
      refine KOps.load hp38 (hS.rd 0 rfl) rfl ?_
      refine KOps.loadBox hS (i := 3) rfl hp3 ?_
      refine KOps.indexIJ (hS.rd 1 rfl) (j := i) (by first | omega | (simp; omega)) (by first | omega | (simp; omega)) ?_
      intro p41 hp41
      refine KOps.loadI hp41 (hS.rd 1 rfl) (by first | omega | (simp; omega)) ?_
      refine KOps.add (by first | omega | (simp; omega)) (by first | omega | (simp; omega)) ?_
      refine KOps.indexIJ (hS.rd 1 rfl) (j := i) (by first | omega | (simp; omega)) (by first | omega | (simp; omega)) ?_
      intro p44 hp44
      refine KOps.storeI hS rfl (i := 1) rfl hp44 (by first | omega | (simp; omega)) ?_
      intro h' hS
      refine KOps.done ?_
      refine blQ.normal ?_
      obtain ⟨hf2, hn2, hg2⟩ := p.raise hc hi c23
      rw [hsm] at hS
      exact lpQ.normal ((pushE E c).set i (c.getD i 0 + 1)) (by repeat (first | exact Sub.nil _ | refine Sub.cons Look.eq ?_ | refine Sub.cons (Eq.trans Look.eq (congrArg (AV.int _) (by first | omega | (dsimp only; omega)))) ?_)) ⟨hf2, hnear.trans hn2, hS⟩ (by rw [hg2]; omega)
  · intro c23
    refine KA.exit ?_
    refine sqQ.exit ?_
    refine lpQ.exit ?_
    refine blQ.here ?_
    refine fnQ.norm0 ?_
    refine ⟨c, St.mid (A := [_, _]) (B := [_, _]) hS, hc, hnear, ?_⟩
    intro m hm _
    have := hm.hi i hi
    have := hc.hi i hi
    omega

theorem first_c {h0 h : AHeap} {r : Nat} {i : Nat} {pf vW vn : AV} {ws : List W} {n : List Int} {tn : Bool} {G : List Obj} (hpf : AddrOf pf pf 0 0) (hv : Rd h0 vW 4 (flr wc ws)) (hB : BOk (r : Int) ws) (hfl : Flow ws n) (hi : i ≤ ws.length) (hS : St h0 h (⟨pf, 0, [.int .i64 (r : Int), vW, vn], true⟩ :: ⟨vn, 1, ints n, tn⟩ :: G)) : ACalls Go.Proofs.Try.prog 37 [pf, .int .i64 (i : Int)] h (fun _ h' => ∃ n', St h0 h' (⟨pf, 0, [.int .i64 (r : Int), vW, vn], true⟩ :: ⟨vn, 1, ints n', tn⟩ :: G) ∧ FromTo ws n i ws.length n') := by
  refine KA.fn 20 [] Go.Proofs.Try.func37 rfl (by decide) rfl rfl (Nat.le_of_ble_eq_true rfl) ?_
  have hwl := hB.len
  show KA _ 20 _ _ [(0, pf), (1, .int .i64 (i : Int))] _
  refine KA.seq ?_
  refine KA.region rfl ?_
  refine KOps.move ?_
  refine KOps.alloc hS ?_
  intro p4 h' hp4 hS
  refine KOps.storeBox hS rfl (i := 0) rfl hp4 (by first | rfl | assumption) ?_
  intro h' hS
  refine KOps.done ?_
  refine sqQ.normal ?_
  refine KA.sub (Sub.cons (t := 0) Look.eq (Sub.cons (t := 4) Look.eq (Sub.nil _))) ?_
  refine KA.block ?_
  refine KA.loop (X := Nat × List Int × AV) (fun x => [(0, pf), (4, x.2.2)]) (fun x h' => i ≤ x.1 ∧ x.1 ≤ ws.length ∧ FromTo ws n i x.1 x.2.1 ∧ AddrOf x.2.2 x.2.2 0 0 ∧ St h0 h' (⟨pf, 0, [.int .i64 (r : Int), vW, vn], true⟩ :: ⟨vn, 1, ints x.2.1, tn⟩ :: ⟨x.2.2, 0, [.int .i64 (x.1 : Int)], true⟩ :: G)) (fun x => ws.length - x.1) (i, n, p4) (by repeat (first | exact Sub.nil _ | refine Sub.cons Look.eq ?_ | refine Sub.cons (Eq.trans Look.eq (congrArg (AV.int _) (by first | omega | (dsimp only; omega)))) ?_)) ?_ ?_
  · exact ⟨Nat.le_refl _, hi, FromTo.init hfl, hp4, St.swap (A := [_]) (B := [_, _]) hS⟩
  rintro ⟨j, c, pj⟩ h3 ⟨hij, hj, hc, hpj, hS⟩
  dsimp only at hij hj hc hpj hS ⊢
  have hcl := hc.fl.len
  refine KA.seq ?_
  refine KA.seq ?_
  refine KA.draw [] mixed rfl (by kernel_rfl) ?_
  refine KOps.loadBox hS (i := 2) rfl hpj ?_
  refine KOps.move ?_
  refine KOps.nilP hpf ?_
  refine KOps.fieldAddr hpf ?_
  intro p9 hp9
  refine KOps.load hp9 (hS.rd 0 rfl) rfl ?_
  refine KOps.lenI (hS.rd 1 rfl) ?_
  refine KOps.lss ?_
  refine KOps.done ?_
  refine sqQ.normal ?_
  refine KA.sub (Sub.cons (t := 0) Look.eq (Sub.cons (t := 4) Look.eq (Sub.cons (t := 12) Look.eq (Sub.nil _)))) ?_
  refine KA.condD ?_ ?_
  · intro c12
    refine KA.skip ?_
    refine sqQ.normal ?_
    refine KA.sub (Sub.cons (t := 0) Look.eq (Sub.cons (t := 4) Look.eq (Sub.nil _))) ?_
    refine KA.seq ?_
    refine KA.block ?_
    refine KA.region rfl ?_
    refine KOps.move ?_
    refine KOps.loadBox hS (i := 2) rfl hpj ?_
    refine KOps.makeFunc ?_
    refine KOps.call rfl (lower_c (i := j) (A := fun k => decide (j < k)) hpf hv hB hc.fl (by omega) (by
        intro h' X k hS' hk
        exact first1_c hpj (hS'.rd X.length (o := ⟨pj, 0, [.int .i64 (j : Int)], true⟩) (by simp))) hS) ?_
    rintro _ h4 ⟨c2, hS4, hf2, hn2, hl2⟩
    clear hS
    have hS := hS4
    clear hS4
    refine KOps.done ?_
    refine blQ.normal ?_
    refine sqQ.normal ?_
    refine KA.sub (Sub.cons (t := 0) Look.eq (Sub.cons (t := 4) Look.eq (Sub.nil _))) ?_
    refine KA.seq ?_
    refine KA.seq ?_
    refine KA.region rfl ?_
    refine KOps.loadBox hS (i := 2) rfl hpj ?_
    refine KOps.done ?_
    refine sqQ.normal ?_
    refine KA.sub (Sub.cons (t := 0) Look.eq (Sub.cons (t := 19) Look.eq (Sub.nil _))) ?_
    refine KA.region rfl ?_
    refine KOps.alloc hS ?_
    intro p4 h' hp4 hS
    refine KOps.storeBox hS rfl (i := 0) rfl hp4 (by first | rfl | assumption) ?_
    intro h' hS
    refine KOps.done ?_
    refine sqQ.normal ?_
    refine KA.sub (Sub.cons (t := 0) Look.eq (Sub.cons (t := 4) Look.eq (Sub.nil _))) ?_
    refine KA.region rfl ?_
    refine KOps.loadBox hS (i := 0) rfl hp4 ?_
    refine KOps.add (by first | omega | (simp; omega)) (by first | omega | (simp; omega)) ?_
    refine KOps.storeBox hS rfl (i := 0) rfl hp4 (by first | rfl | assumption) ?_
    intro h' hS
    refine KOps.done ?_
    simp only [List.set_cons_zero] at hS
    exact lpQ.normal (j + 1, c2, p4) (by refine Sub.cons Look.eq (Sub.cons Look.eq (Sub.nil _))) ⟨by dsimp only; omega, by dsimp only; omega, hc.step hij hf2 hn2 hl2, hp4, St.mid (A := [_, _, _]) (B := [_]) (St.swap (A := [_]) (B := [_, _]) hS)⟩ (by dsimp only; omega)
  · intro c12
    refine KA.exit ?_
    refine sqQ.exit ?_
    refine lpQ.exit ?_
    refine blQ.here ?_
    refine fnQ.norm0 ?_
    have hje : j = ws.length := by omega
    subst hje
    exact ⟨c, St.mid (A := [_, _]) (B := [_]) hS, hc⟩

end Go.Am

