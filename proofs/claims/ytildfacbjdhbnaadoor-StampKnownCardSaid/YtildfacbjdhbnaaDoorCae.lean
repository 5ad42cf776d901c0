/-
  Layer 01: the laws' small functions: contracts.
  Conditions: none.
-/
import Derived.Test.YtildfacbjdhbnaaDoorCaa
import Derived.Test.YtildfacbjdhbnaaDoorSa
import Derived.Test.YtildfacbjdhbnaaDoorRows
import Derived.MakeChecks
namespace Go.Am
theorem build_s12 {P : Program} {t : TypeId} {z0 z1 x : AV} (hz : zeroA P t = some (.agg [z0, z1])) (hz1 : [z0, z1].all AV.one = true) (hok : abuildOk P t = true) (hp0 : aplaces P t 0 = some (0, 1)) (hx : x.one = true) : abuild P t [(0, x)] = some (.agg [x, z1]) := by
  have h0 : (AV.agg [z0, z1]).cells? = some [z0, z1] := by simp only [AV.cells?]; rw [if_pos hz1]
  simp only [abuild, hz, h0, hok, if_true, Option.bind_eq_bind, Option.bind_some, afill, hp0, AV.cells_one hx]
  simp [putL, afill]
section
variable {P : Program} {n : Nat} {ops : Array Oper} {ex : List Nat} {Q : KF → AHeap → Prop} {k : Nat} {os : List Oper} {K : KF} {h : AHeap} {d : Nat} {ty : TypeId} {pos : String} {after : Array Edge}
theorem KOps.buildS12 {t : TypeId} {x0 : Operand} {v0 : AV} [hx0 : EvK h.globs n K x0 v0] {z0 z1 : AV} (hz : zeroA P t = some (.agg [z0, z1])) (hz1 : [z0, z1].all AV.one = true) (hok : abuildOk P t = true) (hp0 : aplaces P t 0 = some (0, 1)) (hov0 : v0.one = true) (hk : KOps P n ops ex Q (k + 1) os ((d, .agg [v0, z1]) :: K) h) :
    KOps P n ops ex Q k (⟨some d, .build t (List.toArray [(0, x0)]), ty, pos, after, none⟩ :: os) K h :=
  KOps.build (vs := [v0]) (build_s12 hz hz1 hok hp0 hov0) hk
theorem pc_aarr (p q : Int × Int) : aarr Go.Proofs.Tryd.prog 72 (pc p) (pc q) = some (decide (p = q)) := by
  have h1 : arrA Go.Proofs.Tryd.prog 72 = some (2, 3) := by kernel_rfl
  have h2 : intA Go.Proofs.Tryd.prog 3 = some .i64 := by kernel_rfl
  have h3 : (Go.Proofs.Tryd.prog).eqGuardType (Go.Proofs.Tryd.prog).depth 72 = false := by kernel_rfl
  have h4 : szA Go.Proofs.Tryd.prog 3 = some 1 := by kernel_rfl
  obtain ⟨a, b⟩ := p
  obtain ⟨c, e⟩ := q
  simp only [aarr, h1, h2, h3, h4, pc, ints, List.map_cons, List.map_nil, alits, if_true, Option.map_some, List.length_cons, List.length_nil, true_and, Prod.mk.injEq, and_self, Option.some.injEq]
  rw [Bool.eq_iff_iff, beq_iff_eq, decide_eq_true_iff]
  simp
theorem KOps.neqPc {x y : Operand} {p q : Int × Int} {t' : TypeId} [hx : EvK h.globs n K x (.agg (pc p))] [hy : EvK h.globs n K y (.agg (pc q))] (hk : KOps Go.Proofs.Tryd.prog n ops ex Q (k + 1) os ((d, .bool (!decide (p = q))) :: K) h) :
    KOps Go.Proofs.Tryd.prog n ops ex Q k (⟨some d, .binOp .neq 72 x y t', ty, pos, after, none⟩ :: os) K h :=
  KOps.pure rfl (by simp only [apure, hx.eq, hy.eq, abin, pc_aarr, Option.map_some]) hk
end
def wayAt (l : List Int) (i : Nat) : W := ⟨l.getD (4 * i) 0, l.getD (4 * i + 1) 0, l.getD (4 * i + 2) 0, l.getD (4 * i + 3) 0⟩
def waysTo (l : List Int) (k : Nat) : List W := (List.range k).map (wayAt l)
theorem waysTo_len (l : List Int) (k : Nat) : (waysTo l k).length = k := by simp [waysTo]
theorem waysTo_next (l : List Int) (k : Nat) : flr wc (waysTo l k) ++ wc (wayAt l k) = flr wc (waysTo l (k + 1)) := by
  rw [flr_snoc]; simp [waysTo, List.range_succ]

theorem books_c {h : AHeap} {rm : Int} {vn : AV} {l : List Int} {m : Nat} (hn : Row h vn l) (hl : l.length = 4 * m) (hm : m ≤ 1000) : ACalls Go.Proofs.Tryd.prog 52 [.int .i64 rm, vn] h (fun q h' => ∃ v, q = .agg [.int .i64 rm, v] ∧ St h h' [⟨v, 4, flr wc (waysTo l m), true⟩]) := by
  refine KA.fnH 42 [.cell 4 24] Go.Proofs.Tryd.func52 rfl (by decide) rfl rfl (Nat.le_of_ble_eq_true rfl) ?_
  have hS := St.refl h
  show KA _ 42 _ _ [(0, .int .i64 rm), (1, vn)] _
  refine KA.seq ?_
  refine KA.region rfl ?_
  refine KOps.alloc hS ?_
  intro p4 h' hp4 hS
  refine KOps.done ?_
  refine sqQ.normal ?_
  refine KA.seq ?_
  refine KA.region rfl ?_
  refine KOps.move ?_
  refine KOps.buildS12 (z0 := .int .i64 0) (z1 := .nils) (by kernel_rfl) (by rfl) (by kernel_rfl) (by kernel_rfl) (by first | rfl | assumption) ?_
  refine KOps.alloc hS ?_
  intro p5 h' hp5 hS
  refine KOps.storeAll hS rfl (i := 0) rfl hp5 (by first | rfl | (simp [AV.one]; done) | (simp [AV.one]; assumption) | (simp [AV.one, *]; done)) (by rfl) (by rfl) (by decide) ?_
  intro h' hS
  simp only [List.set_cons_zero, List.set_cons_succ, Nat.zero_add] at hS
  refine KOps.done ?_
  refine sqQ.normal ?_
  refine KA.sub (Sub.cons (t := 1) Look.eq (Sub.cons (t := 4) Look.eq (Sub.cons (t := 5) Look.eq (Sub.nil _)))) ?_
  refine KA.seq ?_
  refine KA.seq ?_
  refine KA.region rfl ?_
  refine KOps.assign ?_
  refine KOps.done ?_
  refine sqQ.normal ?_
  refine KA.block ?_
  refine KA.loop (X := Nat × AV) (fun x => [(1, vn), (4, p4), (5, p5), (6, .int .i64 ((4 * x.1 : Nat) : Int))]) (fun x h' => x.1 ≤ m ∧ St h h' [⟨p5, 0, [.int .i64 rm, x.2], true⟩, ⟨p4, 0, [.int .i64 0, .nils], true⟩, ⟨x.2, 4, flr wc (waysTo l x.1), true⟩]) (fun x => m - x.1) (0, .nils) (by repeat (first | exact Sub.nil _ | refine Sub.cons Look.eq ?_ | refine Sub.cons (Eq.trans Look.eq (congrArg (AV.int _) (by first | omega | (dsimp only; omega)))) ?_)) ?_ ?_
  · exact ⟨Nat.zero_le _, St.addNil 4 true hS⟩
  rintro ⟨i, vo⟩ h3 ⟨hi, hS⟩
  dsimp only at hi hS ⊢
  refine KA.seq ?_
  refine KA.seq ?_
  refine KA.region rfl ?_
  refine KOps.move ?_
  refine KOps.add (by first | omega | (simp; omega)) (by first | omega | (simp; omega)) ?_
  refine KOps.move ?_
  refine KOps.lenI (Row.ext hS.keeps hn) ?_
  refine KOps.lss ?_
  refine KOps.done ?_
  refine sqQ.normal ?_
  refine KA.sub (Sub.cons (t := 1) Look.eq (Sub.cons (t := 4) Look.eq (Sub.cons (t := 5) Look.eq (Sub.cons (t := 6) Look.eq (Sub.cons (t := 13) Look.eq (Sub.nil _)))))) ?_
  refine KA.condD ?_ ?_
  · intro c13
    refine KA.skip ?_
    refine sqQ.normal ?_
    refine KA.sub (Sub.cons (t := 1) Look.eq (Sub.cons (t := 4) Look.eq (Sub.cons (t := 5) Look.eq (Sub.cons (t := 6) Look.eq (Sub.nil _))))) ?_
    refine KA.seq ?_
    refine KA.block ?_
    refine KA.draw [23] mixed rfl (by kernel_rfl) ?_
    refine KOps.fieldAddr hp5 ?_
    intro p16 hp16
    refine KOps.load hp16 (hS.rd 0 rfl) rfl ?_
    refine KOps.move ?_
    refine KOps.move ?_
    refine KOps.indexIJ (Row.ext hS.keeps hn) (j := (4 * i)) (by first | omega | (simp; omega)) (by first | omega | (simp; omega)) ?_
    intro p20 hp20
    refine KOps.loadI hp20 (Row.ext hS.keeps hn) (by first | omega | (simp; omega)) ?_
    refine KOps.move ?_
    refine KOps.move ?_
    refine KOps.add (by first | omega | (simp; omega)) (by first | omega | (simp; omega)) ?_
    refine KOps.indexIJ (Row.ext hS.keeps hn) (j := (4 * i + 1)) (by first | omega | (simp; omega)) (by first | omega | (simp; omega)) ?_
    intro p25 hp25
    refine KOps.loadI hp25 (Row.ext hS.keeps hn) (by first | omega | (simp; omega)) ?_
    refine KOps.move ?_
    refine KOps.move ?_
    refine KOps.add (by first | omega | (simp; omega)) (by first | omega | (simp; omega)) ?_
    refine KOps.indexIJ (Row.ext hS.keeps hn) (j := (4 * i + 2)) (by first | omega | (simp; omega)) (by first | omega | (simp; omega)) ?_
    intro p30 hp30
    refine KOps.loadI hp30 (Row.ext hS.keeps hn) (by first | omega | (simp; omega)) ?_
    refine KOps.move ?_
    refine KOps.move ?_
    refine KOps.add (by first | omega | (simp; omega)) (by first | omega | (simp; omega)) ?_
    refine KOps.indexIJ (Row.ext hS.keeps hn) (j := (4 * i + 3)) (by first | omega | (simp; omega)) (by first | omega | (simp; omega)) ?_
    intro p35 hp35
    refine KOps.loadI hp35 (Row.ext hS.keeps hn) (by first | omega | (simp; omega)) ?_
    refine KOps.buildS4 (z0 := .int .i64 0) (z1 := .int .i64 0) (z2 := .int .i64 0) (z3 := .int .i64 0) (by kernel_rfl) (by rfl) (by kernel_rfl) (by kernel_rfl) (by kernel_rfl) (by kernel_rfl) (by kernel_rfl) (by first | rfl | assumption) (by first | rfl | assumption) (by first | rfl | assumption) (by first | rfl | assumption) ?_
    refine KOps.buildSliceS (cs := (wc (wayAt l i))) hS rfl rfl rfl (by decide) ?_
    intro v38 h' hS
    refine KOps.append hS (fun _ => rfl) (i := 3) rfl (a := i) (by rw [flr_len wc_len, waysTo_len]) (hS.rd 0 rfl) (b := 1) rfl rfl (by omega) ?_
    intro r39 h' hS
    simp only [List.set_cons_zero, List.set_cons_succ, Nat.zero_add] at hS
    have hr39 : r39.one = true := St.one hS (k := 3) rfl
    have hS0 := St.tail hS
    clear hS
    have hS := hS0
    clear hS0
    refine KOps.fieldAddr hp5 ?_
    intro p40 hp40
    refine KOps.store hS rfl (i := 0) rfl hp40 (by first | rfl | assumption) (by first | decide | simp) ?_
    intro h' hS
    simp only [List.set_cons_zero, List.set_cons_succ, Nat.zero_add] at hS
    refine KOps.done ?_
    refine blQ.normal ?_
    refine sqQ.normal ?_
    refine KA.sub (Sub.cons (t := 1) Look.eq (Sub.cons (t := 4) Look.eq (Sub.cons (t := 5) Look.eq (Sub.cons (t := 6) Look.eq (Sub.nil _))))) ?_
    refine KA.region rfl ?_
    refine KOps.move ?_
    refine KOps.add (by first | omega | (simp; omega)) (by first | omega | (simp; omega)) ?_
    refine KOps.assign ?_
    refine KOps.done ?_
    rw [waysTo_next] at hS
    exact lpQ.normal (i + 1, r39) (by repeat (first | exact Sub.nil _ | refine Sub.cons Look.eq ?_ | refine Sub.cons (Eq.trans Look.eq (congrArg (AV.int _) (by first | omega | (dsimp only; omega)))) ?_)) ⟨by dsimp only; omega, hS⟩ (by dsimp only; omega)
  · intro c13
    refine KA.exit ?_
    refine sqQ.exit ?_
    refine lpQ.exit ?_
    refine blQ.here ?_
    refine sqQ.normal ?_
    refine KA.sub (Sub.cons (t := 4) Look.eq (Sub.cons (t := 5) Look.eq (Sub.nil _))) ?_
    refine KA.seq ?_
    refine KA.region rfl ?_
    refine KOps.loadAll hS (i := 0) rfl hp5 (by rfl) (by decide) ?_
    refine KOps.storeAll hS rfl (i := 1) rfl hp4 (by show (true && (vo.one && true)) = true; rw [St.one hS (k := 2) rfl]; rfl) (by rfl) (by rfl) (by decide) ?_
    intro h' hS
    simp only [List.set_cons_zero, List.set_cons_succ, Nat.zero_add] at hS
    refine KOps.done ?_
    refine sqQ.normal ?_
    refine KA.sub (Sub.cons (t := 4) Look.eq (Sub.nil _)) ?_
    refine KA.ret ?_
    refine fnC.retC hS (i := 1) rfl hp4 (by rfl) (by simp) ?_
    have hie : i = m := by omega
    subst hie
    exact ⟨_, rfl, St.pick [2] (by decide) rfl hS⟩

theorem lst_c {h : AHeap} {v : AV} : ACalls Go.Proofs.Tryd.prog 51 [v] h (fun q h' => q = v ∧ h = h') := by
  refine KA.fn 4 [.tmp 2] Go.Proofs.Tryd.func51 rfl (by decide) rfl rfl (Nat.le_of_ble_eq_true rfl) ?_
  show KA _ 4 _ _ [(0, v)] _
  refine KA.seq ?_
  refine KA.region rfl ?_
  refine KOps.assign ?_
  refine KOps.done ?_
  refine sqQ.normal ?_
  refine KA.sub (Sub.cons (t := 0) Look.eq (Sub.nil _)) ?_
  refine KA.seq ?_
  refine KA.region rfl ?_
  refine KOps.move ?_
  refine KOps.assign ?_
  refine KOps.done ?_
  refine sqQ.normal ?_
  refine KA.sub (Sub.cons (t := 2) Look.eq (Sub.nil _)) ?_
  refine KA.ret ?_
  refine fnQ.ret1 ?_
  exact ⟨rfl, rfl⟩

def wB : List W := [⟨0, 1, 5, 9⟩, ⟨1, 2, 0, 7⟩, ⟨2, 0, 4, 6⟩]
def wC : List W := [⟨0, 1, 5, 9⟩, ⟨1, 2, 0, 3⟩, ⟨2, 0, 0, 9⟩, ⟨1, 0, 0, 1⟩]

theorem B_c {h : AHeap} : ACalls Go.Proofs.Tryd.prog 50 [] h (fun q h' => ∃ v, q = .agg [.int .i64 3, v] ∧ St h h' [⟨v, 4, flr wc wB, true⟩]) := by
  refine KA.fnH 3 [.cell 0 24] Go.Proofs.Tryd.func50 rfl (by decide) rfl rfl (Nat.le_of_ble_eq_true rfl) ?_
  have hS := St.refl h
  show KA _ 3 _ _ [] _
  refine KA.seq ?_
  refine KA.region rfl ?_
  refine KOps.alloc hS ?_
  intro p0 h' hp0 hS
  refine KOps.done ?_
  refine sqQ.normal ?_
  refine KA.seq ?_
  refine KA.region rfl ?_
  refine KOps.buildSlice hS rfl (by decide) rfl ?_
  intro v1 h' hS
  refine KOps.call rfl (books_c (l := [0, 1, 5, 9, 1, 2, 0, 7, 2, 0, 4, 6]) (m := 3) (hS.rd 0 rfl) rfl (by decide)) ?_
  rintro _ h5 ⟨vb, rfl, hSB⟩
  have hS0 : St _ _ (_ :: _) := St.trans hS hSB
  clear hS
  have hS := hS0
  clear hS0
  have hvb : vb.one = true := St.one hS (k := 0) rfl
  refine KOps.storeAll hS rfl (i := 2) rfl hp0 (by show (true && (vb.one && true)) = true; rw [hvb]; rfl) (by rfl) (by rfl) (by decide) ?_
  intro h' hS
  simp only [List.set_cons_zero, List.set_cons_succ, Nat.zero_add] at hS
  refine KOps.done ?_
  refine sqQ.normal ?_
  refine KA.sub (Sub.cons (t := 0) Look.eq (Sub.nil _)) ?_
  refine KA.ret ?_
  refine fnC.retC hS (i := 2) rfl hp0 (by rfl) (by simp) ?_
  exact ⟨_, rfl, St.pick [0] (by decide) rfl hS⟩

theorem C_c {h : AHeap} : ACalls Go.Proofs.Tryd.prog 53 [] h (fun q h' => ∃ v, q = .agg [.int .i64 3, v] ∧ St h h' [⟨v, 4, flr wc wC, true⟩]) := by
  refine KA.fnH 3 [.cell 0 24] Go.Proofs.Tryd.func53 rfl (by decide) rfl rfl (Nat.le_of_ble_eq_true rfl) ?_
  have hS := St.refl h
  show KA _ 3 _ _ [] _
  refine KA.seq ?_
  refine KA.region rfl ?_
  refine KOps.alloc hS ?_
  intro p0 h' hp0 hS
  refine KOps.done ?_
  refine sqQ.normal ?_
  refine KA.seq ?_
  refine KA.region rfl ?_
  refine KOps.buildSlice hS rfl (by decide) rfl ?_
  intro v1 h' hS
  refine KOps.call rfl (books_c (l := [0, 1, 5, 9, 1, 2, 0, 3, 2, 0, 0, 9, 1, 0, 0, 1]) (m := 4) (hS.rd 0 rfl) rfl (by decide)) ?_
  rintro _ h5 ⟨vb, rfl, hSB⟩
  have hS0 : St _ _ (_ :: _) := St.trans hS hSB
  clear hS
  have hS := hS0
  clear hS0
  have hvb : vb.one = true := St.one hS (k := 0) rfl
  refine KOps.storeAll hS rfl (i := 2) rfl hp0 (by show (true && (vb.one && true)) = true; rw [hvb]; rfl) (by rfl) (by rfl) (by decide) ?_
  intro h' hS
  simp only [List.set_cons_zero, List.set_cons_succ, Nat.zero_add] at hS
  refine KOps.done ?_
  refine sqQ.normal ?_
  refine KA.sub (Sub.cons (t := 0) Look.eq (Sub.nil _)) ?_
  refine KA.ret ?_
  refine fnC.retC hS (i := 2) rfl hp0 (by rfl) (by simp) ?_
  exact ⟨_, rfl, St.pick [0] (by decide) rfl hS⟩

theorem spans_c {h : AHeap} {v u : AV} {a b : List (Int × Int)} (hv : Rd h v 2 (flr pc a)) (hu : Rd h u 2 (flr pc b)) (hla : a.length ≤ 1000000) : ACalls Go.Proofs.Tryd.prog 39 [v, u] h (fun q h' => q = .bool (decide (a = b)) ∧ h = h') := by
  refine KA.fn 26 [.tmp 4] Go.Proofs.Tryd.func39 rfl (by decide) rfl rfl (Nat.le_of_ble_eq_true rfl) ?_
  show KA _ 26 _ _ [(0, v), (1, u)] _
  refine KA.seq ?_
  refine KA.region rfl ?_
  refine KOps.assign ?_
  refine KOps.done ?_
  refine sqQ.normal ?_
  refine KA.sub (Sub.cons (t := 0) Look.eq (Sub.cons (t := 1) Look.eq (Sub.nil _))) ?_
  refine KA.seq ?_
  refine KA.seq ?_
  refine KA.region rfl ?_
  refine KOps.move ?_
  refine KOps.lenF pc_len hv ?_
  refine KOps.move ?_
  refine KOps.lenF pc_len hu ?_
  refine KOps.neq ?_
  refine KOps.done ?_
  refine sqQ.normal ?_
  refine KA.sub (Sub.cons (t := 0) Look.eq (Sub.cons (t := 1) Look.eq (Sub.cons (t := 10) Look.eq (Sub.nil _)))) ?_
  refine KA.condN ?_ ?_
  · intro c10
    refine KA.seq ?_
    refine KA.region rfl ?_
    refine KOps.assign ?_
    refine KOps.done ?_
    refine sqQ.normal ?_
    refine KA.sub (Sub.cons (t := 4) Look.eq (Sub.nil _)) ?_
    refine KA.ret ?_
    refine sqQ.ret ?_
    refine fnQ.ret1 ?_
    refine ⟨congrArg AV.bool (decide_eq_false fun e => ?_).symm, rfl⟩
    subst e
    omega
  · intro c10
    have hlab : a.length = b.length := by omega
    refine KA.skip ?_
    refine sqQ.normal ?_
    refine KA.sub (Sub.cons (t := 0) Look.eq (Sub.cons (t := 1) Look.eq (Sub.nil _))) ?_
    refine KA.seq ?_
    refine KA.seq ?_
    refine KA.region rfl ?_
    refine KOps.assign ?_
    refine KOps.done ?_
    refine sqQ.normal ?_
    refine KA.block ?_
    refine KA.loop (X := Nat) (fun i => [(0, v), (1, u), (5, .int .i64 (i : Int))]) (fun i h' => h = h' ∧ i ≤ a.length ∧ ∀ j, j < i → a.getD j default = b.getD j default) (fun i => a.length - i) 0 (by repeat (first | exact Sub.nil _ | refine Sub.cons Look.eq ?_ | refine Sub.cons (Eq.trans Look.eq (congrArg (AV.int _) (by first | omega | (dsimp only; omega)))) ?_)) ?_ ?_
    · exact ⟨rfl, Nat.zero_le _, fun j hj => by omega⟩
    rintro i _ ⟨rfl, hi, hj⟩
    refine KA.seq ?_
    refine KA.seq ?_
    refine KA.region rfl ?_
    refine KOps.move ?_
    refine KOps.move ?_
    refine KOps.lenF pc_len hv ?_
    refine KOps.lss ?_
    refine KOps.done ?_
    refine sqQ.normal ?_
    refine KA.sub (Sub.cons (t := 0) Look.eq (Sub.cons (t := 1) Look.eq (Sub.cons (t := 5) Look.eq (Sub.cons (t := 14) Look.eq (Sub.nil _))))) ?_
    refine KA.condD ?_ ?_
    · intro c14
      refine KA.skip ?_
      refine sqQ.normal ?_
      refine KA.sub (Sub.cons (t := 0) Look.eq (Sub.cons (t := 1) Look.eq (Sub.cons (t := 5) Look.eq (Sub.nil _)))) ?_
      refine KA.seq ?_
      refine KA.block ?_
      refine KA.seq ?_
      refine KA.draw [] mixed rfl (by kernel_rfl) ?_
      refine KOps.move ?_
      refine KOps.move ?_
      refine KOps.indexF pc_len hv (j := i) rfl (by first | omega | (simp; omega)) ?_
      intro p19 hp19
      refine KOps.loadFl pc_len (by decide) hp19 hv (by first | omega | (simp; omega)) ?_
      refine KOps.move ?_
      refine KOps.move ?_
      refine KOps.indexF pc_len hu (j := i) rfl (by first | omega | (simp; omega)) ?_
      intro p23 hp23
      refine KOps.loadFl pc_len (by decide) hp23 hu (by first | omega | (simp; omega)) ?_
      refine KOps.neqPc ?_
      refine KOps.done ?_
      refine sqQ.normal ?_
      refine KA.sub (Sub.cons (t := 0) Look.eq (Sub.cons (t := 1) Look.eq (Sub.cons (t := 5) Look.eq (Sub.cons (t := 25) Look.eq (Sub.nil _))))) ?_
      refine KA.condN ?_ ?_
      · intro c25
        refine KA.seq ?_
        refine KA.region rfl ?_
        refine KOps.assign ?_
        refine KOps.done ?_
        refine sqQ.normal ?_
        refine KA.sub (Sub.cons (t := 4) Look.eq (Sub.nil _)) ?_
        refine KA.ret ?_
        refine blQ.ret ?_
        refine sqQ.ret ?_
        refine lpQ.ret ?_
        refine blQ.ret ?_
        refine sqQ.ret ?_
        refine fnQ.ret1 ?_
        exact ⟨congrArg AV.bool (decide_eq_false fun e => c25 (by rw [e])).symm, rfl⟩
      · intro c25
        refine KA.skip ?_
        refine blQ.normal ?_
        refine sqQ.normal ?_
        refine KA.sub (Sub.cons (t := 0) Look.eq (Sub.cons (t := 1) Look.eq (Sub.cons (t := 5) Look.eq (Sub.nil _)))) ?_
        refine KA.region rfl ?_
        refine KOps.move ?_
        refine KOps.add (by first | omega | (simp; omega)) (by first | omega | (simp; omega)) ?_
        refine KOps.assign ?_
        refine KOps.done ?_
        refine lpQ.normal (i + 1) (by repeat (first | exact Sub.nil _ | refine Sub.cons Look.eq ?_ | refine Sub.cons (Eq.trans Look.eq (congrArg (AV.int _) (by first | omega | (dsimp only; omega)))) ?_)) ⟨rfl, by omega, ?_⟩ (by omega)
        intro j hj2
        rcases Nat.lt_succ_iff_lt_or_eq.1 hj2 with h3 | rfl
        · exact hj j h3
        · exact c25
    · intro c14
      refine KA.exit ?_
      refine sqQ.exit ?_
      refine lpQ.exit ?_
      refine blQ.here ?_
      refine sqQ.normal ?_
      refine KA.sub (Sub.nil _) ?_
      refine KA.seq ?_
      refine KA.region rfl ?_
      refine KOps.assign ?_
      refine KOps.done ?_
      refine sqQ.normal ?_
      refine KA.ret ?_
      refine fnQ.ret1 ?_
      refine ⟨congrArg AV.bool (decide_eq_true ?_).symm, rfl⟩
      refine List.ext_getElem (by omega) fun k h1 h2 => ?_
      have := hj k (by omega)
      rw [List.getD_eq_getElem?_getD, List.getD_eq_getElem?_getD, List.getElem?_eq_getElem h1, List.getElem?_eq_getElem h2] at this
      exact this

end Go.Am

namespace Go.Am
theorem chkWB : chkB 3 wB = 0 := by decide +kernel
theorem chkWC : chkB 3 wC = 0 := by decide +kernel
theorem canWB : canP 3 wB = true := by decide +kernel
theorem canWC : canP 3 wC = false := by decide +kernel
theorem agrWB : agreeE 3 wB = 0 := by decide +kernel
theorem agaWC : againE 3 wC = 0 := by decide +kernel
theorem agaWB : againE 3 wB = 13 := by decide +kernel
theorem fewWC : fewL (proofB wC) (2 ^ (3 : Int).toNat) = [0, 2] := by decide +kernel
theorem verWB : verE 3 wB [5, 5, 5] = 0 := by decide +kernel
theorem verWB2 : verE 3 wB [5, 6, 6] = 17 := by decide +kernel
theorem verWB3 : verE 3 wB [6, 6, 6] = 0 := by decide +kernel
theorem verWB4 : verE 3 wB [4, 4, 4] = 1 := by decide +kernel
theorem verWB5 : verE 3 wB [5, 5] = 5 := by decide +kernel
theorem provWC : provE 3 wC [0, 2] = 0 := by decide +kernel
theorem provWC1 : provE 3 wC [1] = 14 := by decide +kernel
theorem sayWB : sayE 3 wB [0, 1] 1 = 0 ∧ sayV 3 wB [0, 1] 1 = 6 := by decide +kernel
theorem sayWB2 : sayE 3 wB [2] 0 = 12 := by decide +kernel
theorem sayWB3 : sayE 3 wB [1] 1 = 0 ∧ sayV 3 wB [1] 1 = 9 := by decide +kernel
theorem sayWB4 : sayE 3 wB [2] 1 = 0 ∧ sayV 3 wB [2] 1 = 4 := by decide +kernel
theorem askWB (i : Nat) (h : i < 3) : askE 3 wB (i : Int) = 0 := by
  have : ∀ i : Nat, i < 3 → askE 3 wB (i : Int) = 0 := by decide +kernel
  exact this i h
/-- All flows of B: each way has the same number, 5 or 6. -/
theorem flowWB {n : List Int} (h : Flow wB n) : ∃ v, n = [v, v, v] ∧ 5 ≤ v ∧ v ≤ 6 := by
  have hl : n.length = 3 := h.len
  match n, hl with
  | [a, b, c], _ =>
    have l0 : (5 : Int) ≤ a := h.lo 0 (by decide)
    have m0 : a ≤ 9 := h.hi 0 (by decide)
    have l2 : (4 : Int) ≤ c := h.lo 2 (by decide)
    have m2 : c ≤ 6 := h.hi 2 (by decide)
    have k0 := h.kp 0
    have k1 := h.kp 1
    have e0 : kept wB [a, b, c] 0 = 0 + a * (0 - 1) + b * (0 - 0) + c * (1 - 0) := rfl
    have e1 : kept wB [a, b, c] 1 = 0 + a * (1 - 0) + b * (0 - 1) + c * (0 - 0) := rfl
    rw [e0] at k0
    rw [e1] at k1
    have h1 : b = a := by omega
    have h2 : c = a := by omega
    subst h1 h2
    exact ⟨_, rfl, l0, m2⟩
theorem flowWB5 : Flow wB [5, 5, 5] := (verE_flow verWB).2
theorem flowWB6 : Flow wB [6, 6, 6] := (verE_flow verWB3).2
theorem exWB : ∃ n, Flow wB n := ⟨_, flowWB5⟩
theorem lexWB : firstOf wB = [5, 5, 5] := by
  refine (firstOf_is exWB).uniq ⟨flowWB5, fun m hm i hi _ => ?_⟩
  obtain ⟨v, rfl, h1, h2⟩ := flowWB hm
  have hi : i < 3 := hi
  match i, hi with
  | 0, _ => exact h1
  | 1, _ => exact h1
  | 2, _ => exact h1
theorem nextWB : nextOf wB [5, 5, 5] = some [6, 6, 6] := by
  refine nextOf_some (i := 0) ⟨by decide, flowWB6, fun k hk => by omega, rfl, ?_, ?_⟩
  · intro m hm k h1 h2 h3
    obtain ⟨v, rfl, h4, h5⟩ := flowWB hm
    have h6 : v = 6 := h3 0 h1
    subst h6
    exact Int.le_refl _
  · intro k h1 h2
    rintro ⟨m, hm, h3, h4⟩
    obtain ⟨v, rfl, h5, h6⟩ := flowWB hm
    have h7 : v = 5 := h3 0 h1
    subst h7
    exact Int.lt_irrefl _ h4
theorem otherWB : otherE 3 wB [5, 5, 5] = 0 ∧ otherL 3 wB [5, 5, 5] = [6, 6, 6] := by
  constructor
  · rw [otherE, if_pos verWB, if_pos lexWB, nextWB]; rfl
  · rw [otherL, if_pos verWB, if_pos lexWB, nextWB]; rfl
theorem otherWB6 : otherE 3 wB [6, 6, 6] = 0 ∧ otherL 3 wB [6, 6, 6] = [5, 5, 5] := by
  constructor
  · rw [otherE, if_pos verWB3, if_neg (by rw [lexWB]; decide)]
  · rw [otherL, if_pos verWB3, if_neg (by rw [lexWB]; decide), lexWB]
theorem getWB (v : Int) {i : Nat} (h : i < 3) : ([v, v, v] : List Int).getD i 0 = v := by
  match i, h with
  | 0, _ => rfl
  | 1, _ => rfl
  | 2, _ => rfl
theorem loWB {i : Nat} (h : i < 3) : loOf wB i = 5 := by
  refine (loOf_is exWB h).uniq ⟨⟨_, flowWB5, getWB 5 h⟩, fun n hn => ?_⟩
  obtain ⟨v, rfl, h1, h2⟩ := flowWB hn
  rw [getWB v h]; exact h1
theorem hiWB {i : Nat} (h : i < 3) : hiOf wB i = 6 := by
  refine (hiOf_is exWB h).uniq ⟨⟨_, flowWB6, getWB 6 h⟩, fun n hn => ?_⟩
  obtain ⟨v, rfl, h1, h2⟩ := flowWB hn
  rw [getWB v h]; exact h2
theorem spansWB : spansTo wB wB.length = [(5, 6), (5, 6), (5, 6)] := by
  show [(loOf wB 0, hiOf wB 0), (loOf wB 1, hiOf wB 1), (loOf wB 2, hiOf wB 2)] = _
  rw [loWB (by decide), loWB (by decide), loWB (by decide), hiWB (by decide), hiWB (by decide), hiWB (by decide)]
theorem openWB : openTo wB wB.length = [0, 1, 2] := by
  have h : ∀ i, i < 3 → loOf wB i < hiOf wB i := fun i hi => by rw [loWB hi, hiWB hi]; decide
  show openTo wB 3 = _
  rw [openTo_succ, if_pos (h 2 (by decide)), openTo_succ, if_pos (h 1 (by decide)), openTo_succ, if_pos (h 0 (by decide))]
  rfl
theorem boundWB {i : Nat} (h : i < 3) (g : Bool) : boundL 3 wB (i : Int) g = if (if g then 6 else 5) = ownI wB i g then [] else fewL (fun s => if g then lvs (wB.getD i default) s && decide (saysV wB s i = 6) else ens (wB.getD i default) s && decide (saysV wB s i = 5)) 8 := by
  have h1 : endI wB i g = if g then 6 else 5 := by unfold endI; rw [loWB h, hiWB h]
  have h2 : pB wB i g = fun s => if g then lvs (wB.getD i default) s && decide (saysV wB s i = 6) else ens (wB.getD i default) s && decide (saysV wB s i = 5) := by
    funext s; unfold pB; rw [loWB h, hiWB h]
  rw [boundL, if_pos (askWB i h), Int.toNat_natCast, h1, h2]
  rfl
theorem boundWB1 : boundL 3 wB 1 true = [0, 1] := (boundWB (i := 1) (by decide) true).trans (by decide +kernel)
theorem boundWB0 : boundL 3 wB 0 true = [0] := (boundWB (i := 0) (by decide) true).trans (by decide +kernel)
theorem boundWB2 : boundL 3 wB 2 false = [0] := (boundWB (i := 2) (by decide) false).trans (by decide +kernel)
theorem boundWB3 : boundL 3 wB 0 false = [] := (boundWB (i := 0) (by decide) false).trans (by decide +kernel)
end Go.Am

namespace Go.Am
theorem askWB0 : askE 3 wB 0 = 0 := by decide +kernel
theorem askWB1 : askE 3 wB 1 = 0 := by decide +kernel
theorem loWB0 : loOf wB (Int.toNat 0) = 5 := loWB (i := 0) (by decide)
theorem hiWB0 : hiOf wB (Int.toNat 0) = 6 := hiWB (i := 0) (by decide)

set_option synthInstance.maxHeartbeats 2000000 in
set_option synthInstance.maxSize 4000 in
set_option maxRecDepth 100000 in
theorem works_c {h : AHeap} (hSz : Sizes h) : ACalls Go.Proofs.Tryd.prog 16 [] h (fun q h' => q = .bool true ∧ Keeps h h') := by
  refine KA.fn 208 [.tmp 0] Go.Proofs.Tryd.func16 rfl (by decide) rfl rfl (Nat.le_of_ble_eq_true rfl) ?_
  have hS := St.refl h
  show KA _ 208 _ _ [] _
  refine KA.seq ?_
  refine KA.region rfl ?_
  refine KOps.assign ?_
  refine KOps.done ?_
  refine sqQ.normal ?_
  refine KA.sub (Sub.nil _) ?_
  refine KA.seq ?_
  refine KA.region rfl ?_
  refine KOps.call rfl (B_c) ?_
  rintro _ hb10 ⟨vb10, rfl, hSB⟩
  have hS0 : St _ _ (_ :: _) := St.trans hS hSB
  clear hS
  have hS := hS0
  clear hS0

  refine KOps.call rfl (stCan_c (hS.rd 0 rfl)) ?_
  rintro _ h11 ⟨rfl, hK⟩
  have hS0 : St _ _ (_ :: _) := St.trans hS (St.ofK hK)
  clear hS
  have hS := hS0
  clear hS0
  rw [canWB, chkWB]
  refine KOps.move ?_
  refine KOps.extract ?_
  refine KOps.extract ?_
  refine KOps.assign ?_
  refine KOps.assign ?_
  refine KOps.done ?_
  refine sqQ.normal ?_
  refine KA.sub (Sub.cons (t := 1) Look.eq (Sub.cons (t := 2) Look.eq (Sub.nil _))) ?_
  refine KA.seq ?_
  refine KA.region rfl ?_
  refine KOps.call rfl (C_c) ?_
  rintro _ hb20 ⟨vb20, rfl, hSB⟩
  have hS0 : St _ _ (_ :: _) := St.trans hS hSB
  clear hS
  have hS := hS0
  clear hS0

  refine KOps.call rfl (stCan_c (hS.rd 0 rfl)) ?_
  rintro _ h21 ⟨rfl, hK⟩
  have hS0 : St _ _ (_ :: _) := St.trans hS (St.ofK hK)
  clear hS
  have hS := hS0
  clear hS0
  rw [canWC, chkWC]
  refine KOps.move ?_
  refine KOps.extract ?_
  refine KOps.extract ?_
  refine KOps.assign ?_
  refine KOps.assign ?_
  refine KOps.done ?_
  refine sqQ.normal ?_
  refine KA.sub (Sub.cons (t := 1) Look.eq (Sub.cons (t := 2) Look.eq (Sub.cons (t := 3) Look.eq (Sub.cons (t := 4) Look.eq (Sub.nil _))))) ?_
  refine KA.seq ?_
  refine KA.region rfl ?_
  refine KOps.call rfl (B_c) ?_
  rintro _ hb30 ⟨vb30, rfl, hSB⟩
  have hS0 : St _ _ (_ :: _) := St.trans hS hSB
  clear hS
  have hS := hS0
  clear hS0

  refine KOps.call rfl (stFirst_c (hS.rd 0 rfl)) ?_
  rintro _ hrF ⟨vF, rfl, hSN⟩
  have hS0 : St _ _ (_ :: _) := St.trans hS hSN
  clear hS
  have hS := hS0
  clear hS0
  rw [agrWB, if_pos rfl, lexWB] at hS
  rw [agrWB]
  refine KOps.move ?_
  refine KOps.extract ?_
  refine KOps.extract ?_
  refine KOps.assign ?_
  refine KOps.assign ?_
  refine KOps.done ?_
  refine sqQ.normal ?_
  refine KA.sub (Sub.cons (t := 1) Look.eq (Sub.cons (t := 2) Look.eq (Sub.cons (t := 3) Look.eq (Sub.cons (t := 4) Look.eq (Sub.cons (t := 5) Look.eq (Sub.cons (t := 6) Look.eq (Sub.nil _))))))) ?_
  refine KA.seq ?_
  refine KA.region rfl ?_
  refine KOps.call rfl (B_c) ?_
  rintro _ hb40 ⟨vb40, rfl, hSB⟩
  have hS0 : St _ _ (_ :: _) := St.trans hS hSB
  clear hS
  have hS := hS0
  clear hS0

  refine KOps.buildSlice hS rfl (by decide) rfl ?_
  intro v36 h' hS
  refine KOps.call rfl (lst_c) ?_
  rintro _ _ ⟨rfl, rfl⟩
  refine KOps.call rfl (other_c (l := [5, 5, 5]) (hS.rd 1 rfl) (hS.rd 0 rfl)) ?_
  rintro _ hrO ⟨vO, rfl, hSN⟩
  have hS0 : St _ _ (_ :: _) := St.trans hS hSN
  clear hS
  have hS := hS0
  clear hS0
  rw [otherWB.2] at hS
  rw [otherWB.1]
  refine KOps.move ?_
  refine KOps.extract ?_
  refine KOps.extract ?_
  refine KOps.assign ?_
  refine KOps.assign ?_
  refine KOps.done ?_
  refine sqQ.normal ?_
  refine KA.sub (Sub.cons (t := 1) Look.eq (Sub.cons (t := 2) Look.eq (Sub.cons (t := 3) Look.eq (Sub.cons (t := 4) Look.eq (Sub.cons (t := 5) Look.eq (Sub.cons (t := 6) Look.eq (Sub.cons (t := 7) Look.eq (Sub.cons (t := 8) Look.eq (Sub.nil _))))))))) ?_
  refine KA.seq ?_
  refine KA.region rfl ?_
  refine KOps.call rfl (C_c) ?_
  rintro _ hb50 ⟨vb50, rfl, hSB⟩
  have hS0 : St _ _ (_ :: _) := St.trans hS hSB
  clear hS
  have hS := hS0
  clear hS0

  refine KOps.call rfl (against_c (hS.rd 0 rfl) (hSz.ext hS.keeps)) ?_
  rintro _ hrA ⟨vA, rfl, hSN⟩
  have hS0 : St _ _ (_ :: _) := St.trans hS hSN
  clear hS
  have hS := hS0
  clear hS0
  rw [agaWC, if_pos rfl, fewWC] at hS
  rw [agaWC]
  refine KOps.move ?_
  refine KOps.extract ?_
  refine KOps.extract ?_
  refine KOps.assign ?_
  refine KOps.assign ?_
  refine KOps.done ?_
  refine sqQ.normal ?_
  refine KA.sub (Sub.cons (t := 1) Look.eq (Sub.cons (t := 2) Look.eq (Sub.cons (t := 3) Look.eq (Sub.cons (t := 4) Look.eq (Sub.cons (t := 5) Look.eq (Sub.cons (t := 6) Look.eq (Sub.cons (t := 7) Look.eq (Sub.cons (t := 8) Look.eq (Sub.cons (t := 9) Look.eq (Sub.cons (t := 10) Look.eq (Sub.nil _))))))))))) ?_
  refine KA.seq ?_
  refine KA.region rfl ?_
  refine KOps.call rfl (B_c) ?_
  rintro _ hb60 ⟨vb60, rfl, hSB⟩
  have hS0 : St _ _ (_ :: _) := St.trans hS hSB
  clear hS
  have hS := hS0
  clear hS0

  refine KOps.call rfl (stSpan_c (i := 0) (hS.rd 0 rfl)) ?_
  rintro _ h61 ⟨rfl, hK⟩
  have hS0 : St _ _ (_ :: _) := St.trans hS (St.ofK hK)
  clear hS
  have hS := hS0
  clear hS0
  rw [askWB0, if_pos rfl, if_pos rfl, loWB0, hiWB0]
  refine KOps.move ?_
  refine KOps.extract ?_
  refine KOps.extract ?_
  refine KOps.extract ?_
  refine KOps.assign ?_
  refine KOps.assign ?_
  refine KOps.assign ?_
  refine KOps.done ?_
  refine sqQ.normal ?_
  refine KA.sub (Sub.cons (t := 1) Look.eq (Sub.cons (t := 2) Look.eq (Sub.cons (t := 3) Look.eq (Sub.cons (t := 4) Look.eq (Sub.cons (t := 5) Look.eq (Sub.cons (t := 6) Look.eq (Sub.cons (t := 7) Look.eq (Sub.cons (t := 8) Look.eq (Sub.cons (t := 9) Look.eq (Sub.cons (t := 10) Look.eq (Sub.cons (t := 11) Look.eq (Sub.cons (t := 12) Look.eq (Sub.cons (t := 13) Look.eq (Sub.nil _)))))))))))))) ?_
  refine KA.seq ?_
  refine KA.region rfl ?_
  refine KOps.call rfl (B_c) ?_
  rintro _ hb70 ⟨vb70, rfl, hSB⟩
  have hS0 : St _ _ (_ :: _) := St.trans hS hSB
  clear hS
  have hS := hS0
  clear hS0

  refine KOps.call rfl (stOpen_c (hS.rd 0 rfl)) ?_
  rintro _ hrP ⟨vP, rfl, hSN⟩
  have hS0 : St _ _ (_ :: _) := St.trans hS hSN
  clear hS
  have hS := hS0
  clear hS0
  rw [agrWB, if_pos rfl, openWB] at hS
  rw [agrWB]
  refine KOps.move ?_
  refine KOps.extract ?_
  refine KOps.extract ?_
  refine KOps.assign ?_
  refine KOps.assign ?_
  refine KOps.done ?_
  refine sqQ.normal ?_
  refine KA.sub (Sub.cons (t := 1) Look.eq (Sub.cons (t := 2) Look.eq (Sub.cons (t := 3) Look.eq (Sub.cons (t := 4) Look.eq (Sub.cons (t := 5) Look.eq (Sub.cons (t := 6) Look.eq (Sub.cons (t := 7) Look.eq (Sub.cons (t := 8) Look.eq (Sub.cons (t := 9) Look.eq (Sub.cons (t := 10) Look.eq (Sub.cons (t := 11) Look.eq (Sub.cons (t := 12) Look.eq (Sub.cons (t := 13) Look.eq (Sub.cons (t := 14) Look.eq (Sub.cons (t := 15) Look.eq (Sub.nil _)))))))))))))))) ?_
  refine KA.seq ?_
  refine KA.seq ?_
  refine KA.region rfl ?_
  refine KOps.move ?_
  refine KOps.neqF rfl ?_
  refine KOps.move ?_
  refine KOps.guardYes (dj := 59) rfl rfl ?_
  refine KOps.move ?_
  refine KOps.guardYes (dj := 59) rfl rfl ?_
  refine KOps.neqF rfl ?_
  refine KOps.pickF ?_
  refine KOps.move ?_
  refine KOps.guardYes (dj := 63) rfl rfl ?_
  refine KOps.move ?_
  refine KOps.guardYes (dj := 63) rfl rfl ?_
  refine KOps.neqF rfl ?_
  refine KOps.pickF ?_
  refine KOps.move ?_
  refine KOps.guardYes (dj := 67) rfl rfl ?_
  refine KOps.move ?_
  refine KOps.guardYes (dj := 67) rfl rfl ?_
  refine KOps.neqF rfl ?_
  refine KOps.pickF ?_
  refine KOps.move ?_
  refine KOps.guardYes (dj := 71) rfl rfl ?_
  refine KOps.move ?_
  refine KOps.guardYes (dj := 71) rfl rfl ?_
  refine KOps.neqF rfl ?_
  refine KOps.pickF ?_
  refine KOps.move ?_
  refine KOps.guardYes (dj := 75) rfl rfl ?_
  refine KOps.move ?_
  refine KOps.guardYes (dj := 75) rfl rfl ?_
  refine KOps.neqF rfl ?_
  refine KOps.pickF ?_
  refine KOps.move ?_
  refine KOps.guardYes (dj := 79) rfl rfl ?_
  refine KOps.move ?_
  refine KOps.guardYes (dj := 79) rfl rfl ?_
  refine KOps.neqF rfl ?_
  refine KOps.pickF ?_
  refine KOps.done ?_
  refine sqQ.normal ?_
  refine KA.sub (Sub.cons (t := 1) Look.eq (Sub.cons (t := 3) Look.eq (Sub.cons (t := 5) Look.eq (Sub.cons (t := 7) Look.eq (Sub.cons (t := 9) Look.eq (Sub.cons (t := 11) Look.eq (Sub.cons (t := 12) Look.eq (Sub.cons (t := 14) Look.eq (Sub.cons (t := 82) Look.eq (Sub.nil _)))))))))) ?_
  refine KA.condF ?_
  refine KA.skip ?_
  refine sqQ.normal ?_
  refine KA.sub (Sub.cons (t := 1) Look.eq (Sub.cons (t := 3) Look.eq (Sub.cons (t := 5) Look.eq (Sub.cons (t := 7) Look.eq (Sub.cons (t := 9) Look.eq (Sub.cons (t := 11) Look.eq (Sub.cons (t := 12) Look.eq (Sub.cons (t := 14) Look.eq (Sub.nil _))))))))) ?_
  refine KA.seq ?_
  refine KA.region rfl ?_
  refine KOps.call rfl (B_c) ?_
  rintro _ hb100 ⟨vb100, rfl, hSB⟩
  have hS0 : St _ _ (_ :: _) := St.trans hS hSB
  clear hS
  have hS := hS0
  clear hS0

  refine KOps.buildSlice hS rfl (by decide) rfl ?_
  intro v85 h' hS
  refine KOps.call rfl (lst_c) ?_
  rintro _ _ ⟨rfl, rfl⟩
  refine KOps.call rfl (stSays_c (l := [0, 1]) (i := 1) (hS.rd 1 rfl) (hS.rd 0 rfl) (by decide)) ?_
  rintro _ h103 ⟨rfl, hK⟩
  have hS0 : St _ _ (_ :: _) := St.trans hS (St.ofK hK)
  clear hS
  have hS := hS0
  clear hS0
  rw [sayWB.1, sayWB.2]
  refine KOps.move ?_
  refine KOps.extract ?_
  refine KOps.extract ?_
  refine KOps.assign ?_
  refine KOps.assign ?_
  refine KOps.done ?_
  refine sqQ.normal ?_
  refine KA.sub (Sub.cons (t := 1) Look.eq (Sub.cons (t := 2) Look.eq (Sub.cons (t := 3) Look.eq (Sub.cons (t := 5) Look.eq (Sub.cons (t := 7) Look.eq (Sub.cons (t := 9) Look.eq (Sub.cons (t := 11) Look.eq (Sub.cons (t := 12) Look.eq (Sub.cons (t := 14) Look.eq (Sub.cons (t := 16) Look.eq (Sub.nil _))))))))))) ?_
  refine KA.seq ?_
  refine KA.region rfl ?_
  refine KOps.call rfl (B_c) ?_
  rintro _ hb110 ⟨vb110, rfl, hSB⟩
  have hS0 : St _ _ (_ :: _) := St.trans hS hSB
  clear hS
  have hS := hS0
  clear hS0

  refine KOps.call rfl (bound_true_c (i := 1) (hS.rd 0 rfl) (hSz.ext hS.keeps)) ?_
  rintro _ hrD ⟨vD, rfl, hSN⟩
  have hS0 : St _ _ (_ :: _) := St.trans hS hSN
  clear hS
  have hS := hS0
  clear hS0
  rw [boundWB1] at hS
  rw [askWB1]
  refine KOps.move ?_
  refine KOps.extract ?_
  refine KOps.extract ?_
  refine KOps.assign ?_
  refine KOps.assign ?_
  refine KOps.done ?_
  refine sqQ.normal ?_
  refine KA.sub (Sub.cons (t := 1) Look.eq (Sub.cons (t := 2) Look.eq (Sub.cons (t := 3) Look.eq (Sub.cons (t := 4) Look.eq (Sub.cons (t := 5) Look.eq (Sub.cons (t := 7) Look.eq (Sub.cons (t := 9) Look.eq (Sub.cons (t := 11) Look.eq (Sub.cons (t := 12) Look.eq (Sub.cons (t := 14) Look.eq (Sub.cons (t := 16) Look.eq (Sub.cons (t := 17) Look.eq (Sub.nil _))))))))))))) ?_
  refine KA.seq ?_
  refine KA.region rfl ?_
  refine KOps.call rfl (B_c) ?_
  rintro _ hb120 ⟨vb120, rfl, hSB⟩
  have hS0 : St _ _ (_ :: _) := St.trans hS hSB
  clear hS
  have hS := hS0
  clear hS0

  refine KOps.call rfl (stSpans_c (hS.rd 0 rfl)) ?_
  rintro _ hrS ⟨vS, rfl, hSN⟩
  have hS0 : St _ _ (_ :: _) := St.trans hS hSN
  clear hS
  have hS := hS0
  clear hS0
  rw [agrWB, if_pos rfl, spansWB] at hS
  rw [agrWB]
  refine KOps.move ?_
  refine KOps.extract ?_
  refine KOps.extract ?_
  refine KOps.assign ?_
  refine KOps.assign ?_
  refine KOps.done ?_
  refine sqQ.normal ?_
  refine KA.sub (Sub.cons (t := 1) Look.eq (Sub.cons (t := 2) Look.eq (Sub.cons (t := 3) Look.eq (Sub.cons (t := 4) Look.eq (Sub.cons (t := 5) Look.eq (Sub.cons (t := 6) Look.eq (Sub.cons (t := 7) Look.eq (Sub.cons (t := 9) Look.eq (Sub.cons (t := 11) Look.eq (Sub.cons (t := 12) Look.eq (Sub.cons (t := 14) Look.eq (Sub.cons (t := 16) Look.eq (Sub.cons (t := 17) Look.eq (Sub.cons (t := 18) Look.eq (Sub.nil _))))))))))))))) ?_
  refine KA.seq ?_
  refine KA.region rfl ?_
  refine KOps.call rfl (B_c) ?_
  rintro _ hb130 ⟨vb130, rfl, hSB⟩
  have hS0 : St _ _ (_ :: _) := St.trans hS hSB
  clear hS
  have hS := hS0
  clear hS0

  refine KOps.buildSlice hS rfl (by decide) rfl ?_
  intro v102 h' hS
  refine KOps.call rfl (lst_c) ?_
  rintro _ _ ⟨rfl, rfl⟩
  refine KOps.call rfl (stSays_c (l := [2]) (i := 0) (hS.rd 1 rfl) (hS.rd 0 rfl) (by decide)) ?_
  rintro _ h133 ⟨rfl, hK⟩
  have hS0 : St _ _ (_ :: _) := St.trans hS (St.ofK hK)
  clear hS
  have hS := hS0
  clear hS0
  rw [sayWB2]
  refine KOps.move ?_
  refine KOps.extract ?_
  refine KOps.extract ?_
  refine KOps.assign ?_
  refine KOps.done ?_
  refine sqQ.normal ?_
  refine KA.sub (Sub.cons (t := 1) Look.eq (Sub.cons (t := 2) Look.eq (Sub.cons (t := 3) Look.eq (Sub.cons (t := 4) Look.eq (Sub.cons (t := 5) Look.eq (Sub.cons (t := 6) Look.eq (Sub.cons (t := 7) Look.eq (Sub.cons (t := 8) Look.eq (Sub.cons (t := 9) Look.eq (Sub.cons (t := 11) Look.eq (Sub.cons (t := 12) Look.eq (Sub.cons (t := 14) Look.eq (Sub.cons (t := 16) Look.eq (Sub.cons (t := 17) Look.eq (Sub.cons (t := 18) Look.eq (Sub.nil _)))))))))))))))) ?_
  refine KA.seq ?_
  refine KA.region rfl ?_
  refine KOps.call rfl (B_c) ?_
  rintro _ hb140 ⟨vb140, rfl, hSB⟩
  have hS0 : St _ _ (_ :: _) := St.trans hS hSB
  clear hS
  have hS := hS0
  clear hS0

  refine KOps.call rfl (against_c (hS.rd 0 rfl) (hSz.ext hS.keeps)) ?_
  rintro _ hrA2 ⟨vA2, rfl, hSN⟩
  have hS0 : St _ _ (_ :: _) := St.trans hS hSN
  clear hS
  have hS := hS0
  clear hS0
  rw [agaWB]
  refine KOps.move ?_
  refine KOps.extract ?_
  refine KOps.extract ?_
  refine KOps.assign ?_
  refine KOps.done ?_
  refine sqQ.normal ?_
  refine KA.sub (Sub.cons (t := 1) Look.eq (Sub.cons (t := 2) Look.eq (Sub.cons (t := 3) Look.eq (Sub.cons (t := 4) Look.eq (Sub.cons (t := 5) Look.eq (Sub.cons (t := 6) Look.eq (Sub.cons (t := 7) Look.eq (Sub.cons (t := 8) Look.eq (Sub.cons (t := 9) Look.eq (Sub.cons (t := 10) Look.eq (Sub.cons (t := 11) Look.eq (Sub.cons (t := 12) Look.eq (Sub.cons (t := 14) Look.eq (Sub.cons (t := 16) Look.eq (Sub.cons (t := 17) Look.eq (Sub.cons (t := 18) Look.eq (Sub.nil _))))))))))))))))) ?_
  refine KA.seq ?_
  refine KA.region rfl ?_
  refine KOps.move ?_
  refine KOps.eqlT rfl ?_
  refine KOps.move ?_
  refine KOps.guardYes (dj := 114) rfl rfl ?_
  refine KOps.move ?_
  refine KOps.guardYes (dj := 114) rfl rfl ?_
  refine KOps.eqlT rfl ?_
  refine KOps.pickT ?_
  refine KOps.move ?_
  refine KOps.guardYes (dj := 118) rfl rfl ?_
  refine KOps.move ?_
  refine KOps.guardYes (dj := 118) rfl rfl ?_
  refine KOps.eqlT rfl ?_
  refine KOps.pickT ?_
  refine KOps.move ?_
  refine KOps.guardYes (dj := 122) rfl rfl ?_
  refine KOps.move ?_
  refine KOps.guardYes (dj := 122) rfl rfl ?_
  refine KOps.eqlT rfl ?_
  refine KOps.pickT ?_
  refine KOps.move ?_
  refine KOps.guardYes (dj := 126) rfl rfl ?_
  refine KOps.move ?_
  refine KOps.guardYes (dj := 126) rfl rfl ?_
  refine KOps.eqlT rfl ?_
  refine KOps.pickT ?_
  refine KOps.move ?_
  refine KOps.guardYes (dj := 130) rfl rfl ?_
  refine KOps.move ?_
  refine KOps.pickT ?_
  refine KOps.move ?_
  refine KOps.guardYes (dj := 133) rfl rfl ?_
  refine KOps.move ?_
  refine KOps.guardYes (dj := 133) rfl rfl ?_
  refine KOps.not ?_
  refine KOps.pickT ?_
  refine KOps.move ?_
  refine KOps.guardYes (dj := 137) rfl rfl ?_
  refine KOps.move ?_
  refine KOps.guardYes (dj := 137) rfl rfl ?_
  refine KOps.eqlT rfl ?_
  refine KOps.pickT ?_
  refine KOps.move ?_
  refine KOps.guardYes (dj := 141) rfl rfl ?_
  refine KOps.move ?_
  refine KOps.guardYes (dj := 141) rfl rfl ?_
  refine KOps.eqlT rfl ?_
  refine KOps.pickT ?_
  refine KOps.move ?_
  refine KOps.guardYes (dj := 145) rfl rfl ?_
  refine KOps.move ?_
  refine KOps.guardYes (dj := 145) rfl rfl ?_
  refine KOps.eqlT rfl ?_
  refine KOps.pickT ?_
  refine KOps.move ?_
  refine KOps.guardYes (dj := 149) rfl rfl ?_
  refine KOps.move ?_
  refine KOps.guardYes (dj := 149) rfl rfl ?_
  refine KOps.buildSlice hS rfl (by decide) rfl ?_
  intro v151 h' hS
  refine KOps.guardYes (dj := 149) rfl rfl ?_
  refine KOps.call rfl (lst_c) ?_
  rintro _ _ ⟨rfl, rfl⟩
  refine KOps.guardYes (dj := 149) rfl rfl ?_
  refine KOps.call rfl (same_c (a := [5, 5, 5]) (b := [5, 5, 5]) (hS.rd 19 rfl) (hS.rd 0 rfl) (by decide)) ?_
  rintro _ _ ⟨rfl, rfl⟩
  rw [show decide (([5, 5, 5] : List Int) = [5, 5, 5]) = true from by decide]
  refine KOps.pickT ?_
  refine KOps.move ?_
  refine KOps.guardYes (dj := 155) rfl rfl ?_
  refine KOps.move ?_
  refine KOps.guardYes (dj := 155) rfl rfl ?_
  refine KOps.buildSlice hS rfl (by decide) rfl ?_
  intro v157 h' hS
  refine KOps.guardYes (dj := 155) rfl rfl ?_
  refine KOps.call rfl (lst_c) ?_
  rintro _ _ ⟨rfl, rfl⟩
  refine KOps.guardYes (dj := 155) rfl rfl ?_
  refine KOps.call rfl (same_c (a := [6, 6, 6]) (b := [6, 6, 6]) (hS.rd 17 rfl) (hS.rd 0 rfl) (by decide)) ?_
  rintro _ _ ⟨rfl, rfl⟩
  rw [show decide (([6, 6, 6] : List Int) = [6, 6, 6]) = true from by decide]
  refine KOps.pickT ?_
  refine KOps.move ?_
  refine KOps.guardYes (dj := 161) rfl rfl ?_
  refine KOps.move ?_
  refine KOps.guardYes (dj := 161) rfl rfl ?_
  refine KOps.buildSlice hS rfl (by decide) rfl ?_
  intro v163 h' hS
  refine KOps.guardYes (dj := 161) rfl rfl ?_
  refine KOps.call rfl (lst_c) ?_
  rintro _ _ ⟨rfl, rfl⟩
  refine KOps.guardYes (dj := 161) rfl rfl ?_
  refine KOps.call rfl (same_c (a := [0, 2]) (b := [0, 2]) (hS.rd 16 rfl) (hS.rd 0 rfl) (by decide)) ?_
  rintro _ _ ⟨rfl, rfl⟩
  rw [show decide (([0, 2] : List Int) = [0, 2]) = true from by decide]
  refine KOps.pickT ?_
  refine KOps.move ?_
  refine KOps.guardYes (dj := 167) rfl rfl ?_
  refine KOps.move ?_
  refine KOps.guardYes (dj := 167) rfl rfl ?_
  refine KOps.buildSlice hS rfl (by decide) rfl ?_
  intro v169 h' hS
  refine KOps.guardYes (dj := 167) rfl rfl ?_
  refine KOps.call rfl (lst_c) ?_
  rintro _ _ ⟨rfl, rfl⟩
  refine KOps.guardYes (dj := 167) rfl rfl ?_
  refine KOps.call rfl (same_c (a := [0, 1, 2]) (b := [0, 1, 2]) (hS.rd 14 rfl) (hS.rd 0 rfl) (by decide)) ?_
  rintro _ _ ⟨rfl, rfl⟩
  rw [show decide (([0, 1, 2] : List Int) = [0, 1, 2]) = true from by decide]
  refine KOps.pickT ?_
  refine KOps.move ?_
  refine KOps.guardYes (dj := 173) rfl rfl ?_
  refine KOps.move ?_
  refine KOps.guardYes (dj := 173) rfl rfl ?_
  refine KOps.buildSlice hS rfl (by decide) rfl ?_
  intro v175 h' hS
  refine KOps.guardYes (dj := 173) rfl rfl ?_
  refine KOps.call rfl (lst_c) ?_
  rintro _ _ ⟨rfl, rfl⟩
  refine KOps.guardYes (dj := 173) rfl rfl ?_
  refine KOps.call rfl (same_c (a := [0, 1]) (b := [0, 1]) (hS.rd 11 rfl) (hS.rd 0 rfl) (by decide)) ?_
  rintro _ _ ⟨rfl, rfl⟩
  rw [show decide (([0, 1] : List Int) = [0, 1]) = true from by decide]
  refine KOps.pickT ?_
  refine KOps.move ?_
  refine KOps.guardYes (dj := 179) rfl rfl ?_
  refine KOps.move ?_
  refine KOps.guardYes (dj := 179) rfl rfl ?_
  refine KOps.buildS2 (z0 := .int .i64 0) (z1 := .int .i64 0) (by kernel_rfl) (by rfl) (by kernel_rfl) (by kernel_rfl) (by kernel_rfl) (by first | rfl | assumption) (by first | rfl | assumption) ?_
  refine KOps.guardYes (dj := 179) rfl rfl ?_
  refine KOps.buildS2 (z0 := .int .i64 0) (z1 := .int .i64 0) (by kernel_rfl) (by rfl) (by kernel_rfl) (by kernel_rfl) (by kernel_rfl) (by first | rfl | assumption) (by first | rfl | assumption) ?_
  refine KOps.guardYes (dj := 179) rfl rfl ?_
  refine KOps.buildS2 (z0 := .int .i64 0) (z1 := .int .i64 0) (by kernel_rfl) (by rfl) (by kernel_rfl) (by kernel_rfl) (by kernel_rfl) (by first | rfl | assumption) (by first | rfl | assumption) ?_
  refine KOps.guardYes (dj := 179) rfl rfl ?_
  refine KOps.buildSliceS (cs := [.int .i64 5, .int .i64 6, .int .i64 5, .int .i64 6, .int .i64 5, .int .i64 6]) hS rfl rfl rfl (by decide) ?_
  intro v184 h' hS
  refine KOps.guardYes (dj := 179) rfl rfl ?_
  refine KOps.call rfl (spans_c (a := [(5, 6), (5, 6), (5, 6)]) (b := [(5, 6), (5, 6), (5, 6)]) (hS.rd 10 rfl) (hS.rd 0 rfl) (by decide)) ?_
  rintro _ _ ⟨rfl, rfl⟩
  rw [show decide (([(5, 6), (5, 6), (5, 6)] : List (Int × Int)) = [(5, 6), (5, 6), (5, 6)]) = true from by decide]
  refine KOps.pickT ?_
  refine KOps.move ?_
  refine KOps.guardYes (dj := 187) rfl rfl ?_
  refine KOps.call rfl (B_c) ?_
  rintro _ hb1576 ⟨vb1576, rfl, hSB⟩
  have hS0 : St _ _ (_ :: _) := St.trans hS hSB
  clear hS
  have hS := hS0
  clear hS0

  refine KOps.guardYes (dj := 187) rfl rfl ?_
  refine KOps.buildSlice hS rfl (by decide) rfl ?_
  intro v189 h' hS
  refine KOps.guardYes (dj := 187) rfl rfl ?_
  refine KOps.call rfl (lst_c) ?_
  rintro _ _ ⟨rfl, rfl⟩
  refine KOps.guardYes (dj := 187) rfl rfl ?_
  refine KOps.call rfl (verify_c (l := [5, 6, 6]) (hS.rd 1 rfl) (hS.rd 0 rfl)) ?_
  rintro _ h1579 ⟨rfl, hK⟩
  have hS0 : St _ _ (_ :: _) := St.trans hS (St.ofK hK)
  clear hS
  have hS := hS0
  clear hS0
  rw [verWB2]
  refine KOps.guardYes (dj := 187) rfl rfl ?_
  refine KOps.eqlT rfl ?_
  refine KOps.pickT ?_
  refine KOps.move ?_
  refine KOps.guardYes (dj := 194) rfl rfl ?_
  refine KOps.call rfl (C_c) ?_
  rintro _ hb1583 ⟨vb1583, rfl, hSB⟩
  have hS0 : St _ _ (_ :: _) := St.trans hS hSB
  clear hS
  have hS := hS0
  clear hS0

  refine KOps.guardYes (dj := 194) rfl rfl ?_
  refine KOps.buildSlice hS rfl (by decide) rfl ?_
  intro v196 h' hS
  refine KOps.guardYes (dj := 194) rfl rfl ?_
  refine KOps.call rfl (lst_c) ?_
  rintro _ _ ⟨rfl, rfl⟩
  refine KOps.guardYes (dj := 194) rfl rfl ?_
  refine KOps.call rfl (proves_c (l := [0, 2]) (hS.rd 1 rfl) (hS.rd 0 rfl) (by decide)) ?_
  rintro _ h1586 ⟨rfl, hK⟩
  have hS0 : St _ _ (_ :: _) := St.trans hS (St.ofK hK)
  clear hS
  have hS := hS0
  clear hS0
  rw [provWC]
  refine KOps.guardYes (dj := 194) rfl rfl ?_
  refine KOps.eqlT rfl ?_
  refine KOps.pickT ?_
  refine KOps.move ?_
  refine KOps.guardYes (dj := 201) rfl rfl ?_
  refine KOps.call rfl (C_c) ?_
  rintro _ hb1590 ⟨vb1590, rfl, hSB⟩
  have hS0 : St _ _ (_ :: _) := St.trans hS hSB
  clear hS
  have hS := hS0
  clear hS0

  refine KOps.guardYes (dj := 201) rfl rfl ?_
  refine KOps.buildSlice hS rfl (by decide) rfl ?_
  intro v203 h' hS
  refine KOps.guardYes (dj := 201) rfl rfl ?_
  refine KOps.call rfl (lst_c) ?_
  rintro _ _ ⟨rfl, rfl⟩
  refine KOps.guardYes (dj := 201) rfl rfl ?_
  refine KOps.call rfl (proves_c (l := [1]) (hS.rd 1 rfl) (hS.rd 0 rfl) (by decide)) ?_
  rintro _ h1593 ⟨rfl, hK⟩
  have hS0 : St _ _ (_ :: _) := St.trans hS (St.ofK hK)
  clear hS
  have hS := hS0
  clear hS0
  rw [provWC1]
  refine KOps.guardYes (dj := 201) rfl rfl ?_
  refine KOps.eqlT rfl ?_
  refine KOps.pickT ?_
  refine KOps.assign ?_
  refine KOps.done ?_
  refine sqQ.normal ?_
  refine KA.sub (Sub.cons (t := 0) Look.eq (Sub.nil _)) ?_
  refine KA.ret ?_
  refine fnQ.ret1 ?_
  exact ⟨rfl, hS.keeps⟩

end Go.Am

namespace Go.Am
theorem Row.nil (h : AHeap) : Row h .nils [] := .inl ⟨rfl, rfl⟩

end Go.Am

namespace Go.Am
/-- A struct of two parts. -/
def EPair {X Y : Type} (s0 : Nat) (E0 : AHeap → List AV → X → Prop) (E1 : AHeap → List AV → Y → Prop) (h : AHeap) (avs : List AV) (p : X × Y) : Prop := E0 h (avs.take s0) p.1 ∧ E1 h (avs.drop s0) p.2
theorem VRels.split {φ : Emb} {a b : List AV} {cs : List Value} {s : Nat} (h1 : VRels φ a (cs.take s)) (h2 : VRels φ b (cs.drop s)) (hs : s ≤ cs.length) : VRels φ (a ++ b) cs ∧ (a ++ b).take s = a ∧ (a ++ b).drop s = b := by
  have ha : a.length = s := by rw [h1.1, List.length_take]; omega
  have h3 := VRels.append h1 h2
  rw [List.take_append_drop] at h3
  exact ⟨h3, by rw [← ha, List.take_left], by rw [← ha, List.drop_left]⟩
theorem IC.pair {H : Type} {enc : TypeId × Value → H} {P : Program} {t : TypeId} {f0 f1 : Field} {s0 s1 : Nat} {X Y : Type} {E0 : AHeap → List AV → X → Prop} {E1 : AHeap → List AV → Y → Prop} (ht : P.underlying t = some (.struct #[f0, f1])) (hc : P.cellsOf t = s0 + s1) (h0 : f0.offset = 0) (h1 : f1.offset = s0) (hc0 : P.cellsOf f0.type = s0) (hc1 : P.cellsOf f1.type = s1) (i0 : IC enc P f0.type E0) (i1 : IC enc P f1.type E1) : IC enc P t (EPair s0 E0 E1) := by
  refine ⟨?_, fun h h' avs x k hE => ⟨i0.mono _ _ _ _ k hE.1, i1.mono _ _ _ _ k hE.2⟩⟩
  intro W φ h im fuel cs y hy
  obtain ⟨xs, m, rfl, rfl, hl, hxl, hx⟩ := DataW.trod_struct ht hy
  rw [hc] at hl
  have hxl : xs.length = 2 := hxl
  have e0 := hx 0 f0 rfl
  have e1 := hx 1 f1 rfl
  rw [h0, hc0, List.drop_zero, List.getElem?_eq_getElem (by omega)] at e0
  rw [h1, hc1, List.take_of_length_le (by rw [List.length_drop]; omega), List.getElem?_eq_getElem (by omega)] at e1
  obtain ⟨φ1, hp1, a, x, im1, le1, k1, hv1, hE1⟩ := i0.imp W φ h im m _ _ e0
  obtain ⟨φ2, hp2, b, z, im2, le2, k2, hv2, hE2⟩ := i1.imp W φ1 hp1 im1 m _ _ e1
  obtain ⟨q1, q2, q3⟩ := VRels.split (hv1.mono le2) hv2 (by omega)
  exact ⟨φ2, hp2, a ++ b, (x, z), im2, Emb.le_trans le1 le2, k1.trans k2, q1, by rw [q2]; exact i0.mono _ _ _ _ k2 hE1, by rw [q3]; exact hE2⟩
/-- A table, as the first package-level variable. -/
theorem Imp.table {W : World} {cs : List AV} (hcell : ∀ (j : Nat) (x : AV), cs[j]? = some x → ∃ v, W.cell? ⟨0, j, none⟩ = some v ∧ ∀ φ, VRel φ x v) (h0 : 0 < W.heap.size) : ∃ φ h, Imp W φ h ∧ h.globs.contains 0 = true ∧ Rd h (.ptr 0 0) 0 cs := by
  obtain ⟨im, _⟩ := (Imp.empty W).push cs (some (0, 0, cs.length)) (by
    intro k i z hq
    cases hq
    refine ⟨h0, fun j x hx => ?_⟩
    obtain ⟨v, h1, h2⟩ := hcell j x hx
    exact ⟨v, by rw [Nat.zero_add]; exact h1, h2 _⟩)
  refine ⟨_, ⟨(h00.push (.cells none 0 cs)).blks, (h00.push (.cells none 0 cs)).fams, [0]⟩, ⟨⟨?_, im.rel.lt, im.rel.blk, im.rel.arr, im.rel.one, im.rel.sep, im.rel.map, im.rel.ext⟩, im.ro, im.out⟩, rfl, .inr (.inl ⟨0, 0, none, 0, cs, .inr ⟨rfl, rfl⟩, rfl, rfl, by rw [List.drop_zero, List.take_length]⟩)⟩
  intro g hg
  have hg : g = 0 := by simpa using hg
  subst hg
  exact ⟨cs.length, rfl⟩
end Go.Am

namespace Go.Am
open Go.ChangeShapes Go.WideShapes
section
open Go.Proofs.Tryd
end
def laidL : List (String × DataW Unit) := [("spadille/stamp.sizes", Go.Proofs.YtildfacbjdhbnaaDoor.Rows.laid_spadille_stamp_sizes)]
def litI : DataW Unit → Option Int
  | .lit (.int .i8 n) => some n
  | _ => none
def aggL : DataW Unit → List (DataW Unit)
  | .agg l => l
  | _ => []
theorem laid_lits : (aggL Go.Proofs.YtildfacbjdhbnaaDoor.Rows.laid_spadille_stamp_sizes).map litI = (List.range 64).map fun s => some ((roomsTo s 6).length : Int) := by kernel_rfl
theorem sizes_laid {W : World} (h : laidMetH Go.Proofs.Tryd.prog laidL W) : ∃ φ hp, Imp W φ hp ∧ Sizes hp := by
  rw [MakeChecks.laidMetH_plain _ _ _ (by kernel_rfl)] at h
  obtain ⟨ps, ⟨g0, t0, cs0, f0, p0, q0, hg0, ht0, hv0, hd0, _, _⟩, _, _⟩ := h
  obtain rfl := Option.some.inj ((show Go.Proofs.Tryd.prog.globalNamed "spadille/stamp.sizes" = some 0 by kernel_rfl).symm.trans hg0)
  obtain rfl := Option.some.inj ((show (Go.Proofs.Tryd.prog.globals[0]?).map (·.type) = some 126 by kernel_rfl).symm.trans ht0)
  obtain ⟨xs, m, rfl, hx1, hl, hxl, hx⟩ := DataW.trod_array Go.Proofs.Tryd.underlying126 hd0
  have c1 : Go.Proofs.Tryd.prog.cellsOf 125 = 1 := by kernel_rfl
  have c2 : Go.Proofs.Tryd.prog.cellsOf 126 = 64 := by kernel_rfl
  rw [c2] at hl
  have hd := (Prod.mk.inj hx1).1
  have hxs : xs.map (fun x => litI x.1) = (List.range 64).map fun s => some ((roomsTo s 6).length : Int) := by
    rw [← laid_lits, hd]
    show _ = (xs.map (·.1)).map litI
    rw [List.map_map]; rfl
  have key : ∀ i, i < 64 → cs0.toList[i]? = some (.int .i8 ((roomsTo i 6).length : Int)) := by
    intro i hi
    have h2 := hx i hi
    rw [c1, Nat.mul_one, List.getElem?_eq_getElem (by omega)] at h2
    obtain ⟨c, h3, h4, _⟩ := DataW.trod_int Go.Proofs.Tryd.underlying125 h2
    have h5 : ((cs0.toList.drop i).take 1)[0]? = some (.int .i8 c) := by rw [h3]; rfl
    have h6 : cs0.toList[i]? = some (.int .i8 c) := by simpa [List.getElem?_take, List.getElem?_drop] using h5
    have h7 := congrArg (fun l => l[i]?) hxs
    simp only [List.getElem?_map, List.getElem?_eq_getElem (show i < xs.length by omega), List.getElem?_range hi, Option.map_some, Option.some.injEq] at h7
    rw [h4] at h7
    have h8 : c = ((roomsTo i 6).length : Int) := by simpa [litI] using h7
    rw [h6, h8]
  have hcell : ∀ i, i < 64 → W.cell? ⟨0, i, none⟩ = some (.int .i8 ((roomsTo i 6).length : Int)) := by
    intro i hi
    rw [World.var?_cell hg0 hv0 i, ← Array.getElem?_toList]
    exact key i hi
  obtain ⟨φ, hp, im, h1, h2⟩ := Imp.table (W := W) (cs := sizesC) (by
    intro j x hj
    have hj64 : j < 64 := by
      have := (List.getElem?_eq_some_iff.1 hj).1
      simpa [sizesC] using this
    have h3 := sizes_get hj64
    rw [Nat.zero_add] at h3
    rw [h3] at hj
    cases hj
    exact ⟨_, hcell j hj64, fun φ => .int _ _⟩) (by
    have h3 := hcell 0 (by decide)
    unfold World.cell? at h3
    split at h3
    · rename_i hc
      exact (Array.getElem?_eq_some_iff.1 hc).1
    · cases h3)
  exact ⟨φ, hp, im, h1, h2⟩
end Go.Am

namespace Go.Am
theorem chkK1 : chkB 1 (waysTo [] 0) = 1 := by decide +kernel
theorem chkK2 : chkB 2 (waysTo [0, 0, 1, 1] 1) = 13 := by decide +kernel
theorem askWB2 : askE 3 wB 2 = 0 := by decide +kernel

set_option synthInstance.maxHeartbeats 2000000 in
set_option synthInstance.maxSize 4000 in
set_option maxRecDepth 100000 in
theorem law_known {h : AHeap} (hSz : Sizes h) : ACalls Go.Proofs.Tryd.prog 14 [] h (fun q h' => q = .bool true) := by
  refine KA.fn 137 [.tmp 0] Go.Proofs.Tryd.func14 rfl (by decide) rfl rfl (Nat.le_of_ble_eq_true rfl) ?_
  have hS := St.refl h
  show KA _ 137 _ _ [] _
  refine KA.seq ?_
  refine KA.region rfl ?_
  refine KOps.assign ?_
  refine KOps.done ?_
  refine sqQ.normal ?_
  refine KA.sub (Sub.nil _) ?_
  refine KA.seq ?_
  refine KA.region rfl ?_
  refine KOps.call rfl (B_c) ?_
  rintro _ hb10 ⟨vb10, rfl, hSB⟩
  have hS0 : St _ _ (_ :: _) := St.trans hS hSB
  clear hS
  have hS := hS0
  clear hS0

  refine KOps.buildSlice hS rfl (by decide) rfl ?_
  intro v15 h' hS
  refine KOps.call rfl (lst_c) ?_
  rintro _ _ ⟨rfl, rfl⟩
  refine KOps.call rfl (other_c (l := [6, 6, 6]) (hS.rd 1 rfl) (hS.rd 0 rfl)) ?_
  rintro _ hrO ⟨vO, rfl, hSN⟩
  have hS0 : St _ _ (_ :: _) := St.trans hS hSN
  clear hS
  have hS := hS0
  clear hS0
  rw [otherWB6.2] at hS
  rw [otherWB6.1]
  refine KOps.move ?_
  refine KOps.extract ?_
  refine KOps.extract ?_
  refine KOps.assign ?_
  refine KOps.assign ?_
  refine KOps.done ?_
  refine sqQ.normal ?_
  refine KA.sub (Sub.cons (t := 1) Look.eq (Sub.cons (t := 2) Look.eq (Sub.nil _))) ?_
  refine KA.seq ?_
  refine KA.region rfl ?_
  refine KOps.call rfl (B_c) ?_
  rintro _ hb20 ⟨vb20, rfl, hSB⟩
  have hS0 : St _ _ (_ :: _) := St.trans hS hSB
  clear hS
  have hS := hS0
  clear hS0

  refine KOps.buildSlice hS rfl (by decide) rfl ?_
  intro v22 h' hS
  refine KOps.call rfl (lst_c) ?_
  rintro _ _ ⟨rfl, rfl⟩
  refine KOps.call rfl (stSays_c (l := [1]) (i := 1) (hS.rd 1 rfl) (hS.rd 0 rfl) (by decide)) ?_
  rintro _ hsy ⟨rfl, hK⟩
  have hS0 : St _ _ (_ :: _) := St.trans hS (St.ofK hK)
  clear hS
  have hS := hS0
  clear hS0
  rw [sayWB3.1, sayWB3.2]
  refine KOps.move ?_
  refine KOps.extract ?_
  refine KOps.extract ?_
  refine KOps.assign ?_
  refine KOps.assign ?_
  refine KOps.done ?_
  refine sqQ.normal ?_
  refine KA.sub (Sub.cons (t := 1) Look.eq (Sub.cons (t := 2) Look.eq (Sub.cons (t := 3) Look.eq (Sub.cons (t := 4) Look.eq (Sub.nil _))))) ?_
  refine KA.seq ?_
  refine KA.region rfl ?_
  refine KOps.call rfl (B_c) ?_
  rintro _ hb30 ⟨vb30, rfl, hSB⟩
  have hS0 : St _ _ (_ :: _) := St.trans hS hSB
  clear hS
  have hS := hS0
  clear hS0

  refine KOps.buildSlice hS rfl (by decide) rfl ?_
  intro v29 h' hS
  refine KOps.call rfl (lst_c) ?_
  rintro _ _ ⟨rfl, rfl⟩
  refine KOps.call rfl (stSays_c (l := [2]) (i := 1) (hS.rd 1 rfl) (hS.rd 0 rfl) (by decide)) ?_
  rintro _ hsy ⟨rfl, hK⟩
  have hS0 : St _ _ (_ :: _) := St.trans hS (St.ofK hK)
  clear hS
  have hS := hS0
  clear hS0
  rw [sayWB4.1, sayWB4.2]
  refine KOps.move ?_
  refine KOps.extract ?_
  refine KOps.extract ?_
  refine KOps.assign ?_
  refine KOps.assign ?_
  refine KOps.done ?_
  refine sqQ.normal ?_
  refine KA.sub (Sub.cons (t := 1) Look.eq (Sub.cons (t := 2) Look.eq (Sub.cons (t := 3) Look.eq (Sub.cons (t := 4) Look.eq (Sub.cons (t := 5) Look.eq (Sub.cons (t := 6) Look.eq (Sub.nil _))))))) ?_
  refine KA.seq ?_
  refine KA.region rfl ?_
  refine KOps.call rfl (B_c) ?_
  rintro _ hb40 ⟨vb40, rfl, hSB⟩
  have hS0 : St _ _ (_ :: _) := St.trans hS hSB
  clear hS
  have hS := hS0
  clear hS0

  refine KOps.call rfl (bound_true_c (i := 0) (hS.rd 0 rfl) (hSz.ext hS.keeps)) ?_
  rintro _ hrA ⟨vA, rfl, hSN⟩
  have hS0 : St _ _ (_ :: _) := St.trans hS hSN
  clear hS
  have hS := hS0
  clear hS0
  rw [boundWB0] at hS
  rw [askWB0]
  refine KOps.move ?_
  refine KOps.extract ?_
  refine KOps.extract ?_
  refine KOps.assign ?_
  refine KOps.assign ?_
  refine KOps.done ?_
  refine sqQ.normal ?_
  refine KA.sub (Sub.cons (t := 1) Look.eq (Sub.cons (t := 2) Look.eq (Sub.cons (t := 3) Look.eq (Sub.cons (t := 4) Look.eq (Sub.cons (t := 5) Look.eq (Sub.cons (t := 6) Look.eq (Sub.cons (t := 7) Look.eq (Sub.cons (t := 8) Look.eq (Sub.nil _))))))))) ?_
  refine KA.seq ?_
  refine KA.region rfl ?_
  refine KOps.call rfl (B_c) ?_
  rintro _ hb50 ⟨vb50, rfl, hSB⟩
  have hS0 : St _ _ (_ :: _) := St.trans hS hSB
  clear hS
  have hS := hS0
  clear hS0

  refine KOps.call rfl (bound_false_c (i := 2) (hS.rd 0 rfl) (hSz.ext hS.keeps)) ?_
  rintro _ hrC ⟨vC, rfl, hSN⟩
  have hS0 : St _ _ (_ :: _) := St.trans hS hSN
  clear hS
  have hS := hS0
  clear hS0
  rw [boundWB2] at hS
  rw [askWB2]
  refine KOps.move ?_
  refine KOps.extract ?_
  refine KOps.extract ?_
  refine KOps.assign ?_
  refine KOps.assign ?_
  refine KOps.done ?_
  refine sqQ.normal ?_
  refine KA.sub (Sub.cons (t := 1) Look.eq (Sub.cons (t := 2) Look.eq (Sub.cons (t := 3) Look.eq (Sub.cons (t := 4) Look.eq (Sub.cons (t := 5) Look.eq (Sub.cons (t := 6) Look.eq (Sub.cons (t := 7) Look.eq (Sub.cons (t := 8) Look.eq (Sub.cons (t := 9) Look.eq (Sub.cons (t := 10) Look.eq (Sub.nil _))))))))))) ?_
  refine KA.seq ?_
  refine KA.region rfl ?_
  refine KOps.call rfl (B_c) ?_
  rintro _ hb60 ⟨vb60, rfl, hSB⟩
  have hS0 : St _ _ (_ :: _) := St.trans hS hSB
  clear hS
  have hS := hS0
  clear hS0

  refine KOps.call rfl (bound_false_c (i := 0) (hS.rd 0 rfl) (hSz.ext hS.keeps)) ?_
  rintro _ hrD ⟨vD, rfl, hSN⟩
  have hS0 : St _ _ (_ :: _) := St.trans hS hSN
  clear hS
  have hS := hS0
  clear hS0
  rw [boundWB3] at hS
  rw [askWB0]
  refine KOps.move ?_
  refine KOps.extract ?_
  refine KOps.extract ?_
  refine KOps.assign ?_
  refine KOps.assign ?_
  refine KOps.done ?_
  refine sqQ.normal ?_
  refine KA.sub (Sub.cons (t := 1) Look.eq (Sub.cons (t := 2) Look.eq (Sub.cons (t := 3) Look.eq (Sub.cons (t := 4) Look.eq (Sub.cons (t := 5) Look.eq (Sub.cons (t := 6) Look.eq (Sub.cons (t := 7) Look.eq (Sub.cons (t := 8) Look.eq (Sub.cons (t := 9) Look.eq (Sub.cons (t := 10) Look.eq (Sub.cons (t := 11) Look.eq (Sub.cons (t := 12) Look.eq (Sub.nil _))))))))))))) ?_
  refine KA.seq ?_
  refine KA.region rfl ?_
  refine KOps.move ?_
  refine KOps.eqlT rfl ?_
  refine KOps.move ?_
  refine KOps.guardYes (dj := 51) rfl rfl ?_
  refine KOps.move ?_
  refine KOps.guardYes (dj := 51) rfl rfl ?_
  refine KOps.eqlT rfl ?_
  refine KOps.pickT ?_
  refine KOps.move ?_
  refine KOps.guardYes (dj := 55) rfl rfl ?_
  refine KOps.move ?_
  refine KOps.guardYes (dj := 55) rfl rfl ?_
  refine KOps.eqlT rfl ?_
  refine KOps.pickT ?_
  refine KOps.move ?_
  refine KOps.guardYes (dj := 59) rfl rfl ?_
  refine KOps.move ?_
  refine KOps.guardYes (dj := 59) rfl rfl ?_
  refine KOps.eqlT rfl ?_
  refine KOps.pickT ?_
  refine KOps.move ?_
  refine KOps.guardYes (dj := 63) rfl rfl ?_
  refine KOps.move ?_
  refine KOps.guardYes (dj := 63) rfl rfl ?_
  refine KOps.eqlT rfl ?_
  refine KOps.pickT ?_
  refine KOps.move ?_
  refine KOps.guardYes (dj := 67) rfl rfl ?_
  refine KOps.move ?_
  refine KOps.guardYes (dj := 67) rfl rfl ?_
  refine KOps.eqlT rfl ?_
  refine KOps.pickT ?_
  refine KOps.move ?_
  refine KOps.guardYes (dj := 71) rfl rfl ?_
  refine KOps.move ?_
  refine KOps.guardYes (dj := 71) rfl rfl ?_
  refine KOps.eqlT rfl ?_
  refine KOps.pickT ?_
  refine KOps.move ?_
  refine KOps.guardYes (dj := 75) rfl rfl ?_
  refine KOps.move ?_
  refine KOps.guardYes (dj := 75) rfl rfl ?_
  refine KOps.eqlT rfl ?_
  refine KOps.pickT ?_
  refine KOps.move ?_
  refine KOps.guardYes (dj := 79) rfl rfl ?_
  refine KOps.move ?_
  refine KOps.guardYes (dj := 79) rfl rfl ?_
  refine KOps.buildSlice hS rfl (by decide) rfl ?_
  intro v81 h' hS
  refine KOps.guardYes (dj := 79) rfl rfl ?_
  refine KOps.call rfl (lst_c) ?_
  rintro _ _ ⟨rfl, rfl⟩
  refine KOps.guardYes (dj := 79) rfl rfl ?_
  refine KOps.call rfl (same_c (a := [5, 5, 5]) (b := [5, 5, 5]) (hS.rd 11 rfl) (hS.rd 0 rfl) (by decide)) ?_
  rintro _ _ ⟨rfl, rfl⟩
  rw [show decide (([5, 5, 5] : List Int) = [5, 5, 5]) = true from by decide]
  refine KOps.pickT ?_
  refine KOps.move ?_
  refine KOps.guardYes (dj := 85) rfl rfl ?_
  refine KOps.move ?_
  refine KOps.guardYes (dj := 85) rfl rfl ?_
  refine KOps.buildSlice hS rfl (by decide) rfl ?_
  intro v87 h' hS
  refine KOps.guardYes (dj := 85) rfl rfl ?_
  refine KOps.call rfl (lst_c) ?_
  rintro _ _ ⟨rfl, rfl⟩
  refine KOps.guardYes (dj := 85) rfl rfl ?_
  refine KOps.call rfl (same_c (a := [0]) (b := [0]) (hS.rd 6 rfl) (hS.rd 0 rfl) (by decide)) ?_
  rintro _ _ ⟨rfl, rfl⟩
  rw [show decide (([0] : List Int) = [0]) = true from by decide]
  refine KOps.pickT ?_
  refine KOps.move ?_
  refine KOps.guardYes (dj := 91) rfl rfl ?_
  refine KOps.move ?_
  refine KOps.guardYes (dj := 91) rfl rfl ?_
  refine KOps.buildSlice hS rfl (by decide) rfl ?_
  intro v93 h' hS
  refine KOps.guardYes (dj := 91) rfl rfl ?_
  refine KOps.call rfl (lst_c) ?_
  rintro _ _ ⟨rfl, rfl⟩
  refine KOps.guardYes (dj := 91) rfl rfl ?_
  refine KOps.call rfl (same_c (a := [0]) (b := [0]) (hS.rd 5 rfl) (hS.rd 0 rfl) (by decide)) ?_
  rintro _ _ ⟨rfl, rfl⟩
  rw [show decide (([0] : List Int) = [0]) = true from by decide]
  refine KOps.pickT ?_
  refine KOps.move ?_
  refine KOps.guardYes (dj := 97) rfl rfl ?_
  refine KOps.move ?_
  refine KOps.guardYes (dj := 97) rfl rfl ?_
  refine KOps.lenI (hS.rd 3 rfl) ?_
  refine KOps.guardYes (dj := 97) rfl rfl ?_
  refine KOps.eqlT rfl ?_
  refine KOps.pickT ?_
  refine KOps.move ?_
  refine KOps.guardYes (dj := 102) rfl rfl ?_
  refine KOps.call rfl (B_c) ?_
  rintro _ hb754 ⟨vb754, rfl, hSB⟩
  have hS0 : St _ _ (_ :: _) := St.trans hS hSB
  clear hS
  have hS := hS0
  clear hS0

  refine KOps.guardYes (dj := 102) rfl rfl ?_
  refine KOps.buildSlice hS rfl (by decide) rfl ?_
  intro v104 h' hS
  refine KOps.guardYes (dj := 102) rfl rfl ?_
  refine KOps.call rfl (lst_c) ?_
  rintro _ _ ⟨rfl, rfl⟩
  refine KOps.guardYes (dj := 102) rfl rfl ?_
  refine KOps.call rfl (verify_c (l := [6, 6, 6]) (hS.rd 1 rfl) (hS.rd 0 rfl)) ?_
  rintro _ hvf ⟨rfl, hK⟩
  have hS0 : St _ _ (_ :: _) := St.trans hS (St.ofK hK)
  clear hS
  have hS := hS0
  clear hS0
  rw [verWB3]
  refine KOps.guardYes (dj := 102) rfl rfl ?_
  refine KOps.eqlT rfl ?_
  refine KOps.pickT ?_
  refine KOps.move ?_
  refine KOps.guardYes (dj := 109) rfl rfl ?_
  refine KOps.call rfl (B_c) ?_
  rintro _ hb761 ⟨vb761, rfl, hSB⟩
  have hS0 : St _ _ (_ :: _) := St.trans hS hSB
  clear hS
  have hS := hS0
  clear hS0

  refine KOps.guardYes (dj := 109) rfl rfl ?_
  refine KOps.buildSlice hS rfl (by decide) rfl ?_
  intro v111 h' hS
  refine KOps.guardYes (dj := 109) rfl rfl ?_
  refine KOps.call rfl (lst_c) ?_
  rintro _ _ ⟨rfl, rfl⟩
  refine KOps.guardYes (dj := 109) rfl rfl ?_
  refine KOps.call rfl (verify_c (l := [4, 4, 4]) (hS.rd 1 rfl) (hS.rd 0 rfl)) ?_
  rintro _ hvf ⟨rfl, hK⟩
  have hS0 : St _ _ (_ :: _) := St.trans hS (St.ofK hK)
  clear hS
  have hS := hS0
  clear hS0
  rw [verWB4]
  refine KOps.guardYes (dj := 109) rfl rfl ?_
  refine KOps.eqlT rfl ?_
  refine KOps.pickT ?_
  refine KOps.move ?_
  refine KOps.guardYes (dj := 116) rfl rfl ?_
  refine KOps.call rfl (B_c) ?_
  rintro _ hb768 ⟨vb768, rfl, hSB⟩
  have hS0 : St _ _ (_ :: _) := St.trans hS hSB
  clear hS
  have hS := hS0
  clear hS0

  refine KOps.guardYes (dj := 116) rfl rfl ?_
  refine KOps.buildSlice hS rfl (by decide) rfl ?_
  intro v118 h' hS
  refine KOps.guardYes (dj := 116) rfl rfl ?_
  refine KOps.call rfl (lst_c) ?_
  rintro _ _ ⟨rfl, rfl⟩
  refine KOps.guardYes (dj := 116) rfl rfl ?_
  refine KOps.call rfl (verify_c (l := [5, 5]) (hS.rd 1 rfl) (hS.rd 0 rfl)) ?_
  rintro _ hvf ⟨rfl, hK⟩
  have hS0 : St _ _ (_ :: _) := St.trans hS (St.ofK hK)
  clear hS
  have hS := hS0
  clear hS0
  rw [verWB5]
  refine KOps.guardYes (dj := 116) rfl rfl ?_
  refine KOps.eqlT rfl ?_
  refine KOps.pickT ?_
  refine KOps.move ?_
  refine KOps.guardYes (dj := 123) rfl rfl ?_
  refine KOps.call rfl (books_c (l := []) (m := 0) (Row.nil _) rfl (by decide)) ?_
  rintro _ hbk ⟨vk1, rfl, hSB⟩
  have hS0 : St _ _ (_ :: _) := St.trans hS hSB
  clear hS
  have hS := hS0
  clear hS0

  refine KOps.guardYes (dj := 123) rfl rfl ?_
  refine KOps.call rfl (check_c (hS.rd 0 rfl)) ?_
  rintro _ hck ⟨rfl, hK⟩
  have hS0 : St _ _ (_ :: _) := St.trans hS (St.ofK hK)
  clear hS
  have hS := hS0
  clear hS0
  rw [chkK1]
  refine KOps.guardYes (dj := 123) rfl rfl ?_
  refine KOps.eqlT rfl ?_
  refine KOps.pickT ?_
  refine KOps.move ?_
  refine KOps.guardYes (dj := 128) rfl rfl ?_
  refine KOps.buildSlice hS rfl (by decide) rfl ?_
  intro v129 h' hS
  refine KOps.guardYes (dj := 128) rfl rfl ?_
  refine KOps.call rfl (books_c (l := [0, 0, 1, 1]) (m := 1) (hS.rd 0 rfl) rfl (by decide)) ?_
  rintro _ hbk2 ⟨vk2, rfl, hSB⟩
  have hS0 : St _ _ (_ :: _) := St.trans hS hSB
  clear hS
  have hS := hS0
  clear hS0

  refine KOps.guardYes (dj := 128) rfl rfl ?_
  refine KOps.call rfl (check_c (hS.rd 0 rfl)) ?_
  rintro _ hck2 ⟨rfl, hK⟩
  have hS0 : St _ _ (_ :: _) := St.trans hS (St.ofK hK)
  clear hS
  have hS := hS0
  clear hS0
  rw [chkK2]
  refine KOps.guardYes (dj := 128) rfl rfl ?_
  refine KOps.eqlT rfl ?_
  refine KOps.pickT ?_
  refine KOps.move ?_
  refine KOps.guardYes (dj := 134) rfl rfl ?_
  refine KOps.call rfl (works_c (hSz.ext hS.keeps)) ?_
  rintro _ hwk ⟨rfl, hK⟩
  refine KOps.pickT ?_
  refine KOps.assign ?_
  refine KOps.done ?_
  refine sqQ.normal ?_
  refine KA.sub (Sub.cons (t := 0) Look.eq (Sub.nil _)) ?_
  refine KA.ret ?_
  refine fnQ.ret1 ?_
  exact rfl

end Go.Am
