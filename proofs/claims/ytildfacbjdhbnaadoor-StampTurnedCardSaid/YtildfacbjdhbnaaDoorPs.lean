/-
  Layer 01: the laws' small functions: contracts.
  Conditions: none.
-/
import Derived.Test.YtildfacbjdhbnaaDoorCaa
import Derived.Test.YtildfacbjdhbnaaDoorSa
import Derived.Test.YtildfacbjdhbnaaDoorRows
import Derived.MakeChecks
namespace Go.Am
theorem build_s12 {P : Program} {t : TypeId} {z0 z1 x : AV} (hz : zeroA P t = some (.agg [z0, z1])) (hz1 : [z0, z1].all AV.one = true) (hok : abuildOk P t = true) (hp0 : aplaces P t 0 = some (0, 1)) (hx : x.one = true) : abuild P t [(0, x)] = some (.agg [x, z1]) := by
  have h0 : (AV.agg [z0, z1]).cells? = some [z0, z1] := by simp only [AV.cells?]; rw [if_pos hz1]
  simp only [abuild, hz, h0, hok, if_true, Option.bind_eq_bind, Option.bind_some, afill, hp0, AV.cells_one hx]
  simp [putL, afill]
section
variable {P : Program} {n : Nat} {ops : Array Oper} {ex : List Nat} {Q : KF → AHeap → Prop} {k : Nat} {os : List Oper} {K : KF} {h : AHeap} {d : Nat} {ty : TypeId} {pos : String} {after : Array Edge}
theorem KOps.buildS12 {t : TypeId} {x0 : Operand} {v0 : AV} [hx0 : EvK h.globs n K x0 v0] {z0 z1 : AV} (hz : zeroA P t = some (.agg [z0, z1])) (hz1 : [z0, z1].all AV.one = true) (hok : abuildOk P t = true) (hp0 : aplaces P t 0 = some (0, 1)) (hov0 : v0.one = true) (hk : KOps P n ops ex Q (k + 1) os ((d, .agg [v0, z1]) :: K) h) :
    KOps P n ops ex Q k (⟨some d, .build t (List.toArray [(0, x0)]), ty, pos, after, none⟩ :: os) K h :=
  KOps.build (vs := [v0]) (build_s12 hz hz1 hok hp0 hov0) hk
theorem pc_aarr (p q : Int × Int) : aarr Go.Proofs.Tryd.prog 72 (pc p) (pc q) = some (decide (p = q)) := by
  have h1 : arrA Go.Proofs.Tryd.prog 72 = some (2, 3) := by kernel_rfl
  have h2 : intA Go.Proofs.Tryd.prog 3 = some .i64 := by kernel_rfl
  have h3 : (Go.Proofs.Tryd.prog).eqGuardType (Go.Proofs.Tryd.prog).depth 72 = false := by kernel_rfl
  have h4 : szA Go.Proofs.Tryd.prog 3 = some 1 := by kernel_rfl
  obtain ⟨a, b⟩ := p
  obtain ⟨c, e⟩ := q
  simp only [aarr, h1, h2, h3, h4, pc, ints, List.map_cons, List.map_nil, alits, if_true, Option.map_some, List.length_cons, List.length_nil, true_and, Prod.mk.injEq, and_self, Option.some.injEq]
  rw [Bool.eq_iff_iff, beq_iff_eq, decide_eq_true_iff]
  simp
theorem KOps.neqPc {x y : Operand} {p q : Int × Int} {t' : TypeId} [hx : EvK h.globs n K x (.agg (pc p))] [hy : EvK h.globs n K y (.agg (pc q))] (hk : KOps Go.Proofs.Tryd.prog n ops ex Q (k + 1) os ((d, .bool (!decide (p = q))) :: K) h) :
    KOps Go.Proofs.Tryd.prog n ops ex Q k (⟨some d, .binOp .neq 72 x y t', ty, pos, after, none⟩ :: os) K h :=
  KOps.pure rfl (by simp only [apure, hx.eq, hy.eq, abin, pc_aarr, Option.map_some]) hk
end
def wayAt (l : List Int) (i : Nat) : W := ⟨l.getD (4 * i) 0, l.getD (4 * i + 1) 0, l.getD (4 * i + 2) 0, l.getD (4 * i + 3) 0⟩
def waysTo (l : List Int) (k : Nat) : List W := (List.range k).map (wayAt l)
theorem waysTo_len (l : List Int) (k : Nat) : (waysTo l k).length = k := by simp [waysTo]
theorem waysTo_next (l : List Int) (k : Nat) : flr wc (waysTo l k) ++ wc (wayAt l k) = flr wc (waysTo l (k + 1)) := by
  rw [flr_snoc]; simp [waysTo, List.range_succ]

theorem books_c {h : AHeap} {rm : Int} {vn : AV} {l : List Int} {m : Nat} (hn : Row h vn l) (hl : l.length = 4 * m) (hm : m ≤ 1000) : ACalls Go.Proofs.Tryd.prog 52 [.int .i64 rm, vn] h (fun q h' => ∃ v, q = .agg [.int .i64 rm, v] ∧ St h h' [⟨v, 4, flr wc (waysTo l m), true⟩]) := by
  refine KA.fnH 42 [.cell 4 24] Go.Proofs.Tryd.func52 rfl (by decide) rfl rfl (Nat.le_of_ble_eq_true rfl) ?_
  have hS := St.refl h
  show KA _ 42 _ _ [(0, .int .i64 rm), (1, vn)] _
  refine KA.seq ?_
  refine KA.region rfl ?_
  refine KOps.alloc hS ?_
  intro p4 h' hp4 hS
  refine KOps.done ?_
  refine sqQ.normal ?_
  refine KA.seq ?_
  refine KA.region rfl ?_
  refine KOps.move ?_
  refine KOps.buildS12 (z0 := .int .i64 0) (z1 := .nils) (by kernel_rfl) (by rfl) (by kernel_rfl) (by kernel_rfl) (by first | rfl | assumption) ?_
  refine KOps.alloc hS ?_
  intro p5 h' hp5 hS
  refine KOps.storeAll hS rfl (i := 0) rfl hp5 (by first | rfl | (simp [AV.one]; done) | (simp [AV.one]; assumption) | (simp [AV.one, *]; done)) (by rfl) (by rfl) (by decide) ?_
  intro h' hS
  simp only [List.set_cons_zero, List.set_cons_succ, Nat.zero_add] at hS
  refine KOps.done ?_
  refine sqQ.normal ?_
  refine KA.sub (Sub.cons (t := 1) Look.eq (Sub.cons (t := 4) Look.eq (Sub.cons (t := 5) Look.eq (Sub.nil _)))) ?_
  refine KA.seq ?_
  refine KA.seq ?_
  refine KA.region rfl ?_
  refine KOps.assign ?_
  refine KOps.done ?_
  refine sqQ.normal ?_
  refine KA.block ?_
  refine KA.loop (X := Nat × AV) (fun x => [(1, vn), (4, p4), (5, p5), (6, .int .i64 ((4 * x.1 : Nat) : Int))]) (fun x h' => x.1 ≤ m ∧ St h h' [⟨p5, 0, [.int .i64 rm, x.2], true⟩, ⟨p4, 0, [.int .i64 0, .nils], true⟩, ⟨x.2, 4, flr wc (waysTo l x.1), true⟩]) (fun x => m - x.1) (0, .nils) (by repeat (first | exact Sub.nil _ | refine Sub.cons Look.eq ?_ | refine Sub.cons (Eq.trans Look.eq (congrArg (AV.int _) (by first | omega | (dsimp only; omega)))) ?_)) ?_ ?_
  · exact ⟨Nat.zero_le _, St.addNil 4 true hS⟩
  rintro ⟨i, vo⟩ h3 ⟨hi, hS⟩
  dsimp only at hi hS ⊢
  refine KA.seq ?_
  refine KA.seq ?_
  refine KA.region rfl ?_
  refine KOps.move ?_
  refine KOps.add (by first | omega | (simp; omega)) (by first | omega | (simp; omega)) ?_
  refine KOps.move ?_
  refine KOps.lenI (Row.ext hS.keeps hn) ?_
  refine KOps.lss ?_
  refine KOps.done ?_
  refine sqQ.normal ?_
  refine KA.sub (Sub.cons (t := 1) Look.eq (Sub.cons (t := 4) Look.eq (Sub.cons (t := 5) Look.eq (Sub.cons (t := 6) Look.eq (Sub.cons (t := 13) Look.eq (Sub.nil _)))))) ?_
  refine KA.condD ?_ ?_
  · intro c13
    refine KA.skip ?_
    refine sqQ.normal ?_
    refine KA.sub (Sub.cons (t := 1) Look.eq (Sub.cons (t := 4) Look.eq (Sub.cons (t := 5) Look.eq (Sub.cons (t := 6) Look.eq (Sub.nil _))))) ?_
    refine KA.seq ?_
    refine KA.block ?_
    refine KA.draw [23] mixed rfl (by kernel_rfl) ?_
    refine KOps.fieldAddr hp5 ?_
    intro p16 hp16
    refine KOps.load hp16 (hS.rd 0 rfl) rfl ?_
    refine KOps.move ?_
    refine KOps.move ?_
    refine KOps.indexIJ (Row.ext hS.keeps hn) (j := (4 * i)) (by first | omega | (simp; omega)) (by first | omega | (simp; omega)) ?_
    intro p20 hp20
    refine KOps.loadI hp20 (Row.ext hS.keeps hn) (by first | omega | (simp; omega)) ?_
    refine KOps.move ?_
    refine KOps.move ?_
    refine KOps.add (by first | omega | (simp; omega)) (by first | omega | (simp; omega)) ?_
    refine KOps.indexIJ (Row.ext hS.keeps hn) (j := (4 * i + 1)) (by first | omega | (simp; omega)) (by first | omega | (simp; omega)) ?_
    intro p25 hp25
    refine KOps.loadI hp25 (Row.ext hS.keeps hn) (by first | omega | (simp; omega)) ?_
    refine KOps.move ?_
    refine KOps.move ?_
    refine KOps.add (by first | omega | (simp; omega)) (by first | omega | (simp; omega)) ?_
    refine KOps.indexIJ (Row.ext hS.keeps hn) (j := (4 * i + 2)) (by first | omega | (simp; omega)) (by first | omega | (simp; omega)) ?_
    intro p30 hp30
    refine KOps.loadI hp30 (Row.ext hS.keeps hn) (by first | omega | (simp; omega)) ?_
    refine KOps.move ?_
    refine KOps.move ?_
    refine KOps.add (by first | omega | (simp; omega)) (by first | omega | (simp; omega)) ?_
    refine KOps.indexIJ (Row.ext hS.keeps hn) (j := (4 * i + 3)) (by first | omega | (simp; omega)) (by first | omega | (simp; omega)) ?_
    intro p35 hp35
    refine KOps.loadI hp35 (Row.ext hS.keeps hn) (by first | omega | (simp; omega)) ?_
    refine KOps.buildS4 (z0 := .int .i64 0) (z1 := .int .i64 0) (z2 := .int .i64 0) (z3 := .int .i64 0) (by kernel_rfl) (by rfl) (by kernel_rfl) (by kernel_rfl) (by kernel_rfl) (by kernel_rfl) (by kernel_rfl) (by first | rfl | assumption) (by first | rfl | assumption) (by first | rfl | assumption) (by first | rfl | assumption) ?_
    refine KOps.buildSliceS (cs := (wc (wayAt l i))) hS rfl rfl rfl (by decide) ?_
    intro v38 h' hS
    refine KOps.append hS (fun _ => rfl) (i := 3) rfl (a := i) (by rw [flr_len wc_len, waysTo_len]) (hS.rd 0 rfl) (b := 1) rfl rfl (by omega) ?_
    intro r39 h' hS
    simp only [List.set_cons_zero, List.set_cons_succ, Nat.zero_add] at hS
    have hr39 : r39.one = true := St.one hS (k := 3) rfl
    have hS0 := St.tail hS
    clear hS
    have hS := hS0
    clear hS0
    refine KOps.fieldAddr hp5 ?_
    intro p40 hp40
    refine KOps.store hS rfl (i := 0) rfl hp40 (by first | rfl | assumption) (by first | decide | simp) ?_
    intro h' hS
    simp only [List.set_cons_zero, List.set_cons_succ, Nat.zero_add] at hS
    refine KOps.done ?_
    refine blQ.normal ?_
    refine sqQ.normal ?_
    refine KA.sub (Sub.cons (t := 1) Look.eq (Sub.cons (t := 4) Look.eq (Sub.cons (t := 5) Look.eq (Sub.cons (t := 6) Look.eq (Sub.nil _))))) ?_
    refine KA.region rfl ?_
    refine KOps.move ?_
    refine KOps.add (by first | omega | (simp; omega)) (by first | omega | (simp; omega)) ?_
    refine KOps.assign ?_
    refine KOps.done ?_
    rw [waysTo_next] at hS
    exact lpQ.normal (i + 1, r39) (by repeat (first | exact Sub.nil _ | refine Sub.cons Look.eq ?_ | refine Sub.cons (Eq.trans Look.eq (congrArg (AV.int _) (by first | omega | (dsimp only; omega)))) ?_)) ⟨by dsimp only; omega, hS⟩ (by dsimp only; omega)
  · intro c13
    refine KA.exit ?_
    refine sqQ.exit ?_
    refine lpQ.exit ?_
    refine blQ.here ?_
    refine sqQ.normal ?_
    refine KA.sub (Sub.cons (t := 4) Look.eq (Sub.cons (t := 5) Look.eq (Sub.nil _))) ?_
    refine KA.seq ?_
    refine KA.region rfl ?_
    refine KOps.loadAll hS (i := 0) rfl hp5 (by rfl) (by decide) ?_
    refine KOps.storeAll hS rfl (i := 1) rfl hp4 (by show (true && (vo.one && true)) = true; rw [St.one hS (k := 2) rfl]; rfl) (by rfl) (by rfl) (by decide) ?_
    intro h' hS
    simp only [List.set_cons_zero, List.set_cons_succ, Nat.zero_add] at hS
    refine KOps.done ?_
    refine sqQ.normal ?_
    refine KA.sub (Sub.cons (t := 4) Look.eq (Sub.nil _)) ?_
    refine KA.ret ?_
    refine fnC.retC hS (i := 1) rfl hp4 (by rfl) (by simp) ?_
    have hie : i = m := by omega
    subst hie
    exact ⟨_, rfl, St.pick [2] (by decide) rfl hS⟩

theorem lst_c {h : AHeap} {v : AV} : ACalls Go.Proofs.Tryd.prog 51 [v] h (fun q h' => q = v ∧ h = h') := by
  refine KA.fn 4 [.tmp 2] Go.Proofs.Tryd.func51 rfl (by decide) rfl rfl (Nat.le_of_ble_eq_true rfl) ?_
  show KA _ 4 _ _ [(0, v)] _
  refine KA.seq ?_
  refine KA.region rfl ?_
  refine KOps.assign ?_
  refine KOps.done ?_
  refine sqQ.normal ?_
  refine KA.sub (Sub.cons (t := 0) Look.eq (Sub.nil _)) ?_
  refine KA.seq ?_
  refine KA.region rfl ?_
  refine KOps.move ?_
  refine KOps.assign ?_
  refine KOps.done ?_
  refine sqQ.normal ?_
  refine KA.sub (Sub.cons (t := 2) Look.eq (Sub.nil _)) ?_
  refine KA.ret ?_
  refine fnQ.ret1 ?_
  exact ⟨rfl, rfl⟩

def wB : List W := [⟨0, 1, 5, 9⟩, ⟨1, 2, 0, 7⟩, ⟨2, 0, 4, 6⟩]
def wC : List W := [⟨0, 1, 5, 9⟩, ⟨1, 2, 0, 3⟩, ⟨2, 0, 0, 9⟩, ⟨1, 0, 0, 1⟩]

theorem B_c {h : AHeap} : ACalls Go.Proofs.Tryd.prog 50 [] h (fun q h' => ∃ v, q = .agg [.int .i64 3, v] ∧ St h h' [⟨v, 4, flr wc wB, true⟩]) := by
  refine KA.fnH 3 [.cell 0 24] Go.Proofs.Tryd.func50 rfl (by decide) rfl rfl (Nat.le_of_ble_eq_true rfl) ?_
  have hS := St.refl h
  show KA _ 3 _ _ [] _
  refine KA.seq ?_
  refine KA.region rfl ?_
  refine KOps.alloc hS ?_
  intro p0 h' hp0 hS
  refine KOps.done ?_
  refine sqQ.normal ?_
  refine KA.seq ?_
  refine KA.region rfl ?_
  refine KOps.buildSlice hS rfl (by decide) rfl ?_
  intro v1 h' hS
  refine KOps.call rfl (books_c (l := [0, 1, 5, 9, 1, 2, 0, 7, 2, 0, 4, 6]) (m := 3) (hS.rd 0 rfl) rfl (by decide)) ?_
  rintro _ h5 ⟨vb, rfl, hSB⟩
  have hS0 : St _ _ (_ :: _) := St.trans hS hSB
  clear hS
  have hS := hS0
  clear hS0
  have hvb : vb.one = true := St.one hS (k := 0) rfl
  refine KOps.storeAll hS rfl (i := 2) rfl hp0 (by show (true && (vb.one && true)) = true; rw [hvb]; rfl) (by rfl) (by rfl) (by decide) ?_
  intro h' hS
  simp only [List.set_cons_zero, List.set_cons_succ, Nat.zero_add] at hS
  refine KOps.done ?_
  refine sqQ.normal ?_
  refine KA.sub (Sub.cons (t := 0) Look.eq (Sub.nil _)) ?_
  refine KA.ret ?_
  refine fnC.retC hS (i := 2) rfl hp0 (by rfl) (by simp) ?_
  exact ⟨_, rfl, St.pick [0] (by decide) rfl hS⟩

theorem C_c {h : AHeap} : ACalls Go.Proofs.Tryd.prog 53 [] h (fun q h' => ∃ v, q = .agg [.int .i64 3, v] ∧ St h h' [⟨v, 4, flr wc wC, true⟩]) := by
  refine KA.fnH 3 [.cell 0 24] Go.Proofs.Tryd.func53 rfl (by decide) rfl rfl (Nat.le_of_ble_eq_true rfl) ?_
  have hS := St.refl h
  show KA _ 3 _ _ [] _
  refine KA.seq ?_
  refine KA.region rfl ?_
  refine KOps.alloc hS ?_
  intro p0 h' hp0 hS
  refine KOps.done ?_
  refine sqQ.normal ?_
  refine KA.seq ?_
  refine KA.region rfl ?_
  refine KOps.buildSlice hS rfl (by decide) rfl ?_
  intro v1 h' hS
  refine KOps.call rfl (books_c (l := [0, 1, 5, 9, 1, 2, 0, 3, 2, 0, 0, 9, 1, 0, 0, 1]) (m := 4) (hS.rd 0 rfl) rfl (by decide)) ?_
  rintro _ h5 ⟨vb, rfl, hSB⟩
  have hS0 : St _ _ (_ :: _) := St.trans hS hSB
  clear hS
  have hS := hS0
  clear hS0
  have hvb : vb.one = true := St.one hS (k := 0) rfl
  refine KOps.storeAll hS rfl (i := 2) rfl hp0 (by show (true && (vb.one && true)) = true; rw [hvb]; rfl) (by rfl) (by rfl) (by decide) ?_
  intro h' hS
  simp only [List.set_cons_zero, List.set_cons_succ, Nat.zero_add] at hS
  refine KOps.done ?_
  refine sqQ.normal ?_
  refine KA.sub (Sub.cons (t := 0) Look.eq (Sub.nil _)) ?_
  refine KA.ret ?_
  refine fnC.retC hS (i := 2) rfl hp0 (by rfl) (by simp) ?_
  exact ⟨_, rfl, St.pick [0] (by decide) rfl hS⟩

theorem spans_c {h : AHeap} {v u : AV} {a b : List (Int × Int)} (hv : Rd h v 2 (flr pc a)) (hu : Rd h u 2 (flr pc b)) (hla : a.length ≤ 1000000) : ACalls Go.Proofs.Tryd.prog 39 [v, u] h (fun q h' => q = .bool (decide (a = b)) ∧ h = h') := by
  refine KA.fn 26 [.tmp 4] Go.Proofs.Tryd.func39 rfl (by decide) rfl rfl (Nat.le_of_ble_eq_true rfl) ?_
  show KA _ 26 _ _ [(0, v), (1, u)] _
  refine KA.seq ?_
  refine KA.region rfl ?_
  refine KOps.assign ?_
  refine KOps.done ?_
  refine sqQ.normal ?_
  refine KA.sub (Sub.cons (t := 0) Look.eq (Sub.cons (t := 1) Look.eq (Sub.nil _))) ?_
  refine KA.seq ?_
  refine KA.seq ?_
  refine KA.region rfl ?_
  refine KOps.move ?_
  refine KOps.lenF pc_len hv ?_
  refine KOps.move ?_
  refine KOps.lenF pc_len hu ?_
  refine KOps.neq ?_
  refine KOps.done ?_
  refine sqQ.normal ?_
  refine KA.sub (Sub.cons (t := 0) Look.eq (Sub.cons (t := 1) Look.eq (Sub.cons (t := 10) Look.eq (Sub.nil _)))) ?_
  refine KA.condN ?_ ?_
  · intro c10
    refine KA.seq ?_
    refine KA.region rfl ?_
    refine KOps.assign ?_
    refine KOps.done ?_
    refine sqQ.normal ?_
    refine KA.sub (Sub.cons (t := 4) Look.eq (Sub.nil _)) ?_
    refine KA.ret ?_
    refine sqQ.ret ?_
    refine fnQ.ret1 ?_
    refine ⟨congrArg AV.bool (decide_eq_false fun e => ?_).symm, rfl⟩
    subst e
    omega
  · intro c10
    have hlab : a.length = b.length := by omega
    refine KA.skip ?_
    refine sqQ.normal ?_
    refine KA.sub (Sub.cons (t := 0) Look.eq (Sub.cons (t := 1) Look.eq (Sub.nil _))) ?_
    refine KA.seq ?_
    refine KA.seq ?_
    refine KA.region rfl ?_
    refine KOps.assign ?_
    refine KOps.done ?_
    refine sqQ.normal ?_
    refine KA.block ?_
    refine KA.loop (X := Nat) (fun i => [(0, v), (1, u), (5, .int .i64 (i : Int))]) (fun i h' => h = h' ∧ i ≤ a.length ∧ ∀ j, j < i → a.getD j default = b.getD j default) (fun i => a.length - i) 0 (by repeat (first | exact Sub.nil _ | refine Sub.cons Look.eq ?_ | refine Sub.cons (Eq.trans Look.eq (congrArg (AV.int _) (by first | omega | (dsimp only; omega)))) ?_)) ?_ ?_
    · exact ⟨rfl, Nat.zero_le _, fun j hj => by omega⟩
    rintro i _ ⟨rfl, hi, hj⟩
    refine KA.seq ?_
    refine KA.seq ?_
    refine KA.region rfl ?_
    refine KOps.move ?_
    refine KOps.move ?_
    refine KOps.lenF pc_len hv ?_
    refine KOps.lss ?_
    refine KOps.done ?_
    refine sqQ.normal ?_
    refine KA.sub (Sub.cons (t := 0) Look.eq (Sub.cons (t := 1) Look.eq (Sub.cons (t := 5) Look.eq (Sub.cons (t := 14) Look.eq (Sub.nil _))))) ?_
    refine KA.condD ?_ ?_
    · intro c14
      refine KA.skip ?_
      refine sqQ.normal ?_
      refine KA.sub (Sub.cons (t := 0) Look.eq (Sub.cons (t := 1) Look.eq (Sub.cons (t := 5) Look.eq (Sub.nil _)))) ?_
      refine KA.seq ?_
      refine KA.block ?_
      refine KA.seq ?_
      refine KA.draw [] mixed rfl (by kernel_rfl) ?_
      refine KOps.move ?_
      refine KOps.move ?_
      refine KOps.indexF pc_len hv (j := i) rfl (by first | omega | (simp; omega)) ?_
      intro p19 hp19
      refine KOps.loadFl pc_len (by decide) hp19 hv (by first | omega | (simp; omega)) ?_
      refine KOps.move ?_
      refine KOps.move ?_
      refine KOps.indexF pc_len hu (j := i) rfl (by first | omega | (simp; omega)) ?_
      intro p23 hp23
      refine KOps.loadFl pc_len (by decide) hp23 hu (by first | omega | (simp; omega)) ?_
      refine KOps.neqPc ?_
      refine KOps.done ?_
      refine sqQ.normal ?_
      refine KA.sub (Sub.cons (t := 0) Look.eq (Sub.cons (t := 1) Look.eq (Sub.cons (t := 5) Look.eq (Sub.cons (t := 25) Look.eq (Sub.nil _))))) ?_
      refine KA.condN ?_ ?_
      · intro c25
        refine KA.seq ?_
        refine KA.region rfl ?_
        refine KOps.assign ?_
        refine KOps.done ?_
        refine sqQ.normal ?_
        refine KA.sub (Sub.cons (t := 4) Look.eq (Sub.nil _)) ?_
        refine KA.ret ?_
        refine blQ.ret ?_
        refine sqQ.ret ?_
        refine lpQ.ret ?_
        refine blQ.ret ?_
        refine sqQ.ret ?_
        refine fnQ.ret1 ?_
        exact ⟨congrArg AV.bool (decide_eq_false fun e => c25 (by rw [e])).symm, rfl⟩
      · intro c25
        refine KA.skip ?_
        refine blQ.normal ?_
        refine sqQ.normal ?_
        refine KA.sub (Sub.cons (t := 0) Look.eq (Sub.cons (t := 1) Look.eq (Sub.cons (t := 5) Look.eq (Sub.nil _)))) ?_
        refine KA.region rfl ?_
        refine KOps.move ?_
        refine KOps.add (by first | omega | (simp; omega)) (by first | omega | (simp; omega)) ?_
        refine KOps.assign ?_
        refine KOps.done ?_
        refine lpQ.normal (i + 1) (by repeat (first | exact Sub.nil _ | refine Sub.cons Look.eq ?_ | refine Sub.cons (Eq.trans Look.eq (congrArg (AV.int _) (by first | omega | (dsimp only; omega)))) ?_)) ⟨rfl, by omega, ?_⟩ (by omega)
        intro j hj2
        rcases Nat.lt_succ_iff_lt_or_eq.1 hj2 with h3 | rfl
        · exact hj j h3
        · exact c25
    · intro c14
      refine KA.exit ?_
      refine sqQ.exit ?_
      refine lpQ.exit ?_
      refine blQ.here ?_
      refine sqQ.normal ?_
      refine KA.sub (Sub.nil _) ?_
      refine KA.seq ?_
      refine KA.region rfl ?_
      refine KOps.assign ?_
      refine KOps.done ?_
      refine sqQ.normal ?_
      refine KA.ret ?_
      refine fnQ.ret1 ?_
      refine ⟨congrArg AV.bool (decide_eq_true ?_).symm, rfl⟩
      refine List.ext_getElem (by omega) fun k h1 h2 => ?_
      have := hj k (by omega)
      rw [List.getD_eq_getElem?_getD, List.getD_eq_getElem?_getD, List.getElem?_eq_getElem h1, List.getElem?_eq_getElem h2] at this
      exact this

end Go.Am

namespace Go.Am
theorem chkWB : chkB 3 wB = 0 := by decide +kernel
theorem chkWC : chkB 3 wC = 0 := by decide +kernel
theorem canWB : canP 3 wB = true := by decide +kernel
theorem canWC : canP 3 wC = false := by decide +kernel
theorem agrWB : agreeE 3 wB = 0 := by decide +kernel
theorem agaWC : againE 3 wC = 0 := by decide +kernel
theorem agaWB : againE 3 wB = 13 := by decide +kernel
theorem fewWC : fewL (proofB wC) (2 ^ (3 : Int).toNat) = [0, 2] := by decide +kernel
theorem verWB : verE 3 wB [5, 5, 5] = 0 := by decide +kernel
theorem verWB2 : verE 3 wB [5, 6, 6] = 17 := by decide +kernel
theorem verWB3 : verE 3 wB [6, 6, 6] = 0 := by decide +kernel
theorem provWC : provE 3 wC [0, 2] = 0 := by decide +kernel
theorem provWC1 : provE 3 wC [1] = 14 := by decide +kernel
theorem sayWB : sayE 3 wB [0, 1] 1 = 0 ∧ sayV 3 wB [0, 1] 1 = 6 := by decide +kernel
theorem sayWB2 : sayE 3 wB [2] 0 = 12 := by decide +kernel
theorem askWB (i : Nat) (h : i < 3) : askE 3 wB (i : Int) = 0 := by
  have : ∀ i : Nat, i < 3 → askE 3 wB (i : Int) = 0 := by decide +kernel
  exact this i h
/-- All flows of B: each way has the same number, 5 or 6. -/
theorem flowWB {n : List Int} (h : Flow wB n) : ∃ v, n = [v, v, v] ∧ 5 ≤ v ∧ v ≤ 6 := by
  have hl : n.length = 3 := h.len
  match n, hl with
  | [a, b, c], _ =>
    have l0 : (5 : Int) ≤ a := h.lo 0 (by decide)
    have m0 : a ≤ 9 := h.hi 0 (by decide)
    have l2 : (4 : Int) ≤ c := h.lo 2 (by decide)
    have m2 : c ≤ 6 := h.hi 2 (by decide)
    have k0 := h.kp 0
    have k1 := h.kp 1
    have e0 : kept wB [a, b, c] 0 = 0 + a * (0 - 1) + b * (0 - 0) + c * (1 - 0) := rfl
    have e1 : kept wB [a, b, c] 1 = 0 + a * (1 - 0) + b * (0 - 1) + c * (0 - 0) := rfl
    rw [e0] at k0
    rw [e1] at k1
    have h1 : b = a := by omega
    have h2 : c = a := by omega
    subst h1 h2
    exact ⟨_, rfl, l0, m2⟩
theorem flowWB5 : Flow wB [5, 5, 5] := (verE_flow verWB).2
theorem flowWB6 : Flow wB [6, 6, 6] := (verE_flow verWB3).2
theorem exWB : ∃ n, Flow wB n := ⟨_, flowWB5⟩
theorem lexWB : firstOf wB = [5, 5, 5] := by
  refine (firstOf_is exWB).uniq ⟨flowWB5, fun m hm i hi _ => ?_⟩
  obtain ⟨v, rfl, h1, h2⟩ := flowWB hm
  have hi : i < 3 := hi
  match i, hi with
  | 0, _ => exact h1
  | 1, _ => exact h1
  | 2, _ => exact h1
theorem nextWB : nextOf wB [5, 5, 5] = some [6, 6, 6] := by
  refine nextOf_some (i := 0) ⟨by decide, flowWB6, fun k hk => by omega, rfl, ?_, ?_⟩
  · intro m hm k h1 h2 h3
    obtain ⟨v, rfl, h4, h5⟩ := flowWB hm
    have h6 : v = 6 := h3 0 h1
    subst h6
    exact Int.le_refl _
  · intro k h1 h2
    rintro ⟨m, hm, h3, h4⟩
    obtain ⟨v, rfl, h5, h6⟩ := flowWB hm
    have h7 : v = 5 := h3 0 h1
    subst h7
    exact Int.lt_irrefl _ h4
theorem otherWB : otherE 3 wB [5, 5, 5] = 0 ∧ otherL 3 wB [5, 5, 5] = [6, 6, 6] := by
  constructor
  · rw [otherE, if_pos verWB, if_pos lexWB, nextWB]; rfl
  · rw [otherL, if_pos verWB, if_pos lexWB, nextWB]; rfl
theorem getWB (v : Int) {i : Nat} (h : i < 3) : ([v, v, v] : List Int).getD i 0 = v := by
  match i, h with
  | 0, _ => rfl
  | 1, _ => rfl
  | 2, _ => rfl
theorem loWB {i : Nat} (h : i < 3) : loOf wB i = 5 := by
  refine (loOf_is exWB h).uniq ⟨⟨_, flowWB5, getWB 5 h⟩, fun n hn => ?_⟩
  obtain ⟨v, rfl, h1, h2⟩ := flowWB hn
  rw [getWB v h]; exact h1
theorem hiWB {i : Nat} (h : i < 3) : hiOf wB i = 6 := by
  refine (hiOf_is exWB h).uniq ⟨⟨_, flowWB6, getWB 6 h⟩, fun n hn => ?_⟩
  obtain ⟨v, rfl, h1, h2⟩ := flowWB hn
  rw [getWB v h]; exact h2
theorem spansWB : spansTo wB wB.length = [(5, 6), (5, 6), (5, 6)] := by
  show [(loOf wB 0, hiOf wB 0), (loOf wB 1, hiOf wB 1), (loOf wB 2, hiOf wB 2)] = _
  rw [loWB (by decide), loWB (by decide), loWB (by decide), hiWB (by decide), hiWB (by decide), hiWB (by decide)]
theorem openWB : openTo wB wB.length = [0, 1, 2] := by
  have h : ∀ i, i < 3 → loOf wB i < hiOf wB i := fun i hi => by rw [loWB hi, hiWB hi]; decide
  show openTo wB 3 = _
  rw [openTo_succ, if_pos (h 2 (by decide)), openTo_succ, if_pos (h 1 (by decide)), openTo_succ, if_pos (h 0 (by decide))]
  rfl
theorem boundWB {i : Nat} (h : i < 3) (g : Bool) : boundL 3 wB (i : Int) g = if (if g then 6 else 5) = ownI wB i g then [] else fewL (fun s => if g then lvs (wB.getD i default) s && decide (saysV wB s i = 6) else ens (wB.getD i default) s && decide (saysV wB s i = 5)) 8 := by
  have h1 : endI wB i g = if g then 6 else 5 := by unfold endI; rw [loWB h, hiWB h]
  have h2 : pB wB i g = fun s => if g then lvs (wB.getD i default) s && decide (saysV wB s i = 6) else ens (wB.getD i default) s && decide (saysV wB s i = 5) := by
    funext s; unfold pB; rw [loWB h, hiWB h]
  rw [boundL, if_pos (askWB i h), Int.toNat_natCast, h1, h2]
  rfl
theorem boundWB1 : boundL 3 wB 1 true = [0, 1] := (boundWB (i := 1) (by decide) true).trans (by decide +kernel)
end Go.Am

namespace Go.Am
theorem askWB0 : askE 3 wB 0 = 0 := by decide +kernel
theorem askWB1 : askE 3 wB 1 = 0 := by decide +kernel
theorem loWB0 : loOf wB (Int.toNat 0) = 5 := loWB (i := 0) (by decide)
theorem hiWB0 : hiOf wB (Int.toNat 0) = 6 := hiWB (i := 0) (by decide)

set_option synthInstance.maxHeartbeats 2000000 in
set_option synthInstance.maxSize 4000 in
set_option maxRecDepth 100000 in
theorem works_c {h : AHeap} (hSz : Sizes h) : ACalls Go.Proofs.Tryd.prog 16 [] h (fun q h' => q = .bool true ∧ Keeps h h') := by
  refine KA.fn 208 [.tmp 0] Go.Proofs.Tryd.func16 rfl (by decide) rfl rfl (Nat.le_of_ble_eq_true rfl) ?_
  have hS := St.refl h
  show KA _ 208 _ _ [] _
  refine KA.seq ?_
  refine KA.region rfl ?_
  refine KOps.assign ?_
  refine KOps.done ?_
  refine sqQ.normal ?_
  refine KA.sub (Sub.nil _) ?_
  refine KA.seq ?_
  refine KA.region rfl ?_
  refine KOps.call rfl (B_c) ?_
  rintro _ hb10 ⟨vb10, rfl, hSB⟩
  have hS0 : St _ _ (_ :: _) := St.trans hS hSB
  clear hS
  have hS := hS0
  clear hS0

  refine KOps.call rfl (stCan_c (hS.rd 0 rfl)) ?_
  rintro _ h11 ⟨rfl, hK⟩
  have hS0 : St _ _ (_ :: _) := St.trans hS (St.ofK hK)
  clear hS
  have hS := hS0
  clear hS0
  rw [canWB, chkWB]
  refine KOps.move ?_
  refine KOps.extract ?_
  refine KOps.extract ?_
  refine KOps.assign ?_
  refine KOps.assign ?_
  refine KOps.done ?_
  refine sqQ.normal ?_
  refine KA.sub (Sub.cons (t := 1) Look.eq (Sub.cons (t := 2) Look.eq (Sub.nil _))) ?_
  refine KA.seq ?_
  refine KA.region rfl ?_
  refine KOps.call rfl (C_c) ?_
  rintro _ hb20 ⟨vb20, rfl, hSB⟩
  have hS0 : St _ _ (_ :: _) := St.trans hS hSB
  clear hS
  have hS := hS0
  clear hS0

  refine KOps.call rfl (stCan_c (hS.rd 0 rfl)) ?_
  rintro _ h21 ⟨rfl, hK⟩
  have hS0 : St _ _ (_ :: _) := St.trans hS (St.ofK hK)
  clear hS
  have hS := hS0
  clear hS0
  rw [canWC, chkWC]
  refine KOps.move ?_
  refine KOps.extract ?_
  refine KOps.extract ?_
  refine KOps.assign ?_
  refine KOps.assign ?_
  refine KOps.done ?_
  refine sqQ.normal ?_
  refine KA.sub (Sub.cons (t := 1) Look.eq (Sub.cons (t := 2) Look.eq (Sub.cons (t := 3) Look.eq (Sub.cons (t := 4) Look.eq (Sub.nil _))))) ?_
  refine KA.seq ?_
  refine KA.region rfl ?_
  refine KOps.call rfl (B_c) ?_
  rintro _ hb30 ⟨vb30, rfl, hSB⟩
  have hS0 : St _ _ (_ :: _) := St.trans hS hSB
  clear hS
  have hS := hS0
  clear hS0

  refine KOps.call rfl (stFirst_c (hS.rd 0 rfl)) ?_
  rintro _ hrF ⟨vF, rfl, hSN⟩
  have hS0 : St _ _ (_ :: _) := St.trans hS hSN
  clear hS
  have hS := hS0
  clear hS0
  rw [agrWB, if_pos rfl, lexWB] at hS
  rw [agrWB]
  refine KOps.move ?_
  refine KOps.extract ?_
  refine KOps.extract ?_
  refine KOps.assign ?_
  refine KOps.assign ?_
  refine KOps.done ?_
  refine sqQ.normal ?_
  refine KA.sub (Sub.cons (t := 1) Look.eq (Sub.cons (t := 2) Look.eq (Sub.cons (t := 3) Look.eq (Sub.cons (t := 4) Look.eq (Sub.cons (t := 5) Look.eq (Sub.cons (t := 6) Look.eq (Sub.nil _))))))) ?_
  refine KA.seq ?_
  refine KA.region rfl ?_
  refine KOps.call rfl (B_c) ?_
  rintro _ hb40 ⟨vb40, rfl, hSB⟩
  have hS0 : St _ _ (_ :: _) := St.trans hS hSB
  clear hS
  have hS := hS0
  clear hS0

  refine KOps.buildSlice hS rfl (by decide) rfl ?_
  intro v36 h' hS
  refine KOps.call rfl (lst_c) ?_
  rintro _ _ ⟨rfl, rfl⟩
  refine KOps.call rfl (other_c (l := [5, 5, 5]) (hS.rd 1 rfl) (hS.rd 0 rfl)) ?_
  rintro _ hrO ⟨vO, rfl, hSN⟩
  have hS0 : St _ _ (_ :: _) := St.trans hS hSN
  clear hS
  have hS := hS0
  clear hS0
  rw [otherWB.2] at hS
  rw [otherWB.1]
  refine KOps.move ?_
  refine KOps.extract ?_
  refine KOps.extract ?_
  refine KOps.assign ?_
  refine KOps.assign ?_
  refine KOps.done ?_
  refine sqQ.normal ?_
  refine KA.sub (Sub.cons (t := 1) Look.eq (Sub.cons (t := 2) Look.eq (Sub.cons (t := 3) Look.eq (Sub.cons (t := 4) Look.eq (Sub.cons (t := 5) Look.eq (Sub.cons (t := 6) Look.eq (Sub.cons (t := 7) Look.eq (Sub.cons (t := 8) Look.eq (Sub.nil _))))))))) ?_
  refine KA.seq ?_
  refine KA.region rfl ?_
  refine KOps.call rfl (C_c) ?_
  rintro _ hb50 ⟨vb50, rfl, hSB⟩
  have hS0 : St _ _ (_ :: _) := St.trans hS hSB
  clear hS
  have hS := hS0
  clear hS0

  refine KOps.call rfl (against_c (hS.rd 0 rfl) (hSz.ext hS.keeps)) ?_
  rintro _ hrA ⟨vA, rfl, hSN⟩
  have hS0 : St _ _ (_ :: _) := St.trans hS hSN
  clear hS
  have hS := hS0
  clear hS0
  rw [agaWC, if_pos rfl, fewWC] at hS
  rw [agaWC]
  refine KOps.move ?_
  refine KOps.extract ?_
  refine KOps.extract ?_
  refine KOps.assign ?_
  refine KOps.assign ?_
  refine KOps.done ?_
  refine sqQ.normal ?_
  refine KA.sub (Sub.cons (t := 1) Look.eq (Sub.cons (t := 2) Look.eq (Sub.cons (t := 3) Look.eq (Sub.cons (t := 4) Look.eq (Sub.cons (t := 5) Look.eq (Sub.cons (t := 6) Look.eq (Sub.cons (t := 7) Look.eq (Sub.cons (t := 8) Look.eq (Sub.cons (t := 9) Look.eq (Sub.cons (t := 10) Look.eq (Sub.nil _))))))))))) ?_
  refine KA.seq ?_
  refine KA.region rfl ?_
  refine KOps.call rfl (B_c) ?_
  rintro _ hb60 ⟨vb60, rfl, hSB⟩
  have hS0 : St _ _ (_ :: _) := St.trans hS hSB
  clear hS
  have hS := hS0
  clear hS0

  refine KOps.call rfl (stSpan_c (i := 0) (hS.rd 0 rfl)) ?_
  rintro _ h61 ⟨rfl, hK⟩
  have hS0 : St _ _ (_ :: _) := St.trans hS (St.ofK hK)
  clear hS
  have hS := hS0
  clear hS0
  rw [askWB0, if_pos rfl, if_pos rfl, loWB0, hiWB0]
  refine KOps.move ?_
  refine KOps.extract ?_
  refine KOps.extract ?_
  refine KOps.extract ?_
  refine KOps.assign ?_
  refine KOps.assign ?_
  refine KOps.assign ?_
  refine KOps.done ?_
  refine sqQ.normal ?_
  refine KA.sub (Sub.cons (t := 1) Look.eq (Sub.cons (t := 2) Look.eq (Sub.cons (t := 3) Look.eq (Sub.cons (t := 4) Look.eq (Sub.cons (t := 5) Look.eq (Sub.cons (t := 6) Look.eq (Sub.cons (t := 7) Look.eq (Sub.cons (t := 8) Look.eq (Sub.cons (t := 9) Look.eq (Sub.cons (t := 10) Look.eq (Sub.cons (t := 11) Look.eq (Sub.cons (t := 12) Look.eq (Sub.cons (t := 13) Look.eq (Sub.nil _)))))))))))))) ?_
  refine KA.seq ?_
  refine KA.region rfl ?_
  refine KOps.call rfl (B_c) ?_
  rintro _ hb70 ⟨vb70, rfl, hSB⟩
  have hS0 : St _ _ (_ :: _) := St.trans hS hSB
  clear hS
  have hS := hS0
  clear hS0

  refine KOps.call rfl (stOpen_c (hS.rd 0 rfl)) ?_
  rintro _ hrP ⟨vP, rfl, hSN⟩
  have hS0 : St _ _ (_ :: _) := St.trans hS hSN
  clear hS
  have hS := hS0
  clear hS0
  rw [agrWB, if_pos rfl, openWB] at hS
  rw [agrWB]
  refine KOps.move ?_
  refine KOps.extract ?_
  refine KOps.extract ?_
  refine KOps.assign ?_
  refine KOps.assign ?_
  refine KOps.done ?_
  refine sqQ.normal ?_
  refine KA.sub (Sub.cons (t := 1) Look.eq (Sub.cons (t := 2) Look.eq (Sub.cons (t := 3) Look.eq (Sub.cons (t := 4) Look.eq (Sub.cons (t := 5) Look.eq (Sub.cons (t := 6) Look.eq (Sub.cons (t := 7) Look.eq (Sub.cons (t := 8) Look.eq (Sub.cons (t := 9) Look.eq (Sub.cons (t := 10) Look.eq (Sub.cons (t := 11) Look.eq (Sub.cons (t := 12) Look.eq (Sub.cons (t := 13) Look.eq (Sub.cons (t := 14) Look.eq (Sub.cons (t := 15) Look.eq (Sub.nil _)))))))))))))))) ?_
  refine KA.seq ?_
  refine KA.seq ?_
  refine KA.region rfl ?_
  refine KOps.move ?_
  refine KOps.neqF rfl ?_
  refine KOps.move ?_
  refine KOps.guardYes (dj := 59) rfl rfl ?_
  refine KOps.move ?_
  refine KOps.guardYes (dj := 59) rfl rfl ?_
  refine KOps.neqF rfl ?_
  refine KOps.pickF ?_
  refine KOps.move ?_
  refine KOps.guardYes (dj := 63) rfl rfl ?_
  refine KOps.move ?_
  refine KOps.guardYes (dj := 63) rfl rfl ?_
  refine KOps.neqF rfl ?_
  refine KOps.pickF ?_
  refine KOps.move ?_
  refine KOps.guardYes (dj := 67) rfl rfl ?_
  refine KOps.move ?_
  refine KOps.guardYes (dj := 67) rfl rfl ?_
  refine KOps.neqF rfl ?_
  refine KOps.pickF ?_
  refine KOps.move ?_
  refine KOps.guardYes (dj := 71) rfl rfl ?_
  refine KOps.move ?_
  refine KOps.guardYes (dj := 71) rfl rfl ?_
  refine KOps.neqF rfl ?_
  refine KOps.pickF ?_
  refine KOps.move ?_
  refine KOps.guardYes (dj := 75) rfl rfl ?_
  refine KOps.move ?_
  refine KOps.guardYes (dj := 75) rfl rfl ?_
  refine KOps.neqF rfl ?_
  refine KOps.pickF ?_
  refine KOps.move ?_
  refine KOps.guardYes (dj := 79) rfl rfl ?_
  refine KOps.move ?_
  refine KOps.guardYes (dj := 79) rfl rfl ?_
  refine KOps.neqF rfl ?_
  refine KOps.pickF ?_
  refine KOps.done ?_
  refine sqQ.normal ?_
  refine KA.sub (Sub.cons (t := 1) Look.eq (Sub.cons (t := 3) Look.eq (Sub.cons (t := 5) Look.eq (Sub.cons (t := 7) Look.eq (Sub.cons (t := 9) Look.eq (Sub.cons (t := 11) Look.eq (Sub.cons (t := 12) Look.eq (Sub.cons (t := 14) Look.eq (Sub.cons (t := 82) Look.eq (Sub.nil _)))))))))) ?_
  refine KA.condF ?_
  refine KA.skip ?_
  refine sqQ.normal ?_
  refine KA.sub (Sub.cons (t := 1) Look.eq (Sub.cons (t := 3) Look.eq (Sub.cons (t := 5) Look.eq (Sub.cons (t := 7) Look.eq (Sub.cons (t := 9) Look.eq (Sub.cons (t := 11) Look.eq (Sub.cons (t := 12) Look.eq (Sub.cons (t := 14) Look.eq (Sub.nil _))))))))) ?_
  refine KA.seq ?_
  refine KA.region rfl ?_
  refine KOps.call rfl (B_c) ?_
  rintro _ hb100 ⟨vb100, rfl, hSB⟩
  have hS0 : St _ _ (_ :: _) := St.trans hS hSB
  clear hS
  have hS := hS0
  clear hS0

  refine KOps.buildSlice hS rfl (by decide) rfl ?_
  intro v85 h' hS
  refine KOps.call rfl (lst_c) ?_
  rintro _ _ ⟨rfl, rfl⟩
  refine KOps.call rfl (stSays_c (l := [0, 1]) (i := 1) (hS.rd 1 rfl) (hS.rd 0 rfl) (by decide)) ?_
  rintro _ h103 ⟨rfl, hK⟩
  have hS0 : St _ _ (_ :: _) := St.trans hS (St.ofK hK)
  clear hS
  have hS := hS0
  clear hS0
  rw [sayWB.1, sayWB.2]
  refine KOps.move ?_
  refine KOps.extract ?_
  refine KOps.extract ?_
  refine KOps.assign ?_
  refine KOps.assign ?_
  refine KOps.done ?_
  refine sqQ.normal ?_
  refine KA.sub (Sub.cons (t := 1) Look.eq (Sub.cons (t := 2) Look.eq (Sub.cons (t := 3) Look.eq (Sub.cons (t := 5) Look.eq (Sub.cons (t := 7) Look.eq (Sub.cons (t := 9) Look.eq (Sub.cons (t := 11) Look.eq (Sub.cons (t := 12) Look.eq (Sub.cons (t := 14) Look.eq (Sub.cons (t := 16) Look.eq (Sub.nil _))))))))))) ?_
  refine KA.seq ?_
  refine KA.region rfl ?_
  refine KOps.call rfl (B_c) ?_
  rintro _ hb110 ⟨vb110, rfl, hSB⟩
  have hS0 : St _ _ (_ :: _) := St.trans hS hSB
  clear hS
  have hS := hS0
  clear hS0

  refine KOps.call rfl (bound_true_c (i := 1) (hS.rd 0 rfl) (hSz.ext hS.keeps)) ?_
  rintro _ hrD ⟨vD, rfl, hSN⟩
  have hS0 : St _ _ (_ :: _) := St.trans hS hSN
  clear hS
  have hS := hS0
  clear hS0
  rw [boundWB1] at hS
  rw [askWB1]
  refine KOps.move ?_
  refine KOps.extract ?_
  refine KOps.extract ?_
  refine KOps.assign ?_
  refine KOps.assign ?_
  refine KOps.done ?_
  refine sqQ.normal ?_
  refine KA.sub (Sub.cons (t := 1) Look.eq (Sub.cons (t := 2) Look.eq (Sub.cons (t := 3) Look.eq (Sub.cons (t := 4) Look.eq (Sub.cons (t := 5) Look.eq (Sub.cons (t := 7) Look.eq (Sub.cons (t := 9) Look.eq (Sub.cons (t := 11) Look.eq (Sub.cons (t := 12) Look.eq (Sub.cons (t := 14) Look.eq (Sub.cons (t := 16) Look.eq (Sub.cons (t := 17) Look.eq (Sub.nil _))))))))))))) ?_
  refine KA.seq ?_
  refine KA.region rfl ?_
  refine KOps.call rfl (B_c) ?_
  rintro _ hb120 ⟨vb120, rfl, hSB⟩
  have hS0 : St _ _ (_ :: _) := St.trans hS hSB
  clear hS
  have hS := hS0
  clear hS0

  refine KOps.call rfl (stSpans_c (hS.rd 0 rfl)) ?_
  rintro _ hrS ⟨vS, rfl, hSN⟩
  have hS0 : St _ _ (_ :: _) := St.trans hS hSN
  clear hS
  have hS := hS0
  clear hS0
  rw [agrWB, if_pos rfl, spansWB] at hS
  rw [agrWB]
  refine KOps.move ?_
  refine KOps.extract ?_
  refine KOps.extract ?_
  refine KOps.assign ?_
  refine KOps.assign ?_
  refine KOps.done ?_
  refine sqQ.normal ?_
  refine KA.sub (Sub.cons (t := 1) Look.eq (Sub.cons (t := 2) Look.eq (Sub.cons (t := 3) Look.eq (Sub.cons (t := 4) Look.eq (Sub.cons (t := 5) Look.eq (Sub.cons (t := 6) Look.eq (Sub.cons (t := 7) Look.eq (Sub.cons (t := 9) Look.eq (Sub.cons (t := 11) Look.eq (Sub.cons (t := 12) Look.eq (Sub.cons (t := 14) Look.eq (Sub.cons (t := 16) Look.eq (Sub.cons (t := 17) Look.eq (Sub.cons (t := 18) Look.eq (Sub.nil _))))))))))))))) ?_
  refine KA.seq ?_
  refine KA.region rfl ?_
  refine KOps.call rfl (B_c) ?_
  rintro _ hb130 ⟨vb130, rfl, hSB⟩
  have hS0 : St _ _ (_ :: _) := St.trans hS hSB
  clear hS
  have hS := hS0
  clear hS0

  refine KOps.buildSlice hS rfl (by decide) rfl ?_
  intro v102 h' hS
  refine KOps.call rfl (lst_c) ?_
  rintro _ _ ⟨rfl, rfl⟩
  refine KOps.call rfl (stSays_c (l := [2]) (i := 0) (hS.rd 1 rfl) (hS.rd 0 rfl) (by decide)) ?_
  rintro _ h133 ⟨rfl, hK⟩
  have hS0 : St _ _ (_ :: _) := St.trans hS (St.ofK hK)
  clear hS
  have hS := hS0
  clear hS0
  rw [sayWB2]
  refine KOps.move ?_
  refine KOps.extract ?_
  refine KOps.extract ?_
  refine KOps.assign ?_
  refine KOps.done ?_
  refine sqQ.normal ?_
  refine KA.sub (Sub.cons (t := 1) Look.eq (Sub.cons (t := 2) Look.eq (Sub.cons (t := 3) Look.eq (Sub.cons (t := 4) Look.eq (Sub.cons (t := 5) Look.eq (Sub.cons (t := 6) Look.eq (Sub.cons (t := 7) Look.eq (Sub.cons (t := 8) Look.eq (Sub.cons (t := 9) Look.eq (Sub.cons (t := 11) Look.eq (Sub.cons (t := 12) Look.eq (Sub.cons (t := 14) Look.eq (Sub.cons (t := 16) Look.eq (Sub.cons (t := 17) Look.eq (Sub.cons (t := 18) Look.eq (Sub.nil _)))))))))))))))) ?_
  refine KA.seq ?_
  refine KA.region rfl ?_
  refine KOps.call rfl (B_c) ?_
  rintro _ hb140 ⟨vb140, rfl, hSB⟩
  have hS0 : St _ _ (_ :: _) := St.trans hS hSB
  clear hS
  have hS := hS0
  clear hS0

  refine KOps.call rfl (against_c (hS.rd 0 rfl) (hSz.ext hS.keeps)) ?_
  rintro _ hrA2 ⟨vA2, rfl, hSN⟩
  have hS0 : St _ _ (_ :: _) := St.trans hS hSN
  clear hS
  have hS := hS0
  clear hS0
  rw [agaWB]
  refine KOps.move ?_
  refine KOps.extract ?_
  refine KOps.extract ?_
  refine KOps.assign ?_
  refine KOps.done ?_
  refine sqQ.normal ?_
  refine KA.sub (Sub.cons (t := 1) Look.eq (Sub.cons (t := 2) Look.eq (Sub.cons (t := 3) Look.eq (Sub.cons (t := 4) Look.eq (Sub.cons (t := 5) Look.eq (Sub.cons (t := 6) Look.eq (Sub.cons (t := 7) Look.eq (Sub.cons (t := 8) Look.eq (Sub.cons (t := 9) Look.eq (Sub.cons (t := 10) Look.eq (Sub.cons (t := 11) Look.eq (Sub.cons (t := 12) Look.eq (Sub.cons (t := 14) Look.eq (Sub.cons (t := 16) Look.eq (Sub.cons (t := 17) Look.eq (Sub.cons (t := 18) Look.eq (Sub.nil _))))))))))))))))) ?_
  refine KA.seq ?_
  refine KA.region rfl ?_
  refine KOps.move ?_
  refine KOps.eqlT rfl ?_
  refine KOps.move ?_
  refine KOps.guardYes (dj := 114) rfl rfl ?_
  refine KOps.move ?_
  refine KOps.guardYes (dj := 114) rfl rfl ?_
  refine KOps.eqlT rfl ?_
  refine KOps.pickT ?_
  refine KOps.move ?_
  refine KOps.guardYes (dj := 118) rfl rfl ?_
  refine KOps.move ?_
  refine KOps.guardYes (dj := 118) rfl rfl ?_
  refine KOps.eqlT rfl ?_
  refine KOps.pickT ?_
  refine KOps.move ?_
  refine KOps.guardYes (dj := 122) rfl rfl ?_
  refine KOps.move ?_
  refine KOps.guardYes (dj := 122) rfl rfl ?_
  refine KOps.eqlT rfl ?_
  refine KOps.pickT ?_
  refine KOps.move ?_
  refine KOps.guardYes (dj := 126) rfl rfl ?_
  refine KOps.move ?_
  refine KOps.guardYes (dj := 126) rfl rfl ?_
  refine KOps.eqlT rfl ?_
  refine KOps.pickT ?_
  refine KOps.move ?_
  refine KOps.guardYes (dj := 130) rfl rfl ?_
  refine KOps.move ?_
  refine KOps.pickT ?_
  refine KOps.move ?_
  refine KOps.guardYes (dj := 133) rfl rfl ?_
  refine KOps.move ?_
  refine KOps.guardYes (dj := 133) rfl rfl ?_
  refine KOps.not ?_
  refine KOps.pickT ?_
  refine KOps.move ?_
  refine KOps.guardYes (dj := 137) rfl rfl ?_
  refine KOps.move ?_
  refine KOps.guardYes (dj := 137) rfl rfl ?_
  refine KOps.eqlT rfl ?_
  refine KOps.pickT ?_
  refine KOps.move ?_
  refine KOps.guardYes (dj := 141) rfl rfl ?_
  refine KOps.move ?_
  refine KOps.guardYes (dj := 141) rfl rfl ?_
  refine KOps.eqlT rfl ?_
  refine KOps.pickT ?_
  refine KOps.move ?_
  refine KOps.guardYes (dj := 145) rfl rfl ?_
  refine KOps.move ?_
  refine KOps.guardYes (dj := 145) rfl rfl ?_
  refine KOps.eqlT rfl ?_
  refine KOps.pickT ?_
  refine KOps.move ?_
  refine KOps.guardYes (dj := 149) rfl rfl ?_
  refine KOps.move ?_
  refine KOps.guardYes (dj := 149) rfl rfl ?_
  refine KOps.buildSlice hS rfl (by decide) rfl ?_
  intro v151 h' hS
  refine KOps.guardYes (dj := 149) rfl rfl ?_
  refine KOps.call rfl (lst_c) ?_
  rintro _ _ ⟨rfl, rfl⟩
  refine KOps.guardYes (dj := 149) rfl rfl ?_
  refine KOps.call rfl (same_c (a := [5, 5, 5]) (b := [5, 5, 5]) (hS.rd 19 rfl) (hS.rd 0 rfl) (by decide)) ?_
  rintro _ _ ⟨rfl, rfl⟩
  rw [show decide (([5, 5, 5] : List Int) = [5, 5, 5]) = true from by decide]
  refine KOps.pickT ?_
  refine KOps.move ?_
  refine KOps.guardYes (dj := 155) rfl rfl ?_
  refine KOps.move ?_
  refine KOps.guardYes (dj := 155) rfl rfl ?_
  refine KOps.buildSlice hS rfl (by decide) rfl ?_
  intro v157 h' hS
  refine KOps.guardYes (dj := 155) rfl rfl ?_
  refine KOps.call rfl (lst_c) ?_
  rintro _ _ ⟨rfl, rfl⟩
  refine KOps.guardYes (dj := 155) rfl rfl ?_
  refine KOps.call rfl (same_c (a := [6, 6, 6]) (b := [6, 6, 6]) (hS.rd 17 rfl) (hS.rd 0 rfl) (by decide)) ?_
  rintro _ _ ⟨rfl, rfl⟩
  rw [show decide (([6, 6, 6] : List Int) = [6, 6, 6]) = true from by decide]
  refine KOps.pickT ?_
  refine KOps.move ?_
  refine KOps.guardYes (dj := 161) rfl rfl ?_
  refine KOps.move ?_
  refine KOps.guardYes (dj := 161) rfl rfl ?_
  refine KOps.buildSlice hS rfl (by decide) rfl ?_
  intro v163 h' hS
  refine KOps.guardYes (dj := 161) rfl rfl ?_
  refine KOps.call rfl (lst_c) ?_
  rintro _ _ ⟨rfl, rfl⟩
  refine KOps.guardYes (dj := 161) rfl rfl ?_
  refine KOps.call rfl (same_c (a := [0, 2]) (b := [0, 2]) (hS.rd 16 rfl) (hS.rd 0 rfl) (by decide)) ?_
  rintro _ _ ⟨rfl, rfl⟩
  rw [show decide (([0, 2] : List Int) = [0, 2]) = true from by decide]
  refine KOps.pickT ?_
  refine KOps.move ?_
  refine KOps.guardYes (dj := 167) rfl rfl ?_
  refine KOps.move ?_
  refine KOps.guardYes (dj := 167) rfl rfl ?_
  refine KOps.buildSlice hS rfl (by decide) rfl ?_
  intro v169 h' hS
  refine KOps.guardYes (dj := 167) rfl rfl ?_
  refine KOps.call rfl (lst_c) ?_
  rintro _ _ ⟨rfl, rfl⟩
  refine KOps.guardYes (dj := 167) rfl rfl ?_
  refine KOps.call rfl (same_c (a := [0, 1, 2]) (b := [0, 1, 2]) (hS.rd 14 rfl) (hS.rd 0 rfl) (by decide)) ?_
  rintro _ _ ⟨rfl, rfl⟩
  rw [show decide (([0, 1, 2] : List Int) = [0, 1, 2]) = true from by decide]
  refine KOps.pickT ?_
  refine KOps.move ?_
  refine KOps.guardYes (dj := 173) rfl rfl ?_
  refine KOps.move ?_
  refine KOps.guardYes (dj := 173) rfl rfl ?_
  refine KOps.buildSlice hS rfl (by decide) rfl ?_
  intro v175 h' hS
  refine KOps.guardYes (dj := 173) rfl rfl ?_
  refine KOps.call rfl (lst_c) ?_
  rintro _ _ ⟨rfl, rfl⟩
  refine KOps.guardYes (dj := 173) rfl rfl ?_
  refine KOps.call rfl (same_c (a := [0, 1]) (b := [0, 1]) (hS.rd 11 rfl) (hS.rd 0 rfl) (by decide)) ?_
  rintro _ _ ⟨rfl, rfl⟩
  rw [show decide (([0, 1] : List Int) = [0, 1]) = true from by decide]
  refine KOps.pickT ?_
  refine KOps.move ?_
  refine KOps.guardYes (dj := 179) rfl rfl ?_
  refine KOps.move ?_
  refine KOps.guardYes (dj := 179) rfl rfl ?_
  refine KOps.buildS2 (z0 := .int .i64 0) (z1 := .int .i64 0) (by kernel_rfl) (by rfl) (by kernel_rfl) (by kernel_rfl) (by kernel_rfl) (by first | rfl | assumption) (by first | rfl | assumption) ?_
  refine KOps.guardYes (dj := 179) rfl rfl ?_
  refine KOps.buildS2 (z0 := .int .i64 0) (z1 := .int .i64 0) (by kernel_rfl) (by rfl) (by kernel_rfl) (by kernel_rfl) (by kernel_rfl) (by first | rfl | assumption) (by first | rfl | assumption) ?_
  refine KOps.guardYes (dj := 179) rfl rfl ?_
  refine KOps.buildS2 (z0 := .int .i64 0) (z1 := .int .i64 0) (by kernel_rfl) (by rfl) (by kernel_rfl) (by kernel_rfl) (by kernel_rfl) (by first | rfl | assumption) (by first | rfl | assumption) ?_
  refine KOps.guardYes (dj := 179) rfl rfl ?_
  refine KOps.buildSliceS (cs := [.int .i64 5, .int .i64 6, .int .i64 5, .int .i64 6, .int .i64 5, .int .i64 6]) hS rfl rfl rfl (by decide) ?_
  intro v184 h' hS
  refine KOps.guardYes (dj := 179) rfl rfl ?_
  refine KOps.call rfl (spans_c (a := [(5, 6), (5, 6), (5, 6)]) (b := [(5, 6), (5, 6), (5, 6)]) (hS.rd 10 rfl) (hS.rd 0 rfl) (by decide)) ?_
  rintro _ _ ⟨rfl, rfl⟩
  rw [show decide (([(5, 6), (5, 6), (5, 6)] : List (Int × Int)) = [(5, 6), (5, 6), (5, 6)]) = true from by decide]
  refine KOps.pickT ?_
  refine KOps.move ?_
  refine KOps.guardYes (dj := 187) rfl rfl ?_
  refine KOps.call rfl (B_c) ?_
  rintro _ hb1576 ⟨vb1576, rfl, hSB⟩
  have hS0 : St _ _ (_ :: _) := St.trans hS hSB
  clear hS
  have hS := hS0
  clear hS0

  refine KOps.guardYes (dj := 187) rfl rfl ?_
  refine KOps.buildSlice hS rfl (by decide) rfl ?_
  intro v189 h' hS
  refine KOps.guardYes (dj := 187) rfl rfl ?_
  refine KOps.call rfl (lst_c) ?_
  rintro _ _ ⟨rfl, rfl⟩
  refine KOps.guardYes (dj := 187) rfl rfl ?_
  refine KOps.call rfl (verify_c (l := [5, 6, 6]) (hS.rd 1 rfl) (hS.rd 0 rfl)) ?_
  rintro _ h1579 ⟨rfl, hK⟩
  have hS0 : St _ _ (_ :: _) := St.trans hS (St.ofK hK)
  clear hS
  have hS := hS0
  clear hS0
  rw [verWB2]
  refine KOps.guardYes (dj := 187) rfl rfl ?_
  refine KOps.eqlT rfl ?_
  refine KOps.pickT ?_
  refine KOps.move ?_
  refine KOps.guardYes (dj := 194) rfl rfl ?_
  refine KOps.call rfl (C_c) ?_
  rintro _ hb1583 ⟨vb1583, rfl, hSB⟩
  have hS0 : St _ _ (_ :: _) := St.trans hS hSB
  clear hS
  have hS := hS0
  clear hS0

  refine KOps.guardYes (dj := 194) rfl rfl ?_
  refine KOps.buildSlice hS rfl (by decide) rfl ?_
  intro v196 h' hS
  refine KOps.guardYes (dj := 194) rfl rfl ?_
  refine KOps.call rfl (lst_c) ?_
  rintro _ _ ⟨rfl, rfl⟩
  refine KOps.guardYes (dj := 194) rfl rfl ?_
  refine KOps.call rfl (proves_c (l := [0, 2]) (hS.rd 1 rfl) (hS.rd 0 rfl) (by decide)) ?_
  rintro _ h1586 ⟨rfl, hK⟩
  have hS0 : St _ _ (_ :: _) := St.trans hS (St.ofK hK)
  clear hS
  have hS := hS0
  clear hS0
  rw [provWC]
  refine KOps.guardYes (dj := 194) rfl rfl ?_
  refine KOps.eqlT rfl ?_
  refine KOps.pickT ?_
  refine KOps.move ?_
  refine KOps.guardYes (dj := 201) rfl rfl ?_
  refine KOps.call rfl (C_c) ?_
  rintro _ hb1590 ⟨vb1590, rfl, hSB⟩
  have hS0 : St _ _ (_ :: _) := St.trans hS hSB
  clear hS
  have hS := hS0
  clear hS0

  refine KOps.guardYes (dj := 201) rfl rfl ?_
  refine KOps.buildSlice hS rfl (by decide) rfl ?_
  intro v203 h' hS
  refine KOps.guardYes (dj := 201) rfl rfl ?_
  refine KOps.call rfl (lst_c) ?_
  rintro _ _ ⟨rfl, rfl⟩
  refine KOps.guardYes (dj := 201) rfl rfl ?_
  refine KOps.call rfl (proves_c (l := [1]) (hS.rd 1 rfl) (hS.rd 0 rfl) (by decide)) ?_
  rintro _ h1593 ⟨rfl, hK⟩
  have hS0 : St _ _ (_ :: _) := St.trans hS (St.ofK hK)
  clear hS
  have hS := hS0
  clear hS0
  rw [provWC1]
  refine KOps.guardYes (dj := 201) rfl rfl ?_
  refine KOps.eqlT rfl ?_
  refine KOps.pickT ?_
  refine KOps.assign ?_
  refine KOps.done ?_
  refine sqQ.normal ?_
  refine KA.sub (Sub.cons (t := 0) Look.eq (Sub.nil _)) ?_
  refine KA.ret ?_
  refine fnQ.ret1 ?_
  exact ⟨rfl, hS.keeps⟩

end Go.Am

namespace Go.Am
theorem Row.nil (h : AHeap) : Row h .nils [] := .inl ⟨rfl, rfl⟩

end Go.Am

namespace Go.Am
/-- A struct of two parts. -/
def EPair {X Y : Type} (s0 : Nat) (E0 : AHeap → List AV → X → Prop) (E1 : AHeap → List AV → Y → Prop) (h : AHeap) (avs : List AV) (p : X × Y) : Prop := E0 h (avs.take s0) p.1 ∧ E1 h (avs.drop s0) p.2
theorem VRels.split {φ : Emb} {a b : List AV} {cs : List Value} {s : Nat} (h1 : VRels φ a (cs.take s)) (h2 : VRels φ b (cs.drop s)) (hs : s ≤ cs.length) : VRels φ (a ++ b) cs ∧ (a ++ b).take s = a ∧ (a ++ b).drop s = b := by
  have ha : a.length = s := by rw [h1.1, List.length_take]; omega
  have h3 := VRels.append h1 h2
  rw [List.take_append_drop] at h3
  exact ⟨h3, by rw [← ha, List.take_left], by rw [← ha, List.drop_left]⟩
theorem IC.pair {H : Type} {enc : TypeId × Value → H} {P : Program} {t : TypeId} {f0 f1 : Field} {s0 s1 : Nat} {X Y : Type} {E0 : AHeap → List AV → X → Prop} {E1 : AHeap → List AV → Y → Prop} (ht : P.underlying t = some (.struct #[f0, f1])) (hc : P.cellsOf t = s0 + s1) (h0 : f0.offset = 0) (h1 : f1.offset = s0) (hc0 : P.cellsOf f0.type = s0) (hc1 : P.cellsOf f1.type = s1) (i0 : IC enc P f0.type E0) (i1 : IC enc P f1.type E1) : IC enc P t (EPair s0 E0 E1) := by
  refine ⟨?_, fun h h' avs x k hE => ⟨i0.mono _ _ _ _ k hE.1, i1.mono _ _ _ _ k hE.2⟩⟩
  intro W φ h im fuel cs y hy
  obtain ⟨xs, m, rfl, rfl, hl, hxl, hx⟩ := DataW.trod_struct ht hy
  rw [hc] at hl
  have hxl : xs.length = 2 := hxl
  have e0 := hx 0 f0 rfl
  have e1 := hx 1 f1 rfl
  rw [h0, hc0, List.drop_zero, List.getElem?_eq_getElem (by omega)] at e0
  rw [h1, hc1, List.take_of_length_le (by rw [List.length_drop]; omega), List.getElem?_eq_getElem (by omega)] at e1
  obtain ⟨φ1, hp1, a, x, im1, le1, k1, hv1, hE1⟩ := i0.imp W φ h im m _ _ e0
  obtain ⟨φ2, hp2, b, z, im2, le2, k2, hv2, hE2⟩ := i1.imp W φ1 hp1 im1 m _ _ e1
  obtain ⟨q1, q2, q3⟩ := VRels.split (hv1.mono le2) hv2 (by omega)
  exact ⟨φ2, hp2, a ++ b, (x, z), im2, Emb.le_trans le1 le2, k1.trans k2, q1, by rw [q2]; exact i0.mono _ _ _ _ k2 hE1, by rw [q3]; exact hE2⟩
/-- A table, as the first package-level variable. -/
theorem Imp.table {W : World} {cs : List AV} (hcell : ∀ (j : Nat) (x : AV), cs[j]? = some x → ∃ v, W.cell? ⟨0, j, none⟩ = some v ∧ ∀ φ, VRel φ x v) (h0 : 0 < W.heap.size) : ∃ φ h, Imp W φ h ∧ h.globs.contains 0 = true ∧ Rd h (.ptr 0 0) 0 cs := by
  obtain ⟨im, _⟩ := (Imp.empty W).push cs (some (0, 0, cs.length)) (by
    intro k i z hq
    cases hq
    refine ⟨h0, fun j x hx => ?_⟩
    obtain ⟨v, h1, h2⟩ := hcell j x hx
    exact ⟨v, by rw [Nat.zero_add]; exact h1, h2 _⟩)
  refine ⟨_, ⟨(h00.push (.cells none 0 cs)).blks, (h00.push (.cells none 0 cs)).fams, [0]⟩, ⟨⟨?_, im.rel.lt, im.rel.blk, im.rel.arr, im.rel.one, im.rel.sep, im.rel.map, im.rel.ext⟩, im.ro, im.out⟩, rfl, .inr (.inl ⟨0, 0, none, 0, cs, .inr ⟨rfl, rfl⟩, rfl, rfl, by rw [List.drop_zero, List.take_length]⟩)⟩
  intro g hg
  have hg : g = 0 := by simpa using hg
  subst hg
  exact ⟨cs.length, rfl⟩
end Go.Am

namespace Go.Am
open Go.ChangeShapes Go.WideShapes
section
open Go.Proofs.Tryd
end
def laidL : List (String × DataW Unit) := [("spadille/stamp.sizes", Go.Proofs.YtildfacbjdhbnaaDoor.Rows.laid_spadille_stamp_sizes)]
def litI : DataW Unit → Option Int
  | .lit (.int .i8 n) => some n
  | _ => none
def aggL : DataW Unit → List (DataW Unit)
  | .agg l => l
  | _ => []
theorem laid_lits : (aggL Go.Proofs.YtildfacbjdhbnaaDoor.Rows.laid_spadille_stamp_sizes).map litI = (List.range 64).map fun s => some ((roomsTo s 6).length : Int) := by kernel_rfl
theorem sizes_laid {W : World} (h : laidMetH Go.Proofs.Tryd.prog laidL W) : ∃ φ hp, Imp W φ hp ∧ Sizes hp := by
  rw [MakeChecks.laidMetH_plain _ _ _ (by kernel_rfl)] at h
  obtain ⟨ps, ⟨g0, t0, cs0, f0, p0, q0, hg0, ht0, hv0, hd0, _, _⟩, _, _⟩ := h
  obtain rfl := Option.some.inj ((show Go.Proofs.Tryd.prog.globalNamed "spadille/stamp.sizes" = some 0 by kernel_rfl).symm.trans hg0)
  obtain rfl := Option.some.inj ((show (Go.Proofs.Tryd.prog.globals[0]?).map (·.type) = some 126 by kernel_rfl).symm.trans ht0)
  obtain ⟨xs, m, rfl, hx1, hl, hxl, hx⟩ := DataW.trod_array Go.Proofs.Tryd.underlying126 hd0
  have c1 : Go.Proofs.Tryd.prog.cellsOf 125 = 1 := by kernel_rfl
  have c2 : Go.Proofs.Tryd.prog.cellsOf 126 = 64 := by kernel_rfl
  rw [c2] at hl
  have hd := (Prod.mk.inj hx1).1
  have hxs : xs.map (fun x => litI x.1) = (List.range 64).map fun s => some ((roomsTo s 6).length : Int) := by
    rw [← laid_lits, hd]
    show _ = (xs.map (·.1)).map litI
    rw [List.map_map]; rfl
  have key : ∀ i, i < 64 → cs0.toList[i]? = some (.int .i8 ((roomsTo i 6).length : Int)) := by
    intro i hi
    have h2 := hx i hi
    rw [c1, Nat.mul_one, List.getElem?_eq_getElem (by omega)] at h2
    obtain ⟨c, h3, h4, _⟩ := DataW.trod_int Go.Proofs.Tryd.underlying125 h2
    have h5 : ((cs0.toList.drop i).take 1)[0]? = some (.int .i8 c) := by rw [h3]; rfl
    have h6 : cs0.toList[i]? = some (.int .i8 c) := by simpa [List.getElem?_take, List.getElem?_drop] using h5
    have h7 := congrArg (fun l => l[i]?) hxs
    simp only [List.getElem?_map, List.getElem?_eq_getElem (show i < xs.length by omega), List.getElem?_range hi, Option.map_some, Option.some.injEq] at h7
    rw [h4] at h7
    have h8 : c = ((roomsTo i 6).length : Int) := by simpa [litI] using h7
    rw [h6, h8]
  have hcell : ∀ i, i < 64 → W.cell? ⟨0, i, none⟩ = some (.int .i8 ((roomsTo i 6).length : Int)) := by
    intro i hi
    rw [World.var?_cell hg0 hv0 i, ← Array.getElem?_toList]
    exact key i hi
  obtain ⟨φ, hp, im, h1, h2⟩ := Imp.table (W := W) (cs := sizesC) (by
    intro j x hj
    have hj64 : j < 64 := by
      have := (List.getElem?_eq_some_iff.1 hj).1
      simpa [sizesC] using this
    have h3 := sizes_get hj64
    rw [Nat.zero_add] at h3
    rw [h3] at hj
    cases hj
    exact ⟨_, hcell j hj64, fun φ => .int _ _⟩) (by
    have h3 := hcell 0 (by decide)
    unfold World.cell? at h3
    split at h3
    · rename_i hc
      exact (Array.getElem?_eq_some_iff.1 hc).1
    · cases h3)
  exact ⟨φ, hp, im, h1, h2⟩
end Go.Am

namespace Go.Am
/-- Four small numbers. -/
structure H4 where
  a : Int
  b : Int
  c : Int
  d : Int
  deriving Inhabited
abbrev hc (x : H4) : List AV := [.int .u8 x.a, .int .u8 x.b, .int .u8 x.c, .int .u8 x.d]
theorem hc_len (x : H4) : (hc x).length = 4 := rfl
structure H4.Ok (x : H4) : Prop where
  a0 : 0 ≤ x.a
  a1 : x.a ≤ 255
  b0 : 0 ≤ x.b
  b1 : x.b ≤ 255
  c0 : 0 ≤ x.c
  c1 : x.c ≤ 255
  d0 : 0 ≤ x.d
  d1 : x.d ≤ 255
theorem tmod_b {a m : Int} (h : 0 ≤ a) (hm : 0 < m) : 0 ≤ a.tmod m ∧ a.tmod m < m := ⟨Int.tmod_nonneg _ h, Int.tmod_lt_of_pos _ hm⟩
def hway (rm : Int) (x : H4) : W := ⟨x.a.tmod rm, (x.a.tmod rm + 1 + x.b.tmod (rm - 1)).tmod rm, x.c.tmod 4, Min.min 4 (x.c.tmod 4 + x.d.tmod 4)⟩
theorem hway_ok {rm : Int} {x : H4} (h2 : 2 ≤ rm) (hx : x.Ok) : WOk rm (hway rm x) := by
  have t1 := tmod_b hx.a0 (show 0 < rm by omega)
  have t2 := tmod_b hx.b0 (show 0 < rm - 1 by omega)
  have t3 := tmod_b hx.c0 (show (0 : Int) < 4 by decide)
  have t4 := tmod_b hx.d0 (show (0 : Int) < 4 by decide)
  have t5 := tmod_b (show 0 ≤ x.a.tmod rm + 1 + x.b.tmod (rm - 1) by omega) (show 0 < rm by omega)
  refine ⟨t1.1, t1.2, t5.1, t5.2, ?_, t3.1, ?_, ?_⟩
  · show x.a.tmod rm ≠ (x.a.tmod rm + 1 + x.b.tmod (rm - 1)).tmod rm
    generalize x.a.tmod rm = p at *
    generalize x.b.tmod (rm - 1) = q at *
    rw [Int.tmod_eq_emod_of_nonneg (by omega)]
    intro he
    have h5 := Int.emod_emod_of_dvd (p + 1 + q) (Int.dvd_refl rm)
    by_cases hlt : p + 1 + q < rm
    · rw [Int.emod_eq_of_lt (by omega) hlt] at he; omega
    · have h6 : (p + 1 + q) % rm = p + 1 + q - rm := by
        rw [← Int.sub_emod_right, Int.emod_eq_of_lt (by omega) (by omega)]
      omega
  · show x.c.tmod 4 ≤ Min.min 4 (x.c.tmod 4 + x.d.tmod 4)
    omega
  · show Min.min 4 (x.c.tmod 4 + x.d.tmod 4) ≤ 99
    omega
def madeW (rm : Int) (hs : List H4) (k : Nat) : List W := (hs.take k).map (hway rm)
theorem madeW_len (rm : Int) (hs : List H4) (k : Nat) : (madeW rm hs k).length = Min.min k hs.length := by simp [madeW]
theorem madeW_next {rm : Int} {hs : List H4} {i : Nat} (hi : i < hs.length) : flr wc (madeW rm hs i) ++ wc (hway rm (hs.getD i default)) = flr wc (madeW rm hs (i + 1)) := by
  rw [flr_snoc]
  congr 1
  unfold madeW
  rw [List.take_add_one, List.getElem?_eq_getElem hi, List.map_append, List.getD_eq_getElem?_getD, List.getElem?_eq_getElem hi]
  rfl
theorem made_ok {rm : Int} {hs : List H4} {k : Nat} (h2 : 2 ≤ rm) (h6 : rm ≤ 6) (hk : k ≤ 12) (hx : ∀ i, i < hs.length → (hs.getD i default).Ok) : BOk rm (madeW rm hs k) := by
  refine ⟨h2, h6, by rw [madeW_len]; omega, ?_⟩
  intro i hi
  rw [madeW_len] at hi
  have e : (madeW rm hs k).getD i default = hway rm (hs.getD i default) := by
    unfold madeW
    rw [List.getD_eq_getElem?_getD, List.getElem?_map, List.getElem?_take, if_pos (by omega), List.getD_eq_getElem?_getD, List.getElem?_eq_getElem (by omega)]
    rfl
  rw [e]
  exact hway_ok h2 (hx i (by omega))
def roomsOf (a : Int) : Int := 2 + a.tmod 3
theorem roomsOf_b {a : Int} (h : 0 ≤ a) : 2 ≤ roomsOf a ∧ roomsOf a ≤ 4 := by
  have := tmod_b h (show (0 : Int) < 3 by decide)
  unfold roomsOf
  omega

theorem made_c {h : AHeap} {a : Int} {vH : AV} {hs : List H4} {m : Nat} (hv : Rd h vH 4 (flr hc hs)) (ha0 : 0 ≤ a) (ha1 : a ≤ 255) (hx : ∀ i, i < hs.length → (hs.getD i default).Ok) (hm : m ≤ 12) : ACalls Go.Proofs.Tryd.prog 44 [.agg [.int .u8 a, vH], .int .i64 (m : Int)] h (fun q h' => ∃ v, q = .agg [.int .i64 (roomsOf a), v] ∧ St h h' [⟨v, 4, flr wc (madeW (roomsOf a) hs m), true⟩]) := by
  refine KA.fnH 67 [.cell 4 24] Go.Proofs.Tryd.func44 rfl (by decide) rfl rfl (Nat.le_of_ble_eq_true rfl) ?_
  have hS := St.refl h
  have hvo : vH.one = true := hv.one
  have hrb := roomsOf_b ha0
  have ht3 := tmod_b ha0 (show (0 : Int) < 3 by decide)
  show KA _ 67 _ _ [(0, .agg [.int .u8 a, vH]), (1, .int .i64 (m : Int))] _
  refine KA.seq ?_
  refine KA.region rfl ?_
  refine KOps.boxAll hS (by first | rfl | (simp [AV.one]; done) | (simp [AV.one]; assumption) | (simp [AV.one, *]; done)) ?_
  intro p2 h' hp2 hS
  refine KOps.alloc hS ?_
  intro p4 h' hp4 hS
  refine KOps.done ?_
  refine sqQ.normal ?_
  refine KA.sub (Sub.cons (t := 1) Look.eq (Sub.cons (t := 2) Look.eq (Sub.cons (t := 4) Look.eq (Sub.nil _)))) ?_
  refine KA.seq ?_
  refine KA.region rfl ?_
  refine KOps.fieldAddr hp2 ?_
  intro p10 hp10
  refine KOps.load hp10 (hS.rd 1 rfl) rfl ?_
  refine KOps.convU ha0 ha1 ?_
  refine KOps.rem (by decide) (by omega) (by omega) ?_
  refine KOps.add (by omega) (by omega) ?_
  rw [show (2 : Int) + a.tmod 3 = roomsOf a from rfl]
  refine KOps.buildS12 (z0 := .int .i64 0) (z1 := .nils) (by kernel_rfl) (by rfl) (by kernel_rfl) (by kernel_rfl) (by first | rfl | assumption) ?_
  refine KOps.alloc hS ?_
  intro p5 h' hp5 hS
  refine KOps.storeAll hS rfl (i := 0) rfl hp5 (by first | rfl | (simp [AV.one]; done) | (simp [AV.one]; assumption) | (simp [AV.one, *]; done)) (by rfl) (by rfl) (by decide) ?_
  intro h' hS
  simp only [List.set_cons_zero, List.set_cons_succ, Nat.zero_add] at hS
  refine KOps.done ?_
  refine sqQ.normal ?_
  refine KA.sub (Sub.cons (t := 1) Look.eq (Sub.cons (t := 2) Look.eq (Sub.cons (t := 4) Look.eq (Sub.cons (t := 5) Look.eq (Sub.nil _))))) ?_
  refine KA.seq ?_
  refine KA.seq ?_
  refine KA.region rfl ?_
  refine KOps.fieldAddr hp2 ?_
  intro p16 hp16
  refine KOps.load hp16 (hS.rd 2 rfl) rfl ?_
  refine KOps.lenF hc_len (Rd.ext hS.keeps hv) ?_
  refine KOps.move ?_
  refine KOps.done ?_
  refine sqQ.normal ?_
  refine KA.sub (Sub.cons (t := 1) Look.eq (Sub.cons (t := 4) Look.eq (Sub.cons (t := 5) Look.eq (Sub.cons (t := 17) Look.eq (Sub.cons (t := 18) Look.eq (Sub.cons (t := 19) Look.eq (Sub.nil _))))))) ?_
  refine KA.block ?_
  refine KA.loop (X := Nat × AV) (fun x => [(1, .int .i64 (m : Int)), (4, p4), (5, p5), (17, vH), (18, .int .i64 (hs.length : Int)), (19, .int .i64 (x.1 : Int))]) (fun x h' => x.1 ≤ hs.length ∧ x.1 ≤ m ∧ St h h' [⟨p5, 0, [.int .i64 (roomsOf a), x.2], true⟩, ⟨p4, 0, [.int .i64 0, .nils], true⟩, ⟨p2, 0, [.int .u8 a, vH], true⟩, ⟨x.2, 4, flr wc (madeW (roomsOf a) hs x.1), true⟩]) (fun x => hs.length - x.1) (0, .nils) (by repeat (first | exact Sub.nil _ | refine Sub.cons Look.eq ?_ | refine Sub.cons (Eq.trans Look.eq (congrArg (AV.int _) (by first | omega | (dsimp only; omega)))) ?_)) ?_ ?_
  · exact ⟨Nat.zero_le _, Nat.zero_le _, St.addNil 4 true hS⟩
  rintro ⟨i, vo⟩ h3 ⟨hi, him, hS⟩
  dsimp only at hi him hS ⊢
  refine KA.seq ?_
  refine KA.region rfl ?_
  refine KOps.lss ?_
  refine KOps.done ?_
  refine sqQ.normal ?_
  refine KA.seq ?_
  refine KA.condD ?_ ?_
  · intro c20
    refine KA.skip ?_
    refine sqQ.normal ?_
    refine KA.sub (Sub.cons (t := 1) Look.eq (Sub.cons (t := 4) Look.eq (Sub.cons (t := 5) Look.eq (Sub.cons (t := 17) Look.eq (Sub.cons (t := 18) Look.eq (Sub.cons (t := 19) Look.eq (Sub.nil _))))))) ?_
    refine KA.seq ?_
    refine KA.block ?_
    refine KA.seq ?_
    refine KA.region rfl ?_
    refine KOps.move ?_
    refine KOps.indexF hc_len (Rd.ext hS.keeps hv) (j := i) rfl (by first | omega | (simp; omega)) ?_
    intro p22 hp22
    refine KOps.loadFl hc_len (by decide) hp22 (Rd.ext hS.keeps hv) (by first | omega | (simp; omega)) ?_
    refine KOps.alloc hS ?_
    intro p7 h' hp7 hS
    refine KOps.assign ?_
    refine KOps.storeAll hS rfl (i := 0) rfl hp7 (by first | rfl | (simp [AV.one]; done) | (simp [AV.one]; assumption) | (simp [AV.one, *]; done)) (by rfl) (by rfl) (by decide) ?_
    intro h' hS
    simp only [List.set_cons_zero, List.set_cons_succ, Nat.zero_add] at hS
    refine KOps.done ?_
    refine sqQ.normal ?_
    refine KA.sub (Sub.cons (t := 1) Look.eq (Sub.cons (t := 4) Look.eq (Sub.cons (t := 5) Look.eq (Sub.cons (t := 6) Look.eq (Sub.cons (t := 7) Look.eq (Sub.cons (t := 17) Look.eq (Sub.cons (t := 18) Look.eq (Sub.cons (t := 19) Look.eq (Sub.nil _))))))))) ?_
    refine KA.seq ?_
    refine KA.seq ?_
    refine KA.region rfl ?_
    refine KOps.move ?_
    refine KOps.move ?_
    refine KOps.geq ?_
    refine KOps.done ?_
    refine sqQ.normal ?_
    refine KA.sub (Sub.cons (t := 1) Look.eq (Sub.cons (t := 4) Look.eq (Sub.cons (t := 5) Look.eq (Sub.cons (t := 7) Look.eq (Sub.cons (t := 17) Look.eq (Sub.cons (t := 18) Look.eq (Sub.cons (t := 19) Look.eq (Sub.cons (t := 26) Look.eq (Sub.nil _))))))))) ?_
    refine KA.condD ?_ ?_
    · intro c26
      refine KA.exit ?_
      refine sqQ.exit ?_
      refine blQ.exit rfl ?_
      refine sqQ.exit ?_
      refine lpQ.exit ?_
      refine blQ.here ?_
      refine sqQ.normal ?_
      refine KA.sub (Sub.cons (t := 4) Look.eq (Sub.cons (t := 5) Look.eq (Sub.nil _))) ?_
      refine KA.seq ?_
      refine KA.region rfl ?_
      refine KOps.loadAll hS (i := 1) rfl hp5 (by rfl) (by decide) ?_
      refine KOps.storeAll hS rfl (i := 2) rfl hp4 (by show (true && (vo.one && true)) = true; first | (rw [St.one hS (k := 3) (o := ⟨vo, 4, _, true⟩) rfl]; rfl) | (rw [St.one hS (k := 4) (o := ⟨vo, 4, _, true⟩) rfl]; rfl)) (by rfl) (by rfl) (by decide) ?_
      intro h' hS
      simp only [List.set_cons_zero, List.set_cons_succ, Nat.zero_add] at hS
      refine KOps.done ?_
      refine sqQ.normal ?_
      refine KA.sub (Sub.cons (t := 4) Look.eq (Sub.nil _)) ?_
      refine KA.ret ?_
      refine fnC.retC hS (i := 2) rfl hp4 (by rfl) (by simp) ?_
      have him2 : i = m := by omega
      subst him2
      exact ⟨_, rfl, St.pick [4] (by decide) rfl hS⟩
    · intro c26
      refine KA.skip ?_
      refine sqQ.normal ?_
      refine KA.sub (Sub.cons (t := 1) Look.eq (Sub.cons (t := 4) Look.eq (Sub.cons (t := 5) Look.eq (Sub.cons (t := 7) Look.eq (Sub.cons (t := 17) Look.eq (Sub.cons (t := 18) Look.eq (Sub.cons (t := 19) Look.eq (Sub.nil _)))))))) ?_
      refine KA.seq ?_
      refine KA.region rfl ?_
      have hxi := hx i (by omega)
      have t1 := tmod_b hxi.a0 (show 0 < roomsOf a by omega)
      have t2 := tmod_b hxi.b0 (show 0 < roomsOf a - 1 by omega)
      have t3 := tmod_b hxi.c0 (show (0 : Int) < 4 by decide)
      have t4 := tmod_b hxi.d0 (show (0 : Int) < 4 by decide)
      have t5 := tmod_b (show 0 ≤ (hs.getD i default).a.tmod (roomsOf a) + 1 + (hs.getD i default).b.tmod (roomsOf a - 1) by omega) (show 0 < roomsOf a by omega)
      refine KOps.indexAt hp7 (j := 0) rfl (by decide) ?_
      intro p27 hp27
      refine KOps.load hp27 (hS.rd 0 rfl) rfl ?_
      refine KOps.convU hxi.a0 hxi.a1 ?_
      refine KOps.fieldAddr hp5 ?_
      intro p30 hp30
      refine KOps.load hp30 (hS.rd 1 rfl) rfl ?_
      refine KOps.rem (by omega) (by omega) (by omega) ?_
      refine KOps.assign ?_
      refine KOps.done ?_
      refine sqQ.normal ?_
      refine KA.sub (Sub.cons (t := 1) Look.eq (Sub.cons (t := 4) Look.eq (Sub.cons (t := 5) Look.eq (Sub.cons (t := 7) Look.eq (Sub.cons (t := 8) Look.eq (Sub.cons (t := 17) Look.eq (Sub.cons (t := 18) Look.eq (Sub.cons (t := 19) Look.eq (Sub.nil _))))))))) ?_
      refine KA.seq ?_
      refine KA.region rfl ?_
      refine KOps.indexAt hp7 (j := 2) rfl (by decide) ?_
      intro p33 hp33
      refine KOps.load hp33 (hS.rd 0 rfl) rfl ?_
      refine KOps.convU hxi.c0 hxi.c1 ?_
      refine KOps.rem (by decide) (by omega) (by omega) ?_
      refine KOps.assign ?_
      refine KOps.done ?_
      refine sqQ.normal ?_
      refine KA.sub (Sub.cons (t := 1) Look.eq (Sub.cons (t := 4) Look.eq (Sub.cons (t := 5) Look.eq (Sub.cons (t := 7) Look.eq (Sub.cons (t := 8) Look.eq (Sub.cons (t := 9) Look.eq (Sub.cons (t := 17) Look.eq (Sub.cons (t := 18) Look.eq (Sub.cons (t := 19) Look.eq (Sub.nil _)))))))))) ?_
      refine KA.draw [26] mixed rfl (by kernel_rfl) ?_
      refine KOps.fieldAddr hp5 ?_
      intro p37 hp37
      refine KOps.load hp37 (hS.rd 1 rfl) rfl ?_
      refine KOps.move ?_
      refine KOps.move ?_
      refine KOps.add (by first | omega | (simp; omega)) (by first | omega | (simp; omega)) ?_
      refine KOps.indexAt hp7 (j := 1) rfl (by decide) ?_
      intro p42 hp42
      refine KOps.load hp42 (hS.rd 0 rfl) rfl ?_
      refine KOps.convU hxi.b0 hxi.b1 ?_
      refine KOps.fieldAddr hp5 ?_
      intro p45 hp45
      refine KOps.load hp45 (hS.rd 1 rfl) rfl ?_
      refine KOps.sub (by first | omega | (simp; omega)) (by first | omega | (simp; omega)) ?_
      refine KOps.rem (by omega) (by omega) (by omega) ?_
      refine KOps.add (by first | omega | (simp; omega)) (by first | omega | (simp; omega)) ?_
      refine KOps.fieldAddr hp5 ?_
      intro p50 hp50
      refine KOps.load hp50 (hS.rd 1 rfl) rfl ?_
      refine KOps.rem (by omega) (by omega) (by omega) ?_
      refine KOps.move ?_
      refine KOps.move ?_
      refine KOps.indexAt hp7 (j := 3) rfl (by decide) ?_
      intro p55 hp55
      refine KOps.load hp55 (hS.rd 0 rfl) rfl ?_
      refine KOps.convU hxi.d0 hxi.d1 ?_
      refine KOps.rem (by decide) (by omega) (by omega) ?_
      refine KOps.add (by first | omega | (simp; omega)) (by first | omega | (simp; omega)) ?_
      refine KOps.min ?_
      refine KOps.buildS4 (z0 := .int .i64 0) (z1 := .int .i64 0) (z2 := .int .i64 0) (z3 := .int .i64 0) (by kernel_rfl) (by rfl) (by kernel_rfl) (by kernel_rfl) (by kernel_rfl) (by kernel_rfl) (by kernel_rfl) (by first | rfl | assumption) (by first | rfl | assumption) (by first | rfl | assumption) (by first | rfl | assumption) ?_
      refine KOps.buildSliceS (cs := (wc (hway (roomsOf a) (hs.getD i default)))) hS rfl rfl rfl (by decide) ?_
      intro v62 h' hS
      refine KOps.append hS (fun _ => rfl) (i := 5) rfl (a := i) (by rw [flr_len wc_len, madeW_len]; omega) (hS.rd 0 rfl) (b := 1) rfl rfl (by omega) ?_
      intro r63 h' hS
      simp only [List.set_cons_zero, List.set_cons_succ, Nat.zero_add] at hS
      have hr63 : r63.one = true := St.one hS (k := 5) rfl
      have hS0 := St.tail hS
      clear hS
      have hS := hS0
      clear hS0
      refine KOps.fieldAddr hp5 ?_
      intro p64 hp64
      refine KOps.store hS rfl (i := 1) rfl hp64 (by first | rfl | assumption) (by first | decide | simp) ?_
      intro h' hS
      simp only [List.set_cons_zero, List.set_cons_succ, Nat.zero_add] at hS
      refine KOps.done ?_
      refine blQ.normal ?_
      refine sqQ.normal ?_
      refine KA.sub (Sub.cons (t := 1) Look.eq (Sub.cons (t := 4) Look.eq (Sub.cons (t := 5) Look.eq (Sub.cons (t := 17) Look.eq (Sub.cons (t := 18) Look.eq (Sub.cons (t := 19) Look.eq (Sub.nil _))))))) ?_
      refine KA.region rfl ?_
      refine KOps.add (by first | omega | (simp; omega)) (by first | omega | (simp; omega)) ?_
      refine KOps.move ?_
      refine KOps.done ?_
      rw [madeW_next (by omega)] at hS
      exact lpQ.normal (i + 1, r63) (by repeat (first | exact Sub.nil _ | refine Sub.cons Look.eq ?_ | refine Sub.cons (Eq.trans Look.eq (congrArg (AV.int _) (by first | omega | (dsimp only; omega)))) ?_)) ⟨by dsimp only; omega, by dsimp only; omega, St.tail hS⟩ (by dsimp only; omega)
  · intro c20
    refine KA.exit ?_
    refine sqQ.exit ?_
    refine lpQ.exit ?_
    refine blQ.here ?_
    refine sqQ.normal ?_
    refine KA.sub (Sub.cons (t := 4) Look.eq (Sub.cons (t := 5) Look.eq (Sub.nil _))) ?_
    refine KA.seq ?_
    refine KA.region rfl ?_
    refine KOps.loadAll hS (i := 0) rfl hp5 (by rfl) (by decide) ?_
    refine KOps.storeAll hS rfl (i := 1) rfl hp4 (by show (true && (vo.one && true)) = true; first | (rw [St.one hS (k := 3) (o := ⟨vo, 4, _, true⟩) rfl]; rfl) | (rw [St.one hS (k := 4) (o := ⟨vo, 4, _, true⟩) rfl]; rfl)) (by rfl) (by rfl) (by decide) ?_
    intro h' hS
    simp only [List.set_cons_zero, List.set_cons_succ, Nat.zero_add] at hS
    refine KOps.done ?_
    refine sqQ.normal ?_
    refine KA.sub (Sub.cons (t := 4) Look.eq (Sub.nil _)) ?_
    refine KA.ret ?_
    refine fnC.retC hS (i := 1) rfl hp4 (by rfl) (by simp) ?_
    have e0 : madeW (roomsOf a) hs i = madeW (roomsOf a) hs m := by
      unfold madeW; rw [List.take_of_length_le (show hs.length ≤ i by omega), List.take_of_length_le (show hs.length ≤ m by omega)]
    rw [e0] at hS
    exact ⟨_, rfl, St.pick [3] (by decide) rfl hS⟩

end Go.Am

namespace Go.Am
open Go.ChangeShapes Go.WideShapes
def hOf (l : List Int) : H4 := ⟨l.getD 0 0, l.getD 1 0, l.getD 2 0, l.getD 3 0⟩
theorem hc_of {l : List Int} (h : l.length = 4) : l.map (AV.int .u8) = hc (hOf l) := by
  match l, h with
  | [a, b, c, d], _ => rfl
theorem hOf_ok {l : List Int} (h : l.length = 4) (hw : ∀ x ∈ l, (Lit.int .u8 x).wf = true) : (hOf l).Ok := by
  match l, h with
  | [a, b, c, d], _ =>
    have h1 := wf_u8 (hw a (by simp))
    have h2 := wf_u8 (hw b (by simp))
    have h3 := wf_u8 (hw c (by simp))
    have h4 := wf_u8 (hw d (by simp))
    exact ⟨h1.1, h1.2, h2.1, h2.2, h3.1, h3.2, h4.1, h4.2⟩
theorem rows_house {h : AHeap} : ∀ {rows : List (List AV)} {xs : List (List Int)}, rows.length = xs.length → (∀ (i : Nat) (r : List AV) (x : List Int), rows[i]? = some r → xs[i]? = some x → r.length = 4 ∧ EArr .u8 4 h r x) → rows.flatten = flr hc (xs.map hOf) ∧ ∀ i, i < (xs.map hOf).length → ((xs.map hOf).getD i default).Ok := by
  intro rows
  induction rows with
  | nil => intro xs hl _; rw [List.length_eq_zero_iff.1 hl.symm]; exact ⟨rfl, fun i hi => absurd hi (Nat.not_lt_zero _)⟩
  | cons r rows ih =>
    intro xs hl hx
    cases xs with
    | nil => cases hl
    | cons x xs =>
      obtain ⟨_, h1, h2, h3⟩ := hx 0 r x rfl rfl
      have ih2 := ih (by simpa using hl) (fun i r y hr hy => hx (i + 1) r y (by simpa using hr) (by simpa using hy))
      refine ⟨?_, ?_⟩
      · rw [List.flatten_cons, ih2.1, h1, hc_of h2]
        rfl
      · intro i hi
        cases i with
        | zero => exact hOf_ok h2 h3
        | succ i => exact ih2.2 i (by simpa using hi)
theorem house_of {h : AHeap} {avs : List AV} {x : Int × List (List Int)} (hE : EPair 1 (EInt .u8) (ESl 4 (EArr .u8 4)) h avs x) : ∃ (a : Int) (vH : AV) (hs : List H4), avs = [.int .u8 a, vH] ∧ Rd h vH 4 (flr hc hs) ∧ 0 ≤ a ∧ a ≤ 255 ∧ ∀ i, i < hs.length → (hs.getD i default).Ok := by
  obtain ⟨⟨h1, hw⟩, v, rows, h2, h3, h4, h5⟩ := hE
  have h6 := rows_house h4 h5
  have ha := wf_u8 hw
  refine ⟨x.1, v, x.2.map hOf, ?_, ?_, ha.1, ha.2, h6.2⟩
  · rw [← List.take_append_drop 1 avs, h1, h2]; rfl
  · rw [← h6.1]; exact h3
section
open Go.Proofs.Tryd
theorem ic_house {H : Type} {enc : TypeId × Value → H} : IC enc Go.Proofs.Tryd.prog 63 (EPair 1 (EInt .u8) (ESl 4 (EArr .u8 4))) :=
  IC.pair (s0 := 1) (s1 := 1) Go.Proofs.Tryd.underlying63 (by kernel_rfl) rfl rfl (by kernel_rfl) (by kernel_rfl) (IC.int Go.Proofs.Tryd.underlying5) (IC.slice (s := 4) Go.Proofs.Tryd.underlying61 (by kernel_rfl) (by decide) (IC.array Go.Proofs.Tryd.underlying76 (by kernel_rfl) (by kernel_rfl) Go.Proofs.Tryd.underlying5))
end
end Go.Am

namespace Go.Am
def zeros : List Int := List.replicate 6 0
/-- Ways of at most five numbers. -/
def Thin (ws : List W) : Prop := ∀ i, i < ws.length → (ws.getD i default).m - (ws.getD i default).l ≤ 4
/-- What is found: lists that begin so, within the ways, whose rooms keep nothing. -/
structure Ends (ws : List W) (l y : List Int) : Prop where
  len : y.length = ws.length
  pre : ∀ k, k < l.length → y.getD k 0 = l.getD k 0
  wi : ∀ k, l.length ≤ k → k < ws.length → (ws.getD k default).l ≤ y.getD k 0 ∧ y.getD k 0 ≤ (ws.getD k default).m
  kp : keptL 6 ws y ws.length = zeros
/-- One list is ahead of another one. -/
def LexLt (a b : List Int) : Prop := ∃ i, (∀ k, k < i → a.getD k 0 = b.getD k 0) ∧ a.getD i 0 < b.getD i 0
end Go.Am

namespace Go.Am
theorem chk_of_B {rm : Int} {ws : List W} (hB : BOk rm ws) : chkB rm ws = 0 := by
  have hw : ∀ k, k ≤ ws.length → waysE rm ws k = 0 := by
    intro k
    induction k with
    | zero => intro _; rfl
    | succ k ih =>
      intro hk
      have h := hB.way k (by omega)
      have := h.f0; have := h.f1; have := h.t0; have := h.t1; have := h.ne; have := h.l0; have := h.lm; have := h.m1
      rw [waysE, if_pos (ih (by omega)), wayE, if_neg (by omega), if_neg (by omega), if_neg (by omega)]
  exact chk_end ⟨hB.r2, hB.r6⟩ hB.len (hw _ (Nat.le_refl _))
theorem made_thin (rm : Int) (hs : List H4) (k : Nat) (hx : ∀ i, i < hs.length → (hs.getD i default).Ok) : Thin (madeW rm hs k) := by
  intro i hi
  rw [madeW_len] at hi
  have e : (madeW rm hs k).getD i default = hway rm (hs.getD i default) := by
    unfold madeW
    rw [List.getD_eq_getElem?_getD, List.getElem?_map, List.getElem?_take, if_pos (by omega), List.getD_eq_getElem?_getD, List.getElem?_eq_getElem (by omega)]
    rfl
  rw [e]
  have t3 := tmod_b (hx i (by omega)).c0 (show (0 : Int) < 4 by decide)
  show Min.min 4 _ - (hs.getD i default).c.tmod 4 ≤ 4
  omega
section
variable {P : Program} {n : Nat} {ops : Array Oper} {ex : List Nat} {Q : KF → AHeap → Prop} {k : Nat} {os : List Oper} {K : KF} {h : AHeap} {d : Nat} {ty : TypeId} {pos : String} {after : Array Edge}
end
theorem agree_all {r : Nat} {ws : List W} (hB : BOk (r : Int) ws) : agreeE (r : Int) ws = if canP (r : Int) ws = true then 0 else 12 := by
  rw [agreeE, if_pos (chk_of_B hB)]

end Go.Am

namespace Go.Am
theorem LexLt.asymm {a b : List Int} (h : LexLt a b) (h' : LexLt b a) : False := by
  obtain ⟨i, h1, h2⟩ := h
  obtain ⟨j, h3, h4⟩ := h'
  rcases Nat.lt_trichotomy i j with h5 | rfl | h5
  · have := h3 i h5; omega
  · omega
  · have := h1 j h5; omega
theorem LexLt.ne {a b : List Int} (h : LexLt a b) : a ≠ b := by
  rintro rfl
  exact h.asymm h
end Go.Am

namespace Go.Am
section
variable {P : Program} {n : Nat} {ops : Array Oper} {ex : List Nat} {Q : KF → AHeap → Prop} {k : Nat} {os : List Oper} {K : KF} {h : AHeap} {d : Nat} {ty : TypeId} {pos : String} {after : Array Edge}
end
theorem agree_01 {r : Nat} {ws : List W} (hB : BOk (r : Int) ws) : agreeE (r : Int) ws = 0 ∨ agreeE (r : Int) ws = 12 := by
  rw [agree_all hB]
  split
  · exact .inl rfl
  · exact .inr rfl
theorem flow_agree {r : Nat} {ws : List W} (hB : BOk (r : Int) ws) (hx : ∃ n, Flow ws n) : agreeE (r : Int) ws = 0 := by
  obtain ⟨n, hn⟩ := hx
  exact agree_flow (chk_of_B hB) hn
end Go.Am

namespace Go.Am
/-- Places in a circle, turned. -/
def pos (n s i : Nat) : Nat := (i + s) % n
theorem pos_lt {n s i : Nat} (h : i < n) : pos n s i < n := Nat.mod_lt _ (by omega)
theorem pos_inj {n s i j : Nat} (hi : i < n) (hj : j < n) (h : pos n s i = pos n s j) : i = j := by
  unfold pos at h
  have key : ∀ i j : Nat, i < n → j < n → i ≤ j → (i + s) % n = (j + s) % n → i = j := by
    intro i j hi hj hij h
    have h1 := Nat.sub_mod_eq_zero_of_mod_eq h.symm
    rw [show j + s - (i + s) = j - i by omega, Nat.mod_eq_of_lt (by omega)] at h1
    omega
  rcases Nat.le_total i j with h1 | h1
  · exact key i j hi hj h1 h
  · exact (key j i hj hi h1 h.symm).symm
/-- The place that comes to j. -/
def inv (n s j : Nat) : Nat := (j + (n - s % n)) % n
theorem inv_lt {n s j : Nat} (h : j < n) : inv n s j < n := Nat.mod_lt _ (by omega)
theorem pos_inv {n s j : Nat} (h : j < n) : pos n s (inv n s j) = j := by
  unfold pos inv
  rw [Nat.mod_add_mod]
  have h1 := Nat.mod_lt s (show 0 < n by omega)
  have h2 := Nat.div_add_mod s n
  rw [show j + (n - s % n) + s = j + n * (s / n + 1) by rw [Nat.mul_add, Nat.mul_one]; omega, Nat.add_mul_mod_self_left, Nat.mod_eq_of_lt h]
theorem inv_pos {n s i : Nat} (h : i < n) : inv n s (pos n s i) = i := pos_inj (s := s) (inv_lt (pos_lt h)) h (pos_inv (pos_lt h))
def sumN (F : Nat → Int) : Nat → Int
  | 0 => 0
  | k + 1 => sumN F k + F k
theorem sumN_add (F : Nat → Int) (a : Nat) : ∀ b, sumN F (a + b) = sumN F a + sumN (fun i => F (a + i)) b := by
  intro b
  induction b with
  | zero => exact (Int.add_zero _).symm
  | succ b ih => rw [← Nat.add_assoc, sumN, ih, sumN, Int.add_assoc]
theorem sumN_ext {F G : Nat → Int} : ∀ {k : Nat}, (∀ i, i < k → F i = G i) → sumN F k = sumN G k := by
  intro k
  induction k with
  | zero => intro _; rfl
  | succ k ih => intro h; rw [sumN, sumN, ih (fun i hi => h i (by omega)), h k (by omega)]
theorem sumN_pos (F : Nat → Int) (n s : Nat) : sumN (fun i => F (pos n s i)) n = sumN F n := by
  by_cases hn : n = 0
  · subst hn; rfl
  have h1 := Nat.mod_lt s (show 0 < n by omega)
  have e : ∀ i, pos n s i = (i + s % n) % n := fun i => by unfold pos; rw [Nat.add_mod_mod]
  generalize s % n = q at *
  have h2 : sumN (fun i => F (pos n s i)) n = sumN (fun i => F (pos n s i)) (n - q) + sumN (fun i => F (pos n s (n - q + i))) q := by
    rw [← sumN_add (fun i => F (pos n s i)), show n - q + q = n by omega]
  have h3 : sumN F n = sumN F q + sumN (fun i => F (q + i)) (n - q) := by rw [← sumN_add, show q + (n - q) = n by omega]
  have h4 : sumN (fun i => F (pos n s i)) (n - q) = sumN (fun i => F (q + i)) (n - q) := sumN_ext fun i hi => by
    rw [e, Nat.mod_eq_of_lt (by omega), Nat.add_comm]
  have h5 : sumN (fun i => F (pos n s (n - q + i))) q = sumN F q := sumN_ext fun i hi => by
    rw [e, show n - q + i + q = i + n by omega, Nat.add_mod_right, Nat.mod_eq_of_lt (by omega)]
  rw [h2, h3, h4, h5, Int.add_comm]
theorem keptTo_sum (ws : List W) (n : List Int) (x : Int) : ∀ k, keptTo ws n x k = sumN (fun i => n.getD i 0 * (dl (ws.getD i default).t x - dl (ws.getD i default).f x)) k := by
  intro k
  induction k with
  | zero => rfl
  | succ k ih => rw [keptTo, ih, sumN]
/-- A room, turned. -/
def turn (R b : Nat) (x : Int) : Int := (pos R b x.toNat : Int)
theorem turn_b {R b : Nat} {x : Int} (h0 : 0 ≤ x) (h1 : x < (R : Int)) : 0 ≤ turn R b x ∧ turn R b x < (R : Int) := by
  have := pos_lt (s := b) (show x.toNat < R by omega)
  unfold turn
  omega
theorem turn_inj {R b : Nat} {x y : Int} (h0 : 0 ≤ x) (h1 : x < (R : Int)) (g0 : 0 ≤ y) (g1 : y < (R : Int)) (h : turn R b x = turn R b y) : x = y := by
  unfold turn at h
  have := pos_inj (s := b) (show x.toNat < R by omega) (show y.toNat < R by omega) (by omega)
  omega
theorem turn_sur {R b : Nat} {y : Int} (h0 : 0 ≤ y) (h1 : y < (R : Int)) : ∃ x : Int, 0 ≤ x ∧ x < (R : Int) ∧ turn R b x = y := by
  refine ⟨(inv R b y.toNat : Int), by omega, by have := inv_lt (s := b) (show y.toNat < R by omega); omega, ?_⟩
  unfold turn
  rw [Int.toNat_natCast, pos_inv (by omega)]
  omega
theorem turn_dl {R b : Nat} {x y : Int} (h0 : 0 ≤ x) (h1 : x < (R : Int)) (g0 : 0 ≤ y) (g1 : y < (R : Int)) : dl (turn R b x) (turn R b y) = dl x y := by
  unfold dl
  by_cases h : x = y
  · rw [if_pos h, if_pos (by rw [h])]
  · rw [if_neg h, if_neg (fun e => h (turn_inj h0 h1 g0 g1 e))]
def turnW (R b : Nat) (fl : Bool) (w : W) : W := if fl then ⟨turn R b w.t, turn R b w.f, w.l, w.m⟩ else ⟨turn R b w.f, turn R b w.t, w.l, w.m⟩
theorem turnW_ok {r b : Nat} {fl : Bool} {w : W} (h : WOk (r : Int) w) : WOk ((r + 1 : Nat) : Int) (turnW (r + 1) b fl w) := by
  have hf0 := h.f0
  have hf1 := h.f1
  have ht0 := h.t0
  have ht1 := h.t1
  have t1 := turn_b (R := r + 1) (b := b) h.f0 (by omega)
  have t2 := turn_b (R := r + 1) (b := b) h.t0 (by omega)
  have hne : turn (r + 1) b w.f ≠ turn (r + 1) b w.t := fun e => h.ne (turn_inj h.f0 (by omega) h.t0 (by omega) e)
  unfold turnW
  cases fl
  · exact ⟨t1.1, t1.2, t2.1, t2.2, hne, h.l0, h.lm, h.m1⟩
  · exact ⟨t2.1, t2.2, t1.1, t1.2, hne.symm, h.l0, h.lm, h.m1⟩
/-- The turned ways, as far as they are laid. -/
def turnTo (R b s : Nat) (fl : Bool) (ws : List W) : Nat → List W
  | 0 => List.replicate ws.length default
  | k + 1 => (turnTo R b s fl ws k).set (pos ws.length s k) (turnW R b fl (ws.getD k default))
theorem turnTo_len (R b s : Nat) (fl : Bool) (ws : List W) (k : Nat) : (turnTo R b s fl ws k).length = ws.length := by
  induction k with
  | zero => simp [turnTo]
  | succ k ih => rw [turnTo, List.length_set, ih]
theorem turnTo_get {R b s : Nat} {fl : Bool} {ws : List W} : ∀ {k i : Nat}, i < k → k ≤ ws.length → (turnTo R b s fl ws k).getD (pos ws.length s i) default = turnW R b fl (ws.getD i default) := by
  intro k
  induction k with
  | zero => intro i h; omega
  | succ k ih =>
    intro i hi hk
    rw [turnTo, List.getD_eq_getElem?_getD, List.getElem?_set]
    by_cases hik : i = k
    · subst hik
      rw [if_pos rfl, if_pos (by rw [turnTo_len]; exact pos_lt (by omega))]; rfl
    · rw [if_neg (fun e => hik (pos_inj (s := s) (by omega) (by omega) e.symm)), ← List.getD_eq_getElem?_getD]
      exact ih (by omega) (by omega)
section
variable {r b s : Nat} {fl : Bool} {ws tw : List W}
/-- Books tw are books ws, turned. -/
structure Turned (r b s : Nat) (fl : Bool) (ws tw : List W) : Prop where
  len : tw.length = ws.length
  get : ∀ i, i < ws.length → tw.getD (pos ws.length s i) default = turnW (r + 1) b fl (ws.getD i default)
theorem Turned.at (h : Turned r b s fl ws tw) {j : Nat} (hj : j < ws.length) : tw.getD j default = turnW (r + 1) b fl (ws.getD (inv ws.length s j) default) := by
  rw [← h.get _ (inv_lt hj), pos_inv hj]
theorem Turned.ok (h : Turned r b s fl ws tw) (hB : BOk (r : Int) ws) (hr : r ≤ 5) : BOk ((r + 1 : Nat) : Int) tw := by
  have h2 := hB.r2
  refine ⟨by omega, by omega, by rw [h.len]; exact hB.len, fun j hj => ?_⟩
  rw [h.len] at hj
  rw [h.at hj]
  exact turnW_ok (hB.way _ (inv_lt hj))
theorem Turned.kept (h : Turned r b s fl ws tw) (hB : BOk (r : Int) ws) {n m : List Int} (hm : ∀ i, i < ws.length → m.getD (pos ws.length s i) 0 = n.getD i 0) {x : Int} (h0 : 0 ≤ x) (h1 : x ≤ (r : Int)) : keptTo tw m (turn (r + 1) b x) tw.length = if fl then - keptTo ws n x ws.length else keptTo ws n x ws.length := by
  rw [keptTo_sum, h.len, ← sumN_pos _ ws.length s, keptTo_sum]
  have e : ∀ i, i < ws.length → m.getD (pos ws.length s i) 0 * (dl (tw.getD (pos ws.length s i) default).t (turn (r + 1) b x) - dl (tw.getD (pos ws.length s i) default).f (turn (r + 1) b x)) = if fl then - (n.getD i 0 * (dl (ws.getD i default).t x - dl (ws.getD i default).f x)) else n.getD i 0 * (dl (ws.getD i default).t x - dl (ws.getD i default).f x) := by
    intro i hi
    have hw := hB.way i hi
    have := hw.f1
    have := hw.t1
    rw [hm i hi, h.get i hi]
    unfold turnW
    cases fl
    · rw [if_neg (by decide), if_neg (by decide), turn_dl hw.t0 (by omega) h0 (by omega), turn_dl hw.f0 (by omega) h0 (by omega)]
    · rw [if_pos rfl, if_pos rfl]
      dsimp only
      rw [turn_dl hw.t0 (by omega) h0 (by omega), turn_dl hw.f0 (by omega) h0 (by omega), ← Int.mul_neg, Int.neg_sub]
  rw [sumN_ext e]
  cases fl
  · rfl
  · simp only [if_true]
    generalize ws.length = k
    induction k with
    | zero => rfl
    | succ k ih => rw [sumN, sumN, ih]; omega
theorem Turned.flow (h : Turned r b s fl ws tw) (hB : BOk (r : Int) ws) (hB2 : BOk ((r + 1 : Nat) : Int) tw) {n m : List Int} (hn : n.length = ws.length) (hml : m.length = ws.length) (hm : ∀ i, i < ws.length → m.getD (pos ws.length s i) 0 = n.getD i 0) : Flow ws n ↔ Flow tw m := by
  have elm : ∀ i, (turnW (r + 1) b fl (ws.getD i default)).l = (ws.getD i default).l ∧ (turnW (r + 1) b fl (ws.getD i default)).m = (ws.getD i default).m := by
    intro i
    unfold turnW
    cases fl <;> exact ⟨rfl, rfl⟩
  constructor
  · intro hf
    refine ⟨⟨by rw [hml, h.len], fun j hj => ?_, fun j hj => ?_⟩, fun y => ?_⟩
    · rw [h.len] at hj
      have h3 := hm _ (inv_lt (s := s) hj)
      rw [pos_inv hj] at h3
      rw [h.at hj, (elm _).1, h3]
      exact hf.lo _ (inv_lt hj)
    · rw [h.len] at hj
      have h3 := hm _ (inv_lt (s := s) hj)
      rw [pos_inv hj] at h3
      rw [h.at hj, (elm _).2, h3]
      exact hf.hi _ (inv_lt hj)
    · by_cases hy : y < 0 ∨ ((r + 1 : Nat) : Int) ≤ y
      · exact kept_out hB2.inR m hy _ (Nat.le_refl _)
      · obtain ⟨x, hx0, hx1, rfl⟩ := turn_sur (R := r + 1) (b := b) (y := y) (by omega) (by omega)
        show keptTo tw m _ tw.length = 0
        rw [h.kept hB hm hx0 (by omega), show keptTo ws n x ws.length = 0 from hf.kp x]
        cases fl <;> rfl
  · intro hf
    refine ⟨⟨hn, fun i hi => ?_, fun i hi => ?_⟩, fun x => ?_⟩
    · have h3 := hf.lo (pos ws.length s i) (by rw [h.len]; exact pos_lt hi)
      rw [h.get i hi, (elm _).1, hm i hi] at h3
      exact h3
    · have h3 := hf.hi (pos ws.length s i) (by rw [h.len]; exact pos_lt hi)
      rw [h.get i hi, (elm _).2, hm i hi] at h3
      exact h3
    · by_cases hx : x < 0 ∨ (r : Int) ≤ x
      · exact kept_out hB.inR n hx _ (Nat.le_refl _)
      · have h3 := h.kept hB hm (x := x) (by omega) (by omega)
        rw [show keptTo tw m (turn (r + 1) b x) tw.length = 0 from hf.kp _] at h3
        show keptTo ws n x ws.length = 0
        cases fl
        · exact h3.symm
        · have h3 : 0 = - keptTo ws n x ws.length := h3
          omega
theorem perm_there (s : Nat) (n : List Int) {k : Nat} (hn : n.length = k) : ∃ m : List Int, m.length = k ∧ ∀ i, i < k → m.getD (pos k s i) 0 = n.getD i 0 := by
  refine ⟨(List.range k).map fun j => n.getD (inv k s j) 0, by simp, fun i hi => ?_⟩
  rw [List.getD_eq_getElem?_getD, List.getElem?_map, List.getElem?_range (pos_lt hi)]
  show n.getD (inv k s (pos k s i)) 0 = _
  rw [inv_pos hi]
theorem perm_back (s : Nat) (m : List Int) {k : Nat} : ∃ n : List Int, n.length = k ∧ ∀ i, i < k → m.getD (pos k s i) 0 = n.getD i 0 := by
  refine ⟨(List.range k).map fun i => m.getD (pos k s i) 0, by simp, fun i hi => ?_⟩
  rw [List.getD_eq_getElem?_getD (l := List.map _ _), List.getElem?_map, List.getElem?_range hi]; rfl
theorem Turned.ex (h : Turned r b s fl ws tw) (hB : BOk (r : Int) ws) (hB2 : BOk ((r + 1 : Nat) : Int) tw) : (∃ n, Flow ws n) ↔ ∃ m, Flow tw m := by
  constructor
  · rintro ⟨n, hn⟩
    obtain ⟨m, h1, h2⟩ := perm_there s n hn.len
    exact ⟨m, (h.flow hB hB2 hn.len h1 h2).1 hn⟩
  · rintro ⟨m, hm⟩
    obtain ⟨n, h1, h2⟩ := perm_back s m (k := ws.length)
    exact ⟨n, (h.flow hB hB2 h1 (by rw [hm.len, h.len]) h2).2 hm⟩
theorem Turned.err (h : Turned r b s fl ws tw) (hB : BOk (r : Int) ws) (hB2 : BOk ((r + 1 : Nat) : Int) tw) : agreeE ((r + 1 : Nat) : Int) tw = agreeE (r : Int) ws := by
  rcases agree_01 hB with h1 | h1
  · rw [h1]
    exact flow_agree hB2 ((h.ex hB hB2).1 (agree_ok h1).2)
  · rcases agree_01 hB2 with h2 | h2
    · have h3 := flow_agree hB ((h.ex hB hB2).2 (agree_ok h2).2)
      rw [h1] at h3
      exact absurd h3 (by decide)
    · rw [h1, h2]
theorem Turned.span (h : Turned r b s fl ws tw) (hB : BOk (r : Int) ws) (hB2 : BOk ((r + 1 : Nat) : Int) tw) (hx : ∃ n, Flow ws n) {i : Nat} (hi : i < ws.length) : loOf tw (pos ws.length s i) = loOf ws i ∧ hiOf tw (pos ws.length s i) = hiOf ws i := by
  have hx2 := (h.ex hB hB2).1 hx
  have hp : pos ws.length s i < tw.length := by rw [h.len]; exact pos_lt hi
  have h1 := loOf_is hx hi
  have h2 := hiOf_is hx hi
  refine ⟨(loOf_is hx2 hp).uniq ⟨?_, fun m hm => ?_⟩, (hiOf_is hx2 hp).uniq ⟨?_, fun m hm => ?_⟩⟩
  · obtain ⟨n, hn, hne⟩ := h1.1
    obtain ⟨m, h3, h4⟩ := perm_there s n hn.len
    exact ⟨m, (h.flow hB hB2 hn.len h3 h4).1 hn, by rw [h4 i hi, hne]⟩
  · obtain ⟨n, h3, h4⟩ := perm_back s m (k := ws.length)
    rw [h4 i hi]
    exact h1.2 n ((h.flow hB hB2 h3 (by rw [hm.len, h.len]) h4).2 hm)
  · obtain ⟨n, hn, hne⟩ := h2.1
    obtain ⟨m, h3, h4⟩ := perm_there s n hn.len
    exact ⟨m, (h.flow hB hB2 hn.len h3 h4).1 hn, by rw [h4 i hi, hne]⟩
  · obtain ⟨n, h3, h4⟩ := perm_back s m (k := ws.length)
    rw [h4 i hi]
    exact h2.2 n ((h.flow hB hB2 h3 (by rw [hm.len, h.len]) h4).2 hm)
end
/-- The last way into a room, the last one out of it, and whether there is one of each at most. -/
def inTo (ws : List W) (x : Int) : Nat → Int
  | 0 => -1
  | k + 1 => if (ws.getD k default).t = x then (k : Int) else inTo ws x k
def outTo (ws : List W) (x : Int) : Nat → Int
  | 0 => -1
  | k + 1 => if (ws.getD k default).f = x then (k : Int) else outTo ws x k
def oneIn (ws : List W) (x : Int) (c : Bool) (k : Nat) : Bool := if (ws.getD k default).t = x then c && decide (inTo ws x k < 0) else c
def oneTo (ws : List W) (x : Int) : Nat → Bool
  | 0 => true
  | k + 1 => if (ws.getD k default).f = x then oneIn ws x (oneTo ws x k) k && decide (outTo ws x k < 0) else oneIn ws x (oneTo ws x k) k
theorem inTo_b (ws : List W) (x : Int) (k : Nat) : -1 ≤ inTo ws x k ∧ inTo ws x k < (k : Int) := by
  induction k with
  | zero => exact ⟨Int.le_refl _, (by decide : (-1 : Int) < 0)⟩
  | succ k ih => rw [inTo]; split <;> omega
theorem outTo_b (ws : List W) (x : Int) (k : Nat) : -1 ≤ outTo ws x k ∧ outTo ws x k < (k : Int) := by
  induction k with
  | zero => exact ⟨Int.le_refl _, (by decide : (-1 : Int) < 0)⟩
  | succ k ih => rw [outTo]; split <;> omega
theorem one_kept {ws : List W} {x : Int} {n : List Int} : ∀ {k : Nat}, oneTo ws x k = true → keptTo ws n x k = (if 0 ≤ inTo ws x k then n.getD (inTo ws x k).toNat 0 else 0) - (if 0 ≤ outTo ws x k then n.getD (outTo ws x k).toNat 0 else 0) := by
  intro k
  induction k with
  | zero => intro _; rfl
  | succ k ih =>
    intro h
    rw [oneTo] at h
    have h1 : oneIn ws x (oneTo ws x k) k = true ∧ ((ws.getD k default).f = x → outTo ws x k < 0) := by
      by_cases hf : (ws.getD k default).f = x
      · rw [if_pos hf, Bool.and_eq_true, decide_eq_true_iff] at h
        exact ⟨h.1, fun _ => h.2⟩
      · rw [if_neg hf] at h
        exact ⟨h, fun e => absurd e hf⟩
    have h2 : oneTo ws x k = true ∧ ((ws.getD k default).t = x → inTo ws x k < 0) := by
      have h := h1.1
      unfold oneIn at h
      by_cases ht : (ws.getD k default).t = x
      · rw [if_pos ht, Bool.and_eq_true, decide_eq_true_iff] at h
        exact ⟨h.1, fun _ => h.2⟩
      · rw [if_neg ht] at h
        exact ⟨h, fun e => absurd e ht⟩
    have ih := ih h2.1
    rw [keptTo, ih, inTo, outTo]
    unfold dl
    by_cases ht : (ws.getD k default).t = x <;> by_cases hf : (ws.getD k default).f = x
    · have := h2.2 ht
      have := h1.2 hf
      rw [if_pos ht, if_pos ht, if_pos hf, if_pos hf, if_neg (show ¬ 0 ≤ inTo ws x k by omega), if_neg (show ¬ 0 ≤ outTo ws x k by omega), if_pos (show (0 : Int) ≤ (k : Int) by omega)]
      omega
    · have := h2.2 ht
      rw [if_pos ht, if_pos ht, if_neg hf, if_neg hf, if_neg (show ¬ 0 ≤ inTo ws x k by omega), if_pos (show (0 : Int) ≤ (k : Int) by omega), Int.toNat_natCast]
      omega
    · have := h1.2 hf
      rw [if_neg ht, if_neg ht, if_pos hf, if_pos hf, if_neg (show ¬ 0 ≤ outTo ws x k by omega), if_pos (show (0 : Int) ≤ (k : Int) by omega), Int.toNat_natCast]
      omega
    · rw [if_neg ht, if_neg ht, if_neg hf, if_neg hf]
      omega
theorem one_same {ws : List W} {x : Int} (hx : ∃ n, Flow ws n) (h : oneTo ws x ws.length = true) (h1 : 0 ≤ inTo ws x ws.length) (h2 : 0 ≤ outTo ws x ws.length) : loOf ws (inTo ws x ws.length).toNat = loOf ws (outTo ws x ws.length).toNat ∧ hiOf ws (inTo ws x ws.length).toNat = hiOf ws (outTo ws x ws.length).toNat := by
  have b1 := inTo_b ws x ws.length
  have b2 := outTo_b ws x ws.length
  have hs : ∀ n, Flow ws n → n.getD (inTo ws x ws.length).toNat 0 = n.getD (outTo ws x ws.length).toNat 0 := by
    intro n hn
    have h3 := one_kept (n := n) h
    rw [show keptTo ws n x ws.length = 0 from hn.kp x, if_pos h1, if_pos h2] at h3
    omega
  have l1 := loOf_is hx (i := (inTo ws x ws.length).toNat) (by omega)
  have l2 := hiOf_is hx (i := (inTo ws x ws.length).toNat) (by omega)
  refine ⟨?_, ?_⟩
  · refine IsLo.uniq (i := (outTo ws x ws.length).toNat) ⟨?_, fun m hm => ?_⟩ (loOf_is hx (by omega))
    · obtain ⟨n, hn, hne⟩ := l1.1
      exact ⟨n, hn, by rw [← hs n hn]; exact hne⟩
    · rw [← hs m hm]; exact l1.2 m hm
  · refine IsHi.uniq (i := (outTo ws x ws.length).toNat) ⟨?_, fun m hm => ?_⟩ (hiOf_is hx (by omega))
    · obtain ⟨n, hn, hne⟩ := l2.1
      exact ⟨n, hn, by rw [← hs n hn]; exact hne⟩
    · rw [← hs m hm]; exact l2.2 m hm
end Go.Am
