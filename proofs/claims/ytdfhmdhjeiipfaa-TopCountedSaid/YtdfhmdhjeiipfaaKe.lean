/-
  Tops: a press with the one turn 0: contracts.
  Conditions: none.
-/
import Derived.Test.YtdfhmdhjeiipfaaKa
import Derived.Test.YtdfhmdhjeiipfaaAmW
import Derived.Test.YtdfhmdhjeiipfaaAnm
namespace Go.Am
open Go.RowKit
section
variable {P : Program} {n : Nat} {ops : Array Oper} {ex : List Nat} {Q : KF → AHeap → Prop} {k : Nat} {os : List Oper} {K : KF} {h : AHeap} {d : Nat} {ty : TypeId} {pos : String} {after : Array Edge}
theorem KOps.eqlZ {t t' : TypeId} {x y : Operand} {kd : IntKind} {a b : Int} [hx : EvK h.globs n K x (.int kd a)] [hy : EvK h.globs n K y (.int kd b)] (hab : ¬ a = b) (hk : KOps P n ops ex Q (k + 1) os ((d, .bool false) :: K) h) : KOps P n ops ex Q k (⟨some d, .binOp .eql t x y t', ty, pos, after, none⟩ :: os) K h :=
  KOps.eql (a := a) (b := b) (by rw [decide_eq_false hab]; exact hk)
theorem KOps.neqZ {t t' : TypeId} {x y : Operand} {kd : IntKind} {a b : Int} [hx : EvK h.globs n K x (.int kd a)] [hy : EvK h.globs n K y (.int kd b)] (hab : a = b) (hk : KOps P n ops ex Q (k + 1) os ((d, .bool false) :: K) h) : KOps P n ops ex Q k (⟨some d, .binOp .neq t x y t', ty, pos, after, none⟩ :: os) K h :=
  KOps.neq (a := a) (b := b) (by rw [decide_eq_true hab]; exact hk)
theorem KOps.leqZ {t t' : TypeId} {x y : Operand} {kd : IntKind} {a b : Int} [hx : EvK h.globs n K x (.int kd a)] [hy : EvK h.globs n K y (.int kd b)] (hab : ¬ a ≤ b) (hk : KOps P n ops ex Q (k + 1) os ((d, .bool false) :: K) h) : KOps P n ops ex Q k (⟨some d, .binOp .leq t x y t', ty, pos, after, none⟩ :: os) K h :=
  KOps.leq (a := a) (b := b) (by rw [decide_eq_false hab]; exact hk)
theorem KOps.lssZ {t t' : TypeId} {x y : Operand} {kd : IntKind} {a b : Int} [hx : EvK h.globs n K x (.int kd a)] [hy : EvK h.globs n K y (.int kd b)] (hab : ¬ a < b) (hk : KOps P n ops ex Q (k + 1) os ((d, .bool false) :: K) h) : KOps P n ops ex Q k (⟨some d, .binOp .lss t x y t', ty, pos, after, none⟩ :: os) K h :=
  KOps.lss (a := a) (b := b) (by rw [decide_eq_false hab]; exact hk)
theorem KOps.fieldG {x : Operand} {t : TypeId} {i off : Nat} {xs : List AV} {v : AV} [hx : EvK h.globs n K x (.agg xs)]
    (hf : ((fieldsA P t).bind fun fs => fs[i]?.bind fun f => (aggA P f.type).bind fun g => (szA P f.type).map fun _ => (f.offset, g)) = some (off, false)) (hv : xs[off]? = some v)
    (hk : KOps P n ops ex Q (k + 1) os ((d, v) :: K) h) : KOps P n ops ex Q k (⟨some d, .field t x i, ty, pos, after, none⟩ :: os) K h := by
  refine KOps.pure rfl (v := v) ?_ hk
  obtain ⟨fs, h1, hf⟩ := Option.bind_eq_some_iff.1 hf
  obtain ⟨f, h2, hf⟩ := Option.bind_eq_some_iff.1 hf
  obtain ⟨g, h3, hf⟩ := Option.bind_eq_some_iff.1 hf
  obtain ⟨s, h4, hf⟩ := Option.map_eq_some_iff.1 hf
  cases hf
  simp only [apure, hx.eq, afield, h1, h2, apart, h3, h4, Option.bind_eq_bind, Option.bind_some]
  rw [if_neg (by decide)]
  exact hv
end
theorem shm_one {x : AV} (hx : x.plain = true) : ∀ m d, AV.shm m d 4 x = x := fun m d => shm_plain hx
theorem shm_tup2 {x y : AV} (hx : x.plain = true) (hy : y.plain = true) : ∀ m d, AV.shm m d 4 (.tup [x, y]) = .tup [x, y] := fun m d => by simp only [AV.shm, List.map_cons, List.map_nil, shm_plain hx, shm_plain hy]
theorem shm_agg2 {x y : AV} (hx : x.plain = true) (hy : y.plain = true) : ∀ m d, AV.shm m d 4 (.agg [x, y]) = .agg [x, y] := fun m d => by simp only [AV.shm, List.map_cons, List.map_nil, shm_plain hx, shm_plain hy]
theorem okG_row {h : AHeap} {bs : List ArgB} {v : AV} {l : List Int} (hr : Row h v l) (hne : (ints l).isEmpty = false) (hp : (ints l).all AV.plain = true) : OkG h bs ⟨v, 1, ints l, ints l⟩ := okG_plain hr (by decide) (fun e => by rw [e] at hne; cases hne) hp
def iotaL (n : Nat) : List Int := (List.range n).map fun i : Nat => (i : Int)
theorem iotaL_len (n : Nat) : (iotaL n).length = n := by simp [iotaL]
theorem iotaL_get {n i : Nat} (h : i < n) : (iotaL n).getD i 0 = (i : Int) := by
  rw [iotaL, List.getD_eq_getElem?_getD, List.getElem?_map, List.getElem?_range h]; rfl
abbrev noTurn : List AV := [.int .i64 0, .bool false]
theorem sensed_run : runsG Go.Proofs.Try.prog 400 59 [.int .i64 0] [] [] (fun r _ => AV.isP 3 r (.agg noTurn)) = true := by kernel_rfl
theorem sensed0_c {h : AHeap} : ACalls Go.Proofs.Try.prog 59 [.int .i64 0] h (fun q h' => q = .agg noTurn ∧ Keeps h h') :=
  over_plainG mixed 400 [.int .i64 0] [] [] okGs_nil hgs_nil rfl (imG_plain rfl) sensed_run (shm_agg2 rfl rfl)
theorem then_run : runsG Go.Proofs.Try.prog 400 61 [.agg noTurn, .agg noTurn] [] [] (fun r _ => AV.isP 3 r (.agg noTurn)) = true := by kernel_rfl
theorem then0_c {h : AHeap} : ACalls Go.Proofs.Try.prog 61 [.agg noTurn, .agg noTurn] h (fun q h' => q = .agg noTurn ∧ Keeps h h') :=
  over_plainG mixed 400 [.agg noTurn, .agg noTurn] [] [] okGs_nil hgs_nil rfl (imG_cons (.agg _ _ rfl (imG_plain rfl)) (imG_cons (.agg _ _ rfl (imG_plain rfl)) imG_nil)) then_run (shm_agg2 rfl rfl)
theorem turn_run : runsG Go.Proofs.Try.prog 400 62 [.agg noTurn] [] [] (fun r _ => AV.isP 3 r (.int .i64 0)) = true := by kernel_rfl
theorem turn0_c {h : AHeap} : ACalls Go.Proofs.Try.prog 62 [.agg noTurn] h (fun q h' => q = .int .i64 0 ∧ Keeps h h') :=
  over_plainG mixed 400 [.agg noTurn] [] [] okGs_nil hgs_nil rfl (imG_cons (.agg _ _ rfl (imG_plain rfl)) imG_nil) turn_run (shm_one rfl)
theorem cmp_run : (List.range 2).all (fun i => runsG Go.Proofs.Try.prog 400 63 [.int .i64 (i : Int), .int .i64 (i : Int)] [] [] (fun r _ => AV.isP 3 r (.int .i64 0))) = true := by kernel_rfl
theorem cmpEq_c {h : AHeap} {x : Int} (hx : x = 0 ∨ x = 1) : ACalls Go.Proofs.Try.prog 63 [.int .i64 x, .int .i64 x] h (fun q h' => q = .int .i64 0 ∧ Keeps h h') := by
  obtain ⟨i, rfl, hi⟩ : ∃ i : Nat, x = (i : Int) ∧ i < 2 := ⟨x.toNat, by omega, by omega⟩
  exact over_plainG mixed 400 [.int .i64 (i : Int), .int .i64 (i : Int)] [] [] okGs_nil hgs_nil rfl (imG_plain rfl) (List.all_eq_true.1 cmp_run i (List.mem_range.2 hi)) (shm_one rfl)
theorem cells_run : (List.range 3).all (fun c => runsG Go.Proofs.Try.prog 4000 60 [.agg [.int .i64 3, .int .i64 ((c + 1 : Nat) : Int), .int .i64 2, .slc 0 0 1 1 false], .int .i64 0] [ints [0]] [] (fun r h1 => chkO 1 h1 1 (ints (iotaL (3 * (c + 1)))) r)) = true := by kernel_rfl
theorem cells0_c {h : AHeap} {c : Nat} {vT : AV} (hc : 1 ≤ c ∧ c ≤ 3) (hT : Row h vT [0]) : ACalls Go.Proofs.Try.prog 60 [.agg [.int .i64 3, .int .i64 (c : Int), .int .i64 2, vT], .int .i64 0] h (fun q h' => St h h' [⟨q, 1, ints (iotaL (3 * c)), true⟩]) := by
  obtain ⟨e, rfl⟩ : ∃ e, c = e + 1 := ⟨c - 1, by omega⟩
  exact over_rowO mixed (List.all_eq_true.1 cells_run e (List.mem_range.2 (by omega))) [⟨vT, 1, ints [0], ints [0]⟩] rfl rfl (okGs_cons (okG_row hT rfl rfl) okGs_nil) hgs_nil rfl
    (imG_cons (.agg _ _ rfl (imG_cons (.plain _ rfl) (imG_cons (.plain _ rfl) (imG_cons (.plain _ rfl) (imG_cons (imG_slc rfl (by decide) rfl) imG_nil))))) (imG_cons (.plain _ rfl) imG_nil))

theorem bt_c {h : AHeap} {a b c : Int} : ACalls Go.Proofs.Try.prog 34 [.int .i64 a, .int .i64 b, .int .i64 c] h (fun q h' => q = .bool (decide (a ≤ b ∧ b ≤ c)) ∧ h = h') := by
  refine KA.fn 15 [.tmp 6] Go.Proofs.Try.func34 rfl (by decide) rfl rfl (Nat.le_of_ble_eq_true rfl) ?_
  show KA _ 15 _ _ [(0, .int .i64 a), (1, .int .i64 b), (2, .int .i64 c)] _
  refine KA.seq ?_
  refine KA.region rfl ?_
  refine KOps.assign ?_
  refine KOps.done ?_
  refine sqQ.normal ?_
  refine KA.sub (Sub.cons (t := 0) Look.eq (Sub.cons (t := 1) Look.eq (Sub.cons (t := 2) Look.eq (Sub.nil _)))) ?_
  refine KA.seq ?_
  refine KA.region rfl ?_
  refine KOps.move ?_
  refine KOps.move ?_
  refine KOps.leq ?_
  refine KOps.move ?_
  refine KOps.guardB (dj := 10) rfl rfl true false rfl ?_ ?_
  · intro g10
    have g10 := of_decide_eq_true g10
    refine KOps.move ?_
    refine KOps.guardYes (dj := 10) rfl rfl ?_
    refine KOps.move ?_
    refine KOps.guardYes (dj := 10) rfl rfl ?_
    refine KOps.leq ?_
    refine KOps.pickT ?_
    refine KOps.assign ?_
    refine KOps.done ?_
    refine sqQ.normal ?_
    refine KA.sub (Sub.cons (t := 6) Look.eq (Sub.nil _)) ?_
    refine KA.ret ?_
    refine fnQ.ret1 ?_
    exact ⟨congrArg AV.bool (decide_eq_decide.2 (by omega)), rfl⟩
  · intro g10
    have g10 := of_decide_eq_false g10
    refine KOps.guardNo (dj := 10) rfl rfl rfl ?_
    refine KOps.guardNo (dj := 10) rfl rfl rfl ?_
    refine KOps.pickF ?_
    refine KOps.assign ?_
    refine KOps.done ?_
    refine sqQ.normal ?_
    refine KA.sub (Sub.cons (t := 6) Look.eq (Sub.nil _)) ?_
    refine KA.ret ?_
    refine fnQ.ret1 ?_
    exact ⟨congrArg AV.bool (decide_eq_false (by omega)).symm, rfl⟩

theorem laid_c {h : AHeap} {c : Nat} {vT : AV} (hc : 1 ≤ c ∧ c ≤ 3) (hT : Row h vT [0]) : ACalls Go.Proofs.Try.prog 29 [.agg [.int .i64 3, .int .i64 (c : Int), .int .i64 2, vT]] h (fun q h' => ∃ p32 vf vr, q = .tup [p32, .int .i64 0] ∧ AddrOf p32 p32 0 0 ∧ St h h' [⟨p32, 0, [.int .i64 3, .int .i64 (c : Int), .int .i64 2, vT, vf], true⟩, ⟨vf, 1, [vr], true⟩, ⟨vr, 1, ints (iotaL (3 * c)), true⟩]) := by
  refine KA.fn 110 [.tmp 2, .tmp 3] Go.Proofs.Try.func29 rfl (by decide) rfl rfl (Nat.le_of_ble_eq_true rfl) ?_
  have hS := St.refl h
  have hTo : vT.one = true := hT.one
  show KA _ 110 _ _ [(0, .agg [.int .i64 3, .int .i64 (c : Int), .int .i64 2, vT])] _
  refine KA.seq ?_
  refine KA.region rfl ?_
  refine KOps.boxAll hS (by show (true && (true && (true && (vT.one && true)))) = true; rw [hTo]; rfl) ?_
  intro p1 h' hp1 hS
  refine KOps.assign ?_
  refine KOps.assign ?_
  refine KOps.done ?_
  refine sqQ.normal ?_
  refine KA.sub (Sub.cons (t := 1) Look.eq (Sub.nil _)) ?_
  refine KA.seq ?_
  refine KA.seq ?_
  refine KA.region rfl ?_
  refine KOps.fieldAddr hp1 ?_
  intro p14 hp14
  refine KOps.load hp14 (hS.rd 0 rfl) rfl ?_
  refine KOps.call rfl (bt_c) ?_
  rintro _ _ ⟨rfl, rfl⟩
  rw [decide_eq_true (by omega)]
  refine KOps.not ?_
  refine KOps.move ?_
  refine KOps.guardYes (dj := 18) rfl rfl ?_
  refine KOps.fieldAddr hp1 ?_
  intro p19 hp19
  refine KOps.guardYes (dj := 18) rfl rfl ?_
  refine KOps.load hp19 (hS.rd 0 rfl) rfl ?_
  refine KOps.guardYes (dj := 18) rfl rfl ?_
  refine KOps.call rfl (bt_c) ?_
  rintro _ _ ⟨rfl, rfl⟩
  rw [decide_eq_true (by omega)]
  refine KOps.guardYes (dj := 18) rfl rfl ?_
  refine KOps.not ?_
  refine KOps.pickF ?_
  refine KOps.move ?_
  refine KOps.guardYes (dj := 24) rfl rfl ?_
  refine KOps.fieldAddr hp1 ?_
  intro p25 hp25
  refine KOps.guardYes (dj := 24) rfl rfl ?_
  refine KOps.load hp25 (hS.rd 0 rfl) rfl ?_
  refine KOps.guardYes (dj := 24) rfl rfl ?_
  refine KOps.call rfl (bt_c) ?_
  rintro _ _ ⟨rfl, rfl⟩
  rw [decide_eq_true (by omega)]
  refine KOps.guardYes (dj := 24) rfl rfl ?_
  refine KOps.not ?_
  refine KOps.pickF ?_
  refine KOps.done ?_
  refine sqQ.normal ?_
  refine KA.sub (Sub.cons (t := 1) Look.eq (Sub.cons (t := 29) Look.eq (Sub.nil _))) ?_
  refine KA.condF ?_
  refine KA.skip ?_
  refine sqQ.normal ?_
  refine KA.sub (Sub.cons (t := 1) Look.eq (Sub.nil _)) ?_
  refine KA.seq ?_
  refine KA.region rfl ?_
  refine KOps.loadAll hS (i := 0) rfl hp1 (by rfl) (by decide) ?_
  refine KOps.buildG (zs := [.int .i64 0, .int .i64 0, .int .i64 0, .nils, .nils]) (cs := [_, _, _, _, _]) (by kernel_rfl) (by rfl) (by kernel_rfl) (.cons (off := 0) (s := 4) (by kernel_rfl) (cells_agg (by show (true && (true && (true && (vT.one && true)))) = true; rw [hTo]; rfl)) rfl (by decide) .nil) (by rfl) ?_
  refine KOps.boxAll hS (by show (true && (true && (true && (vT.one && (true && true))))) = true; rw [hTo]; rfl) ?_
  intro p32 h' hp32 hS
  refine KOps.assign ?_
  refine KOps.done ?_
  refine sqQ.normal ?_
  refine KA.sub (Sub.cons (t := 1) Look.eq (Sub.cons (t := 4) Look.eq (Sub.nil _))) ?_
  refine KA.seq ?_
  refine KA.region rfl ?_
  refine KOps.assign ?_
  refine KOps.done ?_
  refine sqQ.normal ?_
  refine KA.seq ?_
  refine KA.region rfl ?_
  refine KOps.assign ?_
  refine KOps.done ?_
  refine sqQ.normal ?_
  refine KA.seq ?_
  refine KA.seq ?_
  refine KA.region rfl ?_
  refine KOps.fieldAddr hp1 ?_
  intro p33 hp33
  refine KOps.load hp33 (hS.rd 1 rfl) rfl ?_
  refine KOps.lenI (Row.ext hS.keeps hT) ?_
  refine KOps.move ?_
  refine KOps.done ?_
  refine sqQ.normal ?_
  refine KA.sub (Sub.cons (t := 1) Look.eq (Sub.cons (t := 4) Look.eq (Sub.cons (t := 5) Look.eq (Sub.cons (t := 6) Look.eq (Sub.cons (t := 34) Look.eq (Sub.cons (t := 35) Look.eq (Sub.cons (t := 36) Look.eq (Sub.nil _)))))))) ?_
  refine KA.block ?_
  refine KA.loop (X := Nat × AV) (fun x => [(1, p1), (4, p32), (5, .int .i64 ((x.1 : Int) - 1)), (6, .int .u8 (x.1 : Int)), (34, vT), (35, .int .i64 1), (36, .int .i64 ((x.1 : Nat) : Int))]) (fun x h' => (x.1 = 0 ∧ x.2 = .nils ∧ St h h' [⟨p32, 0, [.int .i64 3, .int .i64 (c : Int), .int .i64 2, vT, .nils], true⟩, ⟨p1, 0, [.int .i64 3, .int .i64 (c : Int), .int .i64 2, vT], true⟩]) ∨ (x.1 = 1 ∧ ∃ vr, St h h' [⟨p32, 0, [.int .i64 3, .int .i64 (c : Int), .int .i64 2, vT, x.2], true⟩, ⟨p1, 0, [.int .i64 3, .int .i64 (c : Int), .int .i64 2, vT], true⟩, ⟨x.2, 1, [vr], true⟩, ⟨vr, 1, ints (iotaL (3 * c)), true⟩])) (fun x => 1 - x.1) (0, .nils) (by repeat (first | exact Sub.nil _ | refine Sub.cons Look.eq ?_ | refine Sub.cons (Eq.trans Look.eq (congrArg (AV.int _) (by first | omega | (dsimp only; omega)))) ?_)) ?_ ?_
  · exact .inl ⟨rfl, rfl, hS⟩
  rintro ⟨i, vf⟩ h3 hI
  dsimp only at hI ⊢
  refine KA.seq ?_
  refine KA.region rfl ?_
  refine KOps.lss ?_
  refine KOps.done ?_
  refine sqQ.normal ?_
  refine KA.seq ?_
  refine KA.condD ?_ ?_
  · intro c37
    obtain ⟨rfl, rfl, hS⟩ : i = 0 ∧ vf = .nils ∧ St h h3 [⟨p32, 0, [.int .i64 3, .int .i64 (c : Int), .int .i64 2, vT, .nils], true⟩, ⟨p1, 0, [.int .i64 3, .int .i64 (c : Int), .int .i64 2, vT], true⟩] := by
      rcases hI with q | ⟨q, _⟩
      · exact q
      · omega
    refine KA.skip ?_
    refine sqQ.normal ?_
    refine KA.sub (Sub.cons (t := 1) Look.eq (Sub.cons (t := 4) Look.eq (Sub.cons (t := 5) Look.eq (Sub.cons (t := 6) Look.eq (Sub.cons (t := 34) Look.eq (Sub.cons (t := 35) Look.eq (Sub.cons (t := 36) Look.eq (Sub.nil _)))))))) ?_
    refine KA.seq ?_
    refine KA.block ?_
    refine KA.seq ?_
    refine KA.region rfl ?_
    refine KOps.indexIJ (Row.ext hS.keeps hT) (j := 0) rfl (by decide) ?_
    intro p38 hp38
    refine KOps.loadI hp38 (Row.ext hS.keeps hT) (by decide) ?_
    show KOps _ _ _ _ _ _ _ ((39, .int .i64 0) :: _) _
    refine KOps.assign ?_
    refine KOps.done ?_
    refine sqQ.normal ?_
    refine KA.sub (Sub.cons (t := 1) Look.eq (Sub.cons (t := 4) Look.eq (Sub.cons (t := 5) Look.eq (Sub.cons (t := 6) Look.eq (Sub.cons (t := 8) Look.eq (Sub.cons (t := 34) Look.eq (Sub.cons (t := 35) Look.eq (Sub.cons (t := 36) Look.eq (Sub.nil _))))))))) ?_
    refine KA.seq ?_
    refine KA.block ?_
    refine KA.seq ?_
    refine KA.region rfl ?_
    refine KOps.move ?_
    refine KOps.call rfl (bt_c) ?_
    rintro _ _ ⟨rfl, rfl⟩
    rw [decide_eq_true (by omega)]
    refine KOps.not ?_
    refine KOps.assign ?_
    refine KOps.done ?_
    refine sqQ.normal ?_
    refine KA.sub (Sub.cons (t := 1) Look.eq (Sub.cons (t := 4) Look.eq (Sub.cons (t := 5) Look.eq (Sub.cons (t := 6) Look.eq (Sub.cons (t := 8) Look.eq (Sub.cons (t := 34) Look.eq (Sub.cons (t := 35) Look.eq (Sub.cons (t := 36) Look.eq (Sub.cons (t := 40) Look.eq (Sub.nil _)))))))))) ?_
    refine KA.condF ?_
    refine KA.seq ?_
    refine KA.region rfl ?_
    refine KOps.fieldAddr hp1 ?_
    intro p45 hp45
    refine KOps.load hp45 (hS.rd 1 rfl) rfl ?_
    refine KOps.fieldAddr hp1 ?_
    intro p47 hp47
    refine KOps.load hp47 (hS.rd 1 rfl) rfl ?_
    refine KOps.neq ?_
    refine KOps.move ?_
    refine KOps.guardB (dj := 50) rfl rfl true false rfl ?_ ?_
    · intro g50
      have g50 := not_of_not_decide g50
      refine KOps.move ?_
      refine KOps.guardYes (dj := 50) rfl rfl ?_
      refine KOps.call rfl (sensed0_c) ?_
      rintro _ hx ⟨rfl, hK⟩
      have hS0 : St _ _ _ := St.trans hS (St.ofK hK)
      clear hS
      have hS := hS0
      clear hS0
      simp only [List.nil_append] at hS
      refine KOps.guardYes (dj := 50) rfl rfl ?_
      refine KOps.fieldG (off := 0) (by kernel_rfl) rfl ?_
      refine KOps.guardYes (dj := 50) rfl rfl ?_
      refine KOps.rem (by decide) (by decide) (by decide) ?_
      refine KOps.guardYes (dj := 50) rfl rfl ?_
      refine KOps.eqlZ (by decide) ?_
      refine KOps.pickT ?_
      refine KOps.assign ?_
      refine KOps.done ?_
      refine sqQ.normal ?_
      refine KA.sub (Sub.cons (t := 1) Look.eq (Sub.cons (t := 4) Look.eq (Sub.cons (t := 5) Look.eq (Sub.cons (t := 6) Look.eq (Sub.cons (t := 8) Look.eq (Sub.cons (t := 34) Look.eq (Sub.cons (t := 35) Look.eq (Sub.cons (t := 36) Look.eq (Sub.cons (t := 44) Look.eq (Sub.cons (t := 51) Look.eq (Sub.cons (t := 52) Look.eq (Sub.cons (t := 53) Look.eq (Sub.cons (t := 54) Look.eq (Sub.cons (t := 55) Look.eq (Sub.nil _))))))))))))))) ?_
      refine KA.condF ?_
      refine KA.seq ?_
      refine KA.region rfl ?_
      refine KOps.move ?_
      refine KOps.move ?_
      refine KOps.leqZ (by decide) ?_
      refine KOps.assign ?_
      refine KOps.done ?_
      refine sqQ.normal ?_
      refine KA.sub (Sub.cons (t := 1) Look.eq (Sub.cons (t := 4) Look.eq (Sub.cons (t := 6) Look.eq (Sub.cons (t := 8) Look.eq (Sub.cons (t := 34) Look.eq (Sub.cons (t := 35) Look.eq (Sub.cons (t := 36) Look.eq (Sub.cons (t := 51) Look.eq (Sub.cons (t := 52) Look.eq (Sub.cons (t := 53) Look.eq (Sub.cons (t := 54) Look.eq (Sub.cons (t := 55) Look.eq (Sub.cons (t := 57) Look.eq (Sub.nil _)))))))))))))) ?_
      refine KA.condF ?_
      refine KA.skip ?_
      refine blQ.normal ?_
      refine sqQ.normal ?_
      refine KA.sub (Sub.cons (t := 1) Look.eq (Sub.cons (t := 4) Look.eq (Sub.cons (t := 6) Look.eq (Sub.cons (t := 8) Look.eq (Sub.cons (t := 34) Look.eq (Sub.cons (t := 35) Look.eq (Sub.cons (t := 36) Look.eq (Sub.cons (t := 51) Look.eq (Sub.cons (t := 52) Look.eq (Sub.cons (t := 53) Look.eq (Sub.cons (t := 54) Look.eq (Sub.cons (t := 55) Look.eq (Sub.nil _))))))))))))) ?_
      refine KA.seq ?_
      refine KA.region rfl ?_
      refine KOps.move ?_
      refine KOps.assign ?_
      refine KOps.done ?_
      refine sqQ.normal ?_
      refine KA.sub (Sub.cons (t := 1) Look.eq (Sub.cons (t := 4) Look.eq (Sub.cons (t := 5) Look.eq (Sub.cons (t := 6) Look.eq (Sub.cons (t := 8) Look.eq (Sub.cons (t := 34) Look.eq (Sub.cons (t := 35) Look.eq (Sub.cons (t := 36) Look.eq (Sub.cons (t := 51) Look.eq (Sub.cons (t := 52) Look.eq (Sub.cons (t := 53) Look.eq (Sub.cons (t := 54) Look.eq (Sub.cons (t := 55) Look.eq (Sub.nil _)))))))))))))) ?_
      refine KA.seq ?_
      refine KA.region rfl ?_
      refine KOps.move ?_
      refine KOps.move ?_
      refine KOps.shlN 1 0 rfl rfl (by decide) (by decide) ?_
      refine KOps.orN 0 1 rfl rfl (by decide) (by decide) ?_
      show KOps _ _ _ _ _ _ _ ((65, .int .u8 1) :: _) _
      refine KOps.assign ?_
      refine KOps.done ?_
      refine sqQ.normal ?_
      refine KA.sub (Sub.cons (t := 1) Look.eq (Sub.cons (t := 4) Look.eq (Sub.cons (t := 5) Look.eq (Sub.cons (t := 6) Look.eq (Sub.cons (t := 8) Look.eq (Sub.cons (t := 34) Look.eq (Sub.cons (t := 35) Look.eq (Sub.cons (t := 36) Look.eq (Sub.cons (t := 51) Look.eq (Sub.cons (t := 52) Look.eq (Sub.cons (t := 53) Look.eq (Sub.cons (t := 54) Look.eq (Sub.cons (t := 55) Look.eq (Sub.nil _)))))))))))))) ?_
      refine KA.draw [7, 9] mixed rfl (by kernel_rfl) ?_
      refine KOps.move ?_
      refine KOps.move ?_
      refine KOps.nilP hp32 ?_
      refine KOps.fieldAddr hp32 ?_
      intro p69 hp69
      refine KOps.load hp69 (hS.rd 0 rfl) rfl ?_
      refine KOps.loadAll hS (i := 1) rfl hp1 (by rfl) (by decide) ?_
      refine KOps.move ?_
      refine KOps.callK (by rintro _ _ q; exact q.keeps) (cells0_c hc (Row.ext hS.keeps hT)) ?_
      rintro v73 h73 hS73
      have hS0 : St _ _ (_ :: _) := St.trans hS hS73
      clear hS
      have hS := hS0
      clear hS0
      refine KOps.buildSlice hS rfl (by decide) (by show (v73.one && true) = true; rw [St.one hS (k := 0) rfl]; rfl) ?_
      intro v74 h' hS
      have hS0 := St.nil hS 1
      clear hS
      have hS := hS0
      clear hS0
      refine KOps.append hS (fun _ => rfl) (i := 0) rfl (a := 0) rfl (hS.rd 1 rfl) (b := 1) rfl (by show (v73.one && true) = true; rw [St.one hS (k := 2) rfl]; rfl) (by omega) ?_
      intro r75 h' hS
      simp only [List.set_cons_zero, List.set_cons_succ, Nat.zero_add] at hS
      have hr75 : r75.one = true := St.one hS (k := 0) rfl
      refine KOps.nilP hp32 ?_
      refine KOps.fieldAddr hp32 ?_
      intro p77 hp77
      refine KOps.store hS rfl (i := 3) rfl hp77 (by first | rfl | assumption) (by first | decide | simp) ?_
      intro h' hS
      simp only [List.set_cons_zero, List.set_cons_succ, Nat.zero_add] at hS
      refine KOps.done ?_
      refine blQ.normal ?_
      refine sqQ.normal ?_
      refine KA.sub (Sub.cons (t := 1) Look.eq (Sub.cons (t := 4) Look.eq (Sub.cons (t := 5) Look.eq (Sub.cons (t := 6) Look.eq (Sub.cons (t := 34) Look.eq (Sub.cons (t := 35) Look.eq (Sub.cons (t := 36) Look.eq (Sub.cons (t := 51) Look.eq (Sub.cons (t := 52) Look.eq (Sub.cons (t := 53) Look.eq (Sub.cons (t := 54) Look.eq (Sub.cons (t := 55) Look.eq (Sub.nil _))))))))))))) ?_
      refine KA.region rfl ?_
      refine KOps.add (by first | omega | (simp; omega)) (by first | omega | (simp; omega)) ?_
      refine KOps.move ?_
      refine KOps.done ?_
      exact lpQ.normal (1, r75) (by repeat (first | exact Sub.nil _ | refine Sub.cons Look.eq ?_ | refine Sub.cons (Eq.trans Look.eq (congrArg (AV.int _) (by first | omega | (dsimp only; omega)))) ?_)) (.inr ⟨rfl, v73, St.pick [3, 4, 0, 2] (by decide) rfl hS⟩) (by dsimp only; omega)
    · intro g50
      have g50 := of_not_decide g50
      refine KOps.guardNo (dj := 50) rfl rfl rfl ?_
      refine KOps.guardNo (dj := 50) rfl rfl rfl ?_
      refine KOps.guardNo (dj := 50) rfl rfl rfl ?_
      refine KOps.guardNo (dj := 50) rfl rfl rfl ?_
      refine KOps.pickF ?_
      refine KOps.assign ?_
      refine KOps.done ?_
      refine sqQ.normal ?_
      refine KA.sub (Sub.cons (t := 1) Look.eq (Sub.cons (t := 4) Look.eq (Sub.cons (t := 5) Look.eq (Sub.cons (t := 6) Look.eq (Sub.cons (t := 8) Look.eq (Sub.cons (t := 34) Look.eq (Sub.cons (t := 35) Look.eq (Sub.cons (t := 36) Look.eq (Sub.cons (t := 44) Look.eq (Sub.cons (t := 51) Look.eq (Sub.cons (t := 52) Look.eq (Sub.cons (t := 53) Look.eq (Sub.cons (t := 54) Look.eq (Sub.cons (t := 55) Look.eq (Sub.nil _))))))))))))))) ?_
      refine KA.condF ?_
      refine KA.seq ?_
      refine KA.region rfl ?_
      refine KOps.move ?_
      refine KOps.move ?_
      refine KOps.leqZ (by decide) ?_
      refine KOps.assign ?_
      refine KOps.done ?_
      refine sqQ.normal ?_
      refine KA.sub (Sub.cons (t := 1) Look.eq (Sub.cons (t := 4) Look.eq (Sub.cons (t := 6) Look.eq (Sub.cons (t := 8) Look.eq (Sub.cons (t := 34) Look.eq (Sub.cons (t := 35) Look.eq (Sub.cons (t := 36) Look.eq (Sub.cons (t := 51) Look.eq (Sub.cons (t := 52) Look.eq (Sub.cons (t := 53) Look.eq (Sub.cons (t := 54) Look.eq (Sub.cons (t := 55) Look.eq (Sub.cons (t := 57) Look.eq (Sub.nil _)))))))))))))) ?_
      refine KA.condF ?_
      refine KA.skip ?_
      refine blQ.normal ?_
      refine sqQ.normal ?_
      refine KA.sub (Sub.cons (t := 1) Look.eq (Sub.cons (t := 4) Look.eq (Sub.cons (t := 6) Look.eq (Sub.cons (t := 8) Look.eq (Sub.cons (t := 34) Look.eq (Sub.cons (t := 35) Look.eq (Sub.cons (t := 36) Look.eq (Sub.cons (t := 51) Look.eq (Sub.cons (t := 52) Look.eq (Sub.cons (t := 53) Look.eq (Sub.cons (t := 54) Look.eq (Sub.cons (t := 55) Look.eq (Sub.nil _))))))))))))) ?_
      refine KA.seq ?_
      refine KA.region rfl ?_
      refine KOps.move ?_
      refine KOps.assign ?_
      refine KOps.done ?_
      refine sqQ.normal ?_
      refine KA.sub (Sub.cons (t := 1) Look.eq (Sub.cons (t := 4) Look.eq (Sub.cons (t := 5) Look.eq (Sub.cons (t := 6) Look.eq (Sub.cons (t := 8) Look.eq (Sub.cons (t := 34) Look.eq (Sub.cons (t := 35) Look.eq (Sub.cons (t := 36) Look.eq (Sub.cons (t := 51) Look.eq (Sub.cons (t := 52) Look.eq (Sub.cons (t := 53) Look.eq (Sub.cons (t := 54) Look.eq (Sub.cons (t := 55) Look.eq (Sub.nil _)))))))))))))) ?_
      refine KA.seq ?_
      refine KA.region rfl ?_
      refine KOps.move ?_
      refine KOps.move ?_
      refine KOps.shlN 1 0 rfl rfl (by decide) (by decide) ?_
      refine KOps.orN 0 1 rfl rfl (by decide) (by decide) ?_
      show KOps _ _ _ _ _ _ _ ((65, .int .u8 1) :: _) _
      refine KOps.assign ?_
      refine KOps.done ?_
      refine sqQ.normal ?_
      refine KA.sub (Sub.cons (t := 1) Look.eq (Sub.cons (t := 4) Look.eq (Sub.cons (t := 5) Look.eq (Sub.cons (t := 6) Look.eq (Sub.cons (t := 8) Look.eq (Sub.cons (t := 34) Look.eq (Sub.cons (t := 35) Look.eq (Sub.cons (t := 36) Look.eq (Sub.cons (t := 51) Look.eq (Sub.cons (t := 52) Look.eq (Sub.cons (t := 53) Look.eq (Sub.cons (t := 54) Look.eq (Sub.cons (t := 55) Look.eq (Sub.nil _)))))))))))))) ?_
      refine KA.draw [7, 9] mixed rfl (by kernel_rfl) ?_
      refine KOps.move ?_
      refine KOps.move ?_
      refine KOps.nilP hp32 ?_
      refine KOps.fieldAddr hp32 ?_
      intro p69 hp69
      refine KOps.load hp69 (hS.rd 0 rfl) rfl ?_
      refine KOps.loadAll hS (i := 1) rfl hp1 (by rfl) (by decide) ?_
      refine KOps.move ?_
      refine KOps.callK (by rintro _ _ q; exact q.keeps) (cells0_c hc (Row.ext hS.keeps hT)) ?_
      rintro v73 h73 hS73
      have hS0 : St _ _ (_ :: _) := St.trans hS hS73
      clear hS
      have hS := hS0
      clear hS0
      refine KOps.buildSlice hS rfl (by decide) (by show (v73.one && true) = true; rw [St.one hS (k := 0) rfl]; rfl) ?_
      intro v74 h' hS
      have hS0 := St.nil hS 1
      clear hS
      have hS := hS0
      clear hS0
      refine KOps.append hS (fun _ => rfl) (i := 0) rfl (a := 0) rfl (hS.rd 1 rfl) (b := 1) rfl (by show (v73.one && true) = true; rw [St.one hS (k := 2) rfl]; rfl) (by omega) ?_
      intro r75 h' hS
      simp only [List.set_cons_zero, List.set_cons_succ, Nat.zero_add] at hS
      have hr75 : r75.one = true := St.one hS (k := 0) rfl
      refine KOps.nilP hp32 ?_
      refine KOps.fieldAddr hp32 ?_
      intro p77 hp77
      refine KOps.store hS rfl (i := 3) rfl hp77 (by first | rfl | assumption) (by first | decide | simp) ?_
      intro h' hS
      simp only [List.set_cons_zero, List.set_cons_succ, Nat.zero_add] at hS
      refine KOps.done ?_
      refine blQ.normal ?_
      refine sqQ.normal ?_
      refine KA.sub (Sub.cons (t := 1) Look.eq (Sub.cons (t := 4) Look.eq (Sub.cons (t := 5) Look.eq (Sub.cons (t := 6) Look.eq (Sub.cons (t := 34) Look.eq (Sub.cons (t := 35) Look.eq (Sub.cons (t := 36) Look.eq (Sub.cons (t := 51) Look.eq (Sub.cons (t := 52) Look.eq (Sub.cons (t := 53) Look.eq (Sub.cons (t := 54) Look.eq (Sub.cons (t := 55) Look.eq (Sub.nil _))))))))))))) ?_
      refine KA.region rfl ?_
      refine KOps.add (by first | omega | (simp; omega)) (by first | omega | (simp; omega)) ?_
      refine KOps.move ?_
      refine KOps.done ?_
      exact lpQ.normal (1, r75) (by repeat (first | exact Sub.nil _ | refine Sub.cons Look.eq ?_ | refine Sub.cons (Eq.trans Look.eq (congrArg (AV.int _) (by first | omega | (dsimp only; omega)))) ?_)) (.inr ⟨rfl, v73, St.pick [3, 4, 0, 2] (by decide) rfl hS⟩) (by dsimp only; omega)
  · intro c37
    obtain ⟨rfl, vr, hS⟩ : i = 1 ∧ ∃ vr, St h h3 [⟨p32, 0, [.int .i64 3, .int .i64 (c : Int), .int .i64 2, vT, vf], true⟩, ⟨p1, 0, [.int .i64 3, .int .i64 (c : Int), .int .i64 2, vT], true⟩, ⟨vf, 1, [vr], true⟩, ⟨vr, 1, ints (iotaL (3 * c)), true⟩] := by
      rcases hI with ⟨q, _⟩ | q
      · omega
      · exact q
    refine KA.exit ?_
    refine sqQ.exit ?_
    refine lpQ.exit ?_
    refine blQ.here ?_
    refine sqQ.normal ?_
    refine KA.sub (Sub.cons (t := 1) Look.eq (Sub.cons (t := 4) Look.eq (Sub.cons (t := 6) Look.eq (Sub.nil _)))) ?_
    refine KA.seq ?_
    refine KA.seq ?_
    refine KA.region rfl ?_
    refine KOps.move ?_
    refine KOps.andN 1 1 rfl rfl (by decide) (by decide) ?_
    refine KOps.eqlZ (by decide) ?_
    refine KOps.done ?_
    refine sqQ.normal ?_
    refine KA.sub (Sub.cons (t := 1) Look.eq (Sub.cons (t := 4) Look.eq (Sub.cons (t := 6) Look.eq (Sub.cons (t := 81) Look.eq (Sub.nil _))))) ?_
    refine KA.condF ?_
    refine KA.skip ?_
    refine sqQ.normal ?_
    refine KA.sub (Sub.cons (t := 1) Look.eq (Sub.cons (t := 4) Look.eq (Sub.cons (t := 6) Look.eq (Sub.nil _)))) ?_
    refine KA.seq ?_
    refine KA.seq ?_
    refine KA.region rfl ?_
    refine KOps.fieldAddr hp1 ?_
    intro p82 hp82
    refine KOps.load hp82 (hS.rd 1 rfl) rfl ?_
    refine KOps.lenI (by first | assumption | exact Rd.ext hS.keeps (by assumption)) ?_
    refine KOps.move ?_
    refine KOps.done ?_
    refine sqQ.normal ?_
    refine KA.sub (Sub.cons (t := 1) Look.eq (Sub.cons (t := 4) Look.eq (Sub.cons (t := 6) Look.eq (Sub.cons (t := 83) Look.eq (Sub.cons (t := 84) Look.eq (Sub.cons (t := 85) Look.eq (Sub.nil _))))))) ?_
    refine KA.block ?_
    refine KA.loop (X := Nat) (fun i => [(1, p1), (4, p32), (6, .int .u8 1), (83, vT), (84, .int .i64 1), (85, .int .i64 ((i : Nat) : Int))]) (fun i h' => i ≤ 1 ∧ St h h' [⟨p32, 0, [.int .i64 3, .int .i64 (c : Int), .int .i64 2, vT, vf], true⟩, ⟨p1, 0, [.int .i64 3, .int .i64 (c : Int), .int .i64 2, vT], true⟩, ⟨vf, 1, [vr], true⟩, ⟨vr, 1, ints (iotaL (3 * c)), true⟩]) (fun i => 1 - i) 0 (by repeat (first | exact Sub.nil _ | refine Sub.cons Look.eq ?_ | refine Sub.cons (Eq.trans Look.eq (congrArg (AV.int _) (by first | omega | (dsimp only; omega)))) ?_)) ?_ ?_
    · exact ⟨by decide, hS⟩
    rintro i h4 ⟨hi, hS⟩
    refine KA.seq ?_
    refine KA.region rfl ?_
    refine KOps.lss ?_
    refine KOps.done ?_
    refine sqQ.normal ?_
    refine KA.seq ?_
    refine KA.condD ?_ ?_
    · intro c86
      refine KA.skip ?_
      refine sqQ.normal ?_
      refine KA.sub (Sub.cons (t := 1) Look.eq (Sub.cons (t := 4) Look.eq (Sub.cons (t := 6) Look.eq (Sub.cons (t := 83) Look.eq (Sub.cons (t := 84) Look.eq (Sub.cons (t := 85) Look.eq (Sub.nil _))))))) ?_
      refine KA.seq ?_
      refine KA.block ?_
      refine KA.seq ?_
      refine KA.region rfl ?_
      obtain rfl : i = 0 := by omega
      refine KOps.indexIJ (Row.ext hS.keeps hT) (j := 0) rfl (by decide) ?_
      intro p87 hp87
      refine KOps.loadI hp87 (Row.ext hS.keeps hT) (by decide) ?_
      show KOps _ _ _ _ _ _ _ ((88, .int .i64 0) :: _) _
      refine KOps.assign ?_
      refine KOps.done ?_
      refine sqQ.normal ?_
      refine KA.sub (Sub.cons (t := 1) Look.eq (Sub.cons (t := 4) Look.eq (Sub.cons (t := 6) Look.eq (Sub.cons (t := 10) Look.eq (Sub.cons (t := 83) Look.eq (Sub.cons (t := 84) Look.eq (Sub.cons (t := 85) Look.eq (Sub.nil _)))))))) ?_
      refine KA.seq ?_
      refine KA.region rfl ?_
      refine KOps.fieldAddr hp1 ?_
      intro p89 hp89
      refine KOps.load hp89 (hS.rd 1 rfl) rfl ?_
      refine KOps.lenI (by first | assumption | exact Rd.ext hS.keeps (by assumption)) ?_
      refine KOps.move ?_
      refine KOps.done ?_
      refine sqQ.normal ?_
      refine KA.sub (Sub.cons (t := 1) Look.eq (Sub.cons (t := 4) Look.eq (Sub.cons (t := 6) Look.eq (Sub.cons (t := 10) Look.eq (Sub.cons (t := 83) Look.eq (Sub.cons (t := 84) Look.eq (Sub.cons (t := 85) Look.eq (Sub.cons (t := 90) Look.eq (Sub.cons (t := 91) Look.eq (Sub.cons (t := 92) Look.eq (Sub.nil _))))))))))) ?_
      refine KA.block ?_
      refine KA.loop (X := Nat) (fun j => [(1, p1), (4, p32), (6, .int .u8 1), (10, .int .i64 0), (83, vT), (84, .int .i64 1), (85, .int .i64 ((0 : Nat) : Int)), (90, vT), (91, .int .i64 1), (92, .int .i64 ((j : Nat) : Int))]) (fun j h' => j ≤ 1 ∧ St h h' [⟨p32, 0, [.int .i64 3, .int .i64 (c : Int), .int .i64 2, vT, vf], true⟩, ⟨p1, 0, [.int .i64 3, .int .i64 (c : Int), .int .i64 2, vT], true⟩, ⟨vf, 1, [vr], true⟩, ⟨vr, 1, ints (iotaL (3 * c)), true⟩]) (fun j => 1 - j) 0 (by repeat (first | exact Sub.nil _ | refine Sub.cons Look.eq ?_ | refine Sub.cons (Eq.trans Look.eq (congrArg (AV.int _) (by first | omega | (dsimp only; omega)))) ?_)) ?_ ?_
      · exact ⟨by decide, hS⟩
      rintro j h5 ⟨hj, hS⟩
      refine KA.seq ?_
      refine KA.region rfl ?_
      refine KOps.lss ?_
      refine KOps.done ?_
      refine sqQ.normal ?_
      refine KA.seq ?_
      refine KA.condD ?_ ?_
      · intro c93
        refine KA.skip ?_
        refine sqQ.normal ?_
        refine KA.sub (Sub.cons (t := 1) Look.eq (Sub.cons (t := 4) Look.eq (Sub.cons (t := 6) Look.eq (Sub.cons (t := 10) Look.eq (Sub.cons (t := 83) Look.eq (Sub.cons (t := 84) Look.eq (Sub.cons (t := 85) Look.eq (Sub.cons (t := 90) Look.eq (Sub.cons (t := 91) Look.eq (Sub.cons (t := 92) Look.eq (Sub.nil _))))))))))) ?_
        refine KA.seq ?_
        refine KA.block ?_
        refine KA.seq ?_
        refine KA.region rfl ?_
        obtain rfl : j = 0 := by omega
        refine KOps.indexIJ (Row.ext hS.keeps hT) (j := 0) rfl (by decide) ?_
        intro p94 hp94
        refine KOps.loadI hp94 (Row.ext hS.keeps hT) (by decide) ?_
        show KOps _ _ _ _ _ _ _ ((95, .int .i64 0) :: _) _
        refine KOps.assign ?_
        refine KOps.done ?_
        refine sqQ.normal ?_
        refine KA.sub (Sub.cons (t := 1) Look.eq (Sub.cons (t := 4) Look.eq (Sub.cons (t := 6) Look.eq (Sub.cons (t := 10) Look.eq (Sub.cons (t := 12) Look.eq (Sub.cons (t := 83) Look.eq (Sub.cons (t := 84) Look.eq (Sub.cons (t := 85) Look.eq (Sub.cons (t := 90) Look.eq (Sub.cons (t := 91) Look.eq (Sub.cons (t := 92) Look.eq (Sub.nil _)))))))))))) ?_
        refine KA.seq ?_
        refine KA.region rfl ?_
        refine KOps.move ?_
        refine KOps.call rfl (sensed0_c) ?_
        rintro _ hx ⟨rfl, hK⟩
        have hS0 : St _ _ _ := St.trans hS (St.ofK hK)
        clear hS
        have hS := hS0
        clear hS0
        simp only [List.nil_append] at hS
        refine KOps.move ?_
        refine KOps.call rfl (sensed0_c) ?_
        rintro _ hx ⟨rfl, hK⟩
        have hS0 : St _ _ _ := St.trans hS (St.ofK hK)
        clear hS
        have hS := hS0
        clear hS0
        simp only [List.nil_append] at hS
        refine KOps.call rfl (then0_c) ?_
        rintro _ hx ⟨rfl, hK⟩
        have hS0 : St _ _ _ := St.trans hS (St.ofK hK)
        clear hS
        have hS := hS0
        clear hS0
        simp only [List.nil_append] at hS
        refine KOps.call rfl (turn0_c) ?_
        rintro _ hx ⟨rfl, hK⟩
        have hS0 : St _ _ _ := St.trans hS (St.ofK hK)
        clear hS
        have hS := hS0
        clear hS0
        simp only [List.nil_append] at hS
        refine KOps.assign ?_
        refine KOps.done ?_
        refine sqQ.normal ?_
        refine KA.sub (Sub.cons (t := 1) Look.eq (Sub.cons (t := 4) Look.eq (Sub.cons (t := 6) Look.eq (Sub.cons (t := 10) Look.eq (Sub.cons (t := 13) Look.eq (Sub.cons (t := 83) Look.eq (Sub.cons (t := 84) Look.eq (Sub.cons (t := 85) Look.eq (Sub.cons (t := 90) Look.eq (Sub.cons (t := 91) Look.eq (Sub.cons (t := 92) Look.eq (Sub.nil _)))))))))))) ?_
        refine KA.seq ?_
        refine KA.region rfl ?_
        refine KOps.move ?_
        refine KOps.move ?_
        refine KOps.shrN 1 0 rfl rfl (by decide) ?_
        refine KOps.andN 1 1 rfl rfl (by decide) (by decide) ?_
        refine KOps.eqlZ (by decide) ?_
        refine KOps.done ?_
        refine sqQ.normal ?_
        refine KA.sub (Sub.cons (t := 1) Look.eq (Sub.cons (t := 4) Look.eq (Sub.cons (t := 6) Look.eq (Sub.cons (t := 10) Look.eq (Sub.cons (t := 83) Look.eq (Sub.cons (t := 84) Look.eq (Sub.cons (t := 85) Look.eq (Sub.cons (t := 90) Look.eq (Sub.cons (t := 91) Look.eq (Sub.cons (t := 92) Look.eq (Sub.cons (t := 106) Look.eq (Sub.nil _)))))))))))) ?_
        refine KA.condF ?_
        refine KA.skip ?_
        refine blQ.normal ?_
        refine sqQ.normal ?_
        refine KA.sub (Sub.cons (t := 1) Look.eq (Sub.cons (t := 4) Look.eq (Sub.cons (t := 6) Look.eq (Sub.cons (t := 10) Look.eq (Sub.cons (t := 83) Look.eq (Sub.cons (t := 84) Look.eq (Sub.cons (t := 85) Look.eq (Sub.cons (t := 90) Look.eq (Sub.cons (t := 91) Look.eq (Sub.cons (t := 92) Look.eq (Sub.nil _))))))))))) ?_
        refine KA.region rfl ?_
        refine KOps.add (by first | omega | (simp; omega)) (by first | omega | (simp; omega)) ?_
        refine KOps.move ?_
        refine KOps.done ?_
        exact lpQ.normal 1 (by repeat (first | exact Sub.nil _ | refine Sub.cons Look.eq ?_ | refine Sub.cons (Eq.trans Look.eq (congrArg (AV.int _) (by first | omega | (dsimp only; omega)))) ?_)) ⟨by decide, hS⟩ (by decide)
      · intro c93
        refine KA.exit ?_
        refine sqQ.exit ?_
        refine lpQ.exit ?_
        refine blQ.here ?_
        refine blQ.normal ?_
        refine sqQ.normal ?_
        refine KA.sub (Sub.cons (t := 1) Look.eq (Sub.cons (t := 4) Look.eq (Sub.cons (t := 6) Look.eq (Sub.cons (t := 83) Look.eq (Sub.cons (t := 84) Look.eq (Sub.cons (t := 85) Look.eq (Sub.nil _))))))) ?_
        refine KA.region rfl ?_
        refine KOps.add (by first | omega | (simp; omega)) (by first | omega | (simp; omega)) ?_
        refine KOps.move ?_
        refine KOps.done ?_
        exact lpQ.normal 1 (by repeat (first | exact Sub.nil _ | refine Sub.cons Look.eq ?_ | refine Sub.cons (Eq.trans Look.eq (congrArg (AV.int _) (by first | omega | (dsimp only; omega)))) ?_)) ⟨by decide, hS⟩ (by decide)
    · intro c86
      refine KA.exit ?_
      refine sqQ.exit ?_
      refine lpQ.exit ?_
      refine blQ.here ?_
      refine sqQ.normal ?_
      refine KA.sub (Sub.cons (t := 4) Look.eq (Sub.nil _)) ?_
      refine KA.seq ?_
      refine KA.region rfl ?_
      refine KOps.move ?_
      refine KOps.assign ?_
      refine KOps.assign ?_
      refine KOps.done ?_
      refine sqQ.normal ?_
      refine KA.sub (Sub.cons (t := 2) Look.eq (Sub.cons (t := 3) Look.eq (Sub.nil _))) ?_
      refine KA.ret ?_
      refine fnQ.retN ?_
      exact ⟨p32, vf, vr, rfl, hp32, St.pick [0, 2, 3] (by decide) rfl hS⟩

end Go.Am

namespace Go.Am
open Go.RowKit
theorem fill_next {l : List Int} {i n : Nat} (hl : l.length = n) (hi : i < n) : (l.take i ++ List.replicate (n - i) 0).set i (l.getD i 0) = l.take (i + 1) ++ List.replicate (n - (i + 1)) 0 := by
  have h1 : (l.take i).length = i := by simp; omega
  rw [show n - i = (n - (i + 1)) + 1 by omega, List.replicate_succ, List.set_append_right _ _ (by omega), h1, Nat.sub_self, List.set_cons_zero, List.take_add_one, List.getElem?_eq_getElem (by omega), List.getD_eq_getElem?_getD, List.getElem?_eq_getElem (by omega)]
  simp only [Option.toList, Option.getD_some, List.append_assoc, List.cons_append, List.nil_append]
theorem SeenX.keeps {lo : Nat} {h h' : AHeap} {F : Nat} {L : List (Nat × List AV)} (k : Keeps h h') (s : SeenX lo h F L) : SeenX lo h' F L := by
  obtain ⟨x, hf, hs⟩ := s
  exact ⟨x, k.fam_some hf, fun e he => ⟨(hs e he).1, k.get_some (hs e he).2⟩⟩
theorem ints_snoc (l : List Int) (c : Int) : ints l ++ [.int .i64 c] = ints (l ++ [c]) := by simp [ints]
theorem getD_memK {l : List Int} {i : Nat} (h : i < l.length) : l.getD i 0 ∈ l := by
  rw [List.getD_eq_getElem?_getD, List.getElem?_eq_getElem h]; exact List.getElem_mem h
def partB (l : List Int) (e k : Nat) : List (List Int) := (List.range k).flatMap fun c : Nat => (bitsL e).map ((l ++ [(c : Int)]) ++ ·)
theorem partB_next (l : List Int) (e k : Nat) : partB l e (k + 1) = partB l e k ++ (bitsL e).map ((l ++ [(k : Int)]) ++ ·) := by
  unfold partB
  rw [List.range_succ, List.flatMap_append]
  simp
theorem partB_len (l : List Int) (e k : Nat) : (partB l e k).length = k * 2 ^ e := by
  induction k with
  | zero => simp [partB]
  | succ k ih => rw [partB_next, List.length_append, ih, List.length_map, bits_num, Nat.succ_mul]
theorem partB_two (l : List Int) (e : Nat) : partB l e 2 = (bitsL (e + 1)).map (l ++ ·) := by
  have h0 : partB l e 0 = [] := rfl
  have h1 := partB_next l e 0
  have h2 := partB_next l e 1
  rw [h0, List.nil_append] at h1
  rw [h1] at h2
  rw [h2, bitsL, List.map_append, List.map_map, List.map_map]
  have q : ∀ c : Int, (bitsL e).map ((l ++ [c]) ++ ·) = (bitsL e).map ((l ++ ·) ∘ (c :: ·)) := fun c => List.map_congr_left fun x _ => by simp
  rw [q, q]
  rfl

theorem turned0_c {h : AHeap} {pb vf vr vT vb : AV} {c n : Nat} {l : List Int} (hpb : AddrOf pb pb 0 0) (hP : Rd h pb 0 [.int .i64 3, .int .i64 (c : Int), .int .i64 2, vT, vf]) (hf : Rd h vf 1 [vr]) (hr : Row h vr (iotaL n)) (hb : Row h vb l) (hl : l.length = n) (hn : n ≤ 9) : ACalls Go.Proofs.Try.prog 32 [pb, vb, .int .i64 0] h (fun q h' => St h h' [⟨q, 1, ints l, true⟩]) := by
  refine KA.fn 35 [.tmp 6] Go.Proofs.Try.func32 rfl (by decide) rfl rfl (Nat.le_of_ble_eq_true rfl) ?_
  have hS := St.refl h
  have hil := iotaL_len n
  show KA _ 35 _ _ [(0, pb), (1, vb), (2, .int .i64 0)] _
  refine KA.seq ?_
  refine KA.region rfl ?_
  refine KOps.assign ?_
  refine KOps.done ?_
  refine sqQ.normal ?_
  refine KA.sub (Sub.cons (t := 0) Look.eq (Sub.cons (t := 1) Look.eq (Sub.cons (t := 2) Look.eq (Sub.nil _)))) ?_
  refine KA.seq ?_
  refine KA.region rfl ?_
  refine KOps.move ?_
  refine KOps.lenI (Row.ext hS.keeps hb) ?_
  refine KOps.makeI hS (by first | omega | (simp; omega)) (by first | omega | (simp; omega)) (by first | omega | (simp; omega)) ?_
  intro v12 h' hS
  rw [show ints (List.replicate ((l.length : Nat) : Int).toNat 0) = ints (l.take 0 ++ List.replicate (n - 0) 0) by rw [Int.toNat_natCast, hl]; simp] at hS
  refine KOps.assign ?_
  refine KOps.done ?_
  refine sqQ.normal ?_
  refine KA.sub (Sub.cons (t := 0) Look.eq (Sub.cons (t := 1) Look.eq (Sub.cons (t := 2) Look.eq (Sub.cons (t := 7) Look.eq (Sub.nil _))))) ?_
  refine KA.seq ?_
  refine KA.seq ?_
  refine KA.region rfl ?_
  refine KOps.move ?_
  refine KOps.nilP hpb ?_
  refine KOps.fieldAddr hpb ?_
  intro p15 hp15
  refine KOps.load hp15 (Rd.ext hS.keeps hP) rfl ?_
  refine KOps.move ?_
  refine KOps.indexVJ (Rd.ext hS.keeps hf) (j := 0) rfl Nat.zero_lt_one ?_
  intro p18 hp18
  refine KOps.loadV hp18 (Rd.ext hS.keeps hf) Nat.zero_lt_one ?_
  show KOps _ _ _ _ _ _ _ ((19, vr) :: _) _
  refine KOps.lenI (Row.ext hS.keeps hr) ?_
  rw [hil]
  refine KOps.move ?_
  refine KOps.done ?_
  refine sqQ.normal ?_
  refine KA.sub (Sub.cons (t := 1) Look.eq (Sub.cons (t := 7) Look.eq (Sub.cons (t := 19) Look.eq (Sub.cons (t := 20) Look.eq (Sub.cons (t := 21) Look.eq (Sub.nil _)))))) ?_
  refine KA.block ?_
  refine KA.loop (X := Nat) (fun i => [(1, vb), (7, v12), (19, vr), (20, .int .i64 (n : Int)), (21, .int .i64 ((i : Nat) : Int))]) (fun i h' => i ≤ n ∧ St h h' [⟨v12, 1, ints (l.take i ++ List.replicate (n - i) 0), true⟩]) (fun i => n - i) 0 (by repeat (first | exact Sub.nil _ | refine Sub.cons Look.eq ?_ | refine Sub.cons (Eq.trans Look.eq (congrArg (AV.int _) (by first | omega | (dsimp only; omega)))) ?_)) ?_ ?_
  · exact ⟨Nat.zero_le _, hS⟩
  rintro i h3 ⟨hi, hS⟩
  refine KA.seq ?_
  refine KA.region rfl ?_
  refine KOps.lss ?_
  refine KOps.done ?_
  refine sqQ.normal ?_
  refine KA.seq ?_
  refine KA.condD ?_ ?_
  · intro c22
    refine KA.skip ?_
    refine sqQ.normal ?_
    refine KA.sub (Sub.cons (t := 1) Look.eq (Sub.cons (t := 7) Look.eq (Sub.cons (t := 19) Look.eq (Sub.cons (t := 20) Look.eq (Sub.cons (t := 21) Look.eq (Sub.nil _)))))) ?_
    refine KA.seq ?_
    refine KA.block ?_
    refine KA.seq ?_
    refine KA.region rfl ?_
    refine KOps.move ?_
    refine KOps.indexIJ (Row.ext hS.keeps hr) (j := i) rfl (by first | omega | (simp; done) | (simp; omega)) ?_
    intro p24 hp24
    refine KOps.loadI hp24 (Row.ext hS.keeps hr) (by omega) ?_
    rw [iotaL_get (by omega)]
    refine KOps.assign ?_
    refine KOps.assign ?_
    refine KOps.done ?_
    refine sqQ.normal ?_
    refine KA.sub (Sub.cons (t := 1) Look.eq (Sub.cons (t := 7) Look.eq (Sub.cons (t := 8) Look.eq (Sub.cons (t := 9) Look.eq (Sub.cons (t := 19) Look.eq (Sub.cons (t := 20) Look.eq (Sub.cons (t := 21) Look.eq (Sub.nil _)))))))) ?_
    refine KA.region rfl ?_
    refine KOps.move ?_
    refine KOps.move ?_
    refine KOps.move ?_
    refine KOps.move ?_
    refine KOps.indexIJ (Row.ext hS.keeps hb) (j := i) rfl (by first | omega | (simp; done) | (simp; omega)) ?_
    intro p30 hp30
    refine KOps.loadI hp30 (Row.ext hS.keeps hb) (by first | omega | (simp; done) | (simp; omega)) ?_
    refine KOps.indexIJ (hS.rd 0 rfl) (j := i) rfl (by first | omega | (simp; done) | (simp; omega)) ?_
    intro p32 hp32
    refine KOps.storeI hS rfl (i := 0) rfl hp32 (by first | omega | (simp; done) | (simp; omega)) ?_
    intro h' hS
    refine KOps.done ?_
    refine blQ.normal ?_
    refine sqQ.normal ?_
    refine KA.sub (Sub.cons (t := 1) Look.eq (Sub.cons (t := 7) Look.eq (Sub.cons (t := 19) Look.eq (Sub.cons (t := 20) Look.eq (Sub.cons (t := 21) Look.eq (Sub.nil _)))))) ?_
    refine KA.region rfl ?_
    refine KOps.add (by first | omega | (simp; omega)) (by first | omega | (simp; omega)) ?_
    refine KOps.move ?_
    refine KOps.done ?_
    simp only [List.set_cons_zero] at hS
    rw [fill_next hl (by omega)] at hS
    exact lpQ.normal (i + 1) (by repeat (first | exact Sub.nil _ | refine Sub.cons Look.eq ?_ | refine Sub.cons (Eq.trans Look.eq (congrArg (AV.int _) (by first | omega | (dsimp only; omega)))) ?_)) ⟨by omega, hS⟩ (by omega)
  · intro c22
    refine KA.exit ?_
    refine sqQ.exit ?_
    refine lpQ.exit ?_
    refine blQ.here ?_
    refine sqQ.normal ?_
    refine KA.sub (Sub.cons (t := 7) Look.eq (Sub.nil _)) ?_
    refine KA.seq ?_
    refine KA.region rfl ?_
    refine KOps.move ?_
    refine KOps.assign ?_
    refine KOps.done ?_
    refine sqQ.normal ?_
    refine KA.sub (Sub.cons (t := 6) Look.eq (Sub.nil _)) ?_
    refine KA.ret ?_
    refine fnQ.ret1 ?_
    obtain rfl : i = n := by omega
    rw [Nat.sub_self, List.replicate_zero, List.append_nil, List.take_of_length_le (by omega)] at hS
    exact hS

theorem cmpSame_c {h : AHeap} {v u : AV} {a : List Int} (hv : Row h v a) (hu : Row h u a) (h01 : ∀ x ∈ a, x = 0 ∨ x = 1) (hlen : a.length ≤ 9) : ACalls Go.Proofs.Try.prog 31 [v, u] h (fun q h' => q = .int .i64 0 ∧ Keeps h h') := by
  refine KA.fn 36 [.tmp 4] Go.Proofs.Try.func31 rfl (by decide) rfl rfl (Nat.le_of_ble_eq_true rfl) ?_
  have hS := St.refl h
  show KA _ 36 _ _ [(0, v), (1, u)] _
  refine KA.seq ?_
  refine KA.region rfl ?_
  refine KOps.assign ?_
  refine KOps.done ?_
  refine sqQ.normal ?_
  refine KA.sub (Sub.cons (t := 0) Look.eq (Sub.cons (t := 1) Look.eq (Sub.nil _))) ?_
  refine KA.seq ?_
  refine KA.seq ?_
  refine KA.region rfl ?_
  refine KOps.move ?_
  refine KOps.lenI (Row.ext hS.keeps hv) ?_
  refine KOps.move ?_
  refine KOps.done ?_
  refine sqQ.normal ?_
  refine KA.block ?_
  refine KA.loop (X := Nat) (fun i => [(0, v), (1, u), (9, v), (10, .int .i64 (a.length : Int)), (11, .int .i64 (i : Int))]) (fun i h' => i ≤ a.length ∧ St h h' []) (fun i => a.length - i) 0 (by repeat (first | exact Sub.nil _ | refine Sub.cons Look.eq ?_ | refine Sub.cons (Eq.trans Look.eq (congrArg (AV.int _) (by first | omega | (dsimp only; omega)))) ?_)) ?_ ?_
  · exact ⟨Nat.zero_le _, hS⟩
  rintro i h3 ⟨hi, hS⟩
  refine KA.seq ?_
  refine KA.region rfl ?_
  refine KOps.lss ?_
  refine KOps.done ?_
  refine sqQ.normal ?_
  refine KA.seq ?_
  refine KA.condD ?_ ?_
  · intro c12
    refine KA.skip ?_
    refine sqQ.normal ?_
    refine KA.sub (Sub.cons (t := 0) Look.eq (Sub.cons (t := 1) Look.eq (Sub.cons (t := 9) Look.eq (Sub.cons (t := 10) Look.eq (Sub.cons (t := 11) Look.eq (Sub.nil _)))))) ?_
    refine KA.seq ?_
    refine KA.block ?_
    refine KA.seq ?_
    refine KA.region rfl ?_
    refine KOps.move ?_
    refine KOps.indexIJ (Row.ext hS.keeps hv) (j := i) rfl (by first | omega | (simp; done) | (simp; omega)) ?_
    intro p14 hp14
    refine KOps.loadI hp14 (Row.ext hS.keeps hv) (by first | omega | (simp; done) | (simp; omega)) ?_
    refine KOps.assign ?_
    refine KOps.assign ?_
    refine KOps.done ?_
    refine sqQ.normal ?_
    refine KA.sub (Sub.cons (t := 0) Look.eq (Sub.cons (t := 1) Look.eq (Sub.cons (t := 5) Look.eq (Sub.cons (t := 6) Look.eq (Sub.cons (t := 9) Look.eq (Sub.cons (t := 10) Look.eq (Sub.cons (t := 11) Look.eq (Sub.nil _)))))))) ?_
    refine KA.seq ?_
    refine KA.seq ?_
    refine KA.region rfl ?_
    refine KOps.move ?_
    refine KOps.move ?_
    refine KOps.lenI (Row.ext hS.keeps hu) ?_
    refine KOps.geq ?_
    refine KOps.done ?_
    refine sqQ.normal ?_
    refine KA.sub (Sub.cons (t := 0) Look.eq (Sub.cons (t := 1) Look.eq (Sub.cons (t := 5) Look.eq (Sub.cons (t := 6) Look.eq (Sub.cons (t := 9) Look.eq (Sub.cons (t := 10) Look.eq (Sub.cons (t := 11) Look.eq (Sub.cons (t := 19) Look.eq (Sub.nil _))))))))) ?_
    refine KA.condD ?_ ?_
    · intro c19
      exfalso; omega
    · intro c19
      refine KA.skip ?_
      refine sqQ.normal ?_
      refine KA.sub (Sub.cons (t := 0) Look.eq (Sub.cons (t := 1) Look.eq (Sub.cons (t := 5) Look.eq (Sub.cons (t := 6) Look.eq (Sub.cons (t := 9) Look.eq (Sub.cons (t := 10) Look.eq (Sub.cons (t := 11) Look.eq (Sub.nil _)))))))) ?_
      refine KA.seq ?_
      refine KA.region rfl ?_
      refine KOps.move ?_
      refine KOps.move ?_
      refine KOps.indexIJ (Row.ext hS.keeps hu) (j := i) rfl (by first | omega | (simp; done) | (simp; omega)) ?_
      intro p22 hp22
      refine KOps.loadI hp22 (Row.ext hS.keeps hu) (by first | omega | (simp; done) | (simp; omega)) ?_
      refine KOps.assign ?_
      refine KOps.done ?_
      refine sqQ.normal ?_
      refine KA.sub (Sub.cons (t := 0) Look.eq (Sub.cons (t := 1) Look.eq (Sub.cons (t := 6) Look.eq (Sub.cons (t := 7) Look.eq (Sub.cons (t := 9) Look.eq (Sub.cons (t := 10) Look.eq (Sub.cons (t := 11) Look.eq (Sub.nil _)))))))) ?_
      refine KA.seq ?_
      refine KA.region rfl ?_
      refine KOps.move ?_
      refine KOps.move ?_
      refine KOps.call rfl (cmpEq_c (h01 _ (getD_memK (by omega)))) ?_
      rintro _ hx ⟨rfl, hK⟩
      have hS0 : St _ _ _ := St.trans hS (St.ofK hK)
      clear hS
      have hS := hS0
      clear hS0
      simp only [List.nil_append] at hS
      refine KOps.assign ?_
      refine KOps.done ?_
      refine sqQ.normal ?_
      refine KA.sub (Sub.cons (t := 0) Look.eq (Sub.cons (t := 1) Look.eq (Sub.cons (t := 8) Look.eq (Sub.cons (t := 9) Look.eq (Sub.cons (t := 10) Look.eq (Sub.cons (t := 11) Look.eq (Sub.nil _))))))) ?_
      refine KA.seq ?_
      refine KA.region rfl ?_
      refine KOps.move ?_
      refine KOps.neqZ rfl ?_
      refine KOps.done ?_
      refine sqQ.normal ?_
      refine KA.sub (Sub.cons (t := 0) Look.eq (Sub.cons (t := 1) Look.eq (Sub.cons (t := 8) Look.eq (Sub.cons (t := 9) Look.eq (Sub.cons (t := 10) Look.eq (Sub.cons (t := 11) Look.eq (Sub.cons (t := 28) Look.eq (Sub.nil _)))))))) ?_
      refine KA.condF ?_
      refine KA.skip ?_
      refine blQ.normal ?_
      refine sqQ.normal ?_
      refine KA.sub (Sub.cons (t := 0) Look.eq (Sub.cons (t := 1) Look.eq (Sub.cons (t := 9) Look.eq (Sub.cons (t := 10) Look.eq (Sub.cons (t := 11) Look.eq (Sub.nil _)))))) ?_
      refine KA.region rfl ?_
      refine KOps.add (by first | omega | (simp; omega)) (by first | omega | (simp; omega)) ?_
      refine KOps.move ?_
      refine KOps.done ?_
      exact lpQ.normal (i + 1) (by repeat (first | exact Sub.nil _ | refine Sub.cons Look.eq ?_ | refine Sub.cons (Eq.trans Look.eq (congrArg (AV.int _) (by first | omega | (dsimp only; omega)))) ?_)) ⟨by omega, hS⟩ (by omega)
  · intro c12
    refine KA.exit ?_
    refine sqQ.exit ?_
    refine lpQ.exit ?_
    refine blQ.here ?_
    refine sqQ.normal ?_
    refine KA.sub (Sub.cons (t := 0) Look.eq (Sub.cons (t := 1) Look.eq (Sub.nil _))) ?_
    refine KA.seq ?_
    refine KA.seq ?_
    refine KA.region rfl ?_
    refine KOps.move ?_
    refine KOps.lenI (Row.ext hS.keeps hv) ?_
    refine KOps.move ?_
    refine KOps.lenI (Row.ext hS.keeps hu) ?_
    refine KOps.lss ?_
    refine KOps.done ?_
    refine sqQ.normal ?_
    refine KA.sub (Sub.cons (t := 35) Look.eq (Sub.nil _)) ?_
    refine KA.condD ?_ ?_
    · intro c35
      exfalso; omega
    · intro c35
      refine KA.skip ?_
      refine sqQ.normal ?_
      refine KA.sub (Sub.nil _) ?_
      refine KA.seq ?_
      refine KA.region rfl ?_
      refine KOps.assign ?_
      refine KOps.done ?_
      refine sqQ.normal ?_
      refine KA.ret ?_
      refine fnQ.ret1 ?_
      exact ⟨rfl, hS.keeps⟩

theorem clone0_c {h : AHeap} {v : AV} {l : List Int} (hv : Row h v l) (hlen : l.length ≤ 1000000) (h0 : l ≠ []) : ACalls Go.Proofs.Try.prog 33 [v] h (fun r h' => St h h' [⟨r, 1, ints l, true⟩]) := by
  refine KA.fn 8 [.tmp 2] Go.Proofs.Try.func33 rfl (by decide) rfl rfl (Nat.le_of_ble_eq_true rfl) ?_
  have hS := St.refl h
  show KA _ 8 _ _ [(0, v)] _
  refine KA.seq ?_
  refine KA.region rfl ?_
  refine KOps.assign ?_
  refine KOps.done ?_
  refine sqQ.normal ?_
  refine KA.sub (Sub.cons (t := 0) Look.eq (Sub.nil _)) ?_
  refine KA.seq ?_
  refine KA.seq ?_
  refine KA.region rfl ?_
  refine KOps.move ?_
  refine KOps.slcEq hv (by decide) (by intro he; exact h0 (by simpa [ints] using he)) ?_
  refine KOps.done ?_
  refine sqQ.normal ?_
  refine KA.sub (Sub.cons (t := 0) Look.eq (Sub.cons (t := 4) Look.eq (Sub.nil _))) ?_
  refine KA.condF ?_
  refine KA.skip ?_
  refine sqQ.normal ?_
  refine KA.sub (Sub.cons (t := 0) Look.eq (Sub.nil _)) ?_
  refine KA.seq ?_
  refine KA.region rfl ?_
  refine KOps.buildSlice hS rfl (by decide) rfl ?_
  intro v5 h' hS
  refine KOps.move ?_
  refine KOps.appendAll hS (fun _ => rfl) (i := 0) (p := []) rfl (Row.ext hS.keeps hv) (by rw [List.length_nil]; omega) ?_
  intro r7 h6 hr7 hS
  simp only [List.set_cons_zero, List.nil_append] at hS
  refine KOps.assign ?_
  refine KOps.done ?_
  refine sqQ.normal ?_
  refine KA.sub (Sub.cons (t := 2) Look.eq (Sub.nil _)) ?_
  refine KA.ret ?_
  refine fnQ.ret1 ?_
  exact hS

abbrev bkO (b N : Nat) (l : List Int) : Obj := ⟨.slc b 0 N 1 false, 1, ints l, false⟩
/-- What the closure that adds backs works with. -/
structure AP where
  c : Nat
  n : Nat
  p1 : AV
  p2 : AV
  p3 : AV
  pb : AV
  vf : AV
  vr : AV
  vT : AV
abbrev AP.objs (a : AP) (vo : AV) (vs : List AV) (ps : List (List Int)) : List Obj := ⟨a.p2, 0, [vo], true⟩ :: ⟨a.p3, 0, [.fn 30 [a.p1, a.p2, a.p3]], true⟩ :: ⟨a.p1, 0, [a.pb], true⟩ :: ⟨a.pb, 0, [.int .i64 3, .int .i64 (a.c : Int), .int .i64 2, a.vT, a.vf], true⟩ :: ⟨a.vf, 1, [a.vr], true⟩ :: ⟨a.vr, 1, ints (iotaL a.n), true⟩ :: (matObjs true vo vs ps ++ [])
structure AP.Ok (a : AP) (h0 : AHeap) : Prop where
  hc : 1 ≤ a.c ∧ a.c ≤ 3
  hn : a.n = 3 * a.c
  a1 : AddrOf a.p1 a.p1 0 0
  a2 : AddrOf a.p2 a.p2 0 0
  a3 : AddrOf a.p3 a.p3 0 0
  ab : AddrOf a.pb a.pb 0 0
  hT : Row h0 a.vT [0]
def AP.Add (a : AP) (h0 : AHeap) (F d : Nat) : Prop := ∀ (h : AHeap) (vo : AV) (vs : List AV) (l : List Int) (ps : List (List Int)) (b N b0 N0 : Nat) (L L0 : List (Nat × List AV)) (l0 : List Int),
  l.length = N → N + d = a.n → 0 < N → (∀ x ∈ l, x = 0 ∨ x = 1) → vs.length = ps.length → ps.length + 2 ^ d ≤ 10000 → St h0 h (bkO b N l :: a.objs vo vs ps) → SeenX h0.next h F L → (b, ints l) ∈ L → (∀ e ∈ L, e.2.length ≤ N) → (b0, ints l0) ∈ L0 → (∀ e ∈ L0, e ∈ L) → l0.length = N0 →
  ACalls Go.Proofs.Try.prog 30 [.slc b 0 N 1 false, a.p1, a.p2, a.p3] h (fun _ h' => ∃ x : AV × List AV, x.2.length = (ps ++ (bitsL d).map (l ++ ·)).length ∧ St h0 h' (bkO b0 N0 l0 :: a.objs x.1 x.2 (ps ++ (bitsL d).map (l ++ ·))) ∧ SeenX h0.next h' F L0)

theorem addCore_c {a : AP} {h0 h : AHeap} {F d : Nat} (ok : a.Ok h0) (hIH : ∀ e : Nat, ∀ e2 : Nat, e2 = e → d = e + 1 → a.Add h0 F e) {vo : AV} {vs : List AV} {l : List Int} {ps : List (List Int)} {b N : Nat} {L : List (Nat × List AV)} (hN : l.length = N) (hd : N + d = a.n) (hN0 : 0 < N) (h01 : ∀ x ∈ l, x = 0 ∨ x = 1) (hvs : vs.length = ps.length) (hps : ps.length + 2 ^ d ≤ 10000) (hS : St h0 h (bkO b N l :: a.objs vo vs ps)) (hL : SeenX h0.next h F L) (hb : (b, ints l) ∈ L) (hlen : ∀ e ∈ L, e.2.length ≤ N) : ACalls Go.Proofs.Try.prog 30 [.slc b 0 N 1 false, a.p1, a.p2, a.p3] h (fun _ h' => ∃ x : AV × List AV, x.2.length = (ps ++ (bitsL d).map (l ++ ·)).length ∧ St h0 h' (bkO b N l :: a.objs x.1 x.2 (ps ++ (bitsL d).map (l ++ ·))) ∧ SeenX h0.next h' F L) := by
  refine KA.fn 58 [] Go.Proofs.Try.func30 rfl (by decide) rfl rfl (Nat.le_of_ble_eq_true rfl) ?_
  have hc := ok.hc
  have hn := ok.hn
  show KA _ 58 _ _ [(0, .slc b 0 N 1 false), (1, a.p1), (2, a.p2), (3, a.p3)] _
  refine KA.seq ?_
  refine KA.seq ?_
  refine KA.draw [] mixed rfl (by kernel_rfl) ?_
  refine KOps.move ?_
  refine KOps.lenI (hS.rd 0 rfl) ?_
  refine KOps.loadBox hS (i := 3) rfl ok.a1 ?_
  refine KOps.nilP ok.ab ?_
  refine KOps.fieldAddr ok.ab ?_
  intro p11 hp11
  refine KOps.fieldAddr hp11 ?_
  intro p12 hp12
  refine KOps.load hp12 (hS.rd 4 rfl) rfl ?_
  refine KOps.loadBox hS (i := 3) rfl ok.a1 ?_
  refine KOps.nilP ok.ab ?_
  refine KOps.fieldAddr ok.ab ?_
  intro p16 hp16
  refine KOps.fieldAddr hp16 ?_
  intro p17 hp17
  refine KOps.load hp17 (hS.rd 4 rfl) rfl ?_
  refine KOps.mul (by first | omega | (simp; omega)) (by first | omega | (simp; omega)) ?_
  refine KOps.eql ?_
  refine KOps.done ?_
  refine sqQ.normal ?_
  refine KA.sub (Sub.cons (t := 0) Look.eq (Sub.cons (t := 1) Look.eq (Sub.cons (t := 2) Look.eq (Sub.cons (t := 3) Look.eq (Sub.cons (t := 20) Look.eq (Sub.nil _)))))) ?_
  refine KA.condD ?_ ?_
  · intro c20
    obtain rfl : d = 0 := by omega
    refine KA.seq ?_
    refine KA.seq ?_
    refine KA.region rfl ?_
    refine KOps.loadBox hS (i := 3) rfl ok.a1 ?_
    refine KOps.nilP ok.ab ?_
    refine KOps.fieldAddr ok.ab ?_
    intro p23 hp23
    refine KOps.fieldAddr hp23 ?_
    intro p24 hp24
    refine KOps.load hp24 (hS.rd 4 rfl) rfl ?_
    refine KOps.lenI (Row.ext hS.keeps ok.hT) ?_
    refine KOps.move ?_
    refine KOps.done ?_
    refine sqQ.normal ?_
    refine KA.sub (Sub.cons (t := 0) Look.eq (Sub.cons (t := 1) Look.eq (Sub.cons (t := 2) Look.eq (Sub.cons (t := 26) Look.eq (Sub.cons (t := 27) Look.eq (Sub.nil _)))))) ?_
    refine KA.block ?_
    refine KA.loop (X := Nat) (fun i => [(0, .slc b 0 N 1 false), (1, a.p1), (2, a.p2), (26, .int .i64 1), (27, .int .i64 ((i : Nat) : Int))]) (fun i h' => i ≤ 1 ∧ St h0 h' (bkO b N l :: a.objs vo vs ps) ∧ SeenX h0.next h' F L) (fun i => 1 - i) 0 (by repeat (first | exact Sub.nil _ | refine Sub.cons Look.eq ?_ | refine Sub.cons (Eq.trans Look.eq (congrArg (AV.int _) (by first | omega | (dsimp only; omega)))) ?_)) ?_ ?_
    · exact ⟨by decide, hS, hL⟩
    rintro i h3 ⟨hi, hS, hL1⟩
    refine KA.seq ?_
    refine KA.region rfl ?_
    refine KOps.lss ?_
    refine KOps.done ?_
    refine sqQ.normal ?_
    refine KA.seq ?_
    refine KA.condD ?_ ?_
    · intro c28
      refine KA.skip ?_
      refine sqQ.normal ?_
      refine KA.sub (Sub.cons (t := 0) Look.eq (Sub.cons (t := 1) Look.eq (Sub.cons (t := 2) Look.eq (Sub.cons (t := 26) Look.eq (Sub.cons (t := 27) Look.eq (Sub.nil _)))))) ?_
      refine KA.seq ?_
      refine KA.block ?_
      refine KA.seq ?_
      refine KA.region rfl ?_
      refine KOps.move ?_
      refine KOps.assign ?_
      refine KOps.done ?_
      refine sqQ.normal ?_
      refine KA.sub (Sub.cons (t := 0) Look.eq (Sub.cons (t := 1) Look.eq (Sub.cons (t := 2) Look.eq (Sub.cons (t := 5) Look.eq (Sub.cons (t := 26) Look.eq (Sub.cons (t := 27) Look.eq (Sub.nil _))))))) ?_
      refine KA.seq ?_
      refine KA.region rfl ?_
      obtain rfl : i = 0 := by omega
      refine KOps.loadBox hS (i := 3) rfl ok.a1 ?_
      refine KOps.move ?_
      refine KOps.move ?_
      refine KOps.call rfl (turned0_c (n := a.n) ok.ab (hS.rd 4 rfl) (hS.rd 5 rfl) (hS.rd 6 rfl) (hS.rd 0 rfl) (by omega) (by omega)) ?_
      rintro v33 h33 hS33
      have hS0 : St _ _ (_ :: _) := St.trans hS hS33
      have hL2 := SeenX.keeps hS33.keeps hL1
      clear hS hL1
      have hS := hS0
      have hL1 := hL2
      clear hS0 hL2
      refine KOps.move ?_
      refine KOps.call rfl (cmpSame_c (hS.rd 0 rfl) (hS.rd 1 rfl) h01 (by omega)) ?_
      rintro _ h35 ⟨rfl, hK⟩
      have hL2 := SeenX.keeps hK hL1
      clear hL1
      have hL1 := hL2
      clear hL2
      have hS0 : St _ _ _ := St.trans hS (St.ofK hK)
      clear hS
      have hS := hS0
      clear hS0
      simp only [List.nil_append] at hS
      refine KOps.lssZ (by decide) ?_
      refine KOps.done ?_
      refine sqQ.normal ?_
      refine KA.sub (Sub.cons (t := 0) Look.eq (Sub.cons (t := 1) Look.eq (Sub.cons (t := 2) Look.eq (Sub.cons (t := 26) Look.eq (Sub.cons (t := 27) Look.eq (Sub.cons (t := 36) Look.eq (Sub.nil _))))))) ?_
      refine KA.condF ?_
      refine KA.skip ?_
      refine blQ.normal ?_
      refine sqQ.normal ?_
      refine KA.sub (Sub.cons (t := 0) Look.eq (Sub.cons (t := 1) Look.eq (Sub.cons (t := 2) Look.eq (Sub.cons (t := 26) Look.eq (Sub.cons (t := 27) Look.eq (Sub.nil _)))))) ?_
      refine KA.region rfl ?_
      refine KOps.add (by first | omega | (simp; omega)) (by first | omega | (simp; omega)) ?_
      refine KOps.move ?_
      refine KOps.done ?_
      exact lpQ.normal 1 (by repeat (first | exact Sub.nil _ | refine Sub.cons Look.eq ?_ | refine Sub.cons (Eq.trans Look.eq (congrArg (AV.int _) (by first | omega | (dsimp only; omega)))) ?_)) ⟨by decide, St.tail hS, hL1⟩ (by decide)
    · intro c28
      refine KA.exit ?_
      refine sqQ.exit ?_
      refine lpQ.exit ?_
      refine blQ.here ?_
      refine sqQ.normal ?_
      refine KA.sub (Sub.cons (t := 0) Look.eq (Sub.cons (t := 2) Look.eq (Sub.nil _))) ?_
      refine KA.seq ?_
      refine KA.draw [2, 4] mixed rfl (by kernel_rfl) ?_
      refine KOps.loadBox hS (i := 1) rfl ok.a2 ?_
      refine KOps.move ?_
      refine KOps.callK (by rintro _ _ q; exact q.keeps) (clone0_c (hS.rd 0 rfl) (by omega) (by intro e; rw [e] at hN; simp at hN; omega)) ?_
      rintro v40 h40 hS40
      have hS0 : St _ _ (_ :: _) := St.trans hS hS40
      have hL2 := SeenX.keeps hS40.keeps hL1
      clear hS hL1
      have hS := hS0
      have hL1 := hL2
      clear hS0 hL2
      refine KOps.buildSliceE hS rfl (by decide) (by show (v40.one && true) = true; rw [St.one hS (k := 0) rfl]; rfl) ?_
      intro v41 h41 hK41 hS
      have hL2 := SeenX.keeps hK41 hL1
      clear hL1
      have hL1 := hL2
      clear hL2
      have hSB := hS
      refine KOps.appendRowE (pre := [_, _, _, _, _, _, _]) hS (by first | assumption | omega | (simp only [List.length_set, List.length_append, List.length_singleton, List.length_replicate, List.length_take]; omega)) (by first | omega | (simp; done) | (simp; omega)) ?_
      intro r42 h42 hE hr42 hS
      have hL2 := hL1.append hE (fun b9 o9 m9 s9 f9 G9 p9 c9 hv9 hg9 => St.fam_ne (i := 2) (j := 9) hSB (by decide) rfl hL1 hb rfl (.inl ⟨o9, m9, s9, f9, hv9⟩) hg9)
      clear hL1
      have hL1 := hL2
      clear hL2 hSB
      have hSB := hS
      obtain ⟨b2, o2, _, hp2e⟩ := ok.a2
      refine KOps.storeEq hS rfl (i := 1) rfl ok.a2 hr42 (by exact Nat.zero_lt_one) ?_
      intro h6 hE2 hS
      simp only [List.set_cons_zero, List.set_cons_succ, Nat.zero_add] at hS
      have hL2 := hL1.store (by rw [← hp2e]; exact hE2) (fun G9 p9 c9 hg9 => St.fam_ne (i := 0) (j := 1) hSB (by decide) rfl hL1 hb rfl (.inr ⟨_, hp2e⟩) hg9)
      clear hL1
      have hL1 := hL2
      clear hL2 hSB
      refine KOps.done ?_
      refine sqQ.normal ?_
      refine KA.sub (Sub.nil _) ?_
      refine KA.ret ?_
      refine sqQ.ret ?_
      refine fnQ.ret0 ?_
      have e0 : (bitsL 0).map (l ++ ·) = [l] := by simp [bitsL]
      rw [e0]
      exact ⟨(r42, vs ++ [v40]), by simp [hvs], hS, hL1⟩
  · intro c20
    obtain ⟨e, rfl⟩ : ∃ e, d = e + 1 := ⟨d - 1, by omega⟩
    refine KA.skip ?_
    refine sqQ.normal ?_
    refine KA.sub (Sub.cons (t := 0) Look.eq (Sub.cons (t := 1) Look.eq (Sub.cons (t := 3) Look.eq (Sub.nil _)))) ?_
    refine KA.seq ?_
    refine KA.region rfl ?_
    refine KOps.loadBox hS (i := 3) rfl ok.a1 ?_
    refine KOps.nilP ok.ab ?_
    refine KOps.fieldAddr ok.ab ?_
    intro p45 hp45
    refine KOps.fieldAddr hp45 ?_
    intro p46 hp46
    refine KOps.load hp46 (hS.rd 4 rfl) rfl ?_
    refine KOps.move ?_
    refine KOps.done ?_
    refine sqQ.normal ?_
    refine KA.sub (Sub.cons (t := 0) Look.eq (Sub.cons (t := 3) Look.eq (Sub.cons (t := 47) Look.eq (Sub.cons (t := 48) Look.eq (Sub.nil _))))) ?_
    refine KA.block ?_
    refine KA.loop (X := Nat × AV × List AV) (fun x => [(0, .slc b 0 N 1 false), (3, a.p3), (47, .int .i64 2), (48, .int .i64 ((x.1 : Nat) : Int))]) (fun x h' => x.1 ≤ 2 ∧ x.2.2.length = (ps ++ partB l e x.1).length ∧ St h0 h' (bkO b N l :: a.objs x.2.1 x.2.2 (ps ++ partB l e x.1)) ∧ SeenX h0.next h' F L) (fun x => 2 - x.1) (0, vo, vs) (by repeat (first | exact Sub.nil _ | refine Sub.cons Look.eq ?_ | refine Sub.cons (Eq.trans Look.eq (congrArg (AV.int _) (by first | omega | (dsimp only; omega)))) ?_)) ?_ ?_
    · refine ⟨Nat.zero_le _, ?_, ?_, hL⟩
      · show vs.length = (ps ++ []).length
        rw [List.append_nil]; exact hvs
      · show St h0 _ (bkO b N l :: a.objs vo vs (ps ++ []))
        rw [List.append_nil]; exact hS
    rintro ⟨k, vo1, vs1⟩ h3 ⟨hk, hvs1, hS, hL1⟩
    dsimp only at hk hvs1 hS ⊢
    refine KA.seq ?_
    refine KA.region rfl ?_
    refine KOps.lss ?_
    refine KOps.done ?_
    refine sqQ.normal ?_
    refine KA.seq ?_
    refine KA.condD ?_ ?_
    · intro c49
      refine KA.skip ?_
      refine sqQ.normal ?_
      refine KA.sub (Sub.cons (t := 0) Look.eq (Sub.cons (t := 3) Look.eq (Sub.cons (t := 47) Look.eq (Sub.cons (t := 48) Look.eq (Sub.nil _))))) ?_
      refine KA.seq ?_
      refine KA.block ?_
      refine KA.seq ?_
      refine KA.region rfl ?_
      refine KOps.move ?_
      refine KOps.assign ?_
      refine KOps.done ?_
      refine sqQ.normal ?_
      refine KA.sub (Sub.cons (t := 0) Look.eq (Sub.cons (t := 3) Look.eq (Sub.cons (t := 6) Look.eq (Sub.cons (t := 47) Look.eq (Sub.cons (t := 48) Look.eq (Sub.nil _)))))) ?_
      refine KA.draw [4] mixed rfl (by kernel_rfl) ?_
      refine KOps.loadBox hS (i := 2) rfl ok.a3 ?_
      refine KOps.move ?_
      refine KOps.move ?_
      refine KOps.buildSliceE hS rfl (by decide) rfl ?_
      intro v54 h54 hK54 hS
      have hL2 := SeenX.keeps hK54 hL1
      clear hL1
      have hL1 := hL2
      clear hL2
      refine KOps.appendC hS (i := 1) rfl (by simp [ints, hN]) hL1 hb hlen (hS.rd 0 rfl) rfl (by omega) ?_
      intro nb h' hS hLn
      simp only [List.set_cons_zero, List.set_cons_succ, Nat.zero_add] at hS
      rw [ints_snoc] at hS hLn
      have hS0 := St.tail hS
      clear hS
      have hS := hS0
      clear hS0
      refine KOps.call (vs := [.slc nb 0 (N + 1) 1 false]) (caps := [a.p1, a.p2, a.p3]) rfl (hIH e e rfl rfl _ vo1 vs1 (l ++ [((k : Nat) : Int)]) (ps ++ partB l e k) nb (N + 1) b N _ L l (by simp [hN]) (by omega) (by omega) ?_ hvs1 ?_ hS hLn List.mem_cons_self ?_ hb (fun q hq => List.mem_cons_of_mem _ hq) hN) ?_
      · intro q hq
        rcases List.mem_append.1 hq with hq | hq
        · exact h01 q hq
        · rw [List.mem_singleton] at hq; omega
      · rw [List.length_append, partB_len]
        have hpw : 2 ^ (e + 1) = 2 ^ e + 2 ^ e := by rw [Nat.pow_succ]; omega
        have hpp := Nat.two_pow_pos e
        rcases (show k = 0 ∨ k = 1 by omega) with rfl | rfl <;> omega
      · intro q hq
        rcases List.mem_cons.1 hq with rfl | hq
        · simp [ints, hN]
        · have := hlen q hq
          omega
      rintro _ h56 ⟨⟨vo2, vs2⟩, hvs2, hS2, hL2⟩
      dsimp only at hvs2 hS2
      clear hS hLn hL1
      have hS := hS2
      have hL1 := hL2
      clear hS2 hL2
      rw [List.append_assoc, ← partB_next] at hS hvs2
      refine KOps.done ?_
      refine blQ.normal ?_
      refine sqQ.normal ?_
      refine KA.sub (Sub.cons (t := 0) Look.eq (Sub.cons (t := 3) Look.eq (Sub.cons (t := 47) Look.eq (Sub.cons (t := 48) Look.eq (Sub.nil _))))) ?_
      refine KA.region rfl ?_
      refine KOps.add (by first | omega | (simp; omega)) (by first | omega | (simp; omega)) ?_
      refine KOps.move ?_
      refine KOps.done ?_
      exact lpQ.normal (k + 1, vo2, vs2) (by repeat (first | exact Sub.nil _ | refine Sub.cons Look.eq ?_ | refine Sub.cons (Eq.trans Look.eq (congrArg (AV.int _) (by first | omega | (dsimp only; omega)))) ?_)) ⟨by dsimp only; omega, hvs2, hS, hL1⟩ (by dsimp only; omega)
    · intro c49
      refine KA.exit ?_
      refine sqQ.exit ?_
      refine lpQ.exit ?_
      refine blQ.here ?_
      refine fnQ.norm0 ?_
      obtain rfl : k = 2 := by omega
      rw [partB_two] at hvs1 hS
      exact ⟨(vo1, vs1), hvs1, hS, hL1⟩

theorem add_all {a : AP} {h0 : AHeap} {F : Nat} (ok : a.Ok h0) : ∀ d, a.Add h0 F d := by
  intro d
  induction d with
  | zero =>
    intro h vo vs l ps b N b0 N0 L L0 l0 hN hd hN0 h01 hvs hps hS hL hb hlen h2 hsub hl0
    exact ACalls.shrinkC (OB := fun x : AV × List AV => a.objs x.1 x.2 (ps ++ (bitsL 0).map (l ++ ·))) (C := fun x => x.2.length = (ps ++ (bitsL 0).map (l ++ ·)).length) (addCore_c ok (fun e _ _ he => by omega) hN hd hN0 h01 hvs hps hS hL hb hlen) hb h2 hsub (by simpa [ints] using hl0)
  | succ d ih =>
    intro h vo vs l ps b N b0 N0 L L0 l0 hN hd hN0 h01 hvs hps hS hL hb hlen h2 hsub hl0
    exact ACalls.shrinkC (OB := fun x : AV × List AV => a.objs x.1 x.2 (ps ++ (bitsL (d + 1)).map (l ++ ·))) (C := fun x => x.2.length = (ps ++ (bitsL (d + 1)).map (l ++ ·)).length) (addCore_c ok (fun e _ _ he => by have h9 := Nat.succ.inj he; subst h9; exact ih) hN hd hN0 h01 hvs hps hS hL hb hlen) hb h2 hsub (by simpa [ints] using hl0)

end Go.Am

namespace Go.Am
open Go.RowKit
section
variable {P : Program} {n : Nat} {ops : Array Oper} {ex : List Nat} {Q : KF → AHeap → Prop} {k : Nat} {os : List Oper} {K : KF} {h : AHeap} {d : Nat} {ty : TypeId} {pos : String} {after : Array Edge}
theorem KOps.gtrZ {t t' : TypeId} {x y : Operand} {kd : IntKind} {a b : Int} [hx : EvK h.globs n K x (.int kd a)] [hy : EvK h.globs n K y (.int kd b)] (hab : ¬ b < a) (hk : KOps P n ops ex Q (k + 1) os ((d, .bool false) :: K) h) : KOps P n ops ex Q k (⟨some d, .binOp .gtr t x y t', ty, pos, after, none⟩ :: os) K h :=
  KOps.gtr (a := a) (b := b) (by rw [decide_eq_false hab]; exact hk)
end
theorem partB_nil (e : Nat) : partB [] e 2 = bitsL (e + 1) := by
  rw [partB_two]
  show (bitsL (e + 1)).map id = _
  rw [List.map_id]

theorem addRoot_c {a : AP} {h0 h : AHeap} (ok : a.Ok h0) (hS : St h0 h (a.objs .nils [] [])) : ACalls Go.Proofs.Try.prog 30 [.nils, a.p1, a.p2, a.p3] h (fun _ h' => ∃ x : AV × List AV, x.2.length = (bitsL a.n).length ∧ St h0 h' (a.objs x.1 x.2 (bitsL a.n))) := by
  refine KA.fn 58 [] Go.Proofs.Try.func30 rfl (by decide) rfl rfl (Nat.le_of_ble_eq_true rfl) ?_
  have hc := ok.hc
  have hn := ok.hn
  obtain ⟨e, he⟩ : ∃ e, a.n = e + 1 := ⟨a.n - 1, by omega⟩
  show KA _ 58 _ _ [(0, .nils), (1, a.p1), (2, a.p2), (3, a.p3)] _
  refine KA.seq ?_
  refine KA.seq ?_
  refine KA.draw [] mixed rfl (by kernel_rfl) ?_
  refine KOps.move ?_
  refine KOps.lenI (show Row _ .nils [] from .inl ⟨rfl, rfl⟩) ?_
  refine KOps.loadBox hS (i := 2) rfl ok.a1 ?_
  refine KOps.nilP ok.ab ?_
  refine KOps.fieldAddr ok.ab ?_
  intro p11 hp11
  refine KOps.fieldAddr hp11 ?_
  intro p12 hp12
  refine KOps.load hp12 (hS.rd 3 rfl) rfl ?_
  refine KOps.loadBox hS (i := 2) rfl ok.a1 ?_
  refine KOps.nilP ok.ab ?_
  refine KOps.fieldAddr ok.ab ?_
  intro p16 hp16
  refine KOps.fieldAddr hp16 ?_
  intro p17 hp17
  refine KOps.load hp17 (hS.rd 3 rfl) rfl ?_
  refine KOps.mul (by first | omega | (simp; omega)) (by first | omega | (simp; omega)) ?_
  refine KOps.eqlZ (by show ¬ ((0 : Nat) : Int) = _; omega) ?_
  refine KOps.done ?_
  refine sqQ.normal ?_
  refine KA.sub (Sub.cons (t := 0) Look.eq (Sub.cons (t := 1) Look.eq (Sub.cons (t := 2) Look.eq (Sub.cons (t := 3) Look.eq (Sub.cons (t := 20) Look.eq (Sub.nil _)))))) ?_
  refine KA.condF ?_
  refine KA.skip ?_
  refine sqQ.normal ?_
  refine KA.sub (Sub.cons (t := 0) Look.eq (Sub.cons (t := 1) Look.eq (Sub.cons (t := 3) Look.eq (Sub.nil _)))) ?_
  refine KA.seq ?_
  refine KA.region rfl ?_
  refine KOps.loadBox hS (i := 2) rfl ok.a1 ?_
  refine KOps.nilP ok.ab ?_
  refine KOps.fieldAddr ok.ab ?_
  intro p45 hp45
  refine KOps.fieldAddr hp45 ?_
  intro p46 hp46
  refine KOps.load hp46 (hS.rd 3 rfl) rfl ?_
  refine KOps.move ?_
  refine KOps.done ?_
  refine sqQ.normal ?_
  refine KA.sub (Sub.cons (t := 0) Look.eq (Sub.cons (t := 3) Look.eq (Sub.cons (t := 47) Look.eq (Sub.cons (t := 48) Look.eq (Sub.nil _))))) ?_
  refine KA.block ?_
  refine KA.loop (X := Nat × AV × List AV) (fun x => [(0, .nils), (3, a.p3), (47, .int .i64 2), (48, .int .i64 ((x.1 : Nat) : Int))]) (fun x h' => x.1 ≤ 2 ∧ x.2.2.length = (partB [] e x.1).length ∧ St h0 h' (a.objs x.2.1 x.2.2 (partB [] e x.1))) (fun x => 2 - x.1) (0, .nils, []) (by repeat (first | exact Sub.nil _ | refine Sub.cons Look.eq ?_ | refine Sub.cons (Eq.trans Look.eq (congrArg (AV.int _) (by first | omega | (dsimp only; omega)))) ?_)) ?_ ?_
  · exact ⟨Nat.zero_le _, rfl, hS⟩
  rintro ⟨k, vo1, vs1⟩ h3 ⟨hk, hvs1, hS⟩
  dsimp only at hk hvs1 hS ⊢
  refine KA.seq ?_
  refine KA.region rfl ?_
  refine KOps.lss ?_
  refine KOps.done ?_
  refine sqQ.normal ?_
  refine KA.seq ?_
  refine KA.condD ?_ ?_
  · intro c49
    refine KA.skip ?_
    refine sqQ.normal ?_
    refine KA.sub (Sub.cons (t := 0) Look.eq (Sub.cons (t := 3) Look.eq (Sub.cons (t := 47) Look.eq (Sub.cons (t := 48) Look.eq (Sub.nil _))))) ?_
    refine KA.seq ?_
    refine KA.block ?_
    refine KA.seq ?_
    refine KA.region rfl ?_
    refine KOps.move ?_
    refine KOps.assign ?_
    refine KOps.done ?_
    refine sqQ.normal ?_
    refine KA.sub (Sub.cons (t := 0) Look.eq (Sub.cons (t := 3) Look.eq (Sub.cons (t := 6) Look.eq (Sub.cons (t := 47) Look.eq (Sub.cons (t := 48) Look.eq (Sub.nil _)))))) ?_
    refine KA.draw [4] mixed rfl (by kernel_rfl) ?_
    refine KOps.loadBox hS (i := 1) rfl ok.a3 ?_
    refine KOps.move ?_
    refine KOps.move ?_
    refine KOps.buildSlice hS rfl (by decide) rfl ?_
    intro v54 h54 hS
    refine KOps.appendC0 (c := .int .i64 ((k : Nat) : Int)) hS (hS.rd 0 rfl) rfl ?_
    intro nb F h' hS hLn
    have hS0 := St.out (A := [_]) hS
    clear hS
    have hS := hS0
    clear hS0
    refine KOps.call (vs := [.slc nb 0 1 1 false]) (caps := [a.p1, a.p2, a.p3]) rfl (add_all (F := F) ok e _ vo1 vs1 [((k : Nat) : Int)] (partB [] e k) nb 1 nb 1 [(nb, ints [((k : Nat) : Int)])] [(nb, ints [((k : Nat) : Int)])] [((k : Nat) : Int)] rfl (by omega) (by decide) ?_ hvs1 ?_ hS hLn List.mem_cons_self ?_ List.mem_cons_self (fun q hq => hq) rfl) ?_
    · intro q hq
      rw [List.mem_singleton] at hq; omega
    · rw [partB_len]
      have hpp : 2 ^ e ≤ 2 ^ 9 := Nat.pow_le_pow_right (by decide) (by omega)
      rcases (show k = 0 ∨ k = 1 by omega) with rfl | rfl <;> omega
    · intro q hq
      rw [List.mem_singleton] at hq
      subst hq
      exact Nat.le_refl _
    rintro _ h56 ⟨⟨vo2, vs2⟩, hvs2, hS2, _⟩
    dsimp only at hvs2 hS2
    clear hS hLn
    have hS := St.tail hS2
    clear hS2
    have hpn : partB [] e k ++ (bitsL e).map ([((k : Nat) : Int)] ++ ·) = partB [] e (k + 1) := (partB_next [] e k).symm
    rw [hpn] at hS hvs2
    refine KOps.done ?_
    refine blQ.normal ?_
    refine sqQ.normal ?_
    refine KA.sub (Sub.cons (t := 0) Look.eq (Sub.cons (t := 3) Look.eq (Sub.cons (t := 47) Look.eq (Sub.cons (t := 48) Look.eq (Sub.nil _))))) ?_
    refine KA.region rfl ?_
    refine KOps.add (by first | omega | (simp; omega)) (by first | omega | (simp; omega)) ?_
    refine KOps.move ?_
    refine KOps.done ?_
    exact lpQ.normal (k + 1, vo2, vs2) (by repeat (first | exact Sub.nil _ | refine Sub.cons Look.eq ?_ | refine Sub.cons (Eq.trans Look.eq (congrArg (AV.int _) (by first | omega | (dsimp only; omega)))) ?_)) ⟨by dsimp only; omega, hvs2, hS⟩ (by dsimp only; omega)
  · intro c49
    refine KA.exit ?_
    refine sqQ.exit ?_
    refine lpQ.exit ?_
    refine blQ.here ?_
    refine fnQ.norm0 ?_
    obtain rfl : k = 2 := by omega
    rw [partB_nil, ← he] at hvs1 hS
    exact ⟨(vo1, vs1), hvs1, hS⟩

theorem backs_c {h : AHeap} {c : Nat} {vT : AV} (hc : 1 ≤ c ∧ c ≤ 3) (hT : Row h vT [0]) : ACalls Go.Proofs.Try.prog 11 [.agg [.int .i64 3, .int .i64 (c : Int), .int .i64 2, vT]] h (fun q h' => ∃ vo vs, q = .tup [vo, .int .i64 0] ∧ vs.length = (bitsL (3 * c)).length ∧ St h h' (matObjs true vo vs (bitsL (3 * c)) ++ [])) := by
  refine KA.fn 44 [.tmp 2, .tmp 3] Go.Proofs.Try.func11 rfl (by decide) rfl rfl (Nat.le_of_ble_eq_true rfl) ?_
  have hS := St.refl h
  have hTo : vT.one = true := hT.one
  have hpw : 2 ^ (3 * c) ≤ 2 ^ 9 := Nat.pow_le_pow_right (by decide) (by omega)
  show KA _ 44 _ _ [(0, .agg [.int .i64 3, .int .i64 (c : Int), .int .i64 2, vT])] _
  refine KA.seq ?_
  refine KA.region rfl ?_
  refine KOps.boxAll hS (by show (true && (true && (true && (vT.one && true)))) = true; rw [hTo]; rfl) ?_
  intro p1 h' hp1 hS
  refine KOps.assign ?_
  refine KOps.assign ?_
  refine KOps.done ?_
  refine sqQ.normal ?_
  refine KA.sub (Sub.cons (t := 1) Look.eq (Sub.nil _)) ?_
  refine KA.seq ?_
  refine KA.region rfl ?_
  refine KOps.loadAll hS (i := 0) rfl hp1 (by rfl) (by decide) ?_
  refine KOps.call rfl (laid_c hc (Row.ext hS.keeps hT)) ?_
  rintro _ h11 ⟨pb, vf, vr, rfl, hpb, hS11⟩
  have hS0 : St _ _ (_ :: _ :: _ :: _) := St.trans hS hS11
  clear hS
  have hS := hS0
  clear hS0
  have hpbo : pb.one = true := St.one hS (k := 0) rfl
  refine KOps.move ?_
  refine KOps.extract ?_
  refine KOps.extract ?_
  refine KOps.alloc hS ?_
  intro p4 h' hp4 hS
  refine KOps.storeBox hS rfl (i := 0) rfl hp4 (by first | rfl | assumption) ?_
  intro h' hS
  refine KOps.assign ?_
  refine KOps.done ?_
  refine sqQ.normal ?_
  refine KA.sub (Sub.cons (t := 4) Look.eq (Sub.cons (t := 5) Look.eq (Sub.nil _))) ?_
  refine KA.seq ?_
  refine KA.seq ?_
  refine KA.region rfl ?_
  refine KOps.move ?_
  refine KOps.neqZ rfl ?_
  refine KOps.done ?_
  refine sqQ.normal ?_
  refine KA.sub (Sub.cons (t := 4) Look.eq (Sub.cons (t := 5) Look.eq (Sub.cons (t := 15) Look.eq (Sub.nil _)))) ?_
  refine KA.condF ?_
  refine KA.skip ?_
  refine sqQ.normal ?_
  refine KA.sub (Sub.cons (t := 4) Look.eq (Sub.nil _)) ?_
  refine KA.seq ?_
  refine KA.region rfl ?_
  refine KOps.assign ?_
  refine KOps.done ?_
  refine sqQ.normal ?_
  refine KA.seq ?_
  refine KA.seq ?_
  refine KA.draw [] mixed rfl (by kernel_rfl) ?_
  refine KOps.loadBox hS (i := 0) rfl hp4 ?_
  refine KOps.nilP hpb ?_
  refine KOps.fieldAddr hpb ?_
  intro p19 hp19
  refine KOps.fieldAddr hp19 ?_
  intro p20 hp20
  refine KOps.load hp20 (hS.rd 1 rfl) rfl ?_
  refine KOps.loadBox hS (i := 0) rfl hp4 ?_
  refine KOps.nilP hpb ?_
  refine KOps.fieldAddr hpb ?_
  intro p24 hp24
  refine KOps.fieldAddr hp24 ?_
  intro p25 hp25
  refine KOps.load hp25 (hS.rd 1 rfl) rfl ?_
  refine KOps.mul (by first | omega | (simp; omega)) (by first | omega | (simp; omega)) ?_
  refine KOps.move ?_
  refine KOps.done ?_
  refine sqQ.normal ?_
  refine KA.sub (Sub.cons (t := 4) Look.eq (Sub.cons (t := 6) Look.eq (Sub.cons (t := 27) Look.eq (Sub.cons (t := 28) Look.eq (Sub.nil _))))) ?_
  refine KA.block ?_
  refine KA.loop (X := Nat) (fun i => [(4, p4), (6, .int .i64 ((2 ^ i : Nat) : Int)), (27, .int .i64 ((3 * c : Nat) : Int)), (28, .int .i64 ((i : Nat) : Int))]) (fun i h' => i ≤ 3 * c ∧ St h h' [⟨p4, 0, [pb], true⟩, ⟨pb, 0, [.int .i64 3, .int .i64 (c : Int), .int .i64 2, vT, vf], true⟩, ⟨vf, 1, [vr], true⟩, ⟨vr, 1, ints (iotaL (3 * c)), true⟩, ⟨p1, 0, [.int .i64 3, .int .i64 (c : Int), .int .i64 2, vT], true⟩]) (fun i => 3 * c - i) 0 (by repeat (first | exact Sub.nil _ | refine Sub.cons Look.eq ?_ | refine Sub.cons (Eq.trans Look.eq (congrArg (AV.int _) (by first | omega | (dsimp only; omega)))) ?_)) ?_ ?_
  · exact ⟨Nat.zero_le _, hS⟩
  rintro i h3 ⟨hi, hS⟩
  refine KA.seq ?_
  refine KA.region rfl ?_
  refine KOps.lss ?_
  refine KOps.done ?_
  refine sqQ.normal ?_
  refine KA.seq ?_
  refine KA.condD ?_ ?_
  · intro c29
    refine KA.skip ?_
    refine sqQ.normal ?_
    refine KA.sub (Sub.cons (t := 4) Look.eq (Sub.cons (t := 6) Look.eq (Sub.cons (t := 27) Look.eq (Sub.cons (t := 28) Look.eq (Sub.nil _))))) ?_
    refine KA.seq ?_
    refine KA.block ?_
    refine KA.region rfl ?_
    have hp9 : 2 ^ i * 2 ≤ 1024 := by
      have h9 : 2 ^ i ≤ 2 ^ 9 := Nat.pow_le_pow_right (by decide) (by omega)
      omega
    refine KOps.move ?_
    refine KOps.loadBox hS (i := 0) rfl hp4 ?_
    refine KOps.nilP hpb ?_
    refine KOps.fieldAddr hpb ?_
    intro p33 hp33
    refine KOps.fieldAddr hp33 ?_
    intro p34 hp34
    refine KOps.load hp34 (hS.rd 1 rfl) rfl ?_
    refine KOps.mulN (2 ^ i) (2) rfl rfl (Nat.lt_of_le_of_lt hp9 (by decide)) ?_
    refine KOps.assign ?_
    refine KOps.done ?_
    refine blQ.normal ?_
    refine sqQ.normal ?_
    refine KA.sub (Sub.cons (t := 4) Look.eq (Sub.cons (t := 6) Look.eq (Sub.cons (t := 27) Look.eq (Sub.cons (t := 28) Look.eq (Sub.nil _))))) ?_
    refine KA.region rfl ?_
    refine KOps.add (by first | omega | (simp; omega)) (by first | omega | (simp; omega)) ?_
    refine KOps.move ?_
    refine KOps.done ?_
    exact lpQ.normal (i + 1) (by repeat (first | exact Sub.nil _ | refine Sub.cons Look.eq ?_ | refine Sub.cons (Eq.trans Look.eq (congrArg (AV.int _) (by first | omega | (dsimp only; omega)))) ?_ | refine Sub.cons (Eq.trans Look.eq (congrArg (fun n : Nat => AV.int .i64 (n : Int)) (Nat.pow_succ 2 i).symm)) ?_)) ⟨by omega, hS⟩ (by omega)
  · intro c29
    obtain rfl : i = 3 * c := by omega
    refine KA.exit ?_
    refine sqQ.exit ?_
    refine lpQ.exit ?_
    refine blQ.here ?_
    refine sqQ.normal ?_
    refine KA.sub (Sub.cons (t := 4) Look.eq (Sub.cons (t := 6) Look.eq (Sub.nil _))) ?_
    refine KA.seq ?_
    refine KA.seq ?_
    refine KA.region rfl ?_
    refine KOps.move ?_
    refine KOps.gtrZ (by omega) ?_
    refine KOps.done ?_
    refine sqQ.normal ?_
    refine KA.sub (Sub.cons (t := 4) Look.eq (Sub.cons (t := 39) Look.eq (Sub.nil _))) ?_
    refine KA.condF ?_
    refine KA.skip ?_
    refine sqQ.normal ?_
    refine KA.sub (Sub.cons (t := 4) Look.eq (Sub.nil _)) ?_
    refine KA.seq ?_
    refine KA.region rfl ?_
    refine KOps.alloc hS ?_
    intro p7 h' hp7 hS
    refine KOps.done ?_
    refine sqQ.normal ?_
    refine KA.seq ?_
    refine KA.region rfl ?_
    refine KOps.alloc hS ?_
    intro p8 h' hp8 hS
    refine KOps.done ?_
    refine sqQ.normal ?_
    refine KA.seq ?_
    refine KA.region rfl ?_
    refine KOps.makeFunc ?_
    refine KOps.storeBox hS rfl (i := 0) rfl hp8 (by first | rfl | assumption) ?_
    intro h' hS
    refine KOps.done ?_
    refine sqQ.normal ?_
    refine KA.sub (Sub.cons (t := 7) Look.eq (Sub.cons (t := 8) Look.eq (Sub.nil _))) ?_
    refine KA.seq ?_
    refine KA.region rfl ?_
    refine KOps.loadBox hS (i := 0) rfl hp8 ?_
    have hS9 : St h _ [⟨p7, 0, [.nils], true⟩, ⟨p8, 0, [.fn 30 [p4, p7, p8]], true⟩, ⟨p4, 0, [pb], true⟩, ⟨pb, 0, [.int .i64 3, .int .i64 (c : Int), .int .i64 2, vT, vf], true⟩, ⟨vf, 1, [vr], true⟩, ⟨vr, 1, ints (iotaL (3 * c)), true⟩] := St.pick [1, 0, 2, 3, 4, 5] (by decide) rfl hS
    have hS0 : St h _ ((⟨c, 3 * c, p4, p7, p8, pb, vf, vr, vT⟩ : AP).objs .nils [] []) := St.addNil 1 true hS9
    refine KOps.call (vs := [.nils]) (caps := [p4, p7, p8]) rfl (addRoot_c (a := (⟨c, 3 * c, p4, p7, p8, pb, vf, vr, vT⟩ : AP)) ⟨hc, rfl, hp4, hp7, hp8, hpb, hT⟩ hS0) ?_
    rintro _ h42 ⟨⟨vo, vs⟩, hvs, hS2⟩
    dsimp only at hvs hS2
    clear hS hS0
    have hS := hS2
    clear hS2
    refine KOps.done ?_
    refine sqQ.normal ?_
    refine KA.sub (Sub.cons (t := 7) Look.eq (Sub.nil _)) ?_
    refine KA.seq ?_
    refine KA.region rfl ?_
    refine KOps.loadBox hS (i := 0) rfl hp7 ?_
    refine KOps.assign ?_
    refine KOps.assign ?_
    refine KOps.done ?_
    refine sqQ.normal ?_
    refine KA.sub (Sub.cons (t := 2) Look.eq (Sub.cons (t := 3) Look.eq (Sub.nil _))) ?_
    refine KA.ret ?_
    refine fnQ.retN ?_
    exact ⟨vo, vs, rfl, hvs, St.drop (A := [_, _, _, _, _, _]) hS⟩

end Go.Am

namespace Go.Am
open Go.RowKit
noncomputable def withOk (c k : Nat) : Bool := runsG Go.Proofs.Try.prog 20000 12 [.agg [.int .i64 3, .int .i64 ((1 + c : Nat) : Int), .int .i64 2, .slc 0 0 1 1 false], .slc 1 0 2 1 false] [ints [0], ints [(cN c : Int) - (k : Int), (k : Int)]] [] (fun r _ => AV.isP 3 r (.tup [.int .i64 ((cntC (cN c) k (2 ^ cN c) : Nat) : Int), .int .i64 0]))
theorem with0 : (List.range 4).all (withOk 0) = true := by kernel_rfl
theorem with1a : ((List.range 7).take 4).all (withOk 1) = true := by kernel_rfl
theorem with1b : ((List.range 7).drop 4).all (withOk 1) = true := by kernel_rfl
end Go.Am

namespace Go.Am
theorem with2_0 : (((List.range 10).drop 0).take 2).all (withOk 2) = true := by kernel_rfl
theorem with2_2 : (((List.range 10).drop 2).take 2).all (withOk 2) = true := by kernel_rfl
theorem with2_4 : (((List.range 10).drop 4).take 2).all (withOk 2) = true := by kernel_rfl
end Go.Am

namespace Go.Am
theorem with2_6 : (((List.range 10).drop 6).take 2).all (withOk 2) = true := by kernel_rfl
theorem with2_8 : (((List.range 10).drop 8).take 2).all (withOk 2) = true := by kernel_rfl
end Go.Am
