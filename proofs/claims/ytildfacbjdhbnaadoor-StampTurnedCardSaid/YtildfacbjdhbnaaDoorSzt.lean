/-
  Layer 01: books turned have the same spans; the one way in and the one way out of a room have the same span.
  Conditions: none.
-/
import Derived.Test.YtildfacbjdhbnaaDoorPs
namespace Go.Am
theorem flr_putL {α : Type} {f : α → List AV} {s : Nat} (hf : ∀ a, (f a).length = s) {b : α} : ∀ (l : List α) (i : Nat), i < l.length → putL (flr f l) (i * s) (f b) = flr f (l.set i b) := by
  intro l
  induction l with
  | nil => intro i hi; simp at hi
  | cons a l ih =>
    intro i hi
    cases i with
    | zero =>
      unfold putL
      simp only [flr, List.flatMap_cons, List.set_cons_zero, Nat.zero_mul, Nat.zero_add, List.take_zero, List.nil_append]
      rw [hf, List.drop_left' (hf a)]
    | succ i =>
      have := ih i (by simpa using hi)
      unfold putL at this ⊢
      simp only [flr, List.flatMap_cons, List.set_cons_succ] at this ⊢
      have e : (i + 1) * s = (f a).length + i * s := by rw [hf, Nat.add_mul, Nat.one_mul]; omega
      rw [e, List.take_append, List.take_of_length_le (by omega), Nat.add_sub_cancel_left, Nat.add_assoc, List.drop_append, List.drop_eq_nil_of_le (by omega), Nat.add_sub_cancel_left, List.nil_append, List.append_assoc, List.append_assoc, ← this, List.append_assoc]
theorem zero_ways (k : Nat) : (List.replicate k [AV.int .i64 0, .int .i64 0, .int .i64 0, .int .i64 0]).flatten = flr wc (List.replicate k default) := by
  induction k with
  | zero => rfl
  | succ k ih => rw [List.replicate_succ, List.flatten_cons, ih, List.replicate_succ]; rfl
section
variable {P : Program} {n : Nat} {ops : Array Oper} {ex : List Nat} {Q : KF → AHeap → Prop} {k : Nat} {os : List Oper} {K : KF} {h h0 : AHeap} {d : Nat} {ty : TypeId} {pos : String} {after : Array Edge} {objs : List Obj}
theorem KOps.makeSliceS {t e : TypeId} {x y : Operand} {s : Nat} {zs : List AV} {kx ky : IntKind} {a b : Int} [hx : EvK h.globs n K x (.int kx a)] [hy : EvK h.globs n K y (.int ky b)] [ht : SlT P t e s zs] (st : St h0 h objs) (hs : zs.length = s) (h0s : 0 < s) (ha : 0 ≤ a) (hab : a ≤ b) (hb : b ≤ 4294967296)
    (hk : ∀ v h', St h0 h' (⟨v, s, (List.replicate a.toNat zs).flatten, true⟩ :: objs) → KOps P n ops ex Q (k + 1) os ((d, v) :: K) h') : KOps P n ops ex Q k (⟨some d, .makeSlice t x y, ty, pos, after, none⟩ :: os) K h := by
  obtain ⟨z', hz, hzs⟩ := Option.bind_eq_some_iff.1 ht.zero
  obtain ⟨i, hi, hib⟩ := ht.info
  have hlen : (List.replicate a.toNat zs).flatten.length = a.toNat * s := by
    induction a.toNat with
    | zero => simp
    | succ q ih => rw [List.replicate_succ, List.flatten_cons, List.length_append, ih, hs, Nat.add_mul, Nat.one_mul, Nat.add_comm]
  have hle : (i.bytes : Int) * b ≤ 281474976710656 := by
    have h1 : (i.bytes : Int) ≤ 4096 := by omega
    calc (i.bytes : Int) * b ≤ 4096 * b := Int.mul_le_mul_of_nonneg_right h1 (by omega)
      _ ≤ 281474976710656 := by omega
  refine KOps.allo (mk := .slc a.toNat s (a == b)) (cs := (List.replicate a.toNat zs).flatten) rfl ?_ (hk _ _ (st.alloc (.inl ⟨a.toNat, _, rfl, hlen, h0s⟩)))
  simp only [aallo, hx.eq, hy.eq, ht.elem, ht.sz, hz, hzs, hi, Option.bind_eq_bind, Option.bind_some]
  rw [if_pos ⟨ha, hab, hle, by omega, hs⟩]
end
theorem tmod_pos (n s i : Nat) : ((i : Int) + (s : Int)).tmod (n : Int) = ((pos n s i : Nat) : Int) := by
  unfold pos
  rw [← Int.natCast_add, ← Int.ofNat_tmod]
theorem turn_mod {r b : Nat} {x : Int} (h0 : 0 ≤ x) : (x + (b : Int)).tmod ((r + 1 : Nat) : Int) = turn (r + 1) b x := by
  unfold turn
  rw [← tmod_pos, show ((x.toNat : Nat) : Int) = x by omega]

theorem turned1_c {h : AHeap} {x : Int} {p5 p11 v : AV} {r b : Nat} (hp5 : AddrOf p5 p5 0 0) (h5 : Rd h p5 0 [.int .u8 (b : Int)]) (hp11 : AddrOf p11 p11 0 0) (h11 : Rd h p11 0 [.int .i64 ((r + 1 : Nat) : Int), v]) (hx0 : 0 ≤ x) (hx1 : x ≤ 100) (hb : b ≤ 255) (hr : r ≤ 5) : ACalls Go.Proofs.Tryd.prog 49 [.int .i64 x, p5, p11] h (fun q h' => q = .int .i64 (turn (r + 1) b x) ∧ h = h') := by
  refine KA.fn 12 [.tmp 4] Go.Proofs.Tryd.func49 rfl (by decide) rfl rfl (Nat.le_of_ble_eq_true rfl) ?_
  show KA _ 12 _ _ [(0, .int .i64 x), (1, p5), (2, p11)] _
  refine KA.seq ?_
  refine KA.region rfl ?_
  refine KOps.assign ?_
  refine KOps.done ?_
  refine sqQ.normal ?_
  refine KA.sub (Sub.cons (t := 0) Look.eq (Sub.cons (t := 1) Look.eq (Sub.cons (t := 2) Look.eq (Sub.nil _)))) ?_
  refine KA.seq ?_
  refine KA.region rfl ?_
  refine KOps.move ?_
  refine KOps.load hp5 h5 rfl ?_
  refine KOps.convU (by omega) (by omega) ?_
  refine KOps.add (by first | omega | (simp; omega)) (by first | omega | (simp; omega)) ?_
  refine KOps.fieldAddr hp11 ?_
  intro p9 hp9
  refine KOps.load hp9 h11 rfl ?_
  have htm := tmod_b (show 0 ≤ x + (b : Int) by omega) (show (0 : Int) < ((r + 1 : Nat) : Int) by omega)
  refine KOps.rem (by omega) (by omega) (by omega) ?_
  rw [turn_mod hx0]
  refine KOps.assign ?_
  refine KOps.done ?_
  refine sqQ.normal ?_
  refine KA.sub (Sub.cons (t := 4) Look.eq (Sub.nil _)) ?_
  refine KA.ret ?_
  refine fnQ.ret1 ?_
  exact ⟨rfl, rfl⟩

theorem law_turned {h : AHeap} {a : Int} {vH : AV} {hs : List H4} (hv : Rd h vH 4 (flr hc hs)) (ha0 : 0 ≤ a) (ha1 : a ≤ 255) (hx : ∀ i, i < hs.length → (hs.getD i default).Ok) (hSz : Sizes h) {b s : Nat} (hb1 : b ≤ 255) (hs1 : s ≤ 255) {fl : Bool} : ACalls Go.Proofs.Tryd.prog 13 [.agg [.int .u8 a, vH], .int .u8 (b : Int), .int .u8 (s : Int), .bool fl] h (fun q h' => q = .bool true) := by
  refine KA.fn 184 [.tmp 8] Go.Proofs.Tryd.func13 rfl (by decide) rfl rfl (Nat.le_of_ble_eq_true rfl) ?_
  have hS := St.refl h
  have hvo : vH.one = true := hv.one
  show KA _ 184 _ _ [(0, .agg [.int .u8 a, vH]), (1, .int .u8 (b : Int)), (2, .int .u8 (s : Int)), (3, .bool fl)] _
  refine KA.seq ?_
  refine KA.region rfl ?_
  refine KOps.boxAll hS (by first | rfl | (simp [AV.one]; done) | (simp [AV.one]; assumption) | (simp [AV.one, *]; done)) ?_
  intro p4 h' hp4 hS
  refine KOps.box hS (l := [_]) rfl ?_
  intro p5 h' hp5 hS
  refine KOps.assign ?_
  refine KOps.done ?_
  refine sqQ.normal ?_
  refine KA.sub (Sub.cons (t := 2) Look.eq (Sub.cons (t := 3) Look.eq (Sub.cons (t := 4) Look.eq (Sub.cons (t := 5) Look.eq (Sub.nil _))))) ?_
  refine KA.seq ?_
  refine KA.region rfl ?_
  refine KOps.loadAll hS (i := 1) rfl hp4 (by rfl) (by decide) ?_
  refine KOps.call rfl (made_c (m := 12) (Rd.ext hS.keeps hv) ha0 ha1 hx (by decide)) ?_
  rintro _ h2 ⟨vB, rfl, hSM⟩
  have hS0 : St _ _ (_ :: _) := St.trans hS hSM
  clear hS
  have hS := hS0
  clear hS0
  have hvB : vB.one = true := St.one hS (k := 0) rfl
  have hrb := roomsOf_b ha0
  have hB := made_ok (hs := hs) (k := 12) hrb.1 (by omega) (by decide) hx
  have hT := made_thin (roomsOf a) hs 12 hx
  have hwl5 : (madeW (roomsOf a) hs 12).length ≤ 12 := by rw [madeW_len]; omega
  generalize madeW (roomsOf a) hs 12 = ws at hB hT hS hwl5 ⊢
  obtain ⟨r, hr⟩ : ∃ r : Nat, roomsOf a = (r : Int) := ⟨(roomsOf a).toNat, by omega⟩
  rw [hr] at hB hrb ⊢
  have hpw : 2 ^ r ≤ 2 ^ 6 := Nat.pow_le_pow_right (by decide) (by omega)
  have hsh := shl64 r (by omega)
  have hc0 := chk_of_B hB
  have hwl := hB.len
  refine KOps.alloc hS ?_
  intro p9 h' hp9 hS
  refine KOps.storeAll hS rfl (i := 0) rfl hp9 (by show (true && (vB.one && true)) = true; rw [hvB]; rfl) (by rfl) (by rfl) (by decide) ?_
  intro h' hS
  simp only [List.set_cons_zero, List.set_cons_succ, Nat.zero_add] at hS
  refine KOps.done ?_
  refine sqQ.normal ?_
  refine KA.sub (Sub.cons (t := 2) Look.eq (Sub.cons (t := 3) Look.eq (Sub.cons (t := 5) Look.eq (Sub.cons (t := 9) Look.eq (Sub.nil _))))) ?_
  refine KA.seq ?_
  refine KA.region rfl ?_
  refine KOps.fieldAddr hp9 ?_
  intro p28 hp28
  refine KOps.load hp28 (hS.rd 0 rfl) rfl ?_
  refine KOps.lenF wc_len (hS.rd 1 rfl) ?_
  refine KOps.assign ?_
  refine KOps.done ?_
  refine sqQ.normal ?_
  refine KA.sub (Sub.cons (t := 2) Look.eq (Sub.cons (t := 3) Look.eq (Sub.cons (t := 5) Look.eq (Sub.cons (t := 9) Look.eq (Sub.cons (t := 10) Look.eq (Sub.nil _)))))) ?_
  refine KA.seq ?_
  refine KA.draw [] mixed rfl (by kernel_rfl) ?_
  refine KOps.fieldAddr hp9 ?_
  intro p31 hp31
  refine KOps.load hp31 (hS.rd 0 rfl) rfl ?_
  refine KOps.add (by omega) (by omega) ?_
  rw [show (r : Int) + 1 = ((r + 1 : Nat) : Int) from rfl]
  refine KOps.move ?_
  refine KOps.makeSliceS (s := 4) (zs := [AV.int .i64 0, .int .i64 0, .int .i64 0, .int .i64 0]) hS rfl (by decide) (by omega) (by omega) (by omega) ?_
  intro v35 h35 hS
  rw [Int.toNat_natCast, zero_ways] at hS
  have hv35 : v35.one = true := St.one hS (k := 0) rfl
  refine KOps.buildS2 (z0 := .int .i64 0) (z1 := .nils) (by kernel_rfl) (by rfl) (by kernel_rfl) (by kernel_rfl) (by kernel_rfl) (by first | rfl | assumption) (by first | rfl | assumption) ?_
  refine KOps.alloc hS ?_
  intro p11 h' hp11 hS
  refine KOps.storeAll hS rfl (i := 0) rfl hp11 (by show (true && (v35.one && true)) = true; rw [hv35]; rfl) (by rfl) (by rfl) (by decide) ?_
  intro h' hS
  simp only [List.set_cons_zero, List.set_cons_succ, Nat.zero_add] at hS
  refine KOps.done ?_
  refine sqQ.normal ?_
  refine KA.sub (Sub.cons (t := 2) Look.eq (Sub.cons (t := 3) Look.eq (Sub.cons (t := 5) Look.eq (Sub.cons (t := 9) Look.eq (Sub.cons (t := 10) Look.eq (Sub.cons (t := 11) Look.eq (Sub.nil _))))))) ?_
  refine KA.seq ?_
  refine KA.region rfl ?_
  refine KOps.makeFunc ?_
  refine KOps.assign ?_
  refine KOps.done ?_
  refine sqQ.normal ?_
  refine KA.sub (Sub.cons (t := 2) Look.eq (Sub.cons (t := 3) Look.eq (Sub.cons (t := 9) Look.eq (Sub.cons (t := 10) Look.eq (Sub.cons (t := 11) Look.eq (Sub.cons (t := 12) Look.eq (Sub.nil _))))))) ?_
  refine KA.seq ?_
  refine KA.seq ?_
  refine KA.region rfl ?_
  refine KOps.fieldAddr hp9 ?_
  intro p38 hp38
  refine KOps.load hp38 (hS.rd 2 rfl) rfl ?_
  refine KOps.lenF wc_len (hS.rd 3 rfl) ?_
  refine KOps.move ?_
  refine KOps.done ?_
  refine sqQ.normal ?_
  refine KA.sub (Sub.cons (t := 2) Look.eq (Sub.cons (t := 3) Look.eq (Sub.cons (t := 9) Look.eq (Sub.cons (t := 10) Look.eq (Sub.cons (t := 11) Look.eq (Sub.cons (t := 12) Look.eq (Sub.cons (t := 39) Look.eq (Sub.cons (t := 40) Look.eq (Sub.cons (t := 41) Look.eq (Sub.nil _)))))))))) ?_
  refine KA.block ?_
  refine KA.loop (X := Nat) (fun i => [(2, .int .u8 (s : Int)), (3, .bool fl), (9, p9), (10, .int .i64 (ws.length : Int)), (11, p11), (12, .fn 49 [p5, p11]), (39, vB), (40, .int .i64 (ws.length : Int)), (41, .int .i64 (i : Int))]) (fun i h' => i ≤ ws.length ∧ St h h' [⟨p11, 0, [.int .i64 ((r + 1 : Nat) : Int), v35], true⟩, ⟨v35, 4, flr wc (turnTo (r + 1) b s fl ws i), true⟩, ⟨p9, 0, [.int .i64 (r : Int), vB], true⟩, ⟨vB, 4, flr wc ws, true⟩, ⟨p5, 0, [.int .u8 (b : Int)], true⟩, ⟨p4, 0, [.int .u8 a, vH], true⟩]) (fun i => ws.length - i) 0 (by repeat (first | exact Sub.nil _ | refine Sub.cons Look.eq ?_ | refine Sub.cons (Eq.trans Look.eq (congrArg (AV.int _) (by first | omega | (dsimp only; omega)))) ?_)) ?_ ?_
  · exact ⟨Nat.zero_le _, hS⟩
  rintro i h40 ⟨hi, hS⟩
  refine KA.seq ?_
  refine KA.region rfl ?_
  refine KOps.lss ?_
  refine KOps.done ?_
  refine sqQ.normal ?_
  refine KA.seq ?_
  refine KA.condD ?_ ?_
  · intro c42
    have hwi := hB.way i (by omega)
    have hpl := pos_lt (n := ws.length) (s := s) (i := i) (by omega)
    have htl := turnTo_len (r + 1) b s fl ws i
    refine KA.skip ?_
    refine sqQ.normal ?_
    refine KA.sub (Sub.cons (t := 2) Look.eq (Sub.cons (t := 3) Look.eq (Sub.cons (t := 9) Look.eq (Sub.cons (t := 10) Look.eq (Sub.cons (t := 11) Look.eq (Sub.cons (t := 12) Look.eq (Sub.cons (t := 39) Look.eq (Sub.cons (t := 40) Look.eq (Sub.cons (t := 41) Look.eq (Sub.nil _)))))))))) ?_
    refine KA.seq ?_
    refine KA.block ?_
    refine KA.seq ?_
    refine KA.region rfl ?_
    refine KOps.move ?_
    refine KOps.indexF wc_len (hS.rd 3 rfl) (j := i) rfl (by first | omega | (simp; omega)) ?_
    intro p44 hp44
    refine KOps.loadFl wc_len (by decide) hp44 (hS.rd 3 rfl) (by first | omega | (simp; omega)) ?_
    refine KOps.alloc hS ?_
    intro p14 h' hp14 hS
    refine KOps.assign ?_
    refine KOps.storeAll hS rfl (i := 0) rfl hp14 (by first | rfl | (simp [AV.one]; done) | (simp [AV.one]; assumption) | (simp [AV.one, *]; done)) (by rfl) (by rfl) (by decide) ?_
    intro h' hS
    simp only [List.set_cons_zero, List.set_cons_succ, Nat.zero_add] at hS
    refine KOps.done ?_
    refine sqQ.normal ?_
    refine KA.sub (Sub.cons (t := 2) Look.eq (Sub.cons (t := 3) Look.eq (Sub.cons (t := 9) Look.eq (Sub.cons (t := 10) Look.eq (Sub.cons (t := 11) Look.eq (Sub.cons (t := 12) Look.eq (Sub.cons (t := 13) Look.eq (Sub.cons (t := 14) Look.eq (Sub.cons (t := 39) Look.eq (Sub.cons (t := 40) Look.eq (Sub.cons (t := 41) Look.eq (Sub.nil _)))))))))))) ?_
    refine KA.seq ?_
    refine KA.draw [3, 7] mixed rfl (by kernel_rfl) ?_
    refine KOps.move ?_
    refine KOps.fieldAddr hp14 ?_
    intro p47 hp47
    refine KOps.load hp47 (hS.rd 0 rfl) rfl ?_
    refine KOps.callK (by intro _ _ hr; exact hr.2 ▸ Keeps.refl _) (turned1_c hp5 (hS.rd 5 rfl) hp11 (hS.rd 1 rfl) hwi.f0 (by have := hwi.f1; omega) hb1 (by omega)) ?_
    rintro _ _ ⟨rfl, rfl⟩
    refine KOps.move ?_
    refine KOps.fieldAddr hp14 ?_
    intro p51 hp51
    refine KOps.load hp51 (hS.rd 0 rfl) rfl ?_
    refine KOps.callK (by intro _ _ hr; exact hr.2 ▸ Keeps.refl _) (turned1_c hp5 (hS.rd 5 rfl) hp11 (hS.rd 1 rfl) hwi.t0 (by have := hwi.t1; omega) hb1 (by omega)) ?_
    rintro _ _ ⟨rfl, rfl⟩
    refine KOps.fieldAddr hp14 ?_
    intro p54 hp54
    refine KOps.store hS rfl (i := 0) rfl hp54 (by first | rfl | assumption) (by first | decide | simp) ?_
    intro h' hS
    simp only [List.set_cons_zero, List.set_cons_succ, Nat.zero_add] at hS
    refine KOps.fieldAddr hp14 ?_
    intro p55 hp55
    refine KOps.store hS rfl (i := 0) rfl hp55 (by first | rfl | assumption) (by first | decide | simp) ?_
    intro h' hS
    simp only [List.set_cons_zero, List.set_cons_succ, Nat.zero_add] at hS
    refine KOps.done ?_
    refine sqQ.normal ?_
    refine KA.sub (Sub.cons (t := 2) Look.eq (Sub.cons (t := 3) Look.eq (Sub.cons (t := 9) Look.eq (Sub.cons (t := 10) Look.eq (Sub.cons (t := 11) Look.eq (Sub.cons (t := 12) Look.eq (Sub.cons (t := 13) Look.eq (Sub.cons (t := 14) Look.eq (Sub.cons (t := 39) Look.eq (Sub.cons (t := 40) Look.eq (Sub.cons (t := 41) Look.eq (Sub.nil _)))))))))))) ?_
    refine KA.meet (X := Unit) (fun _ => [(2, .int .u8 (s : Int)), (3, .bool fl), (9, p9), (10, .int .i64 (ws.length : Int)), (11, p11), (12, .fn 49 [p5, p11]), (39, vB), (40, .int .i64 (ws.length : Int)), (41, .int .i64 (i : Int)), (13, .int .i64 (i : Int)), (14, p14)]) (fun _ h' => St h h' [⟨p14, 0, wc (turnW (r + 1) b fl (ws.getD i default)), true⟩, ⟨p11, 0, [.int .i64 ((r + 1 : Nat) : Int), v35], true⟩, ⟨v35, 4, flr wc (turnTo (r + 1) b s fl ws i), true⟩, ⟨p9, 0, [.int .i64 (r : Int), vB], true⟩, ⟨vB, 4, flr wc ws, true⟩, ⟨p5, 0, [.int .u8 (b : Int)], true⟩, ⟨p4, 0, [.int .u8 a, vH], true⟩]) ?_ ?_
    ·
      refine KA.seq ?_
      refine KA.region rfl ?_
      refine KOps.move ?_
      refine KOps.done ?_
      refine sqQ.normal ?_
      refine KA.condB ?_ ?_
      · intro c56
        refine KA.region rfl ?_
        refine KOps.fieldAddr hp14 ?_
        intro p57 hp57
        refine KOps.load hp57 (hS.rd 0 rfl) rfl ?_
        refine KOps.fieldAddr hp14 ?_
        intro p59 hp59
        refine KOps.load hp59 (hS.rd 0 rfl) rfl ?_
        refine KOps.fieldAddr hp14 ?_
        intro p61 hp61
        refine KOps.store hS rfl (i := 0) rfl hp61 (by first | rfl | assumption) (by first | decide | simp) ?_
        intro h' hS
        simp only [List.set_cons_zero, List.set_cons_succ, Nat.zero_add] at hS
        refine KOps.fieldAddr hp14 ?_
        intro p62 hp62
        refine KOps.store hS rfl (i := 0) rfl hp62 (by first | rfl | assumption) (by first | decide | simp) ?_
        intro h' hS
        simp only [List.set_cons_zero, List.set_cons_succ, Nat.zero_add] at hS
        refine KOps.done ?_
        have ew : wc (turnW (r + 1) b fl (ws.getD i default)) = _ := congrArg wc (if_pos c56)
        exact mtQ.normal () (by repeat (first | exact Sub.nil _ | refine Sub.cons Look.eq ?_ | refine Sub.cons (Eq.trans Look.eq (congrArg (AV.int _) (by first | omega | (dsimp only; omega)))) ?_)) (by rw [ew]; exact hS)
      · intro c56
        refine KA.skip ?_
        have ew : wc (turnW (r + 1) b fl (ws.getD i default)) = _ := congrArg wc (if_neg (by rw [c56]; decide))
        exact mtQ.normal () (by repeat (first | exact Sub.nil _ | refine Sub.cons Look.eq ?_ | refine Sub.cons (Eq.trans Look.eq (congrArg (AV.int _) (by first | omega | (dsimp only; omega)))) ?_)) (by rw [ew]; exact hS)
    ·
      rintro _ h45 hS
      refine KA.draw [] mixed rfl (by kernel_rfl) ?_
      refine KOps.fieldAddr hp11 ?_
      intro p63 hp63
      refine KOps.load hp63 (hS.rd 1 rfl) rfl ?_
      refine KOps.move ?_
      refine KOps.move ?_
      refine KOps.convU (by omega) (by omega) ?_
      refine KOps.add (by first | omega | (simp; omega)) (by first | omega | (simp; omega)) ?_
      refine KOps.move ?_
      refine KOps.rem (by omega) (by rw [tmod_pos]; omega) (by rw [tmod_pos]; omega) ?_
      rw [tmod_pos]
      refine KOps.loadAll hS (i := 0) rfl hp14 (by rfl) (by decide) ?_
      refine KOps.indexF wc_len (hS.rd 2 rfl) (j := (pos ws.length s i)) (by first | omega | (simp; omega)) (by first | omega | (simp; omega)) ?_
      intro p72 hp72
      refine KOps.storeAgg (z := 4) hS rfl (i := 2) rfl hp72 rfl rfl (by decide) (by dsimp only; rw [flr_len wc_len, turnTo_len]; omega) ?_
      intro h72 hS
      simp only [List.set_cons_zero, List.set_cons_succ] at hS
      rw [flr_putL wc_len _ _ (by rw [turnTo_len]; omega), show (turnTo (r + 1) b s fl ws i).set (pos ws.length s i) (turnW (r + 1) b fl (ws.getD i default)) = (turnTo (r + 1) b s fl ws (i + 1)) from rfl] at hS
      refine KOps.done ?_
      refine blQ.normal ?_
      refine sqQ.normal ?_
      refine KA.sub (Sub.cons (t := 2) Look.eq (Sub.cons (t := 3) Look.eq (Sub.cons (t := 9) Look.eq (Sub.cons (t := 10) Look.eq (Sub.cons (t := 11) Look.eq (Sub.cons (t := 12) Look.eq (Sub.cons (t := 39) Look.eq (Sub.cons (t := 40) Look.eq (Sub.cons (t := 41) Look.eq (Sub.nil _)))))))))) ?_
      refine KA.region rfl ?_
      refine KOps.add (by first | omega | (simp; omega)) (by first | omega | (simp; omega)) ?_
      refine KOps.move ?_
      refine KOps.done ?_
      exact lpQ.normal (i + 1) (by repeat (first | exact Sub.nil _ | refine Sub.cons Look.eq ?_ | refine Sub.cons (Eq.trans Look.eq (congrArg (AV.int _) (by first | omega | (dsimp only; omega)))) ?_)) ⟨by omega, St.tail hS⟩ (by omega)
  · intro c42
    obtain rfl : i = ws.length := by omega
    have hT : Turned r b s fl ws (turnTo (r + 1) b s fl ws ws.length) := ⟨turnTo_len _ _ _ _ _ _, fun i hi => turnTo_get hi (Nat.le_refl _)⟩
    generalize (turnTo (r + 1) b s fl ws ws.length) = tw at hS hT
    have hB2 := hT.ok hB (by omega)
    have herr := hT.err hB hB2
    have hB2l := hB2.len
    have hTl := hT.len
    refine KA.exit ?_
    refine sqQ.exit ?_
    refine lpQ.exit ?_
    refine blQ.here ?_
    refine sqQ.normal ?_
    refine KA.sub (Sub.cons (t := 2) Look.eq (Sub.cons (t := 9) Look.eq (Sub.cons (t := 10) Look.eq (Sub.cons (t := 11) Look.eq (Sub.nil _))))) ?_
    refine KA.seq ?_
    refine KA.region rfl ?_
    refine KOps.loadAll hS (i := 2) rfl hp9 (by rfl) (by decide) ?_
    refine KOps.call rfl (stSpans_c (hS.rd 3 rfl)) ?_
    rintro _ hsp ⟨vR, rfl, hSN⟩
    have hS0 : St _ _ (_ :: _) := St.trans hS hSN
    clear hS
    have hS := hS0
    clear hS0

    refine KOps.move ?_
    refine KOps.extract ?_
    refine KOps.extract ?_
    refine KOps.assign ?_
    refine KOps.assign ?_
    refine KOps.done ?_
    refine sqQ.normal ?_
    refine KA.sub (Sub.cons (t := 2) Look.eq (Sub.cons (t := 9) Look.eq (Sub.cons (t := 10) Look.eq (Sub.cons (t := 11) Look.eq (Sub.cons (t := 15) Look.eq (Sub.cons (t := 16) Look.eq (Sub.nil _))))))) ?_
    refine KA.seq ?_
    refine KA.region rfl ?_
    refine KOps.loadAll hS (i := 1) rfl hp11 (by rfl) (by decide) ?_
    refine KOps.call rfl (stSpans_c (hS.rd 2 rfl)) ?_
    rintro _ hsp2 ⟨vR2, rfl, hSN⟩
    have hS0 : St _ _ (_ :: _) := St.trans hS hSN
    clear hS
    have hS := hS0
    clear hS0

    refine KOps.move ?_
    refine KOps.extract ?_
    refine KOps.extract ?_
    refine KOps.assign ?_
    refine KOps.assign ?_
    refine KOps.done ?_
    refine sqQ.normal ?_
    refine KA.sub (Sub.cons (t := 2) Look.eq (Sub.cons (t := 9) Look.eq (Sub.cons (t := 10) Look.eq (Sub.cons (t := 15) Look.eq (Sub.cons (t := 16) Look.eq (Sub.cons (t := 17) Look.eq (Sub.cons (t := 18) Look.eq (Sub.nil _)))))))) ?_
    refine KA.seq ?_
    refine KA.seq ?_
    refine KA.region rfl ?_
    refine KOps.move ?_
    refine KOps.move ?_
    refine KOps.neqF herr.symm ?_
    refine KOps.move ?_
    refine KOps.guardYes (dj := 87) rfl rfl ?_
    refine KOps.move ?_
    refine KOps.guardYes (dj := 87) rfl rfl ?_
    refine KOps.neq ?_
    refine KOps.guardYes (dj := 87) rfl rfl ?_
    refine KOps.move ?_
    refine KOps.guardB (dj := 90) rfl rfl true false rfl ?_ ?_
    · intro g90
      have g90 := not_of_not_decide g90
      refine KOps.move ?_
      refine KOps.guardYes (dj := 90) rfl rfl ?_
      refine KOps.neqF ((agree_01 hB).resolve_left g90) ?_
      refine KOps.guardYes (dj := 87) rfl rfl ?_
      refine KOps.pickT ?_
      refine KOps.pickF ?_
      refine KOps.done ?_
      refine sqQ.normal ?_
      refine KA.sub (Sub.cons (t := 2) Look.eq (Sub.cons (t := 9) Look.eq (Sub.cons (t := 10) Look.eq (Sub.cons (t := 15) Look.eq (Sub.cons (t := 16) Look.eq (Sub.cons (t := 17) Look.eq (Sub.cons (t := 94) Look.eq (Sub.nil _)))))))) ?_
      refine KA.condF ?_
      refine KA.skip ?_
      refine sqQ.normal ?_
      refine KA.sub (Sub.cons (t := 2) Look.eq (Sub.cons (t := 9) Look.eq (Sub.cons (t := 10) Look.eq (Sub.cons (t := 15) Look.eq (Sub.cons (t := 16) Look.eq (Sub.cons (t := 17) Look.eq (Sub.nil _))))))) ?_
      refine KA.seq ?_
      refine KA.seq ?_
      refine KA.region rfl ?_
      refine KOps.move ?_
      refine KOps.neq ?_
      refine KOps.done ?_
      refine sqQ.normal ?_
      refine KA.sub (Sub.cons (t := 2) Look.eq (Sub.cons (t := 9) Look.eq (Sub.cons (t := 10) Look.eq (Sub.cons (t := 15) Look.eq (Sub.cons (t := 17) Look.eq (Sub.cons (t := 96) Look.eq (Sub.nil _))))))) ?_
      refine KA.condN ?_ ?_
      · intro c96
        skip
        refine KA.seq ?_
        refine KA.region rfl ?_
        refine KOps.call rfl (works_c (hSz.ext hS.keeps)) ?_
        rintro _ hwk ⟨rfl, hK⟩
        refine KOps.assign ?_
        refine KOps.done ?_
        refine sqQ.normal ?_
        refine KA.sub (Sub.cons (t := 8) Look.eq (Sub.nil _)) ?_
        refine KA.ret ?_
        refine sqQ.ret ?_
        refine fnQ.ret1 ?_
        exact rfl
      · intro c96
        have e96 : agreeE (r : Int) ws = 0 := c96
        rw [herr.trans e96, e96] at hS
        rw [if_pos rfl, if_pos rfl] at hS
        have hex := (agree_ok e96).2
        have hsl := spansTo_len ws ws.length
        have hsl2 := spansTo_len tw tw.length
        refine KA.skip ?_
        refine sqQ.normal ?_
        refine KA.sub (Sub.cons (t := 2) Look.eq (Sub.cons (t := 9) Look.eq (Sub.cons (t := 10) Look.eq (Sub.cons (t := 15) Look.eq (Sub.cons (t := 17) Look.eq (Sub.nil _)))))) ?_
        refine KA.seq ?_
        refine KA.seq ?_
        refine KA.region rfl ?_
        refine KOps.move ?_
        refine KOps.lenF pc_len (hS.rd 1 rfl) ?_
        refine KOps.move ?_
        refine KOps.neqF (by rw [spansTo_len]) ?_
        refine KOps.move ?_
        refine KOps.guardYes (dj := 102) rfl rfl ?_
        refine KOps.move ?_
        refine KOps.guardYes (dj := 102) rfl rfl ?_
        refine KOps.lenF pc_len (hS.rd 0 rfl) ?_
        refine KOps.guardYes (dj := 102) rfl rfl ?_
        refine KOps.move ?_
        refine KOps.guardYes (dj := 102) rfl rfl ?_
        refine KOps.neqF (by rw [spansTo_len, hT.len]) ?_
        refine KOps.pickF ?_
        refine KOps.done ?_
        refine sqQ.normal ?_
        refine KA.sub (Sub.cons (t := 2) Look.eq (Sub.cons (t := 9) Look.eq (Sub.cons (t := 10) Look.eq (Sub.cons (t := 15) Look.eq (Sub.cons (t := 17) Look.eq (Sub.cons (t := 107) Look.eq (Sub.nil _))))))) ?_
        refine KA.condF ?_
        refine KA.skip ?_
        refine sqQ.normal ?_
        refine KA.sub (Sub.cons (t := 2) Look.eq (Sub.cons (t := 9) Look.eq (Sub.cons (t := 10) Look.eq (Sub.cons (t := 15) Look.eq (Sub.cons (t := 17) Look.eq (Sub.nil _)))))) ?_
        refine KA.seq ?_
        refine KA.seq ?_
        refine KA.region rfl ?_
        refine KOps.move ?_
        refine KOps.lenF pc_len (hS.rd 1 rfl) ?_
        rw [hsl]
        refine KOps.move ?_
        refine KOps.done ?_
        refine sqQ.normal ?_
        refine KA.sub (Sub.cons (t := 2) Look.eq (Sub.cons (t := 9) Look.eq (Sub.cons (t := 10) Look.eq (Sub.cons (t := 15) Look.eq (Sub.cons (t := 17) Look.eq (Sub.cons (t := 109) Look.eq (Sub.cons (t := 110) Look.eq (Sub.nil _)))))))) ?_
        refine KA.block ?_
        refine KA.loop (X := Nat) (fun i => [(2, .int .u8 (s : Int)), (9, p9), (10, .int .i64 (ws.length : Int)), (15, vR), (17, vR2), (109, .int .i64 (ws.length : Int)), (110, .int .i64 (i : Int))]) (fun i h' => i ≤ ws.length ∧ St h h' [⟨vR2, 2, flr pc (spansTo tw tw.length), true⟩, ⟨vR, 2, flr pc (spansTo ws ws.length), true⟩, ⟨p9, 0, [.int .i64 (r : Int), vB], true⟩, ⟨vB, 4, flr wc ws, true⟩]) (fun i => ws.length - i) 0 (by repeat (first | exact Sub.nil _ | refine Sub.cons Look.eq ?_ | refine Sub.cons (Eq.trans Look.eq (congrArg (AV.int _) (by first | omega | (dsimp only; omega)))) ?_)) ?_ ?_
        · exact ⟨Nat.zero_le _, St.pick [0, 1, 4, 5] (by decide) rfl hS⟩
        rintro i h50 ⟨hi, hS⟩
        refine KA.seq ?_
        refine KA.region rfl ?_
        refine KOps.lss ?_
        refine KOps.done ?_
        refine sqQ.normal ?_
        refine KA.seq ?_
        refine KA.condD ?_ ?_
        · intro c111
          have hpl := pos_lt (n := ws.length) (s := s) (i := i) (by omega)
          have hsp := hT.span hB hB2 hex (i := i) (by omega)
          have hg := spansTo_get (ws := ws) (k := ws.length) (i := i) (by omega)
          have hg2 := spansTo_get (ws := tw) (k := tw.length) (i := pos ws.length s i) (by omega)
          refine KA.skip ?_
          refine sqQ.normal ?_
          refine KA.sub (Sub.cons (t := 2) Look.eq (Sub.cons (t := 9) Look.eq (Sub.cons (t := 10) Look.eq (Sub.cons (t := 15) Look.eq (Sub.cons (t := 17) Look.eq (Sub.cons (t := 109) Look.eq (Sub.cons (t := 110) Look.eq (Sub.nil _)))))))) ?_
          refine KA.seq ?_
          refine KA.block ?_
          refine KA.seq ?_
          refine KA.region rfl ?_
          refine KOps.move ?_
          refine KOps.assign ?_
          refine KOps.done ?_
          refine sqQ.normal ?_
          refine KA.sub (Sub.cons (t := 2) Look.eq (Sub.cons (t := 9) Look.eq (Sub.cons (t := 10) Look.eq (Sub.cons (t := 15) Look.eq (Sub.cons (t := 17) Look.eq (Sub.cons (t := 19) Look.eq (Sub.cons (t := 109) Look.eq (Sub.cons (t := 110) Look.eq (Sub.nil _))))))))) ?_
          refine KA.seq ?_
          refine KA.draw [] mixed rfl (by kernel_rfl) ?_
          refine KOps.move ?_
          refine KOps.move ?_
          refine KOps.indexF pc_len (hS.rd 1 rfl) (j := i) (by first | omega | (simp; omega)) (by first | omega | (simp; omega)) ?_
          intro p115 hp115
          refine KOps.loadFl pc_len (by decide) hp115 (hS.rd 1 rfl) (by first | omega | (simp; omega)) ?_
          refine KOps.move ?_
          refine KOps.move ?_
          refine KOps.move ?_
          refine KOps.convU (by omega) (by omega) ?_
          refine KOps.add (by first | omega | (simp; omega)) (by first | omega | (simp; omega)) ?_
          refine KOps.move ?_
          refine KOps.rem (by omega) (by rw [tmod_pos]; omega) (by rw [tmod_pos]; omega) ?_
          rw [tmod_pos]
          refine KOps.indexF pc_len (hS.rd 0 rfl) (j := (pos ws.length s i)) (by first | omega | (simp; omega)) (by first | omega | (simp; omega)) ?_
          intro p124 hp124
          refine KOps.loadFl pc_len (by decide) hp124 (hS.rd 0 rfl) (by first | omega | (simp; omega)) ?_
          refine KOps.neqPc ?_
          rw [hg, hg2, hsp.1, hsp.2, decide_eq_true rfl, Bool.not_true]
          refine KOps.done ?_
          refine sqQ.normal ?_
          refine KA.sub (Sub.cons (t := 2) Look.eq (Sub.cons (t := 9) Look.eq (Sub.cons (t := 10) Look.eq (Sub.cons (t := 15) Look.eq (Sub.cons (t := 17) Look.eq (Sub.cons (t := 109) Look.eq (Sub.cons (t := 110) Look.eq (Sub.cons (t := 126) Look.eq (Sub.nil _))))))))) ?_
          refine KA.condF ?_
          refine KA.skip ?_
          refine blQ.normal ?_
          refine sqQ.normal ?_
          refine KA.sub (Sub.cons (t := 2) Look.eq (Sub.cons (t := 9) Look.eq (Sub.cons (t := 10) Look.eq (Sub.cons (t := 15) Look.eq (Sub.cons (t := 17) Look.eq (Sub.cons (t := 109) Look.eq (Sub.cons (t := 110) Look.eq (Sub.nil _)))))))) ?_
          refine KA.region rfl ?_
          refine KOps.add (by first | omega | (simp; omega)) (by first | omega | (simp; omega)) ?_
          refine KOps.move ?_
          refine KOps.done ?_
          exact lpQ.normal (i + 1) (by repeat (first | exact Sub.nil _ | refine Sub.cons Look.eq ?_ | refine Sub.cons (Eq.trans Look.eq (congrArg (AV.int _) (by first | omega | (dsimp only; omega)))) ?_)) ⟨by omega, hS⟩ (by omega)
        · intro c111
          refine KA.exit ?_
          refine sqQ.exit ?_
          refine lpQ.exit ?_
          refine blQ.here ?_
          refine sqQ.normal ?_
          refine KA.sub (Sub.cons (t := 9) Look.eq (Sub.cons (t := 15) Look.eq (Sub.nil _))) ?_
          refine KA.seq ?_
          refine KA.seq ?_
          refine KA.region rfl ?_
          refine KOps.fieldAddr hp9 ?_
          intro p128 hp128
          refine KOps.load hp128 (hS.rd 2 rfl) rfl ?_
          refine KOps.move ?_
          refine KOps.done ?_
          refine sqQ.normal ?_
          refine KA.sub (Sub.cons (t := 9) Look.eq (Sub.cons (t := 15) Look.eq (Sub.cons (t := 129) Look.eq (Sub.cons (t := 130) Look.eq (Sub.nil _))))) ?_
          refine KA.block ?_
          refine KA.loop (X := Nat) (fun x => [(9, p9), (15, vR), (129, .int .i64 (r : Int)), (130, .int .i64 (x : Int))]) (fun x h' => x ≤ r ∧ St h h' [⟨vR, 2, flr pc (spansTo ws ws.length), true⟩, ⟨p9, 0, [.int .i64 (r : Int), vB], true⟩, ⟨vB, 4, flr wc ws, true⟩]) (fun x => r - x) 0 (by repeat (first | exact Sub.nil _ | refine Sub.cons Look.eq ?_ | refine Sub.cons (Eq.trans Look.eq (congrArg (AV.int _) (by first | omega | (dsimp only; omega)))) ?_)) ?_ ?_
          · exact ⟨Nat.zero_le _, St.tail hS⟩
          rintro x h60 ⟨hx2, hS⟩
          refine KA.seq ?_
          refine KA.region rfl ?_
          refine KOps.lss ?_
          refine KOps.done ?_
          refine sqQ.normal ?_
          refine KA.seq ?_
          refine KA.condD ?_ ?_
          · intro c131
            refine KA.skip ?_
            refine sqQ.normal ?_
            refine KA.sub (Sub.cons (t := 9) Look.eq (Sub.cons (t := 15) Look.eq (Sub.cons (t := 129) Look.eq (Sub.cons (t := 130) Look.eq (Sub.nil _))))) ?_
            refine KA.seq ?_
            refine KA.block ?_
            refine KA.seq ?_
            refine KA.region rfl ?_
            refine KOps.move ?_
            refine KOps.assign ?_
            refine KOps.done ?_
            refine sqQ.normal ?_
            refine KA.sub (Sub.cons (t := 9) Look.eq (Sub.cons (t := 15) Look.eq (Sub.cons (t := 20) Look.eq (Sub.cons (t := 129) Look.eq (Sub.cons (t := 130) Look.eq (Sub.nil _)))))) ?_
            refine KA.seq ?_
            refine KA.region rfl ?_
            refine KOps.assign ?_
            refine KOps.assign ?_
            refine KOps.done ?_
            refine sqQ.normal ?_
            refine KA.seq ?_
            refine KA.region rfl ?_
            refine KOps.assign ?_
            refine KOps.done ?_
            refine sqQ.normal ?_
            refine KA.seq ?_
            refine KA.seq ?_
            refine KA.region rfl ?_
            refine KOps.fieldAddr hp9 ?_
            intro p133 hp133
            refine KOps.load hp133 (hS.rd 1 rfl) rfl ?_
            refine KOps.lenF wc_len (hS.rd 2 rfl) ?_
            refine KOps.move ?_
            refine KOps.done ?_
            refine sqQ.normal ?_
            refine KA.sub (Sub.cons (t := 9) Look.eq (Sub.cons (t := 15) Look.eq (Sub.cons (t := 20) Look.eq (Sub.cons (t := 21) Look.eq (Sub.cons (t := 22) Look.eq (Sub.cons (t := 23) Look.eq (Sub.cons (t := 129) Look.eq (Sub.cons (t := 130) Look.eq (Sub.cons (t := 134) Look.eq (Sub.cons (t := 135) Look.eq (Sub.cons (t := 136) Look.eq (Sub.nil _)))))))))))) ?_
            refine KA.block ?_
            refine KA.loop (X := Nat) (fun k => [(9, p9), (15, vR), (129, .int .i64 (r : Int)), (130, .int .i64 (x : Int)), (20, .int .i64 (x : Int)), (134, vB), (135, .int .i64 (ws.length : Int)), (136, .int .i64 (k : Int)), (21, .int .i64 (inTo ws (x : Int) k)), (22, .int .i64 (outTo ws (x : Int) k)), (23, .bool (oneTo ws (x : Int) k))]) (fun k h' => k ≤ ws.length ∧ St h h' [⟨vR, 2, flr pc (spansTo ws ws.length), true⟩, ⟨p9, 0, [.int .i64 (r : Int), vB], true⟩, ⟨vB, 4, flr wc ws, true⟩]) (fun k => ws.length - k) 0 (by repeat (first | exact Sub.nil _ | refine Sub.cons Look.eq ?_ | refine Sub.cons (Eq.trans Look.eq (congrArg (AV.int _) (by first | omega | (dsimp only; omega)))) ?_)) ?_ ?_
            · exact ⟨Nat.zero_le _, hS⟩
            rintro k h70 ⟨hk, hS⟩
            refine KA.seq ?_
            refine KA.region rfl ?_
            refine KOps.lss ?_
            refine KOps.done ?_
            refine sqQ.normal ?_
            refine KA.seq ?_
            refine KA.condD ?_ ?_
            · intro c137
              have hib := inTo_b ws (x : Int) k
              have hob := outTo_b ws (x : Int) k
              refine KA.skip ?_
              refine sqQ.normal ?_
              refine KA.sub (Sub.cons (t := 9) Look.eq (Sub.cons (t := 15) Look.eq (Sub.cons (t := 20) Look.eq (Sub.cons (t := 21) Look.eq (Sub.cons (t := 22) Look.eq (Sub.cons (t := 23) Look.eq (Sub.cons (t := 129) Look.eq (Sub.cons (t := 130) Look.eq (Sub.cons (t := 134) Look.eq (Sub.cons (t := 135) Look.eq (Sub.cons (t := 136) Look.eq (Sub.nil _)))))))))))) ?_
              refine KA.seq ?_
              refine KA.block ?_
              refine KA.seq ?_
              refine KA.region rfl ?_
              refine KOps.move ?_
              refine KOps.indexF wc_len (hS.rd 2 rfl) (j := k) rfl (by first | omega | (simp; omega)) ?_
              intro p139 hp139
              refine KOps.loadFl wc_len (by decide) hp139 (hS.rd 2 rfl) (by first | omega | (simp; omega)) ?_
              refine KOps.alloc hS ?_
              intro p25 h' hp25 hS
              refine KOps.assign ?_
              refine KOps.storeAll hS rfl (i := 0) rfl hp25 (by first | rfl | (simp [AV.one]; done) | (simp [AV.one]; assumption) | (simp [AV.one, *]; done)) (by rfl) (by rfl) (by decide) ?_
              intro h' hS
              simp only [List.set_cons_zero, List.set_cons_succ, Nat.zero_add] at hS
              refine KOps.done ?_
              refine sqQ.normal ?_
              refine KA.sub (Sub.cons (t := 9) Look.eq (Sub.cons (t := 15) Look.eq (Sub.cons (t := 20) Look.eq (Sub.cons (t := 21) Look.eq (Sub.cons (t := 22) Look.eq (Sub.cons (t := 23) Look.eq (Sub.cons (t := 24) Look.eq (Sub.cons (t := 25) Look.eq (Sub.cons (t := 129) Look.eq (Sub.cons (t := 130) Look.eq (Sub.cons (t := 134) Look.eq (Sub.cons (t := 135) Look.eq (Sub.cons (t := 136) Look.eq (Sub.nil _)))))))))))))) ?_
              refine KA.meet (X := Unit) (fun _ => [(9, p9), (15, vR), (129, .int .i64 (r : Int)), (130, .int .i64 (x : Int)), (20, .int .i64 (x : Int)), (134, vB), (135, .int .i64 (ws.length : Int)), (136, .int .i64 (k : Int)), (21, .int .i64 (inTo ws (x : Int) (k + 1))), (22, .int .i64 (outTo ws (x : Int) k)), (23, .bool (oneIn ws (x : Int) (oneTo ws (x : Int) k) k)), (24, .int .i64 (k : Int)), (25, p25)]) (fun _ h' => St h h' [⟨p25, 0, wc (ws.getD k default), true⟩, ⟨vR, 2, flr pc (spansTo ws ws.length), true⟩, ⟨p9, 0, [.int .i64 (r : Int), vB], true⟩, ⟨vB, 4, flr wc ws, true⟩]) ?_ ?_
              ·
                refine KA.seq ?_
                refine KA.region rfl ?_
                refine KOps.fieldAddr hp25 ?_
                intro p141 hp141
                refine KOps.load hp141 (hS.rd 0 rfl) rfl ?_
                refine KOps.move ?_
                refine KOps.eql ?_
                refine KOps.done ?_
                refine sqQ.normal ?_
                refine KA.sub (Sub.cons (t := 9) Look.eq (Sub.cons (t := 15) Look.eq (Sub.cons (t := 20) Look.eq (Sub.cons (t := 21) Look.eq (Sub.cons (t := 22) Look.eq (Sub.cons (t := 23) Look.eq (Sub.cons (t := 24) Look.eq (Sub.cons (t := 25) Look.eq (Sub.cons (t := 129) Look.eq (Sub.cons (t := 130) Look.eq (Sub.cons (t := 134) Look.eq (Sub.cons (t := 135) Look.eq (Sub.cons (t := 136) Look.eq (Sub.cons (t := 144) Look.eq (Sub.nil _))))))))))))))) ?_
                refine KA.condD ?_ ?_
                · intro c144
                  refine KA.seq ?_
                  refine KA.region rfl ?_
                  refine KOps.move ?_
                  refine KOps.move ?_
                  refine KOps.guardB (dj := 146) rfl rfl true false rfl ?_ ?_
                  · intro g146
                    refine KOps.move ?_
                    refine KOps.guardYes (dj := 146) rfl rfl ?_
                    refine KOps.lss ?_
                    refine KOps.pickT ?_
                    refine KOps.assign ?_
                    refine KOps.done ?_
                    refine sqQ.normal ?_
                    refine KA.sub (Sub.cons (t := 9) Look.eq (Sub.cons (t := 15) Look.eq (Sub.cons (t := 20) Look.eq (Sub.cons (t := 22) Look.eq (Sub.cons (t := 23) Look.eq (Sub.cons (t := 24) Look.eq (Sub.cons (t := 25) Look.eq (Sub.cons (t := 129) Look.eq (Sub.cons (t := 130) Look.eq (Sub.cons (t := 134) Look.eq (Sub.cons (t := 135) Look.eq (Sub.cons (t := 136) Look.eq (Sub.cons (t := 147) Look.eq (Sub.cons (t := 148) Look.eq (Sub.nil _))))))))))))))) ?_
                    refine KA.region rfl ?_
                    refine KOps.move ?_
                    refine KOps.assign ?_
                    refine KOps.done ?_
                    exact mtQ.normal () (by repeat (first | exact Sub.nil _ | refine Sub.cons Look.eq ?_ | refine Sub.cons (Eq.trans Look.eq (congrArg (AV.int _) (by first | omega | (dsimp only; omega)))) ?_ | refine Sub.cons (Eq.trans Look.eq (congrArg (AV.int _) (by rw [inTo, if_pos c144]))) ?_ | refine Sub.cons (Eq.trans Look.eq (congrArg AV.bool (by rw [oneIn, if_pos c144, g146]; first | rfl | exact Bool.true_and _))) ?_)) hS
                  · intro g146
                    refine KOps.guardNo (dj := 146) rfl rfl rfl ?_
                    refine KOps.pickF ?_
                    refine KOps.assign ?_
                    refine KOps.done ?_
                    refine sqQ.normal ?_
                    refine KA.sub (Sub.cons (t := 9) Look.eq (Sub.cons (t := 15) Look.eq (Sub.cons (t := 20) Look.eq (Sub.cons (t := 22) Look.eq (Sub.cons (t := 23) Look.eq (Sub.cons (t := 24) Look.eq (Sub.cons (t := 25) Look.eq (Sub.cons (t := 129) Look.eq (Sub.cons (t := 130) Look.eq (Sub.cons (t := 134) Look.eq (Sub.cons (t := 135) Look.eq (Sub.cons (t := 136) Look.eq (Sub.cons (t := 147) Look.eq (Sub.cons (t := 148) Look.eq (Sub.nil _))))))))))))))) ?_
                    refine KA.region rfl ?_
                    refine KOps.move ?_
                    refine KOps.assign ?_
                    refine KOps.done ?_
                    exact mtQ.normal () (by repeat (first | exact Sub.nil _ | refine Sub.cons Look.eq ?_ | refine Sub.cons (Eq.trans Look.eq (congrArg (AV.int _) (by first | omega | (dsimp only; omega)))) ?_ | refine Sub.cons (Eq.trans Look.eq (congrArg (AV.int _) (by rw [inTo, if_pos c144]))) ?_ | refine Sub.cons (Eq.trans Look.eq (congrArg AV.bool (by rw [oneIn, if_pos c144, g146]; first | rfl | exact Bool.true_and _))) ?_)) hS
                · intro c144
                  refine KA.skip ?_
                  exact mtQ.normal () (by repeat (first | exact Sub.nil _ | refine Sub.cons Look.eq ?_ | refine Sub.cons (Eq.trans Look.eq (congrArg (AV.int _) (by first | omega | (dsimp only; omega)))) ?_ | refine Sub.cons (Eq.trans Look.eq (congrArg (AV.int _) (by rw [inTo, if_neg c144]))) ?_ | refine Sub.cons (Eq.trans Look.eq (congrArg AV.bool (by rw [oneIn, if_neg c144]))) ?_)) hS
              ·
                rintro _ h75 hS
                refine KA.seq ?_
                refine KA.region rfl ?_
                refine KOps.fieldAddr hp25 ?_
                intro p151 hp151
                refine KOps.load hp151 (hS.rd 0 rfl) rfl ?_
                refine KOps.move ?_
                refine KOps.eql ?_
                refine KOps.done ?_
                refine sqQ.normal ?_
                refine KA.sub (Sub.cons (t := 9) Look.eq (Sub.cons (t := 15) Look.eq (Sub.cons (t := 20) Look.eq (Sub.cons (t := 21) Look.eq (Sub.cons (t := 22) Look.eq (Sub.cons (t := 23) Look.eq (Sub.cons (t := 24) Look.eq (Sub.cons (t := 129) Look.eq (Sub.cons (t := 130) Look.eq (Sub.cons (t := 134) Look.eq (Sub.cons (t := 135) Look.eq (Sub.cons (t := 136) Look.eq (Sub.cons (t := 154) Look.eq (Sub.nil _)))))))))))))) ?_
                refine KA.condD ?_ ?_
                · intro c154
                  refine KA.seq ?_
                  refine KA.region rfl ?_
                  refine KOps.move ?_
                  refine KOps.move ?_
                  refine KOps.guardB (dj := 156) rfl rfl true false rfl ?_ ?_
                  · intro g156
                    refine KOps.move ?_
                    refine KOps.guardYes (dj := 156) rfl rfl ?_
                    refine KOps.lss ?_
                    refine KOps.pickT ?_
                    refine KOps.assign ?_
                    refine KOps.done ?_
                    refine sqQ.normal ?_
                    refine KA.sub (Sub.cons (t := 9) Look.eq (Sub.cons (t := 15) Look.eq (Sub.cons (t := 20) Look.eq (Sub.cons (t := 21) Look.eq (Sub.cons (t := 23) Look.eq (Sub.cons (t := 24) Look.eq (Sub.cons (t := 129) Look.eq (Sub.cons (t := 130) Look.eq (Sub.cons (t := 134) Look.eq (Sub.cons (t := 135) Look.eq (Sub.cons (t := 136) Look.eq (Sub.cons (t := 157) Look.eq (Sub.cons (t := 158) Look.eq (Sub.nil _)))))))))))))) ?_
                    refine KA.region rfl ?_
                    refine KOps.move ?_
                    refine KOps.assign ?_
                    refine KOps.done ?_
                    refine blQ.normal ?_
                    refine sqQ.normal ?_
                    refine KA.sub (Sub.cons (t := 9) Look.eq (Sub.cons (t := 15) Look.eq (Sub.cons (t := 20) Look.eq (Sub.cons (t := 21) Look.eq (Sub.cons (t := 22) Look.eq (Sub.cons (t := 23) Look.eq (Sub.cons (t := 129) Look.eq (Sub.cons (t := 130) Look.eq (Sub.cons (t := 134) Look.eq (Sub.cons (t := 135) Look.eq (Sub.cons (t := 136) Look.eq (Sub.cons (t := 157) Look.eq (Sub.cons (t := 158) Look.eq (Sub.nil _)))))))))))))) ?_
                    refine KA.region rfl ?_
                    refine KOps.add (by first | omega | (simp; omega)) (by first | omega | (simp; omega)) ?_
                    refine KOps.move ?_
                    refine KOps.done ?_
                    exact lpQ.normal (k + 1) (by repeat (first | exact Sub.nil _ | refine Sub.cons Look.eq ?_ | refine Sub.cons (Eq.trans Look.eq (congrArg (AV.int _) (by first | omega | (dsimp only; omega)))) ?_ | refine Sub.cons (Eq.trans Look.eq (congrArg (AV.int _) (by rw [outTo, if_pos c154]))) ?_ | refine Sub.cons (Eq.trans Look.eq (congrArg AV.bool (by rw [oneTo, if_pos c154, g156]; first | rfl | exact Bool.true_and _))) ?_)) ⟨by omega, St.tail hS⟩ (by omega)
                  · intro g156
                    refine KOps.guardNo (dj := 156) rfl rfl rfl ?_
                    refine KOps.pickF ?_
                    refine KOps.assign ?_
                    refine KOps.done ?_
                    refine sqQ.normal ?_
                    refine KA.sub (Sub.cons (t := 9) Look.eq (Sub.cons (t := 15) Look.eq (Sub.cons (t := 20) Look.eq (Sub.cons (t := 21) Look.eq (Sub.cons (t := 23) Look.eq (Sub.cons (t := 24) Look.eq (Sub.cons (t := 129) Look.eq (Sub.cons (t := 130) Look.eq (Sub.cons (t := 134) Look.eq (Sub.cons (t := 135) Look.eq (Sub.cons (t := 136) Look.eq (Sub.cons (t := 157) Look.eq (Sub.cons (t := 158) Look.eq (Sub.nil _)))))))))))))) ?_
                    refine KA.region rfl ?_
                    refine KOps.move ?_
                    refine KOps.assign ?_
                    refine KOps.done ?_
                    refine blQ.normal ?_
                    refine sqQ.normal ?_
                    refine KA.sub (Sub.cons (t := 9) Look.eq (Sub.cons (t := 15) Look.eq (Sub.cons (t := 20) Look.eq (Sub.cons (t := 21) Look.eq (Sub.cons (t := 22) Look.eq (Sub.cons (t := 23) Look.eq (Sub.cons (t := 129) Look.eq (Sub.cons (t := 130) Look.eq (Sub.cons (t := 134) Look.eq (Sub.cons (t := 135) Look.eq (Sub.cons (t := 136) Look.eq (Sub.cons (t := 157) Look.eq (Sub.cons (t := 158) Look.eq (Sub.nil _)))))))))))))) ?_
                    refine KA.region rfl ?_
                    refine KOps.add (by first | omega | (simp; omega)) (by first | omega | (simp; omega)) ?_
                    refine KOps.move ?_
                    refine KOps.done ?_
                    exact lpQ.normal (k + 1) (by repeat (first | exact Sub.nil _ | refine Sub.cons Look.eq ?_ | refine Sub.cons (Eq.trans Look.eq (congrArg (AV.int _) (by first | omega | (dsimp only; omega)))) ?_ | refine Sub.cons (Eq.trans Look.eq (congrArg (AV.int _) (by rw [outTo, if_pos c154]))) ?_ | refine Sub.cons (Eq.trans Look.eq (congrArg AV.bool (by rw [oneTo, if_pos c154, g156]; first | rfl | exact Bool.true_and _))) ?_)) ⟨by omega, St.tail hS⟩ (by omega)
                · intro c154
                  refine KA.skip ?_
                  refine blQ.normal ?_
                  refine sqQ.normal ?_
                  refine KA.sub (Sub.cons (t := 9) Look.eq (Sub.cons (t := 15) Look.eq (Sub.cons (t := 20) Look.eq (Sub.cons (t := 21) Look.eq (Sub.cons (t := 22) Look.eq (Sub.cons (t := 23) Look.eq (Sub.cons (t := 129) Look.eq (Sub.cons (t := 130) Look.eq (Sub.cons (t := 134) Look.eq (Sub.cons (t := 135) Look.eq (Sub.cons (t := 136) Look.eq (Sub.nil _)))))))))))) ?_
                  refine KA.region rfl ?_
                  refine KOps.add (by first | omega | (simp; omega)) (by first | omega | (simp; omega)) ?_
                  refine KOps.move ?_
                  refine KOps.done ?_
                  exact lpQ.normal (k + 1) (by repeat (first | exact Sub.nil _ | refine Sub.cons Look.eq ?_ | refine Sub.cons (Eq.trans Look.eq (congrArg (AV.int _) (by first | omega | (dsimp only; omega)))) ?_ | refine Sub.cons (Eq.trans Look.eq (congrArg (AV.int _) (by rw [outTo, if_neg c154]))) ?_ | refine Sub.cons (Eq.trans Look.eq (congrArg AV.bool (by rw [oneTo, if_neg c154]))) ?_)) ⟨by omega, St.tail hS⟩ (by omega)
            · intro c137
              obtain rfl : k = ws.length := by omega
              have hib := inTo_b ws (x : Int) ws.length
              have hob := outTo_b ws (x : Int) ws.length
              refine KA.exit ?_
              refine sqQ.exit ?_
              refine lpQ.exit ?_
              refine blQ.here ?_
              refine sqQ.normal ?_
              refine KA.sub (Sub.cons (t := 9) Look.eq (Sub.cons (t := 15) Look.eq (Sub.cons (t := 21) Look.eq (Sub.cons (t := 22) Look.eq (Sub.cons (t := 23) Look.eq (Sub.cons (t := 129) Look.eq (Sub.cons (t := 130) Look.eq (Sub.nil _)))))))) ?_
              refine KA.seq ?_
              refine KA.draw [] mixed rfl (by kernel_rfl) ?_
              refine KOps.move ?_
              refine KOps.move ?_
              refine KOps.guardB (dj := 163) rfl rfl true false rfl ?_ ?_
              · intro g163
                refine KOps.move ?_
                refine KOps.guardYes (dj := 163) rfl rfl ?_
                refine KOps.geq ?_
                refine KOps.pickT ?_
                refine KOps.move ?_
                refine KOps.guardB (dj := 167) rfl rfl true false rfl ?_ ?_
                · intro g167
                  have g167 := of_decide_eq_true g167
                  refine KOps.move ?_
                  refine KOps.guardYes (dj := 167) rfl rfl ?_
                  refine KOps.geq ?_
                  refine KOps.pickT ?_
                  refine KOps.move ?_
                  refine KOps.guardB (dj := 171) rfl rfl true false rfl ?_ ?_
                  · intro g171
                    have g171 := of_decide_eq_true g171
                    refine KOps.move ?_
                    refine KOps.guardYes (dj := 171) rfl rfl ?_
                    refine KOps.move ?_
                    refine KOps.guardYes (dj := 171) rfl rfl ?_
                    refine KOps.indexF pc_len (hS.rd 0 rfl) (j := (inTo ws (x : Int) ws.length).toNat) (by first | omega | (simp; omega)) (by first | omega | (simp; omega)) ?_
                    intro p174 hp174
                    refine KOps.guardYes (dj := 171) rfl rfl ?_
                    refine KOps.loadFl pc_len (by decide) hp174 (hS.rd 0 rfl) (by first | omega | (simp; omega)) ?_
                    refine KOps.guardYes (dj := 171) rfl rfl ?_
                    refine KOps.move ?_
                    refine KOps.guardYes (dj := 171) rfl rfl ?_
                    refine KOps.move ?_
                    refine KOps.guardYes (dj := 171) rfl rfl ?_
                    refine KOps.indexF pc_len (hS.rd 0 rfl) (j := (outTo ws (x : Int) ws.length).toNat) (by first | omega | (simp; omega)) (by first | omega | (simp; omega)) ?_
                    intro p178 hp178
                    refine KOps.guardYes (dj := 171) rfl rfl ?_
                    refine KOps.loadFl pc_len (by decide) hp178 (hS.rd 0 rfl) (by first | omega | (simp; omega)) ?_
                    refine KOps.guardYes (dj := 171) rfl rfl ?_
                    have hg := spansTo_get (ws := ws) (k := ws.length) (i := (inTo ws (x : Int) ws.length).toNat) (by omega)
                    have hg2 := spansTo_get (ws := ws) (k := ws.length) (i := (outTo ws (x : Int) ws.length).toNat) (by omega)
                    have hsm := one_same hex g163 g167 g171
                    refine KOps.neqPc ?_
                    rw [hg, hg2, hsm.1, hsm.2, decide_eq_true rfl, Bool.not_true]
                    refine KOps.pickT ?_
                    refine KOps.done ?_
                    refine sqQ.normal ?_
                    refine KA.sub (Sub.cons (t := 9) Look.eq (Sub.cons (t := 15) Look.eq (Sub.cons (t := 129) Look.eq (Sub.cons (t := 130) Look.eq (Sub.cons (t := 164) Look.eq (Sub.cons (t := 165) Look.eq (Sub.cons (t := 168) Look.eq (Sub.cons (t := 169) Look.eq (Sub.cons (t := 172) Look.eq (Sub.cons (t := 173) Look.eq (Sub.cons (t := 174) Look.eq (Sub.cons (t := 175) Look.eq (Sub.cons (t := 176) Look.eq (Sub.cons (t := 177) Look.eq (Sub.cons (t := 178) Look.eq (Sub.cons (t := 179) Look.eq (Sub.cons (t := 180) Look.eq (Sub.cons (t := 181) Look.eq (Sub.nil _))))))))))))))))))) ?_
                    refine KA.condF ?_
                    refine KA.skip ?_
                    refine blQ.normal ?_
                    refine sqQ.normal ?_
                    refine KA.sub (Sub.cons (t := 9) Look.eq (Sub.cons (t := 15) Look.eq (Sub.cons (t := 129) Look.eq (Sub.cons (t := 130) Look.eq (Sub.cons (t := 164) Look.eq (Sub.cons (t := 165) Look.eq (Sub.cons (t := 168) Look.eq (Sub.cons (t := 169) Look.eq (Sub.cons (t := 172) Look.eq (Sub.cons (t := 173) Look.eq (Sub.cons (t := 174) Look.eq (Sub.cons (t := 175) Look.eq (Sub.cons (t := 176) Look.eq (Sub.cons (t := 177) Look.eq (Sub.cons (t := 178) Look.eq (Sub.cons (t := 179) Look.eq (Sub.cons (t := 180) Look.eq (Sub.nil _)))))))))))))))))) ?_
                    refine KA.region rfl ?_
                    refine KOps.add (by first | omega | (simp; omega)) (by first | omega | (simp; omega)) ?_
                    refine KOps.move ?_
                    refine KOps.done ?_
                    exact lpQ.normal (x + 1) (by repeat (first | exact Sub.nil _ | refine Sub.cons Look.eq ?_ | refine Sub.cons (Eq.trans Look.eq (congrArg (AV.int _) (by first | omega | (dsimp only; omega)))) ?_)) ⟨by omega, hS⟩ (by omega)
                  · intro g171
                    have g171 := of_decide_eq_false g171
                    refine KOps.guardNo (dj := 171) rfl rfl rfl ?_
                    refine KOps.guardNo (dj := 171) rfl rfl rfl ?_
                    refine KOps.guardNo (dj := 171) rfl rfl rfl ?_
                    refine KOps.guardNo (dj := 171) rfl rfl rfl ?_
                    refine KOps.guardNo (dj := 171) rfl rfl rfl ?_
                    refine KOps.guardNo (dj := 171) rfl rfl rfl ?_
                    refine KOps.guardNo (dj := 171) rfl rfl rfl ?_
                    refine KOps.guardNo (dj := 171) rfl rfl rfl ?_
                    refine KOps.pickF ?_
                    refine KOps.done ?_
                    refine sqQ.normal ?_
                    refine KA.sub (Sub.cons (t := 9) Look.eq (Sub.cons (t := 15) Look.eq (Sub.cons (t := 129) Look.eq (Sub.cons (t := 130) Look.eq (Sub.cons (t := 164) Look.eq (Sub.cons (t := 165) Look.eq (Sub.cons (t := 168) Look.eq (Sub.cons (t := 169) Look.eq (Sub.cons (t := 172) Look.eq (Sub.cons (t := 173) Look.eq (Sub.cons (t := 174) Look.eq (Sub.cons (t := 175) Look.eq (Sub.cons (t := 176) Look.eq (Sub.cons (t := 177) Look.eq (Sub.cons (t := 178) Look.eq (Sub.cons (t := 179) Look.eq (Sub.cons (t := 180) Look.eq (Sub.cons (t := 181) Look.eq (Sub.nil _))))))))))))))))))) ?_
                    refine KA.condF ?_
                    refine KA.skip ?_
                    refine blQ.normal ?_
                    refine sqQ.normal ?_
                    refine KA.sub (Sub.cons (t := 9) Look.eq (Sub.cons (t := 15) Look.eq (Sub.cons (t := 129) Look.eq (Sub.cons (t := 130) Look.eq (Sub.cons (t := 164) Look.eq (Sub.cons (t := 165) Look.eq (Sub.cons (t := 168) Look.eq (Sub.cons (t := 169) Look.eq (Sub.cons (t := 172) Look.eq (Sub.cons (t := 173) Look.eq (Sub.cons (t := 174) Look.eq (Sub.cons (t := 175) Look.eq (Sub.cons (t := 176) Look.eq (Sub.cons (t := 177) Look.eq (Sub.cons (t := 178) Look.eq (Sub.cons (t := 179) Look.eq (Sub.cons (t := 180) Look.eq (Sub.nil _)))))))))))))))))) ?_
                    refine KA.region rfl ?_
                    refine KOps.add (by first | omega | (simp; omega)) (by first | omega | (simp; omega)) ?_
                    refine KOps.move ?_
                    refine KOps.done ?_
                    exact lpQ.normal (x + 1) (by repeat (first | exact Sub.nil _ | refine Sub.cons Look.eq ?_ | refine Sub.cons (Eq.trans Look.eq (congrArg (AV.int _) (by first | omega | (dsimp only; omega)))) ?_)) ⟨by omega, hS⟩ (by omega)
                · intro g167
                  have g167 := of_decide_eq_false g167
                  refine KOps.guardNo (dj := 167) rfl rfl rfl ?_
                  refine KOps.pickF ?_
                  refine KOps.move ?_
                  refine KOps.guardNo (dj := 171) rfl rfl rfl ?_
                  refine KOps.guardNo (dj := 171) rfl rfl rfl ?_
                  refine KOps.guardNo (dj := 171) rfl rfl rfl ?_
                  refine KOps.guardNo (dj := 171) rfl rfl rfl ?_
                  refine KOps.guardNo (dj := 171) rfl rfl rfl ?_
                  refine KOps.guardNo (dj := 171) rfl rfl rfl ?_
                  refine KOps.guardNo (dj := 171) rfl rfl rfl ?_
                  refine KOps.guardNo (dj := 171) rfl rfl rfl ?_
                  refine KOps.guardNo (dj := 171) rfl rfl rfl ?_
                  refine KOps.pickF ?_
                  refine KOps.done ?_
                  refine sqQ.normal ?_
                  refine KA.sub (Sub.cons (t := 9) Look.eq (Sub.cons (t := 15) Look.eq (Sub.cons (t := 129) Look.eq (Sub.cons (t := 130) Look.eq (Sub.cons (t := 164) Look.eq (Sub.cons (t := 165) Look.eq (Sub.cons (t := 168) Look.eq (Sub.cons (t := 169) Look.eq (Sub.cons (t := 172) Look.eq (Sub.cons (t := 173) Look.eq (Sub.cons (t := 174) Look.eq (Sub.cons (t := 175) Look.eq (Sub.cons (t := 176) Look.eq (Sub.cons (t := 177) Look.eq (Sub.cons (t := 178) Look.eq (Sub.cons (t := 179) Look.eq (Sub.cons (t := 180) Look.eq (Sub.cons (t := 181) Look.eq (Sub.nil _))))))))))))))))))) ?_
                  refine KA.condF ?_
                  refine KA.skip ?_
                  refine blQ.normal ?_
                  refine sqQ.normal ?_
                  refine KA.sub (Sub.cons (t := 9) Look.eq (Sub.cons (t := 15) Look.eq (Sub.cons (t := 129) Look.eq (Sub.cons (t := 130) Look.eq (Sub.cons (t := 164) Look.eq (Sub.cons (t := 165) Look.eq (Sub.cons (t := 168) Look.eq (Sub.cons (t := 169) Look.eq (Sub.cons (t := 172) Look.eq (Sub.cons (t := 173) Look.eq (Sub.cons (t := 174) Look.eq (Sub.cons (t := 175) Look.eq (Sub.cons (t := 176) Look.eq (Sub.cons (t := 177) Look.eq (Sub.cons (t := 178) Look.eq (Sub.cons (t := 179) Look.eq (Sub.cons (t := 180) Look.eq (Sub.nil _)))))))))))))))))) ?_
                  refine KA.region rfl ?_
                  refine KOps.add (by first | omega | (simp; omega)) (by first | omega | (simp; omega)) ?_
                  refine KOps.move ?_
                  refine KOps.done ?_
                  exact lpQ.normal (x + 1) (by repeat (first | exact Sub.nil _ | refine Sub.cons Look.eq ?_ | refine Sub.cons (Eq.trans Look.eq (congrArg (AV.int _) (by first | omega | (dsimp only; omega)))) ?_)) ⟨by omega, hS⟩ (by omega)
              · intro g163
                refine KOps.guardNo (dj := 163) rfl rfl rfl ?_
                refine KOps.pickF ?_
                refine KOps.move ?_
                refine KOps.guardNo (dj := 167) rfl rfl rfl ?_
                refine KOps.guardNo (dj := 167) rfl rfl rfl ?_
                refine KOps.pickF ?_
                refine KOps.move ?_
                refine KOps.guardNo (dj := 171) rfl rfl rfl ?_
                refine KOps.guardNo (dj := 171) rfl rfl rfl ?_
                refine KOps.guardNo (dj := 171) rfl rfl rfl ?_
                refine KOps.guardNo (dj := 171) rfl rfl rfl ?_
                refine KOps.guardNo (dj := 171) rfl rfl rfl ?_
                refine KOps.guardNo (dj := 171) rfl rfl rfl ?_
                refine KOps.guardNo (dj := 171) rfl rfl rfl ?_
                refine KOps.guardNo (dj := 171) rfl rfl rfl ?_
                refine KOps.guardNo (dj := 171) rfl rfl rfl ?_
                refine KOps.pickF ?_
                refine KOps.done ?_
                refine sqQ.normal ?_
                refine KA.sub (Sub.cons (t := 9) Look.eq (Sub.cons (t := 15) Look.eq (Sub.cons (t := 129) Look.eq (Sub.cons (t := 130) Look.eq (Sub.cons (t := 164) Look.eq (Sub.cons (t := 165) Look.eq (Sub.cons (t := 168) Look.eq (Sub.cons (t := 169) Look.eq (Sub.cons (t := 172) Look.eq (Sub.cons (t := 173) Look.eq (Sub.cons (t := 174) Look.eq (Sub.cons (t := 175) Look.eq (Sub.cons (t := 176) Look.eq (Sub.cons (t := 177) Look.eq (Sub.cons (t := 178) Look.eq (Sub.cons (t := 179) Look.eq (Sub.cons (t := 180) Look.eq (Sub.cons (t := 181) Look.eq (Sub.nil _))))))))))))))))))) ?_
                refine KA.condF ?_
                refine KA.skip ?_
                refine blQ.normal ?_
                refine sqQ.normal ?_
                refine KA.sub (Sub.cons (t := 9) Look.eq (Sub.cons (t := 15) Look.eq (Sub.cons (t := 129) Look.eq (Sub.cons (t := 130) Look.eq (Sub.cons (t := 164) Look.eq (Sub.cons (t := 165) Look.eq (Sub.cons (t := 168) Look.eq (Sub.cons (t := 169) Look.eq (Sub.cons (t := 172) Look.eq (Sub.cons (t := 173) Look.eq (Sub.cons (t := 174) Look.eq (Sub.cons (t := 175) Look.eq (Sub.cons (t := 176) Look.eq (Sub.cons (t := 177) Look.eq (Sub.cons (t := 178) Look.eq (Sub.cons (t := 179) Look.eq (Sub.cons (t := 180) Look.eq (Sub.nil _)))))))))))))))))) ?_
                refine KA.region rfl ?_
                refine KOps.add (by first | omega | (simp; omega)) (by first | omega | (simp; omega)) ?_
                refine KOps.move ?_
                refine KOps.done ?_
                exact lpQ.normal (x + 1) (by repeat (first | exact Sub.nil _ | refine Sub.cons Look.eq ?_ | refine Sub.cons (Eq.trans Look.eq (congrArg (AV.int _) (by first | omega | (dsimp only; omega)))) ?_)) ⟨by omega, hS⟩ (by omega)
          · intro c131
            refine KA.exit ?_
            refine sqQ.exit ?_
            refine lpQ.exit ?_
            refine blQ.here ?_
            refine sqQ.normal ?_
            refine KA.sub (Sub.nil _) ?_
            refine KA.seq ?_
            refine KA.region rfl ?_
            refine KOps.call rfl (works_c (hSz.ext hS.keeps)) ?_
            rintro _ hwk ⟨rfl, hK⟩
            refine KOps.assign ?_
            refine KOps.done ?_
            refine sqQ.normal ?_
            refine KA.sub (Sub.cons (t := 8) Look.eq (Sub.nil _)) ?_
            refine KA.ret ?_
            refine fnQ.ret1 ?_
            exact rfl
    · intro g90
      have g90 := of_not_decide g90
      refine KOps.guardNo (dj := 90) rfl rfl rfl ?_
      refine KOps.guardYes (dj := 87) rfl rfl ?_
      refine KOps.pickF ?_
      refine KOps.pickF ?_
      refine KOps.done ?_
      refine sqQ.normal ?_
      refine KA.sub (Sub.cons (t := 2) Look.eq (Sub.cons (t := 9) Look.eq (Sub.cons (t := 10) Look.eq (Sub.cons (t := 15) Look.eq (Sub.cons (t := 16) Look.eq (Sub.cons (t := 17) Look.eq (Sub.cons (t := 94) Look.eq (Sub.nil _)))))))) ?_
      refine KA.condF ?_
      refine KA.skip ?_
      refine sqQ.normal ?_
      refine KA.sub (Sub.cons (t := 2) Look.eq (Sub.cons (t := 9) Look.eq (Sub.cons (t := 10) Look.eq (Sub.cons (t := 15) Look.eq (Sub.cons (t := 16) Look.eq (Sub.cons (t := 17) Look.eq (Sub.nil _))))))) ?_
      refine KA.seq ?_
      refine KA.seq ?_
      refine KA.region rfl ?_
      refine KOps.move ?_
      refine KOps.neq ?_
      refine KOps.done ?_
      refine sqQ.normal ?_
      refine KA.sub (Sub.cons (t := 2) Look.eq (Sub.cons (t := 9) Look.eq (Sub.cons (t := 10) Look.eq (Sub.cons (t := 15) Look.eq (Sub.cons (t := 17) Look.eq (Sub.cons (t := 96) Look.eq (Sub.nil _))))))) ?_
      refine KA.condN ?_ ?_
      · intro c96
        skip
        refine KA.seq ?_
        refine KA.region rfl ?_
        refine KOps.call rfl (works_c (hSz.ext hS.keeps)) ?_
        rintro _ hwk ⟨rfl, hK⟩
        refine KOps.assign ?_
        refine KOps.done ?_
        refine sqQ.normal ?_
        refine KA.sub (Sub.cons (t := 8) Look.eq (Sub.nil _)) ?_
        refine KA.ret ?_
        refine sqQ.ret ?_
        refine fnQ.ret1 ?_
        exact rfl
      · intro c96
        have e96 : agreeE (r : Int) ws = 0 := c96
        rw [herr.trans e96, e96] at hS
        rw [if_pos rfl, if_pos rfl] at hS
        have hex := (agree_ok e96).2
        have hsl := spansTo_len ws ws.length
        have hsl2 := spansTo_len tw tw.length
        refine KA.skip ?_
        refine sqQ.normal ?_
        refine KA.sub (Sub.cons (t := 2) Look.eq (Sub.cons (t := 9) Look.eq (Sub.cons (t := 10) Look.eq (Sub.cons (t := 15) Look.eq (Sub.cons (t := 17) Look.eq (Sub.nil _)))))) ?_
        refine KA.seq ?_
        refine KA.seq ?_
        refine KA.region rfl ?_
        refine KOps.move ?_
        refine KOps.lenF pc_len (hS.rd 1 rfl) ?_
        refine KOps.move ?_
        refine KOps.neqF (by rw [spansTo_len]) ?_
        refine KOps.move ?_
        refine KOps.guardYes (dj := 102) rfl rfl ?_
        refine KOps.move ?_
        refine KOps.guardYes (dj := 102) rfl rfl ?_
        refine KOps.lenF pc_len (hS.rd 0 rfl) ?_
        refine KOps.guardYes (dj := 102) rfl rfl ?_
        refine KOps.move ?_
        refine KOps.guardYes (dj := 102) rfl rfl ?_
        refine KOps.neqF (by rw [spansTo_len, hT.len]) ?_
        refine KOps.pickF ?_
        refine KOps.done ?_
        refine sqQ.normal ?_
        refine KA.sub (Sub.cons (t := 2) Look.eq (Sub.cons (t := 9) Look.eq (Sub.cons (t := 10) Look.eq (Sub.cons (t := 15) Look.eq (Sub.cons (t := 17) Look.eq (Sub.cons (t := 107) Look.eq (Sub.nil _))))))) ?_
        refine KA.condF ?_
        refine KA.skip ?_
        refine sqQ.normal ?_
        refine KA.sub (Sub.cons (t := 2) Look.eq (Sub.cons (t := 9) Look.eq (Sub.cons (t := 10) Look.eq (Sub.cons (t := 15) Look.eq (Sub.cons (t := 17) Look.eq (Sub.nil _)))))) ?_
        refine KA.seq ?_
        refine KA.seq ?_
        refine KA.region rfl ?_
        refine KOps.move ?_
        refine KOps.lenF pc_len (hS.rd 1 rfl) ?_
        rw [hsl]
        refine KOps.move ?_
        refine KOps.done ?_
        refine sqQ.normal ?_
        refine KA.sub (Sub.cons (t := 2) Look.eq (Sub.cons (t := 9) Look.eq (Sub.cons (t := 10) Look.eq (Sub.cons (t := 15) Look.eq (Sub.cons (t := 17) Look.eq (Sub.cons (t := 109) Look.eq (Sub.cons (t := 110) Look.eq (Sub.nil _)))))))) ?_
        refine KA.block ?_
        refine KA.loop (X := Nat) (fun i => [(2, .int .u8 (s : Int)), (9, p9), (10, .int .i64 (ws.length : Int)), (15, vR), (17, vR2), (109, .int .i64 (ws.length : Int)), (110, .int .i64 (i : Int))]) (fun i h' => i ≤ ws.length ∧ St h h' [⟨vR2, 2, flr pc (spansTo tw tw.length), true⟩, ⟨vR, 2, flr pc (spansTo ws ws.length), true⟩, ⟨p9, 0, [.int .i64 (r : Int), vB], true⟩, ⟨vB, 4, flr wc ws, true⟩]) (fun i => ws.length - i) 0 (by repeat (first | exact Sub.nil _ | refine Sub.cons Look.eq ?_ | refine Sub.cons (Eq.trans Look.eq (congrArg (AV.int _) (by first | omega | (dsimp only; omega)))) ?_)) ?_ ?_
        · exact ⟨Nat.zero_le _, St.pick [0, 1, 4, 5] (by decide) rfl hS⟩
        rintro i h50 ⟨hi, hS⟩
        refine KA.seq ?_
        refine KA.region rfl ?_
        refine KOps.lss ?_
        refine KOps.done ?_
        refine sqQ.normal ?_
        refine KA.seq ?_
        refine KA.condD ?_ ?_
        · intro c111
          have hpl := pos_lt (n := ws.length) (s := s) (i := i) (by omega)
          have hsp := hT.span hB hB2 hex (i := i) (by omega)
          have hg := spansTo_get (ws := ws) (k := ws.length) (i := i) (by omega)
          have hg2 := spansTo_get (ws := tw) (k := tw.length) (i := pos ws.length s i) (by omega)
          refine KA.skip ?_
          refine sqQ.normal ?_
          refine KA.sub (Sub.cons (t := 2) Look.eq (Sub.cons (t := 9) Look.eq (Sub.cons (t := 10) Look.eq (Sub.cons (t := 15) Look.eq (Sub.cons (t := 17) Look.eq (Sub.cons (t := 109) Look.eq (Sub.cons (t := 110) Look.eq (Sub.nil _)))))))) ?_
          refine KA.seq ?_
          refine KA.block ?_
          refine KA.seq ?_
          refine KA.region rfl ?_
          refine KOps.move ?_
          refine KOps.assign ?_
          refine KOps.done ?_
          refine sqQ.normal ?_
          refine KA.sub (Sub.cons (t := 2) Look.eq (Sub.cons (t := 9) Look.eq (Sub.cons (t := 10) Look.eq (Sub.cons (t := 15) Look.eq (Sub.cons (t := 17) Look.eq (Sub.cons (t := 19) Look.eq (Sub.cons (t := 109) Look.eq (Sub.cons (t := 110) Look.eq (Sub.nil _))))))))) ?_
          refine KA.seq ?_
          refine KA.draw [] mixed rfl (by kernel_rfl) ?_
          refine KOps.move ?_
          refine KOps.move ?_
          refine KOps.indexF pc_len (hS.rd 1 rfl) (j := i) (by first | omega | (simp; omega)) (by first | omega | (simp; omega)) ?_
          intro p115 hp115
          refine KOps.loadFl pc_len (by decide) hp115 (hS.rd 1 rfl) (by first | omega | (simp; omega)) ?_
          refine KOps.move ?_
          refine KOps.move ?_
          refine KOps.move ?_
          refine KOps.convU (by omega) (by omega) ?_
          refine KOps.add (by first | omega | (simp; omega)) (by first | omega | (simp; omega)) ?_
          refine KOps.move ?_
          refine KOps.rem (by omega) (by rw [tmod_pos]; omega) (by rw [tmod_pos]; omega) ?_
          rw [tmod_pos]
          refine KOps.indexF pc_len (hS.rd 0 rfl) (j := (pos ws.length s i)) (by first | omega | (simp; omega)) (by first | omega | (simp; omega)) ?_
          intro p124 hp124
          refine KOps.loadFl pc_len (by decide) hp124 (hS.rd 0 rfl) (by first | omega | (simp; omega)) ?_
          refine KOps.neqPc ?_
          rw [hg, hg2, hsp.1, hsp.2, decide_eq_true rfl, Bool.not_true]
          refine KOps.done ?_
          refine sqQ.normal ?_
          refine KA.sub (Sub.cons (t := 2) Look.eq (Sub.cons (t := 9) Look.eq (Sub.cons (t := 10) Look.eq (Sub.cons (t := 15) Look.eq (Sub.cons (t := 17) Look.eq (Sub.cons (t := 109) Look.eq (Sub.cons (t := 110) Look.eq (Sub.cons (t := 126) Look.eq (Sub.nil _))))))))) ?_
          refine KA.condF ?_
          refine KA.skip ?_
          refine blQ.normal ?_
          refine sqQ.normal ?_
          refine KA.sub (Sub.cons (t := 2) Look.eq (Sub.cons (t := 9) Look.eq (Sub.cons (t := 10) Look.eq (Sub.cons (t := 15) Look.eq (Sub.cons (t := 17) Look.eq (Sub.cons (t := 109) Look.eq (Sub.cons (t := 110) Look.eq (Sub.nil _)))))))) ?_
          refine KA.region rfl ?_
          refine KOps.add (by first | omega | (simp; omega)) (by first | omega | (simp; omega)) ?_
          refine KOps.move ?_
          refine KOps.done ?_
          exact lpQ.normal (i + 1) (by repeat (first | exact Sub.nil _ | refine Sub.cons Look.eq ?_ | refine Sub.cons (Eq.trans Look.eq (congrArg (AV.int _) (by first | omega | (dsimp only; omega)))) ?_)) ⟨by omega, hS⟩ (by omega)
        · intro c111
          refine KA.exit ?_
          refine sqQ.exit ?_
          refine lpQ.exit ?_
          refine blQ.here ?_
          refine sqQ.normal ?_
          refine KA.sub (Sub.cons (t := 9) Look.eq (Sub.cons (t := 15) Look.eq (Sub.nil _))) ?_
          refine KA.seq ?_
          refine KA.seq ?_
          refine KA.region rfl ?_
          refine KOps.fieldAddr hp9 ?_
          intro p128 hp128
          refine KOps.load hp128 (hS.rd 2 rfl) rfl ?_
          refine KOps.move ?_
          refine KOps.done ?_
          refine sqQ.normal ?_
          refine KA.sub (Sub.cons (t := 9) Look.eq (Sub.cons (t := 15) Look.eq (Sub.cons (t := 129) Look.eq (Sub.cons (t := 130) Look.eq (Sub.nil _))))) ?_
          refine KA.block ?_
          refine KA.loop (X := Nat) (fun x => [(9, p9), (15, vR), (129, .int .i64 (r : Int)), (130, .int .i64 (x : Int))]) (fun x h' => x ≤ r ∧ St h h' [⟨vR, 2, flr pc (spansTo ws ws.length), true⟩, ⟨p9, 0, [.int .i64 (r : Int), vB], true⟩, ⟨vB, 4, flr wc ws, true⟩]) (fun x => r - x) 0 (by repeat (first | exact Sub.nil _ | refine Sub.cons Look.eq ?_ | refine Sub.cons (Eq.trans Look.eq (congrArg (AV.int _) (by first | omega | (dsimp only; omega)))) ?_)) ?_ ?_
          · exact ⟨Nat.zero_le _, St.tail hS⟩
          rintro x h60 ⟨hx2, hS⟩
          refine KA.seq ?_
          refine KA.region rfl ?_
          refine KOps.lss ?_
          refine KOps.done ?_
          refine sqQ.normal ?_
          refine KA.seq ?_
          refine KA.condD ?_ ?_
          · intro c131
            refine KA.skip ?_
            refine sqQ.normal ?_
            refine KA.sub (Sub.cons (t := 9) Look.eq (Sub.cons (t := 15) Look.eq (Sub.cons (t := 129) Look.eq (Sub.cons (t := 130) Look.eq (Sub.nil _))))) ?_
            refine KA.seq ?_
            refine KA.block ?_
            refine KA.seq ?_
            refine KA.region rfl ?_
            refine KOps.move ?_
            refine KOps.assign ?_
            refine KOps.done ?_
            refine sqQ.normal ?_
            refine KA.sub (Sub.cons (t := 9) Look.eq (Sub.cons (t := 15) Look.eq (Sub.cons (t := 20) Look.eq (Sub.cons (t := 129) Look.eq (Sub.cons (t := 130) Look.eq (Sub.nil _)))))) ?_
            refine KA.seq ?_
            refine KA.region rfl ?_
            refine KOps.assign ?_
            refine KOps.assign ?_
            refine KOps.done ?_
            refine sqQ.normal ?_
            refine KA.seq ?_
            refine KA.region rfl ?_
            refine KOps.assign ?_
            refine KOps.done ?_
            refine sqQ.normal ?_
            refine KA.seq ?_
            refine KA.seq ?_
            refine KA.region rfl ?_
            refine KOps.fieldAddr hp9 ?_
            intro p133 hp133
            refine KOps.load hp133 (hS.rd 1 rfl) rfl ?_
            refine KOps.lenF wc_len (hS.rd 2 rfl) ?_
            refine KOps.move ?_
            refine KOps.done ?_
            refine sqQ.normal ?_
            refine KA.sub (Sub.cons (t := 9) Look.eq (Sub.cons (t := 15) Look.eq (Sub.cons (t := 20) Look.eq (Sub.cons (t := 21) Look.eq (Sub.cons (t := 22) Look.eq (Sub.cons (t := 23) Look.eq (Sub.cons (t := 129) Look.eq (Sub.cons (t := 130) Look.eq (Sub.cons (t := 134) Look.eq (Sub.cons (t := 135) Look.eq (Sub.cons (t := 136) Look.eq (Sub.nil _)))))))))))) ?_
            refine KA.block ?_
            refine KA.loop (X := Nat) (fun k => [(9, p9), (15, vR), (129, .int .i64 (r : Int)), (130, .int .i64 (x : Int)), (20, .int .i64 (x : Int)), (134, vB), (135, .int .i64 (ws.length : Int)), (136, .int .i64 (k : Int)), (21, .int .i64 (inTo ws (x : Int) k)), (22, .int .i64 (outTo ws (x : Int) k)), (23, .bool (oneTo ws (x : Int) k))]) (fun k h' => k ≤ ws.length ∧ St h h' [⟨vR, 2, flr pc (spansTo ws ws.length), true⟩, ⟨p9, 0, [.int .i64 (r : Int), vB], true⟩, ⟨vB, 4, flr wc ws, true⟩]) (fun k => ws.length - k) 0 (by repeat (first | exact Sub.nil _ | refine Sub.cons Look.eq ?_ | refine Sub.cons (Eq.trans Look.eq (congrArg (AV.int _) (by first | omega | (dsimp only; omega)))) ?_)) ?_ ?_
            · exact ⟨Nat.zero_le _, hS⟩
            rintro k h70 ⟨hk, hS⟩
            refine KA.seq ?_
            refine KA.region rfl ?_
            refine KOps.lss ?_
            refine KOps.done ?_
            refine sqQ.normal ?_
            refine KA.seq ?_
            refine KA.condD ?_ ?_
            · intro c137
              have hib := inTo_b ws (x : Int) k
              have hob := outTo_b ws (x : Int) k
              refine KA.skip ?_
              refine sqQ.normal ?_
              refine KA.sub (Sub.cons (t := 9) Look.eq (Sub.cons (t := 15) Look.eq (Sub.cons (t := 20) Look.eq (Sub.cons (t := 21) Look.eq (Sub.cons (t := 22) Look.eq (Sub.cons (t := 23) Look.eq (Sub.cons (t := 129) Look.eq (Sub.cons (t := 130) Look.eq (Sub.cons (t := 134) Look.eq (Sub.cons (t := 135) Look.eq (Sub.cons (t := 136) Look.eq (Sub.nil _)))))))))))) ?_
              refine KA.seq ?_
              refine KA.block ?_
              refine KA.seq ?_
              refine KA.region rfl ?_
              refine KOps.move ?_
              refine KOps.indexF wc_len (hS.rd 2 rfl) (j := k) rfl (by first | omega | (simp; omega)) ?_
              intro p139 hp139
              refine KOps.loadFl wc_len (by decide) hp139 (hS.rd 2 rfl) (by first | omega | (simp; omega)) ?_
              refine KOps.alloc hS ?_
              intro p25 h' hp25 hS
              refine KOps.assign ?_
              refine KOps.storeAll hS rfl (i := 0) rfl hp25 (by first | rfl | (simp [AV.one]; done) | (simp [AV.one]; assumption) | (simp [AV.one, *]; done)) (by rfl) (by rfl) (by decide) ?_
              intro h' hS
              simp only [List.set_cons_zero, List.set_cons_succ, Nat.zero_add] at hS
              refine KOps.done ?_
              refine sqQ.normal ?_
              refine KA.sub (Sub.cons (t := 9) Look.eq (Sub.cons (t := 15) Look.eq (Sub.cons (t := 20) Look.eq (Sub.cons (t := 21) Look.eq (Sub.cons (t := 22) Look.eq (Sub.cons (t := 23) Look.eq (Sub.cons (t := 24) Look.eq (Sub.cons (t := 25) Look.eq (Sub.cons (t := 129) Look.eq (Sub.cons (t := 130) Look.eq (Sub.cons (t := 134) Look.eq (Sub.cons (t := 135) Look.eq (Sub.cons (t := 136) Look.eq (Sub.nil _)))))))))))))) ?_
              refine KA.meet (X := Unit) (fun _ => [(9, p9), (15, vR), (129, .int .i64 (r : Int)), (130, .int .i64 (x : Int)), (20, .int .i64 (x : Int)), (134, vB), (135, .int .i64 (ws.length : Int)), (136, .int .i64 (k : Int)), (21, .int .i64 (inTo ws (x : Int) (k + 1))), (22, .int .i64 (outTo ws (x : Int) k)), (23, .bool (oneIn ws (x : Int) (oneTo ws (x : Int) k) k)), (24, .int .i64 (k : Int)), (25, p25)]) (fun _ h' => St h h' [⟨p25, 0, wc (ws.getD k default), true⟩, ⟨vR, 2, flr pc (spansTo ws ws.length), true⟩, ⟨p9, 0, [.int .i64 (r : Int), vB], true⟩, ⟨vB, 4, flr wc ws, true⟩]) ?_ ?_
              ·
                refine KA.seq ?_
                refine KA.region rfl ?_
                refine KOps.fieldAddr hp25 ?_
                intro p141 hp141
                refine KOps.load hp141 (hS.rd 0 rfl) rfl ?_
                refine KOps.move ?_
                refine KOps.eql ?_
                refine KOps.done ?_
                refine sqQ.normal ?_
                refine KA.sub (Sub.cons (t := 9) Look.eq (Sub.cons (t := 15) Look.eq (Sub.cons (t := 20) Look.eq (Sub.cons (t := 21) Look.eq (Sub.cons (t := 22) Look.eq (Sub.cons (t := 23) Look.eq (Sub.cons (t := 24) Look.eq (Sub.cons (t := 25) Look.eq (Sub.cons (t := 129) Look.eq (Sub.cons (t := 130) Look.eq (Sub.cons (t := 134) Look.eq (Sub.cons (t := 135) Look.eq (Sub.cons (t := 136) Look.eq (Sub.cons (t := 144) Look.eq (Sub.nil _))))))))))))))) ?_
                refine KA.condD ?_ ?_
                · intro c144
                  refine KA.seq ?_
                  refine KA.region rfl ?_
                  refine KOps.move ?_
                  refine KOps.move ?_
                  refine KOps.guardB (dj := 146) rfl rfl true false rfl ?_ ?_
                  · intro g146
                    refine KOps.move ?_
                    refine KOps.guardYes (dj := 146) rfl rfl ?_
                    refine KOps.lss ?_
                    refine KOps.pickT ?_
                    refine KOps.assign ?_
                    refine KOps.done ?_
                    refine sqQ.normal ?_
                    refine KA.sub (Sub.cons (t := 9) Look.eq (Sub.cons (t := 15) Look.eq (Sub.cons (t := 20) Look.eq (Sub.cons (t := 22) Look.eq (Sub.cons (t := 23) Look.eq (Sub.cons (t := 24) Look.eq (Sub.cons (t := 25) Look.eq (Sub.cons (t := 129) Look.eq (Sub.cons (t := 130) Look.eq (Sub.cons (t := 134) Look.eq (Sub.cons (t := 135) Look.eq (Sub.cons (t := 136) Look.eq (Sub.cons (t := 147) Look.eq (Sub.cons (t := 148) Look.eq (Sub.nil _))))))))))))))) ?_
                    refine KA.region rfl ?_
                    refine KOps.move ?_
                    refine KOps.assign ?_
                    refine KOps.done ?_
                    exact mtQ.normal () (by repeat (first | exact Sub.nil _ | refine Sub.cons Look.eq ?_ | refine Sub.cons (Eq.trans Look.eq (congrArg (AV.int _) (by first | omega | (dsimp only; omega)))) ?_ | refine Sub.cons (Eq.trans Look.eq (congrArg (AV.int _) (by rw [inTo, if_pos c144]))) ?_ | refine Sub.cons (Eq.trans Look.eq (congrArg AV.bool (by rw [oneIn, if_pos c144, g146]; first | rfl | exact Bool.true_and _))) ?_)) hS
                  · intro g146
                    refine KOps.guardNo (dj := 146) rfl rfl rfl ?_
                    refine KOps.pickF ?_
                    refine KOps.assign ?_
                    refine KOps.done ?_
                    refine sqQ.normal ?_
                    refine KA.sub (Sub.cons (t := 9) Look.eq (Sub.cons (t := 15) Look.eq (Sub.cons (t := 20) Look.eq (Sub.cons (t := 22) Look.eq (Sub.cons (t := 23) Look.eq (Sub.cons (t := 24) Look.eq (Sub.cons (t := 25) Look.eq (Sub.cons (t := 129) Look.eq (Sub.cons (t := 130) Look.eq (Sub.cons (t := 134) Look.eq (Sub.cons (t := 135) Look.eq (Sub.cons (t := 136) Look.eq (Sub.cons (t := 147) Look.eq (Sub.cons (t := 148) Look.eq (Sub.nil _))))))))))))))) ?_
                    refine KA.region rfl ?_
                    refine KOps.move ?_
                    refine KOps.assign ?_
                    refine KOps.done ?_
                    exact mtQ.normal () (by repeat (first | exact Sub.nil _ | refine Sub.cons Look.eq ?_ | refine Sub.cons (Eq.trans Look.eq (congrArg (AV.int _) (by first | omega | (dsimp only; omega)))) ?_ | refine Sub.cons (Eq.trans Look.eq (congrArg (AV.int _) (by rw [inTo, if_pos c144]))) ?_ | refine Sub.cons (Eq.trans Look.eq (congrArg AV.bool (by rw [oneIn, if_pos c144, g146]; first | rfl | exact Bool.true_and _))) ?_)) hS
                · intro c144
                  refine KA.skip ?_
                  exact mtQ.normal () (by repeat (first | exact Sub.nil _ | refine Sub.cons Look.eq ?_ | refine Sub.cons (Eq.trans Look.eq (congrArg (AV.int _) (by first | omega | (dsimp only; omega)))) ?_ | refine Sub.cons (Eq.trans Look.eq (congrArg (AV.int _) (by rw [inTo, if_neg c144]))) ?_ | refine Sub.cons (Eq.trans Look.eq (congrArg AV.bool (by rw [oneIn, if_neg c144]))) ?_)) hS
              ·
                rintro _ h75 hS
                refine KA.seq ?_
                refine KA.region rfl ?_
                refine KOps.fieldAddr hp25 ?_
                intro p151 hp151
                refine KOps.load hp151 (hS.rd 0 rfl) rfl ?_
                refine KOps.move ?_
                refine KOps.eql ?_
                refine KOps.done ?_
                refine sqQ.normal ?_
                refine KA.sub (Sub.cons (t := 9) Look.eq (Sub.cons (t := 15) Look.eq (Sub.cons (t := 20) Look.eq (Sub.cons (t := 21) Look.eq (Sub.cons (t := 22) Look.eq (Sub.cons (t := 23) Look.eq (Sub.cons (t := 24) Look.eq (Sub.cons (t := 129) Look.eq (Sub.cons (t := 130) Look.eq (Sub.cons (t := 134) Look.eq (Sub.cons (t := 135) Look.eq (Sub.cons (t := 136) Look.eq (Sub.cons (t := 154) Look.eq (Sub.nil _)))))))))))))) ?_
                refine KA.condD ?_ ?_
                · intro c154
                  refine KA.seq ?_
                  refine KA.region rfl ?_
                  refine KOps.move ?_
                  refine KOps.move ?_
                  refine KOps.guardB (dj := 156) rfl rfl true false rfl ?_ ?_
                  · intro g156
                    refine KOps.move ?_
                    refine KOps.guardYes (dj := 156) rfl rfl ?_
                    refine KOps.lss ?_
                    refine KOps.pickT ?_
                    refine KOps.assign ?_
                    refine KOps.done ?_
                    refine sqQ.normal ?_
                    refine KA.sub (Sub.cons (t := 9) Look.eq (Sub.cons (t := 15) Look.eq (Sub.cons (t := 20) Look.eq (Sub.cons (t := 21) Look.eq (Sub.cons (t := 23) Look.eq (Sub.cons (t := 24) Look.eq (Sub.cons (t := 129) Look.eq (Sub.cons (t := 130) Look.eq (Sub.cons (t := 134) Look.eq (Sub.cons (t := 135) Look.eq (Sub.cons (t := 136) Look.eq (Sub.cons (t := 157) Look.eq (Sub.cons (t := 158) Look.eq (Sub.nil _)))))))))))))) ?_
                    refine KA.region rfl ?_
                    refine KOps.move ?_
                    refine KOps.assign ?_
                    refine KOps.done ?_
                    refine blQ.normal ?_
                    refine sqQ.normal ?_
                    refine KA.sub (Sub.cons (t := 9) Look.eq (Sub.cons (t := 15) Look.eq (Sub.cons (t := 20) Look.eq (Sub.cons (t := 21) Look.eq (Sub.cons (t := 22) Look.eq (Sub.cons (t := 23) Look.eq (Sub.cons (t := 129) Look.eq (Sub.cons (t := 130) Look.eq (Sub.cons (t := 134) Look.eq (Sub.cons (t := 135) Look.eq (Sub.cons (t := 136) Look.eq (Sub.cons (t := 157) Look.eq (Sub.cons (t := 158) Look.eq (Sub.nil _)))))))))))))) ?_
                    refine KA.region rfl ?_
                    refine KOps.add (by first | omega | (simp; omega)) (by first | omega | (simp; omega)) ?_
                    refine KOps.move ?_
                    refine KOps.done ?_
                    exact lpQ.normal (k + 1) (by repeat (first | exact Sub.nil _ | refine Sub.cons Look.eq ?_ | refine Sub.cons (Eq.trans Look.eq (congrArg (AV.int _) (by first | omega | (dsimp only; omega)))) ?_ | refine Sub.cons (Eq.trans Look.eq (congrArg (AV.int _) (by rw [outTo, if_pos c154]))) ?_ | refine Sub.cons (Eq.trans Look.eq (congrArg AV.bool (by rw [oneTo, if_pos c154, g156]; first | rfl | exact Bool.true_and _))) ?_)) ⟨by omega, St.tail hS⟩ (by omega)
                  · intro g156
                    refine KOps.guardNo (dj := 156) rfl rfl rfl ?_
                    refine KOps.pickF ?_
                    refine KOps.assign ?_
                    refine KOps.done ?_
                    refine sqQ.normal ?_
                    refine KA.sub (Sub.cons (t := 9) Look.eq (Sub.cons (t := 15) Look.eq (Sub.cons (t := 20) Look.eq (Sub.cons (t := 21) Look.eq (Sub.cons (t := 23) Look.eq (Sub.cons (t := 24) Look.eq (Sub.cons (t := 129) Look.eq (Sub.cons (t := 130) Look.eq (Sub.cons (t := 134) Look.eq (Sub.cons (t := 135) Look.eq (Sub.cons (t := 136) Look.eq (Sub.cons (t := 157) Look.eq (Sub.cons (t := 158) Look.eq (Sub.nil _)))))))))))))) ?_
                    refine KA.region rfl ?_
                    refine KOps.move ?_
                    refine KOps.assign ?_
                    refine KOps.done ?_
                    refine blQ.normal ?_
                    refine sqQ.normal ?_
                    refine KA.sub (Sub.cons (t := 9) Look.eq (Sub.cons (t := 15) Look.eq (Sub.cons (t := 20) Look.eq (Sub.cons (t := 21) Look.eq (Sub.cons (t := 22) Look.eq (Sub.cons (t := 23) Look.eq (Sub.cons (t := 129) Look.eq (Sub.cons (t := 130) Look.eq (Sub.cons (t := 134) Look.eq (Sub.cons (t := 135) Look.eq (Sub.cons (t := 136) Look.eq (Sub.cons (t := 157) Look.eq (Sub.cons (t := 158) Look.eq (Sub.nil _)))))))))))))) ?_
                    refine KA.region rfl ?_
                    refine KOps.add (by first | omega | (simp; omega)) (by first | omega | (simp; omega)) ?_
                    refine KOps.move ?_
                    refine KOps.done ?_
                    exact lpQ.normal (k + 1) (by repeat (first | exact Sub.nil _ | refine Sub.cons Look.eq ?_ | refine Sub.cons (Eq.trans Look.eq (congrArg (AV.int _) (by first | omega | (dsimp only; omega)))) ?_ | refine Sub.cons (Eq.trans Look.eq (congrArg (AV.int _) (by rw [outTo, if_pos c154]))) ?_ | refine Sub.cons (Eq.trans Look.eq (congrArg AV.bool (by rw [oneTo, if_pos c154, g156]; first | rfl | exact Bool.true_and _))) ?_)) ⟨by omega, St.tail hS⟩ (by omega)
                · intro c154
                  refine KA.skip ?_
                  refine blQ.normal ?_
                  refine sqQ.normal ?_
                  refine KA.sub (Sub.cons (t := 9) Look.eq (Sub.cons (t := 15) Look.eq (Sub.cons (t := 20) Look.eq (Sub.cons (t := 21) Look.eq (Sub.cons (t := 22) Look.eq (Sub.cons (t := 23) Look.eq (Sub.cons (t := 129) Look.eq (Sub.cons (t := 130) Look.eq (Sub.cons (t := 134) Look.eq (Sub.cons (t := 135) Look.eq (Sub.cons (t := 136) Look.eq (Sub.nil _)))))))))))) ?_
                  refine KA.region rfl ?_
                  refine KOps.add (by first | omega | (simp; omega)) (by first | omega | (simp; omega)) ?_
                  refine KOps.move ?_
                  refine KOps.done ?_
                  exact lpQ.normal (k + 1) (by repeat (first | exact Sub.nil _ | refine Sub.cons Look.eq ?_ | refine Sub.cons (Eq.trans Look.eq (congrArg (AV.int _) (by first | omega | (dsimp only; omega)))) ?_ | refine Sub.cons (Eq.trans Look.eq (congrArg (AV.int _) (by rw [outTo, if_neg c154]))) ?_ | refine Sub.cons (Eq.trans Look.eq (congrArg AV.bool (by rw [oneTo, if_neg c154]))) ?_)) ⟨by omega, St.tail hS⟩ (by omega)
            · intro c137
              obtain rfl : k = ws.length := by omega
              have hib := inTo_b ws (x : Int) ws.length
              have hob := outTo_b ws (x : Int) ws.length
              refine KA.exit ?_
              refine sqQ.exit ?_
              refine lpQ.exit ?_
              refine blQ.here ?_
              refine sqQ.normal ?_
              refine KA.sub (Sub.cons (t := 9) Look.eq (Sub.cons (t := 15) Look.eq (Sub.cons (t := 21) Look.eq (Sub.cons (t := 22) Look.eq (Sub.cons (t := 23) Look.eq (Sub.cons (t := 129) Look.eq (Sub.cons (t := 130) Look.eq (Sub.nil _)))))))) ?_
              refine KA.seq ?_
              refine KA.draw [] mixed rfl (by kernel_rfl) ?_
              refine KOps.move ?_
              refine KOps.move ?_
              refine KOps.guardB (dj := 163) rfl rfl true false rfl ?_ ?_
              · intro g163
                refine KOps.move ?_
                refine KOps.guardYes (dj := 163) rfl rfl ?_
                refine KOps.geq ?_
                refine KOps.pickT ?_
                refine KOps.move ?_
                refine KOps.guardB (dj := 167) rfl rfl true false rfl ?_ ?_
                · intro g167
                  have g167 := of_decide_eq_true g167
                  refine KOps.move ?_
                  refine KOps.guardYes (dj := 167) rfl rfl ?_
                  refine KOps.geq ?_
                  refine KOps.pickT ?_
                  refine KOps.move ?_
                  refine KOps.guardB (dj := 171) rfl rfl true false rfl ?_ ?_
                  · intro g171
                    have g171 := of_decide_eq_true g171
                    refine KOps.move ?_
                    refine KOps.guardYes (dj := 171) rfl rfl ?_
                    refine KOps.move ?_
                    refine KOps.guardYes (dj := 171) rfl rfl ?_
                    refine KOps.indexF pc_len (hS.rd 0 rfl) (j := (inTo ws (x : Int) ws.length).toNat) (by first | omega | (simp; omega)) (by first | omega | (simp; omega)) ?_
                    intro p174 hp174
                    refine KOps.guardYes (dj := 171) rfl rfl ?_
                    refine KOps.loadFl pc_len (by decide) hp174 (hS.rd 0 rfl) (by first | omega | (simp; omega)) ?_
                    refine KOps.guardYes (dj := 171) rfl rfl ?_
                    refine KOps.move ?_
                    refine KOps.guardYes (dj := 171) rfl rfl ?_
                    refine KOps.move ?_
                    refine KOps.guardYes (dj := 171) rfl rfl ?_
                    refine KOps.indexF pc_len (hS.rd 0 rfl) (j := (outTo ws (x : Int) ws.length).toNat) (by first | omega | (simp; omega)) (by first | omega | (simp; omega)) ?_
                    intro p178 hp178
                    refine KOps.guardYes (dj := 171) rfl rfl ?_
                    refine KOps.loadFl pc_len (by decide) hp178 (hS.rd 0 rfl) (by first | omega | (simp; omega)) ?_
                    refine KOps.guardYes (dj := 171) rfl rfl ?_
                    have hg := spansTo_get (ws := ws) (k := ws.length) (i := (inTo ws (x : Int) ws.length).toNat) (by omega)
                    have hg2 := spansTo_get (ws := ws) (k := ws.length) (i := (outTo ws (x : Int) ws.length).toNat) (by omega)
                    have hsm := one_same hex g163 g167 g171
                    refine KOps.neqPc ?_
                    rw [hg, hg2, hsm.1, hsm.2, decide_eq_true rfl, Bool.not_true]
                    refine KOps.pickT ?_
                    refine KOps.done ?_
                    refine sqQ.normal ?_
                    refine KA.sub (Sub.cons (t := 9) Look.eq (Sub.cons (t := 15) Look.eq (Sub.cons (t := 129) Look.eq (Sub.cons (t := 130) Look.eq (Sub.cons (t := 164) Look.eq (Sub.cons (t := 165) Look.eq (Sub.cons (t := 168) Look.eq (Sub.cons (t := 169) Look.eq (Sub.cons (t := 172) Look.eq (Sub.cons (t := 173) Look.eq (Sub.cons (t := 174) Look.eq (Sub.cons (t := 175) Look.eq (Sub.cons (t := 176) Look.eq (Sub.cons (t := 177) Look.eq (Sub.cons (t := 178) Look.eq (Sub.cons (t := 179) Look.eq (Sub.cons (t := 180) Look.eq (Sub.cons (t := 181) Look.eq (Sub.nil _))))))))))))))))))) ?_
                    refine KA.condF ?_
                    refine KA.skip ?_
                    refine blQ.normal ?_
                    refine sqQ.normal ?_
                    refine KA.sub (Sub.cons (t := 9) Look.eq (Sub.cons (t := 15) Look.eq (Sub.cons (t := 129) Look.eq (Sub.cons (t := 130) Look.eq (Sub.cons (t := 164) Look.eq (Sub.cons (t := 165) Look.eq (Sub.cons (t := 168) Look.eq (Sub.cons (t := 169) Look.eq (Sub.cons (t := 172) Look.eq (Sub.cons (t := 173) Look.eq (Sub.cons (t := 174) Look.eq (Sub.cons (t := 175) Look.eq (Sub.cons (t := 176) Look.eq (Sub.cons (t := 177) Look.eq (Sub.cons (t := 178) Look.eq (Sub.cons (t := 179) Look.eq (Sub.cons (t := 180) Look.eq (Sub.nil _)))))))))))))))))) ?_
                    refine KA.region rfl ?_
                    refine KOps.add (by first | omega | (simp; omega)) (by first | omega | (simp; omega)) ?_
                    refine KOps.move ?_
                    refine KOps.done ?_
                    exact lpQ.normal (x + 1) (by repeat (first | exact Sub.nil _ | refine Sub.cons Look.eq ?_ | refine Sub.cons (Eq.trans Look.eq (congrArg (AV.int _) (by first | omega | (dsimp only; omega)))) ?_)) ⟨by omega, hS⟩ (by omega)
                  · intro g171
                    have g171 := of_decide_eq_false g171
                    refine KOps.guardNo (dj := 171) rfl rfl rfl ?_
                    refine KOps.guardNo (dj := 171) rfl rfl rfl ?_
                    refine KOps.guardNo (dj := 171) rfl rfl rfl ?_
                    refine KOps.guardNo (dj := 171) rfl rfl rfl ?_
                    refine KOps.guardNo (dj := 171) rfl rfl rfl ?_
                    refine KOps.guardNo (dj := 171) rfl rfl rfl ?_
                    refine KOps.guardNo (dj := 171) rfl rfl rfl ?_
                    refine KOps.guardNo (dj := 171) rfl rfl rfl ?_
                    refine KOps.pickF ?_
                    refine KOps.done ?_
                    refine sqQ.normal ?_
                    refine KA.sub (Sub.cons (t := 9) Look.eq (Sub.cons (t := 15) Look.eq (Sub.cons (t := 129) Look.eq (Sub.cons (t := 130) Look.eq (Sub.cons (t := 164) Look.eq (Sub.cons (t := 165) Look.eq (Sub.cons (t := 168) Look.eq (Sub.cons (t := 169) Look.eq (Sub.cons (t := 172) Look.eq (Sub.cons (t := 173) Look.eq (Sub.cons (t := 174) Look.eq (Sub.cons (t := 175) Look.eq (Sub.cons (t := 176) Look.eq (Sub.cons (t := 177) Look.eq (Sub.cons (t := 178) Look.eq (Sub.cons (t := 179) Look.eq (Sub.cons (t := 180) Look.eq (Sub.cons (t := 181) Look.eq (Sub.nil _))))))))))))))))))) ?_
                    refine KA.condF ?_
                    refine KA.skip ?_
                    refine blQ.normal ?_
                    refine sqQ.normal ?_
                    refine KA.sub (Sub.cons (t := 9) Look.eq (Sub.cons (t := 15) Look.eq (Sub.cons (t := 129) Look.eq (Sub.cons (t := 130) Look.eq (Sub.cons (t := 164) Look.eq (Sub.cons (t := 165) Look.eq (Sub.cons (t := 168) Look.eq (Sub.cons (t := 169) Look.eq (Sub.cons (t := 172) Look.eq (Sub.cons (t := 173) Look.eq (Sub.cons (t := 174) Look.eq (Sub.cons (t := 175) Look.eq (Sub.cons (t := 176) Look.eq (Sub.cons (t := 177) Look.eq (Sub.cons (t := 178) Look.eq (Sub.cons (t := 179) Look.eq (Sub.cons (t := 180) Look.eq (Sub.nil _)))))))))))))))))) ?_
                    refine KA.region rfl ?_
                    refine KOps.add (by first | omega | (simp; omega)) (by first | omega | (simp; omega)) ?_
                    refine KOps.move ?_
                    refine KOps.done ?_
                    exact lpQ.normal (x + 1) (by repeat (first | exact Sub.nil _ | refine Sub.cons Look.eq ?_ | refine Sub.cons (Eq.trans Look.eq (congrArg (AV.int _) (by first | omega | (dsimp only; omega)))) ?_)) ⟨by omega, hS⟩ (by omega)
                · intro g167
                  have g167 := of_decide_eq_false g167
                  refine KOps.guardNo (dj := 167) rfl rfl rfl ?_
                  refine KOps.pickF ?_
                  refine KOps.move ?_
                  refine KOps.guardNo (dj := 171) rfl rfl rfl ?_
                  refine KOps.guardNo (dj := 171) rfl rfl rfl ?_
                  refine KOps.guardNo (dj := 171) rfl rfl rfl ?_
                  refine KOps.guardNo (dj := 171) rfl rfl rfl ?_
                  refine KOps.guardNo (dj := 171) rfl rfl rfl ?_
                  refine KOps.guardNo (dj := 171) rfl rfl rfl ?_
                  refine KOps.guardNo (dj := 171) rfl rfl rfl ?_
                  refine KOps.guardNo (dj := 171) rfl rfl rfl ?_
                  refine KOps.guardNo (dj := 171) rfl rfl rfl ?_
                  refine KOps.pickF ?_
                  refine KOps.done ?_
                  refine sqQ.normal ?_
                  refine KA.sub (Sub.cons (t := 9) Look.eq (Sub.cons (t := 15) Look.eq (Sub.cons (t := 129) Look.eq (Sub.cons (t := 130) Look.eq (Sub.cons (t := 164) Look.eq (Sub.cons (t := 165) Look.eq (Sub.cons (t := 168) Look.eq (Sub.cons (t := 169) Look.eq (Sub.cons (t := 172) Look.eq (Sub.cons (t := 173) Look.eq (Sub.cons (t := 174) Look.eq (Sub.cons (t := 175) Look.eq (Sub.cons (t := 176) Look.eq (Sub.cons (t := 177) Look.eq (Sub.cons (t := 178) Look.eq (Sub.cons (t := 179) Look.eq (Sub.cons (t := 180) Look.eq (Sub.cons (t := 181) Look.eq (Sub.nil _))))))))))))))))))) ?_
                  refine KA.condF ?_
                  refine KA.skip ?_
                  refine blQ.normal ?_
                  refine sqQ.normal ?_
                  refine KA.sub (Sub.cons (t := 9) Look.eq (Sub.cons (t := 15) Look.eq (Sub.cons (t := 129) Look.eq (Sub.cons (t := 130) Look.eq (Sub.cons (t := 164) Look.eq (Sub.cons (t := 165) Look.eq (Sub.cons (t := 168) Look.eq (Sub.cons (t := 169) Look.eq (Sub.cons (t := 172) Look.eq (Sub.cons (t := 173) Look.eq (Sub.cons (t := 174) Look.eq (Sub.cons (t := 175) Look.eq (Sub.cons (t := 176) Look.eq (Sub.cons (t := 177) Look.eq (Sub.cons (t := 178) Look.eq (Sub.cons (t := 179) Look.eq (Sub.cons (t := 180) Look.eq (Sub.nil _)))))))))))))))))) ?_
                  refine KA.region rfl ?_
                  refine KOps.add (by first | omega | (simp; omega)) (by first | omega | (simp; omega)) ?_
                  refine KOps.move ?_
                  refine KOps.done ?_
                  exact lpQ.normal (x + 1) (by repeat (first | exact Sub.nil _ | refine Sub.cons Look.eq ?_ | refine Sub.cons (Eq.trans Look.eq (congrArg (AV.int _) (by first | omega | (dsimp only; omega)))) ?_)) ⟨by omega, hS⟩ (by omega)
              · intro g163
                refine KOps.guardNo (dj := 163) rfl rfl rfl ?_
                refine KOps.pickF ?_
                refine KOps.move ?_
                refine KOps.guardNo (dj := 167) rfl rfl rfl ?_
                refine KOps.guardNo (dj := 167) rfl rfl rfl ?_
                refine KOps.pickF ?_
                refine KOps.move ?_
                refine KOps.guardNo (dj := 171) rfl rfl rfl ?_
                refine KOps.guardNo (dj := 171) rfl rfl rfl ?_
                refine KOps.guardNo (dj := 171) rfl rfl rfl ?_
                refine KOps.guardNo (dj := 171) rfl rfl rfl ?_
                refine KOps.guardNo (dj := 171) rfl rfl rfl ?_
                refine KOps.guardNo (dj := 171) rfl rfl rfl ?_
                refine KOps.guardNo (dj := 171) rfl rfl rfl ?_
                refine KOps.guardNo (dj := 171) rfl rfl rfl ?_
                refine KOps.guardNo (dj := 171) rfl rfl rfl ?_
                refine KOps.pickF ?_
                refine KOps.done ?_
                refine sqQ.normal ?_
                refine KA.sub (Sub.cons (t := 9) Look.eq (Sub.cons (t := 15) Look.eq (Sub.cons (t := 129) Look.eq (Sub.cons (t := 130) Look.eq (Sub.cons (t := 164) Look.eq (Sub.cons (t := 165) Look.eq (Sub.cons (t := 168) Look.eq (Sub.cons (t := 169) Look.eq (Sub.cons (t := 172) Look.eq (Sub.cons (t := 173) Look.eq (Sub.cons (t := 174) Look.eq (Sub.cons (t := 175) Look.eq (Sub.cons (t := 176) Look.eq (Sub.cons (t := 177) Look.eq (Sub.cons (t := 178) Look.eq (Sub.cons (t := 179) Look.eq (Sub.cons (t := 180) Look.eq (Sub.cons (t := 181) Look.eq (Sub.nil _))))))))))))))))))) ?_
                refine KA.condF ?_
                refine KA.skip ?_
                refine blQ.normal ?_
                refine sqQ.normal ?_
                refine KA.sub (Sub.cons (t := 9) Look.eq (Sub.cons (t := 15) Look.eq (Sub.cons (t := 129) Look.eq (Sub.cons (t := 130) Look.eq (Sub.cons (t := 164) Look.eq (Sub.cons (t := 165) Look.eq (Sub.cons (t := 168) Look.eq (Sub.cons (t := 169) Look.eq (Sub.cons (t := 172) Look.eq (Sub.cons (t := 173) Look.eq (Sub.cons (t := 174) Look.eq (Sub.cons (t := 175) Look.eq (Sub.cons (t := 176) Look.eq (Sub.cons (t := 177) Look.eq (Sub.cons (t := 178) Look.eq (Sub.cons (t := 179) Look.eq (Sub.cons (t := 180) Look.eq (Sub.nil _)))))))))))))))))) ?_
                refine KA.region rfl ?_
                refine KOps.add (by first | omega | (simp; omega)) (by first | omega | (simp; omega)) ?_
                refine KOps.move ?_
                refine KOps.done ?_
                exact lpQ.normal (x + 1) (by repeat (first | exact Sub.nil _ | refine Sub.cons Look.eq ?_ | refine Sub.cons (Eq.trans Look.eq (congrArg (AV.int _) (by first | omega | (dsimp only; omega)))) ?_)) ⟨by omega, hS⟩ (by omega)
          · intro c131
            refine KA.exit ?_
            refine sqQ.exit ?_
            refine lpQ.exit ?_
            refine blQ.here ?_
            refine sqQ.normal ?_
            refine KA.sub (Sub.nil _) ?_
            refine KA.seq ?_
            refine KA.region rfl ?_
            refine KOps.call rfl (works_c (hSz.ext hS.keeps)) ?_
            rintro _ hwk ⟨rfl, hK⟩
            refine KOps.assign ?_
            refine KOps.done ?_
            refine sqQ.normal ?_
            refine KA.sub (Sub.cons (t := 8) Look.eq (Sub.nil _)) ?_
            refine KA.ret ?_
            refine fnQ.ret1 ?_
            exact rfl

end Go.Am

namespace Go.Am
theorem law_turned_u8 {h : AHeap} {a : Int} {vH : AV} {hs : List H4} (hv : Rd h vH 4 (flr hc hs)) (ha0 : 0 ≤ a) (ha1 : a ≤ 255) (hx : ∀ i, i < hs.length → (hs.getD i default).Ok) (hSz : Sizes h) {b : Int} (hb0 : 0 ≤ b) (hb1 : b ≤ 255) {s : Int} (hs0 : 0 ≤ s) (hs1 : s ≤ 255) {fl : Bool} :
    ACalls Go.Proofs.Tryd.prog 13 [.agg [.int .u8 a, vH], .int .u8 b, .int .u8 s, .bool fl] h (fun q _ => q = .bool true) := by
  obtain ⟨b, rfl⟩ : ∃ n : Nat, b = (n : Int) := ⟨b.toNat, by omega⟩
  obtain ⟨s, rfl⟩ : ∃ n : Nat, s = (n : Int) := ⟨s.toNat, by omega⟩
  exact law_turned hv ha0 ha1 hx hSz (by omega) (by omega)
end Go.Am
