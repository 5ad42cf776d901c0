/-
  Layer 01: a stamp goes by a path; a way is lowered, raised: contracts.
  Conditions: none.
-/
import Derived.Test.YtdfhmdhjeiipfaaDoorSCl
import Derived.Test.YtdfhmdhjeiipfaaDoorVr
import Derived.Test.YtdfhmdhjeiipfaaDoorSPc
import Derived.Test.YtdfhmdhjeiipfaaDoorAmA
import Derived.Test.YtdfhmdhjeiipfaaDoorAmQ
import Derived.Test.YtdfhmdhjeiipfaaDoorRows
import Derived.MakeChecks
namespace Go.Am
theorem St.swap {h0 h : AHeap} {A B C : List Obj} (st : St h0 h (A ++ B ++ C)) : St h0 h (B ++ A ++ C) := st.perm (List.perm_append_comm.append_right C)
theorem St.mid {h0 h : AHeap} {A B C : List Obj} (st : St h0 h (A ++ B ++ C)) : St h0 h (A ++ C) := St.drop (A := B) (by rw [← List.append_assoc]; exact St.swap st)
theorem St.sink2 {h0 h : AHeap} {a b c : Obj} {G : List Obj} (st : St h0 h (a :: b :: c :: G)) : St h0 h (b :: c :: a :: G) := St.swap (A := [a]) (B := [b, c]) st
theorem Path.short {ws : List W} {n : List Int} {A : Nat → Bool} {u v : Int} {vs : List Int} {E : List (Int × Bool)} (p : Path ws n A u vs v E) : E.length ≤ ws.length := by
  have hr : ∀ q ∈ E, 0 ≤ q.1 ∧ q.1 < ws.length := fun q hq => by obtain ⟨j, h1, h2, _⟩ := p.ends q hq; omega
  have hnd : ((E.map (·.1)).map Int.toNat).Nodup := List.pairwise_map.2 (p.keys.imp_of_mem fun {x y} hx hy hne he => by
    obtain ⟨q, hq, rfl⟩ := List.mem_map.1 hx
    obtain ⟨q', hq', rfl⟩ := List.mem_map.1 hy
    have h2 := hr q hq
    have h3 := hr q' hq'
    omega)
  have h1 := nodup_sub_le (m := List.range ws.length) hnd (fun x hx => by
    obtain ⟨y, hy, rfl⟩ := List.mem_map.1 hx
    obtain ⟨q, hq, rfl⟩ := List.mem_map.1 hy
    have := hr q hq
    exact List.mem_range.2 (by omega))
  simpa using h1
theorem within_bound {rm : Int} {ws : List W} {n : List Int} (hB : BOk rm ws) (hw : Within ws n) : ∀ i, i < ws.length → 0 ≤ n.getD i 0 ∧ n.getD i 0 ≤ 99 := by
  intro i hi
  have h1 := hw.lo i hi
  have h2 := hw.hi i hi
  have h3 := hB.way i hi
  have h4 := h3.l0
  have h5 := h3.m1
  omega
theorem pushP_c {h0 h : AHeap} {rm : Int} {pf vn vm vW : AV} {ws : List W} {n : List Int} {A : Nat → Bool} {u v : Int} {vs : List Int} {E : List (Int × Bool)} {tf tn : Bool} {G : List Obj} (hpf : AddrOf pf pf 0 0) (hvm : IsMp vm) (hB : BOk rm ws) (hw : Within ws n) (h0l : 0 < ws.length) (p : Path ws n A u vs v E)
    (hS : St h0 h (⟨pf, 0, [.int .i64 rm, vW, vn], tf⟩ :: ⟨vn, 1, ints n, tn⟩ :: mapO vm (entB E) :: G)) :
    ACalls Go.Proofs.Tryd.prog 86 [pf, vm] h (fun _ h' => St h0 h' (⟨pf, 0, [.int .i64 rm, vW, vn], tf⟩ :: ⟨vn, 1, ints (pushE E n), tn⟩ :: G)) := by
  have hl := hw.len
  have hwl := hB.len
  have hsh := p.short
  obtain ⟨r, h', h1, h2⟩ := push_c hpf hvm (ns := n) (by rintro rfl; simp at hl; omega) (fun q hq => by obtain ⟨j, h1, h2, _⟩ := p.ends q hq; omega) (fun x hx => by
    obtain ⟨i, hi, rfl⟩ := List.getElem_of_mem hx
    have := within_bound hB hw i (by omega)
    rw [List.getD_eq_getElem?_getD, List.getElem?_eq_getElem hi] at this
    simp only [Option.getD_some] at this
    omega) (by omega) hS
  rw [bumps_push] at h2
  exact ⟨r, h', h1, St.out (A := [_, _]) h2⟩

theorem lower1_c {h : AHeap} {i k : Nat} {A : Nat → Bool} {p4 p5 : AV} {fa : FuncId} {caps : List AV} (hp4 : AddrOf p4 p4 0 0) (hp5 : AddrOf p5 p5 0 0) (h4 : Rd h p4 0 [.int .i64 (i : Int)]) (h5 : Rd h p5 0 [.fn fa caps]) (hA : ACalls Go.Proofs.Tryd.prog fa ([.int .i64 (k : Int)] ++ caps) h (fun q h2 => q = .bool (A k) ∧ h = h2)) : ACalls Go.Proofs.Tryd.prog 87 [.int .i64 (k : Int), p4, p5] h (fun q h' => q = .bool (but i A k) ∧ h = h') := by
  refine KA.fn 13 [.tmp 4] Go.Proofs.Tryd.func87 rfl (by decide) rfl rfl (Nat.le_of_ble_eq_true rfl) ?_
  show KA _ 13 _ _ [(0, .int .i64 (k : Int)), (1, p4), (2, p5)] _
  refine KA.seq ?_
  refine KA.region rfl ?_
  refine KOps.assign ?_
  refine KOps.done ?_
  refine sqQ.normal ?_
  refine KA.sub (Sub.cons (t := 0) Look.eq (Sub.cons (t := 1) Look.eq (Sub.cons (t := 2) Look.eq (Sub.nil _)))) ?_
  refine KA.seq ?_
  refine KA.region rfl ?_
  refine KOps.move ?_
  refine KOps.load hp4 h4 rfl ?_
  refine KOps.neq ?_
  refine KOps.move ?_
  refine KOps.guardB (dj := 8) rfl rfl true false rfl ?_ ?_
  · intro g8
    have g8 := not_of_not_decide g8
    refine KOps.load hp5 h5 rfl ?_
    refine KOps.guardYes (dj := 8) rfl rfl ?_
    refine KOps.move ?_
    refine KOps.guardYes (dj := 8) rfl rfl ?_
    refine KOps.call rfl (hA) ?_
    rintro _ _ ⟨rfl, rfl⟩
    refine KOps.pickT ?_
    refine KOps.assign ?_
    refine KOps.done ?_
    refine sqQ.normal ?_
    refine KA.sub (Sub.cons (t := 4) Look.eq (Sub.nil _)) ?_
    refine KA.ret ?_
    refine fnQ.ret1 ?_
    refine ⟨congrArg AV.bool ?_, rfl⟩
    rw [but, decide_eq_false g8]; rfl
  · intro g8
    have g8 := of_not_decide g8
    refine KOps.guardNo (dj := 8) rfl rfl rfl ?_
    refine KOps.guardNo (dj := 8) rfl rfl rfl ?_
    refine KOps.pickF ?_
    refine KOps.assign ?_
    refine KOps.done ?_
    refine sqQ.normal ?_
    refine KA.sub (Sub.cons (t := 4) Look.eq (Sub.nil _)) ?_
    refine KA.ret ?_
    refine fnQ.ret1 ?_
    refine ⟨congrArg AV.bool ?_, rfl⟩
    rw [but, decide_eq_true g8]; rfl

theorem raise1_c {h : AHeap} {i k : Nat} {p3 : AV} (hp3 : AddrOf p3 p3 0 0) (h3 : Rd h p3 0 [.int .i64 (i : Int)]) : ACalls Go.Proofs.Tryd.prog 88 [.int .i64 (k : Int), p3] h (fun q h' => q = .bool (but i (fun _ => true) k) ∧ h = h') := by
  refine KA.fn 7 [.tmp 3] Go.Proofs.Tryd.func88 rfl (by decide) rfl rfl (Nat.le_of_ble_eq_true rfl) ?_
  show KA _ 7 _ _ [(0, .int .i64 (k : Int)), (1, p3)] _
  refine KA.seq ?_
  refine KA.region rfl ?_
  refine KOps.assign ?_
  refine KOps.done ?_
  refine sqQ.normal ?_
  refine KA.sub (Sub.cons (t := 0) Look.eq (Sub.cons (t := 1) Look.eq (Sub.nil _))) ?_
  refine KA.seq ?_
  refine KA.region rfl ?_
  refine KOps.move ?_
  refine KOps.load hp3 h3 rfl ?_
  refine KOps.neq ?_
  refine KOps.assign ?_
  refine KOps.done ?_
  refine sqQ.normal ?_
  refine KA.sub (Sub.cons (t := 3) Look.eq (Sub.nil _)) ?_
  refine KA.ret ?_
  refine fnQ.ret1 ?_
  refine ⟨congrArg AV.bool ?_, rfl⟩
  rw [but, Bool.and_true]

theorem span1_c {h : AHeap} {k : Nat} : ACalls Go.Proofs.Tryd.prog 72 [.int .i64 (k : Int)] h (fun q h' => q = .bool true ∧ h = h') := by
  refine KA.fn 3 [.tmp 2] Go.Proofs.Tryd.func72 rfl (by decide) rfl rfl (Nat.le_of_ble_eq_true rfl) ?_
  show KA _ 3 _ _ [(0, .int .i64 (k : Int))] _
  refine KA.seq ?_
  refine KA.region rfl ?_
  refine KOps.assign ?_
  refine KOps.done ?_
  refine sqQ.normal ?_
  refine KA.sub (Sub.nil _) ?_
  refine KA.seq ?_
  refine KA.region rfl ?_
  refine KOps.assign ?_
  refine KOps.done ?_
  refine sqQ.normal ?_
  refine KA.ret ?_
  refine fnQ.ret1 ?_
  exact ⟨rfl, rfl⟩

theorem found1_c {h : AHeap} {k : Nat} : ACalls Go.Proofs.Tryd.prog 81 [.int .i64 (k : Int)] h (fun q h' => q = .bool true ∧ h = h') := by
  refine KA.fn 3 [.tmp 2] Go.Proofs.Tryd.func81 rfl (by decide) rfl rfl (Nat.le_of_ble_eq_true rfl) ?_
  show KA _ 3 _ _ [(0, .int .i64 (k : Int))] _
  refine KA.seq ?_
  refine KA.region rfl ?_
  refine KOps.assign ?_
  refine KOps.done ?_
  refine sqQ.normal ?_
  refine KA.sub (Sub.nil _) ?_
  refine KA.seq ?_
  refine KA.region rfl ?_
  refine KOps.assign ?_
  refine KOps.done ?_
  refine sqQ.normal ?_
  refine KA.ret ?_
  refine fnQ.ret1 ?_
  exact ⟨rfl, rfl⟩

theorem lower_c {h0 h : AHeap} {r : Nat} {i : Nat} {pf vW vn : AV} {ws : List W} {n : List Int} {tn : Bool} {G : List Obj} (hpf : AddrOf pf pf 0 0) (hv : Rd h0 vW 4 (flr wc ws)) (hB : BOk (r : Int) ws) (hfl : Flow ws n) (hi : i < ws.length) {A : Nat → Bool} {fa : FuncId} {caps : List AV} (hA : ∀ (h' : AHeap) (X : List Obj) (k : Nat), St h0 h' (X ++ G) → k < ws.length → ACalls Go.Proofs.Tryd.prog fa ([.int .i64 (k : Int)] ++ caps) h' (fun q h2 => q = .bool (A k) ∧ h' = h2)) (hS : St h0 h (⟨pf, 0, [.int .i64 (r : Int), vW, vn], true⟩ :: ⟨vn, 1, ints n, tn⟩ :: G)) : ACalls Go.Proofs.Tryd.prog 71 [pf, .int .i64 (i : Int), .fn fa caps] h (fun _ h' => ∃ n', St h0 h' (⟨pf, 0, [.int .i64 (r : Int), vW, vn], true⟩ :: ⟨vn, 1, ints n', tn⟩ :: G) ∧ Flow ws n' ∧ Near i A n n' ∧ Low ws i A n') := by
  refine KA.fn 47 [] Go.Proofs.Tryd.func71 rfl (by decide) rfl rfl (Nat.le_of_ble_eq_true rfl) ?_
  have hwi := hB.way i hi
  have hwf0 := hwi.f0
  have hwf1 := hwi.f1
  have hwt0 := hwi.t0
  have hwt1 := hwi.t1
  have hwl0 := hwi.l0
  have hwm1 := hwi.m1
  have hwl := hB.len
  show KA _ 47 _ _ [(0, pf), (1, .int .i64 (i : Int)), (2, .fn fa caps)] _
  refine KA.seq ?_
  refine KA.region rfl ?_
  refine KOps.box hS (l := [_]) rfl ?_
  intro p4 h' hp4 hS
  refine KOps.box hS (l := [_]) rfl ?_
  intro p5 h' hp5 hS
  refine KOps.done ?_
  refine sqQ.normal ?_
  refine KA.sub (Sub.cons (t := 0) Look.eq (Sub.cons (t := 4) Look.eq (Sub.cons (t := 5) Look.eq (Sub.nil _)))) ?_
  refine KA.seq ?_
  refine KA.draw [] mixed rfl (by kernel_rfl) ?_
  refine KOps.move ?_
  refine KOps.nilP hpf ?_
  refine KOps.fieldAddr hpf ?_
  intro p10 hp10
  refine KOps.fieldAddr hp10 ?_
  intro p11 hp11
  refine KOps.load hp11 (hS.rd 2 rfl) rfl ?_
  refine KOps.loadBox hS (i := 1) rfl hp4 ?_
  refine KOps.indexF wc_len (Rd.ext hS.keeps hv) (j := i) (by first | omega | (simp; omega)) (by first | omega | (simp; omega)) ?_
  intro p14 hp14
  refine KOps.loadFl wc_len (by decide) hp14 (Rd.ext hS.keeps hv) (by first | omega | (simp; omega)) ?_
  refine KOps.alloc hS ?_
  intro p6 h' hp6 hS
  refine KOps.storeAll hS rfl (i := 0) rfl hp6 (by first | rfl | (simp [AV.one]; done) | (simp [AV.one]; assumption) | (simp [AV.one, *]; done)) (by rfl) (by rfl) (by decide) ?_
  intro h' hS
  simp only [List.set_cons_zero, List.set_cons_succ, Nat.zero_add] at hS
  refine KOps.done ?_
  refine sqQ.normal ?_
  refine KA.sub (Sub.cons (t := 0) Look.eq (Sub.cons (t := 4) Look.eq (Sub.cons (t := 5) Look.eq (Sub.cons (t := 6) Look.eq (Sub.nil _))))) ?_
  refine KA.block ?_
  refine KA.loop (X := List Int) (fun c => [(0, pf), (4, p4), (5, p5), (6, p6)]) (fun c h' => Flow ws c ∧ Near i A n c ∧ St h0 h' (⟨pf, 0, [.int .i64 (r : Int), vW, vn], true⟩ :: ⟨vn, 1, ints c, tn⟩ :: ⟨p6, 0, wc (ws.getD i default), true⟩ :: ⟨p5, 0, [.fn fa caps], true⟩ :: ⟨p4, 0, [.int .i64 (i : Int)], true⟩ :: G)) (fun c => (c.getD i 0).toNat) n (by repeat (first | exact Sub.nil _ | refine Sub.cons Look.eq ?_ | refine Sub.cons (Eq.trans Look.eq (congrArg (AV.int _) (by first | omega | (dsimp only; omega)))) ?_)) ?_ ?_
  · exact ⟨hfl, Near.refl _ _ _, St.swap (A := [_, _, _]) (B := [_, _]) hS⟩
  rintro c h3 ⟨hc, hnear, hS⟩
  have hcb := within_bound hB hc.toWithin i hi
  have hcl := hc.len
  refine KA.seq ?_
  refine KA.seq ?_
  refine KA.draw [] mixed rfl (by kernel_rfl) ?_
  refine KOps.move ?_
  refine KOps.nilP hpf ?_
  refine KOps.fieldAddr hpf ?_
  intro p18 hp18
  refine KOps.load hp18 (hS.rd 0 rfl) rfl ?_
  refine KOps.loadBox hS (i := 4) rfl hp4 ?_
  refine KOps.indexIJ (hS.rd 1 rfl) (j := i) (by first | omega | (simp; omega)) (by first | omega | (simp; omega)) ?_
  intro p21 hp21
  refine KOps.loadI hp21 (hS.rd 1 rfl) (by first | omega | (simp; omega)) ?_
  refine KOps.fieldAddr hp6 ?_
  intro p23 hp23
  refine KOps.load hp23 (hS.rd 2 rfl) rfl ?_
  refine KOps.gtr ?_
  refine KOps.done ?_
  refine sqQ.normal ?_
  refine KA.sub (Sub.cons (t := 0) Look.eq (Sub.cons (t := 4) Look.eq (Sub.cons (t := 5) Look.eq (Sub.cons (t := 6) Look.eq (Sub.cons (t := 25) Look.eq (Sub.nil _)))))) ?_
  refine KA.condD ?_ ?_
  · intro c25
    refine KA.skip ?_
    refine sqQ.normal ?_
    refine KA.sub (Sub.cons (t := 0) Look.eq (Sub.cons (t := 4) Look.eq (Sub.cons (t := 5) Look.eq (Sub.cons (t := 6) Look.eq (Sub.nil _))))) ?_
    refine KA.block ?_
    refine KA.seq ?_
    refine KA.region rfl ?_
    refine KOps.move ?_
    refine KOps.fieldAddr hp6 ?_
    intro p27 hp27
    refine KOps.load hp27 (hS.rd 2 rfl) rfl ?_
    refine KOps.fieldAddr hp6 ?_
    intro p29 hp29
    refine KOps.load hp29 (hS.rd 2 rfl) rfl ?_
    refine KOps.makeFunc ?_
    refine KOps.call rfl (path_c hpf (hS.rd 0 rfl) (Rd.ext hS.keeps hv) (hS.rd 1 rfl) hB hc.len hwf0 hwf1 (A := but i A) (by
      intro h' k hK hk
      have hS' : St h0 h' (_ :: _) := St.trans hS (St.ofK hK)
      exact lower1_c hp4 hp5 (hS'.rd 4 rfl) (hS'.rd 3 rfl) (hA h' [_, _, _, _, _] k hS' hk))) ?_
    rintro q h4 ⟨b, G9, hq, hG, hno, hyes⟩
    have hS9 := St.trans hS hG
    clear hS
    refine KOps.assign ?_
    refine KOps.done ?_
    refine sqQ.normal ?_
    refine KA.sub (Sub.cons (t := 0) Look.eq (Sub.cons (t := 4) Look.eq (Sub.cons (t := 5) Look.eq (Sub.cons (t := 6) Look.eq (Sub.cons (t := 7) Look.eq (Sub.nil _)))))) ?_
    refine KA.seq ?_
    refine KA.seq ?_
    refine KA.region rfl ?_
    refine KOps.move ?_
    refine KOps.eqNilm (p := (3, 4)) (by kernel_rfl) hq ?_
    refine KOps.done ?_
    refine sqQ.normal ?_
    refine KA.sub (Sub.cons (t := 0) Look.eq (Sub.cons (t := 4) Look.eq (Sub.cons (t := 5) Look.eq (Sub.cons (t := 6) Look.eq (Sub.cons (t := 7) Look.eq (Sub.cons (t := 34) Look.eq (Sub.nil _))))))) ?_
    refine KA.condB ?_ ?_
    · intro c34
      subst c34
      refine KA.ret ?_
      refine sqQ.ret ?_
      refine blQ.ret ?_
      refine lpQ.ret ?_
      refine blQ.ret ?_
      refine fnQ.ret0 ?_
      exact ⟨c, St.mid (A := [_, _]) (B := [_, _, _]) (St.drop hS9), hc, hnear, low_of hB.inR hc hi (hno rfl)⟩
    · intro c34
      subst c34
      obtain ⟨vs, E, p, rfl⟩ := hyes rfl
      have hS := St.sink2 hS9
      clear hS9
      have hpl := pushE_len E c
      have hsm := p.same (but_self i A)
      refine KA.skip ?_
      refine sqQ.normal ?_
      refine KA.sub (Sub.cons (t := 0) Look.eq (Sub.cons (t := 4) Look.eq (Sub.cons (t := 5) Look.eq (Sub.cons (t := 6) Look.eq (Sub.cons (t := 7) Look.eq (Sub.nil _)))))) ?_
      refine KA.seq ?_
      refine KA.region rfl ?_
      refine KOps.move ?_
      refine KOps.move ?_
      refine KOps.call rfl (pushP_c hpf (AV.mapNil_mp hq) hB hc.toWithin (by omega) p hS) ?_
      rintro _ h5 hS
      refine KOps.done ?_
      refine sqQ.normal ?_
      refine KA.sub (Sub.cons (t := 0) Look.eq (Sub.cons (t := 4) Look.eq (Sub.cons (t := 5) Look.eq (Sub.cons (t := 6) Look.eq (Sub.nil _))))) ?_
      refine KA.draw [] mixed rfl (by kernel_rfl) ?_
      refine KOps.move ?_
      refine KOps.nilP hpf ?_
      refine KOps.fieldAddr hpf ?_
      intro p40 hp40
      refine KOps.load hp40 (hS.rd 0 rfl) rfl ?_
      refine KOps.loadBox hS (i := 4) rfl hp4 ?_
      refine KOps.indexIJ (hS.rd 1 rfl) (j := i) (by first | omega | (simp; omega)) (by first | omega | (simp; omega)) ?_
      intro p43 hp43
      refine KOps.loadI hp43 (hS.rd 1 rfl) (by first | omega | (simp; omega)) ?_
      refine KOps.sub (by first | omega | (simp; omega)) (by first | omega | (simp; omega)) ?_
      refine KOps.indexIJ (hS.rd 1 rfl) (j := i) (by first | omega | (simp; omega)) (by first | omega | (simp; omega)) ?_
      intro p46 hp46
      refine KOps.storeI hS rfl (i := 1) rfl hp46 (by first | omega | (simp; omega)) ?_
      intro h' hS
      refine KOps.done ?_
      refine blQ.normal ?_
      obtain ⟨hf2, hn2, hg2⟩ := p.lower hc hi c25
      rw [hsm] at hS
      exact lpQ.normal ((pushE E c).set i (c.getD i 0 - 1)) (by repeat (first | exact Sub.nil _ | refine Sub.cons Look.eq ?_ | refine Sub.cons (Eq.trans Look.eq (congrArg (AV.int _) (by first | omega | (dsimp only; omega)))) ?_)) ⟨hf2, hnear.trans hn2, hS⟩ (by rw [hg2]; omega)
  · intro c25
    refine KA.exit ?_
    refine sqQ.exit ?_
    refine lpQ.exit ?_
    refine blQ.here ?_
    refine fnQ.norm0 ?_
    refine ⟨c, St.mid (A := [_, _]) (B := [_, _, _]) hS, hc, hnear, ?_⟩
    intro m hm _
    have := hm.lo i hi
    have := hc.lo i hi
    omega

theorem raise_c {h0 h : AHeap} {r : Nat} {i : Nat} {pf vW vn : AV} {ws : List W} {n : List Int} {tn : Bool} {G : List Obj} (hpf : AddrOf pf pf 0 0) (hv : Rd h0 vW 4 (flr wc ws)) (hB : BOk (r : Int) ws) (hfl : Flow ws n) (hi : i < ws.length) (hS : St h0 h (⟨pf, 0, [.int .i64 (r : Int), vW, vn], true⟩ :: ⟨vn, 1, ints n, tn⟩ :: G)) : ACalls Go.Proofs.Tryd.prog 73 [pf, .int .i64 (i : Int)] h (fun _ h' => ∃ n', St h0 h' (⟨pf, 0, [.int .i64 (r : Int), vW, vn], true⟩ :: ⟨vn, 1, ints n', tn⟩ :: G) ∧ Flow ws n' ∧ Near i (fun _ => true) n n' ∧ High ws i (fun _ => true) n') := by
  refine KA.fn 45 [] Go.Proofs.Tryd.func73 rfl (by decide) rfl rfl (Nat.le_of_ble_eq_true rfl) ?_
  have hwi := hB.way i hi
  have hwf0 := hwi.f0
  have hwf1 := hwi.f1
  have hwt0 := hwi.t0
  have hwt1 := hwi.t1
  have hwl0 := hwi.l0
  have hwm1 := hwi.m1
  have hwl := hB.len
  show KA _ 45 _ _ [(0, pf), (1, .int .i64 (i : Int))] _
  refine KA.seq ?_
  refine KA.region rfl ?_
  refine KOps.box hS (l := [_]) rfl ?_
  intro p3 h' hp3 hS
  refine KOps.done ?_
  refine sqQ.normal ?_
  refine KA.sub (Sub.cons (t := 0) Look.eq (Sub.cons (t := 3) Look.eq (Sub.nil _))) ?_
  refine KA.seq ?_
  refine KA.draw [] mixed rfl (by kernel_rfl) ?_
  refine KOps.move ?_
  refine KOps.nilP hpf ?_
  refine KOps.fieldAddr hpf ?_
  intro p8 hp8
  refine KOps.fieldAddr hp8 ?_
  intro p9 hp9
  refine KOps.load hp9 (hS.rd 1 rfl) rfl ?_
  refine KOps.loadBox hS (i := 0) rfl hp3 ?_
  refine KOps.indexF wc_len (Rd.ext hS.keeps hv) (j := i) (by first | omega | (simp; omega)) (by first | omega | (simp; omega)) ?_
  intro p12 hp12
  refine KOps.loadFl wc_len (by decide) hp12 (Rd.ext hS.keeps hv) (by first | omega | (simp; omega)) ?_
  refine KOps.alloc hS ?_
  intro p4 h' hp4 hS
  refine KOps.storeAll hS rfl (i := 0) rfl hp4 (by first | rfl | (simp [AV.one]; done) | (simp [AV.one]; assumption) | (simp [AV.one, *]; done)) (by rfl) (by rfl) (by decide) ?_
  intro h' hS
  simp only [List.set_cons_zero, List.set_cons_succ, Nat.zero_add] at hS
  refine KOps.done ?_
  refine sqQ.normal ?_
  refine KA.sub (Sub.cons (t := 0) Look.eq (Sub.cons (t := 3) Look.eq (Sub.cons (t := 4) Look.eq (Sub.nil _)))) ?_
  refine KA.block ?_
  refine KA.loop (X := List Int) (fun c => [(0, pf), (3, p3), (4, p4)]) (fun c h' => Flow ws c ∧ Near i (fun _ => true) n c ∧ St h0 h' (⟨pf, 0, [.int .i64 (r : Int), vW, vn], true⟩ :: ⟨vn, 1, ints c, tn⟩ :: ⟨p4, 0, wc (ws.getD i default), true⟩ :: ⟨p3, 0, [.int .i64 (i : Int)], true⟩ :: G)) (fun c => ((ws.getD i default).m - c.getD i 0).toNat) n (by repeat (first | exact Sub.nil _ | refine Sub.cons Look.eq ?_ | refine Sub.cons (Eq.trans Look.eq (congrArg (AV.int _) (by first | omega | (dsimp only; omega)))) ?_)) ?_ ?_
  · exact ⟨hfl, Near.refl _ _ _, St.swap (A := [_, _]) (B := [_, _]) hS⟩
  rintro c h3 ⟨hc, hnear, hS⟩
  have hcb := within_bound hB hc.toWithin i hi
  have hcl := hc.len
  refine KA.seq ?_
  refine KA.seq ?_
  refine KA.draw [] mixed rfl (by kernel_rfl) ?_
  refine KOps.move ?_
  refine KOps.nilP hpf ?_
  refine KOps.fieldAddr hpf ?_
  intro p16 hp16
  refine KOps.load hp16 (hS.rd 0 rfl) rfl ?_
  refine KOps.loadBox hS (i := 3) rfl hp3 ?_
  refine KOps.indexIJ (hS.rd 1 rfl) (j := i) (by first | omega | (simp; omega)) (by first | omega | (simp; omega)) ?_
  intro p19 hp19
  refine KOps.loadI hp19 (hS.rd 1 rfl) (by first | omega | (simp; omega)) ?_
  refine KOps.fieldAddr hp4 ?_
  intro p21 hp21
  refine KOps.load hp21 (hS.rd 2 rfl) rfl ?_
  refine KOps.lss ?_
  refine KOps.done ?_
  refine sqQ.normal ?_
  refine KA.sub (Sub.cons (t := 0) Look.eq (Sub.cons (t := 3) Look.eq (Sub.cons (t := 4) Look.eq (Sub.cons (t := 23) Look.eq (Sub.nil _))))) ?_
  refine KA.condD ?_ ?_
  · intro c23
    refine KA.skip ?_
    refine sqQ.normal ?_
    refine KA.sub (Sub.cons (t := 0) Look.eq (Sub.cons (t := 3) Look.eq (Sub.cons (t := 4) Look.eq (Sub.nil _)))) ?_
    refine KA.block ?_
    refine KA.seq ?_
    refine KA.region rfl ?_
    refine KOps.move ?_
    refine KOps.fieldAddr hp4 ?_
    intro p25 hp25
    refine KOps.load hp25 (hS.rd 2 rfl) rfl ?_
    refine KOps.fieldAddr hp4 ?_
    intro p27 hp27
    refine KOps.load hp27 (hS.rd 2 rfl) rfl ?_
    refine KOps.makeFunc ?_
    refine KOps.call rfl (path_c hpf (hS.rd 0 rfl) (Rd.ext hS.keeps hv) (hS.rd 1 rfl) hB hc.len hwt0 hwt1 (A := but i (fun _ => true)) (by
      intro h' k hK hk
      have hS' : St h0 h' (_ :: _) := St.trans hS (St.ofK hK)
      exact raise1_c hp3 (hS'.rd 3 rfl))) ?_
    rintro q h4 ⟨b, G9, hq, hG, hno, hyes⟩
    have hS9 := St.trans hS hG
    clear hS
    refine KOps.assign ?_
    refine KOps.done ?_
    refine sqQ.normal ?_
    refine KA.sub (Sub.cons (t := 0) Look.eq (Sub.cons (t := 3) Look.eq (Sub.cons (t := 4) Look.eq (Sub.cons (t := 5) Look.eq (Sub.nil _))))) ?_
    refine KA.seq ?_
    refine KA.seq ?_
    refine KA.region rfl ?_
    refine KOps.move ?_
    refine KOps.eqNilm (p := (3, 4)) (by kernel_rfl) hq ?_
    refine KOps.done ?_
    refine sqQ.normal ?_
    refine KA.sub (Sub.cons (t := 0) Look.eq (Sub.cons (t := 3) Look.eq (Sub.cons (t := 4) Look.eq (Sub.cons (t := 5) Look.eq (Sub.cons (t := 32) Look.eq (Sub.nil _)))))) ?_
    refine KA.condB ?_ ?_
    · intro c32
      subst c32
      refine KA.ret ?_
      refine sqQ.ret ?_
      refine blQ.ret ?_
      refine lpQ.ret ?_
      refine blQ.ret ?_
      refine fnQ.ret0 ?_
      exact ⟨c, St.mid (A := [_, _]) (B := [_, _]) (St.drop hS9), hc, hnear, high_of hB.inR hc hi (hno rfl)⟩
    · intro c32
      subst c32
      obtain ⟨vs, E, p, rfl⟩ := hyes rfl
      have hS := St.sink2 hS9
      clear hS9
      have hpl := pushE_len E c
      have hsm := p.same (but_self i (fun _ => true))
      refine KA.skip ?_
      refine sqQ.normal ?_
      refine KA.sub (Sub.cons (t := 0) Look.eq (Sub.cons (t := 3) Look.eq (Sub.cons (t := 4) Look.eq (Sub.cons (t := 5) Look.eq (Sub.nil _))))) ?_
      refine KA.seq ?_
      refine KA.region rfl ?_
      refine KOps.move ?_
      refine KOps.move ?_
      refine KOps.call rfl (pushP_c hpf (AV.mapNil_mp hq) hB hc.toWithin (by omega) p hS) ?_
      rintro _ h5 hS
      refine KOps.done ?_
      refine sqQ.normal ?_
      refine KA.sub (Sub.cons (t := 0) Look.eq (Sub.cons (t := 3) Look.eq (Sub.cons (t := 4) Look.eq (Sub.nil _)))) ?_
      refine KA.draw [] mixed rfl (by kernel_rfl) ?_
      refine KOps.move ?_
      refine KOps.nilP hpf ?_
      refine KOps.fieldAddr hpf ?_
      intro p38 hp38
      refine KOps.load hp38 (hS.rd 0 rfl) rfl ?_
      refine KOps.loadBox hS (i := 3) rfl hp3 ?_
      refine KOps.indexIJ (hS.rd 1 rfl) (j := i) (by first | omega | (simp; omega)) (by first | omega | (simp; omega)) ?_
      intro p41 hp41
      refine KOps.loadI hp41 (hS.rd 1 rfl) (by first | omega | (simp; omega)) ?_
      refine KOps.add (by first | omega | (simp; omega)) (by first | omega | (simp; omega)) ?_
      refine KOps.indexIJ (hS.rd 1 rfl) (j := i) (by first | omega | (simp; omega)) (by first | omega | (simp; omega)) ?_
      intro p44 hp44
      refine KOps.storeI hS rfl (i := 1) rfl hp44 (by first | omega | (simp; omega)) ?_
      intro h' hS
      refine KOps.done ?_
      refine blQ.normal ?_
      obtain ⟨hf2, hn2, hg2⟩ := p.raise hc hi c23
      rw [hsm] at hS
      exact lpQ.normal ((pushE E c).set i (c.getD i 0 + 1)) (by repeat (first | exact Sub.nil _ | refine Sub.cons Look.eq ?_ | refine Sub.cons (Eq.trans Look.eq (congrArg (AV.int _) (by first | omega | (dsimp only; omega)))) ?_)) ⟨hf2, hnear.trans hn2, hS⟩ (by rw [hg2]; omega)
  · intro c23
    refine KA.exit ?_
    refine sqQ.exit ?_
    refine lpQ.exit ?_
    refine blQ.here ?_
    refine fnQ.norm0 ?_
    refine ⟨c, St.mid (A := [_, _]) (B := [_, _]) hS, hc, hnear, ?_⟩
    intro m hm _
    have := hm.hi i hi
    have := hc.hi i hi
    omega

end Go.Am


namespace Go.Am
theorem mins_within {rm : Int} {ws : List W} (hB : BOk rm ws) : Within ws (ws.map (·.l)) := by
  have hg : ∀ i, i < ws.length → (ws.map (·.l)).getD i 0 = (ws.getD i default).l := by
    intro i hi
    rw [List.getD_eq_getElem?_getD, List.getElem?_map, List.getD_eq_getElem?_getD, List.getElem?_eq_getElem hi]
    rfl
  exact ⟨by simp, fun i hi => by rw [hg i hi]; exact Int.le_refl _, fun i hi => by rw [hg i hi]; exact (hB.way i hi).lm⟩
theorem mins_next {ws : List W} {i : Nat} (hi : i < ws.length) : (ws.map (·.l)).take i ++ [(ws.getD i default).l] = (ws.map (·.l)).take (i + 1) := by
  have hl : i < (ws.map (·.l)).length := by simpa using hi
  rw [take_next hl]
  congr 1
  rw [List.getD_eq_getElem?_getD, List.getD_eq_getElem?_getD, List.getElem?_map, List.getElem?_eq_getElem hi]
  rfl
theorem keptL_flow {r : Nat} {ws : List W} {n : List Int} (hB : BOk (r : Int) ws) (hw : Within ws n) (h : ((keptL r ws n ws.length).any fun x => !decide (x = 0)) = false) : Flow ws n := by
  refine ⟨hw, fun x => ?_⟩
  by_cases hx : x < 0 ∨ (r : Int) ≤ x
  · exact kept_out hB.inR n hx _ (Nat.le_refl _)
  · have hg := keptL_get (ws := ws) (n := n) (k := ws.length) (show x.toNat < r by omega)
    rw [show ((x.toNat : Nat) : Int) = x by omega] at hg
    rw [List.any_eq_false] at h
    have hl := keptL_len r ws n ws.length
    have := h ((keptL r ws n ws.length).getD x.toNat 0) (by
      rw [List.getD_eq_getElem?_getD, List.getElem?_eq_getElem (by omega)]
      exact List.getElem_mem _)
    rw [hg] at this
    simpa using this
theorem keptL_dev {r : Nat} {ws : List W} {n : List Int} (h : ((keptL r ws n ws.length).any fun x => !decide (x = 0)) = true) : devTo ws n r ≠ 0 := by
  intro h0
  rw [List.any_eq_true] at h
  obtain ⟨x, hx, hne⟩ := h
  unfold keptL at hx
  obtain ⟨y, hy, rfl⟩ := List.mem_map.1 hx
  have := dev_zero h0 y (List.mem_range.1 hy)
  have h2 : keptTo ws n (y : Int) ws.length = 0 := this
  rw [h2] at hne
  exact absurd hne (by decide)
/-- No path for the first pairs of rooms. -/
def NoTo (ws : List W) (n : List Int) (r i j : Nat) : Prop := ∀ a b : Nat, a < r → b < r → (a < i ∨ (a = i ∧ b < j)) → ¬ (0 < kept ws n a ∧ kept ws n b < 0 ∧ ∃ vs E, Path ws n (fun _ => true) a vs b E)
theorem NoTo.zero (ws : List W) (n : List Int) (r : Nat) : NoTo ws n r 0 0 := fun a b _ _ h => by omega
theorem NoTo.row {ws : List W} {n : List Int} {r i : Nat} (h : NoTo ws n r i r) : NoTo ws n r (i + 1) 0 := fun a b ha hb hc => h a b ha hb (by omega)
theorem NoTo.more {ws : List W} {n : List Int} {r i j : Nat} (h : NoTo ws n r i j) (hn : ¬ (0 < kept ws n i ∧ kept ws n j < 0 ∧ ∃ vs E, Path ws n (fun _ => true) i vs j E)) : NoTo ws n r i (j + 1) := by
  intro a b ha hb hc
  by_cases he : a = i ∧ b = j
  · obtain ⟨rfl, rfl⟩ := he; exact hn
  · exact h a b ha hb (by omega)
theorem agree_flow {rm : Int} {ws : List W} {n : List Int} (h0 : chkB rm ws = 0) (hf : Flow ws n) : agreeE rm ws = 0 := by
  have hB := BOk.of h0
  have hr : InR ((rm.toNat : Nat) : Int) ws := by
    have := hB.r2
    rw [show ((rm.toNat : Nat) : Int) = rm by omega]
    exact hB.inR
  rw [agreeE, if_pos h0, canP, decide_eq_true h0, (hoffman hr hB.LM).2 ⟨n, hf⟩]
  rfl
theorem NoTo.lost {r : Nat} {ws : List W} {n : List Int} (h0 : chkB (r : Int) ws = 0) (hw : Within ws n) (hd : devTo ws n r ≠ 0) (h : NoTo ws n r r 0) : agreeE (r : Int) ws = 12 := by
  have hB := BOk.of h0
  rcases path_or_proof hB.inR hw hd with ⟨u, v, hu, hv, h1, h2, h3⟩ | ⟨s, hs, hp⟩
  · exact absurd ⟨h1, h2, h3⟩ (h u v hu hv (.inl hu))
  · have hc : canB r ws = false := by
      cases hb : canB r ws with
      | false => rfl
      | true => rw [canB_iff.1 hb s hs] at hp; cases hp
    rw [agreeE, if_pos h0, canP, decide_eq_true h0, Int.toNat_natCast, hc]
    rfl

theorem found_c {h : AHeap} {rm : Int} {vW : AV} {ws : List W} (hv : Rd h vW 4 (flr wc ws)) : ACalls Go.Proofs.Tryd.prog 70 [.agg [.int .i64 rm, vW]] h (fun q h' => ∃ qp, q = .tup [qp, .int .i64 (agreeE rm ws)] ∧ Keeps h h' ∧ qp.one = true ∧ (agreeE rm ws = 0 → ∃ n vn, AddrOf qp qp 0 0 ∧ Flow ws n ∧ St h h' [⟨qp, 0, [.int .i64 rm, vW, vn], true⟩, ⟨vn, 1, ints n, true⟩])) := by
  refine KA.fn 80 [.tmp 2, .tmp 3] Go.Proofs.Tryd.func70 rfl (by decide) rfl rfl (Nat.le_of_ble_eq_true rfl) ?_
  have hS := St.refl h
  have hvo : vW.one = true := hv.one
  show KA _ 80 _ _ [(0, .agg [.int .i64 rm, vW])] _
  refine KA.seq ?_
  refine KA.region rfl ?_
  refine KOps.boxAll hS (by first | rfl | (simp [AV.one]; done) | (simp [AV.one]; assumption) | (simp [AV.one, *]; done)) ?_
  intro p1 h' hp1 hS
  refine KOps.assign ?_
  refine KOps.assign ?_
  refine KOps.done ?_
  refine sqQ.normal ?_
  refine KA.sub (Sub.cons (t := 1) Look.eq (Sub.nil _)) ?_
  refine KA.scope ?_
  refine KA.seq ?_
  refine KA.seq ?_
  refine KA.region rfl ?_
  refine KOps.loadAll hS (i := 0) rfl hp1 (by rfl) (by decide) ?_
  refine KOps.call rfl (check_c (Rd.ext hS.keeps hv)) ?_
  rintro _ h5 ⟨rfl, hK⟩
  have hS0 : St _ _ (_ :: _) := St.trans hS (St.ofK hK)
  clear hS
  have hS := hS0
  clear hS0
  refine KOps.assign ?_
  refine KOps.done ?_
  refine sqQ.normal ?_
  refine KA.sub (Sub.cons (t := 1) Look.eq (Sub.cons (t := 4) Look.eq (Sub.nil _))) ?_
  refine KA.seq ?_
  refine KA.region rfl ?_
  refine KOps.move ?_
  refine KOps.neq ?_
  refine KOps.done ?_
  refine sqQ.normal ?_
  refine KA.sub (Sub.cons (t := 1) Look.eq (Sub.cons (t := 4) Look.eq (Sub.cons (t := 18) Look.eq (Sub.nil _)))) ?_
  refine KA.condN ?_ ?_
  · intro c18
    refine KA.seq ?_
    refine KA.region rfl ?_
    refine KOps.move ?_
    refine KOps.assign ?_
    refine KOps.assign ?_
    refine KOps.done ?_
    refine sqQ.normal ?_
    refine KA.sub (Sub.cons (t := 2) Look.eq (Sub.cons (t := 3) Look.eq (Sub.nil _))) ?_
    refine KA.ret ?_
    refine sqQ.ret ?_
    refine fnQ.retN ?_
    have e0 : agreeE rm ws = chkB rm ws := by rw [agreeE, if_neg c18]
    rw [e0]
    exact ⟨_, rfl, hS.keeps, rfl, fun h0 => absurd h0 c18⟩
  · intro c18
    obtain ⟨r, rfl⟩ : ∃ r : Nat, rm = (r : Int) := ⟨rm.toNat, by have := (BOk.of c18).r2; omega⟩
    have hB := BOk.of c18
    have hr6 := hB.r6
    have hwl := hB.len
    refine KA.skip ?_
    refine sqQ.normal ?_
    refine KA.sub (Sub.cons (t := 1) Look.eq (Sub.nil _)) ?_
    refine KA.seq ?_
    refine KA.region rfl ?_
    refine KOps.loadAll hS (i := 0) rfl hp1 (by rfl) (by decide) ?_
    refine KOps.buildA1 (z0 := .int .i64 0) (z1 := .nils) (z2 := .nils) (by kernel_rfl) (by rfl) (by kernel_rfl) (by kernel_rfl) (by first | rfl | assumption) (by first | rfl | assumption) ?_
    refine KOps.boxAll hS (by first | rfl | (simp [AV.one]; done) | (simp [AV.one]; assumption) | (simp [AV.one, *]; done)) ?_
    intro p22 h' hp22 hS
    refine KOps.assign ?_
    refine KOps.done ?_
    refine sqQ.normal ?_
    refine KA.sub (Sub.cons (t := 1) Look.eq (Sub.cons (t := 5) Look.eq (Sub.nil _))) ?_
    refine KA.seq ?_
    refine KA.seq ?_
    refine KA.region rfl ?_
    refine KOps.fieldAddr hp1 ?_
    intro p23 hp23
    refine KOps.load hp23 (hS.rd 1 rfl) rfl ?_
    refine KOps.lenF wc_len (Rd.ext hS.keeps hv) ?_
    refine KOps.move ?_
    refine KOps.done ?_
    refine sqQ.normal ?_
    refine KA.sub (Sub.cons (t := 5) Look.eq (Sub.cons (t := 24) Look.eq (Sub.cons (t := 25) Look.eq (Sub.cons (t := 26) Look.eq (Sub.nil _))))) ?_
    refine KA.block ?_
    refine KA.loop (X := Nat × AV) (fun x => [(5, p22), (24, vW), (25, .int .i64 (ws.length : Int)), (26, .int .i64 (x.1 : Int))]) (fun x h' => x.1 ≤ ws.length ∧ St h h' [⟨p22, 0, [.int .i64 (r : Int), vW, x.2], true⟩, ⟨p1, 0, [.int .i64 (r : Int), vW], true⟩, ⟨x.2, 1, ints ((ws.map (·.l)).take x.1), true⟩]) (fun x => ws.length - x.1) (0, .nils) (by repeat (first | exact Sub.nil _ | refine Sub.cons Look.eq ?_ | refine Sub.cons (Eq.trans Look.eq (congrArg (AV.int _) (by first | omega | (dsimp only; omega)))) ?_)) ?_ ?_
    · exact ⟨Nat.zero_le _, St.addNil 1 true hS⟩
    rintro ⟨i, vn⟩ h6 ⟨hi, hS⟩
    dsimp only at hi hS ⊢
    refine KA.seq ?_
    refine KA.region rfl ?_
    refine KOps.lss ?_
    refine KOps.done ?_
    refine sqQ.normal ?_
    refine KA.seq ?_
    refine KA.condD ?_ ?_
    · intro c27
      refine KA.skip ?_
      refine sqQ.normal ?_
      refine KA.sub (Sub.cons (t := 5) Look.eq (Sub.cons (t := 24) Look.eq (Sub.cons (t := 25) Look.eq (Sub.cons (t := 26) Look.eq (Sub.nil _))))) ?_
      refine KA.seq ?_
      refine KA.block ?_
      refine KA.seq ?_
      refine KA.region rfl ?_
      refine KOps.indexF wc_len (Rd.ext hS.keeps hv) (j := i) rfl (by first | omega | (simp; omega)) ?_
      intro p28 hp28
      refine KOps.loadFl wc_len (by decide) hp28 (Rd.ext hS.keeps hv) (by first | omega | (simp; omega)) ?_
      refine KOps.alloc hS ?_
      intro p7 h' hp7 hS
      refine KOps.storeAll hS rfl (i := 0) rfl hp7 (by first | rfl | (simp [AV.one]; done) | (simp [AV.one]; assumption) | (simp [AV.one, *]; done)) (by rfl) (by rfl) (by decide) ?_
      intro h' hS
      simp only [List.set_cons_zero, List.set_cons_succ, Nat.zero_add] at hS
      refine KOps.done ?_
      refine sqQ.normal ?_
      refine KA.sub (Sub.cons (t := 5) Look.eq (Sub.cons (t := 7) Look.eq (Sub.cons (t := 24) Look.eq (Sub.cons (t := 25) Look.eq (Sub.cons (t := 26) Look.eq (Sub.nil _)))))) ?_
      refine KA.draw [8] mixed rfl (by kernel_rfl) ?_
      refine KOps.move ?_
      refine KOps.move ?_
      refine KOps.nilP hp22 ?_
      refine KOps.fieldAddr hp22 ?_
      intro p33 hp33
      refine KOps.load hp33 (hS.rd 1 rfl) rfl ?_
      refine KOps.fieldAddr hp7 ?_
      intro p35 hp35
      refine KOps.load hp35 (hS.rd 0 rfl) rfl ?_
      refine KOps.buildSlice hS rfl (by decide) rfl ?_
      intro v37 h' hS
      refine KOps.appendI hS (fun _ => rfl) (i := 3) rfl (by first | omega | (simp; omega)) ?_
      intro r38 h' hr38 hS
      refine KOps.nilP hp22 ?_
      refine KOps.fieldAddr hp22 ?_
      intro p40 hp40
      refine KOps.store hS rfl (i := 1) rfl hp40 hr38 (by first | decide | simp) ?_
      intro h' hS
      simp only [List.set_cons_zero, List.set_cons_succ, Nat.zero_add] at hS
      refine KOps.done ?_
      refine blQ.normal ?_
      refine sqQ.normal ?_
      refine KA.sub (Sub.cons (t := 5) Look.eq (Sub.cons (t := 24) Look.eq (Sub.cons (t := 25) Look.eq (Sub.cons (t := 26) Look.eq (Sub.nil _))))) ?_
      refine KA.region rfl ?_
      refine KOps.add (by first | omega | (simp; omega)) (by first | omega | (simp; omega)) ?_
      refine KOps.move ?_
      refine KOps.done ?_
      rw [mins_next (by omega)] at hS
      exact lpQ.normal (i + 1, r38) (by repeat (first | exact Sub.nil _ | refine Sub.cons Look.eq ?_ | refine Sub.cons (Eq.trans Look.eq (congrArg (AV.int _) (by first | omega | (dsimp only; omega)))) ?_)) ⟨by dsimp only; omega, St.tail hS⟩ (by dsimp only; omega)
    · intro c27
      refine KA.exit ?_
      refine sqQ.exit ?_
      refine lpQ.exit ?_
      refine blQ.here ?_
      refine sqQ.normal ?_
      refine KA.sub (Sub.cons (t := 5) Look.eq (Sub.nil _)) ?_
      refine KA.seq ?_
      refine KA.region rfl ?_
      refine KOps.assign ?_
      refine KOps.done ?_
      refine sqQ.normal ?_
      refine KA.seq ?_
      refine KA.label ?_
      refine sqQ.normal ?_
      refine KA.block ?_
      refine KA.loop (X := List Int × AV) (fun x => [(5, p22), (8, .fn 81 [])]) (fun x h' => Within ws x.1 ∧ St h h' [⟨p22, 0, [.int .i64 (r : Int), vW, x.2], true⟩, ⟨x.2, 1, ints x.1, true⟩, ⟨p1, 0, [.int .i64 (r : Int), vW], true⟩]) (fun x => devTo ws x.1 r) (ws.map (·.l), vn) (by repeat (first | exact Sub.nil _ | refine Sub.cons Look.eq ?_ | refine Sub.cons (Eq.trans Look.eq (congrArg (AV.int _) (by first | omega | (dsimp only; omega)))) ?_)) ?_ ?_
      · refine ⟨mins_within hB, ?_⟩
        have e : (ws.map (·.l)).take i = ws.map (·.l) := List.take_of_length_le (by simp; omega)
        rw [e] at hS
        exact St.pick [0, 2, 1] (by decide) rfl hS
      rintro ⟨n, vn⟩ h6 ⟨hw, hS⟩
      dsimp only at hw hS ⊢
      refine KA.block ?_
      refine KA.seq ?_
      refine KA.region rfl ?_
      refine KOps.move ?_
      refine KOps.call rfl (kept_c hp22 (hS.rd 0 rfl) (Rd.ext hS.keeps hv) (hS.rd 1 rfl) hB hw.len (within_bound hB hw)) ?_
      rintro vk h6 hK
      have hS0 : St _ _ (_ :: _) := St.trans hS hK
      clear hS
      have hS := hS0
      clear hS0
      refine KOps.assign ?_
      refine KOps.done ?_
      refine sqQ.normal ?_
      refine KA.sub (Sub.cons (t := 5) Look.eq (Sub.cons (t := 8) Look.eq (Sub.cons (t := 9) Look.eq (Sub.nil _)))) ?_
      refine KA.seq ?_
      refine KA.seq ?_
      refine KA.region rfl ?_
      refine KOps.move ?_
      refine KOps.call rfl (anyNz_c (hS.rd 0 rfl) (by rw [keptL_len]; omega) (fun _ _ => nz90_c)) ?_
      rintro _ h7 ⟨rfl, rfl⟩
      refine KOps.not ?_
      refine KOps.done ?_
      refine sqQ.normal ?_
      refine KA.sub (Sub.cons (t := 5) Look.eq (Sub.cons (t := 8) Look.eq (Sub.cons (t := 9) Look.eq (Sub.cons (t := 46) Look.eq (Sub.nil _))))) ?_
      refine KA.condB ?_ ?_
      · intro c46
        refine KA.seq ?_
        refine KA.region rfl ?_
        refine KOps.move ?_
        refine KOps.assign ?_
        refine KOps.assign ?_
        refine KOps.done ?_
        refine sqQ.normal ?_
        refine KA.sub (Sub.cons (t := 2) Look.eq (Sub.cons (t := 3) Look.eq (Sub.nil _))) ?_
        refine KA.ret ?_
        refine sqQ.ret ?_
        refine blQ.ret ?_
        refine lpQ.ret ?_
        refine blQ.ret ?_
        refine fnQ.retN ?_
        have hfl := keptL_flow hB hw (by simpa using c46)
        have e0 := agree_flow c18 hfl
        rw [e0]
        exact ⟨_, rfl, hS.keeps, St.one hS (k := 1) rfl, fun _ => ⟨n, vn, hp22, hfl, St.pick [1, 2] (by decide) rfl hS⟩⟩
      · intro c46
        refine KA.skip ?_
        refine sqQ.normal ?_
        refine KA.sub (Sub.cons (t := 5) Look.eq (Sub.cons (t := 8) Look.eq (Sub.cons (t := 9) Look.eq (Sub.nil _)))) ?_
        refine KA.seq ?_
        refine KA.seq ?_
        refine KA.region rfl ?_
        refine KOps.move ?_
        refine KOps.lenI (hS.rd 0 rfl) ?_
        refine KOps.move ?_
        refine KOps.done ?_
        refine sqQ.normal ?_
        refine KA.block ?_
        refine KA.loop (X := Nat) (fun i => [(5, p22), (8, .fn 81 []), (9, vk), (48, vk), (49, .int .i64 ((keptL r ws n ws.length).length : Int)), (50, .int .i64 (i : Int))]) (fun i h' => i ≤ r ∧ NoTo ws n r i 0 ∧ St h h' [⟨vk, 1, ints (keptL r ws n ws.length), true⟩, ⟨p22, 0, [.int .i64 (r : Int), vW, vn], true⟩, ⟨vn, 1, ints n, true⟩, ⟨p1, 0, [.int .i64 (r : Int), vW], true⟩]) (fun i => r - i) 0 (by repeat (first | exact Sub.nil _ | refine Sub.cons Look.eq ?_ | refine Sub.cons (Eq.trans Look.eq (congrArg (AV.int _) (by first | omega | (dsimp only; omega)))) ?_)) ?_ ?_
        · exact ⟨Nat.zero_le _, NoTo.zero _ _ _, hS⟩
        rintro i h8 ⟨hi, hno0, hS⟩
        have hkl := keptL_len r ws n ws.length
        refine KA.seq ?_
        refine KA.region rfl ?_
        refine KOps.lss ?_
        refine KOps.done ?_
        refine sqQ.normal ?_
        refine KA.seq ?_
        refine KA.condD ?_ ?_
        · intro c51
          refine KA.skip ?_
          refine sqQ.normal ?_
          refine KA.sub (Sub.cons (t := 5) Look.eq (Sub.cons (t := 8) Look.eq (Sub.cons (t := 9) Look.eq (Sub.cons (t := 48) Look.eq (Sub.cons (t := 49) Look.eq (Sub.cons (t := 50) Look.eq (Sub.nil _))))))) ?_
          refine KA.seq ?_
          refine KA.block ?_
          refine KA.seq ?_
          refine KA.region rfl ?_
          refine KOps.move ?_
          refine KOps.indexIJ (hS.rd 0 rfl) (j := i) rfl (by first | omega | (simp; omega)) ?_
          intro p53 hp53
          refine KOps.loadI hp53 (hS.rd 0 rfl) (by first | omega | (simp; omega)) ?_
          refine KOps.assign ?_
          refine KOps.assign ?_
          refine KOps.done ?_
          refine sqQ.normal ?_
          refine KA.sub (Sub.cons (t := 5) Look.eq (Sub.cons (t := 8) Look.eq (Sub.cons (t := 9) Look.eq (Sub.cons (t := 10) Look.eq (Sub.cons (t := 11) Look.eq (Sub.cons (t := 48) Look.eq (Sub.cons (t := 49) Look.eq (Sub.cons (t := 50) Look.eq (Sub.nil _))))))))) ?_
          refine KA.seq ?_
          refine KA.region rfl ?_
          refine KOps.move ?_
          refine KOps.lenI (hS.rd 0 rfl) ?_
          refine KOps.move ?_
          refine KOps.done ?_
          refine sqQ.normal ?_
          refine KA.block ?_
          refine KA.loop (X := Nat) (fun j => [(5, p22), (8, .fn 81 []), (9, vk), (48, vk), (49, .int .i64 ((keptL r ws n ws.length).length : Int)), (50, .int .i64 (i : Int)), (10, .int .i64 (i : Int)), (11, .int .i64 ((keptL r ws n ws.length).getD i 0)), (55, vk), (56, .int .i64 ((keptL r ws n ws.length).length : Int)), (57, .int .i64 (j : Int))]) (fun j h' => j ≤ r ∧ NoTo ws n r i j ∧ St h h' [⟨vk, 1, ints (keptL r ws n ws.length), true⟩, ⟨p22, 0, [.int .i64 (r : Int), vW, vn], true⟩, ⟨vn, 1, ints n, true⟩, ⟨p1, 0, [.int .i64 (r : Int), vW], true⟩]) (fun j => r - j) 0 (by repeat (first | exact Sub.nil _ | refine Sub.cons Look.eq ?_ | refine Sub.cons (Eq.trans Look.eq (congrArg (AV.int _) (by first | omega | (dsimp only; omega)))) ?_)) ?_ ?_
          · exact ⟨Nat.zero_le _, hno0, hS⟩
          rintro j h9 ⟨hj, hnoj, hS⟩
          have hkl := keptL_len r ws n ws.length
          refine KA.seq ?_
          refine KA.region rfl ?_
          refine KOps.lss ?_
          refine KOps.done ?_
          refine sqQ.normal ?_
          refine KA.seq ?_
          refine KA.condD ?_ ?_
          · intro c58
            refine KA.skip ?_
            refine sqQ.normal ?_
            refine KA.sub (Sub.cons (t := 5) Look.eq (Sub.cons (t := 8) Look.eq (Sub.cons (t := 9) Look.eq (Sub.cons (t := 10) Look.eq (Sub.cons (t := 11) Look.eq (Sub.cons (t := 48) Look.eq (Sub.cons (t := 49) Look.eq (Sub.cons (t := 50) Look.eq (Sub.cons (t := 55) Look.eq (Sub.cons (t := 56) Look.eq (Sub.cons (t := 57) Look.eq (Sub.nil _)))))))))))) ?_
            refine KA.seq ?_
            refine KA.block ?_
            refine KA.seq ?_
            refine KA.region rfl ?_
            refine KOps.move ?_
            refine KOps.indexIJ (hS.rd 0 rfl) (j := j) rfl (by first | omega | (simp; omega)) ?_
            intro p60 hp60
            refine KOps.loadI hp60 (hS.rd 0 rfl) (by first | omega | (simp; omega)) ?_
            refine KOps.assign ?_
            refine KOps.assign ?_
            refine KOps.done ?_
            refine sqQ.normal ?_
            refine KA.sub (Sub.cons (t := 5) Look.eq (Sub.cons (t := 8) Look.eq (Sub.cons (t := 9) Look.eq (Sub.cons (t := 10) Look.eq (Sub.cons (t := 11) Look.eq (Sub.cons (t := 12) Look.eq (Sub.cons (t := 13) Look.eq (Sub.cons (t := 48) Look.eq (Sub.cons (t := 49) Look.eq (Sub.cons (t := 50) Look.eq (Sub.cons (t := 55) Look.eq (Sub.cons (t := 56) Look.eq (Sub.cons (t := 57) Look.eq (Sub.nil _)))))))))))))) ?_
            refine KA.seq ?_
            refine KA.seq ?_
            refine KA.region rfl ?_
            have hgi : (keptL r ws n ws.length).getD i 0 = kept ws n (i : Int) := keptL_get (show i < r by omega)
            have hgj : (keptL r ws n ws.length).getD j 0 = kept ws n (j : Int) := keptL_get (show j < r by omega)
            refine KOps.move ?_
            refine KOps.leq ?_
            refine KOps.move ?_
            refine KOps.guardB (dj := 64) rfl rfl false true rfl ?_ ?_
            · intro g64
              have g64 := of_decide_eq_false g64
              refine KOps.move ?_
              refine KOps.guardYes (dj := 64) rfl rfl ?_
              refine KOps.geq ?_
              refine KOps.pickF ?_
              refine KOps.done ?_
              refine sqQ.normal ?_
              refine KA.sub (Sub.cons (t := 5) Look.eq (Sub.cons (t := 8) Look.eq (Sub.cons (t := 9) Look.eq (Sub.cons (t := 10) Look.eq (Sub.cons (t := 11) Look.eq (Sub.cons (t := 12) Look.eq (Sub.cons (t := 48) Look.eq (Sub.cons (t := 49) Look.eq (Sub.cons (t := 50) Look.eq (Sub.cons (t := 55) Look.eq (Sub.cons (t := 56) Look.eq (Sub.cons (t := 57) Look.eq (Sub.cons (t := 65) Look.eq (Sub.cons (t := 66) Look.eq (Sub.cons (t := 67) Look.eq (Sub.nil _)))))))))))))))) ?_
              refine KA.condD ?_ ?_
              · intro c67
                refine KA.exit ?_
                refine sqQ.exit ?_
                refine blQ.here ?_
                refine sqQ.normal ?_
                refine KA.sub (Sub.cons (t := 5) Look.eq (Sub.cons (t := 8) Look.eq (Sub.cons (t := 9) Look.eq (Sub.cons (t := 10) Look.eq (Sub.cons (t := 11) Look.eq (Sub.cons (t := 48) Look.eq (Sub.cons (t := 49) Look.eq (Sub.cons (t := 50) Look.eq (Sub.cons (t := 55) Look.eq (Sub.cons (t := 56) Look.eq (Sub.cons (t := 57) Look.eq (Sub.cons (t := 65) Look.eq (Sub.cons (t := 66) Look.eq (Sub.nil _)))))))))))))) ?_
                refine KA.region rfl ?_
                refine KOps.add (by first | omega | (simp; omega)) (by first | omega | (simp; omega)) ?_
                refine KOps.move ?_
                refine KOps.done ?_
                exact lpQ.normal (j + 1) (by repeat (first | exact Sub.nil _ | refine Sub.cons Look.eq ?_ | refine Sub.cons (Eq.trans Look.eq (congrArg (AV.int _) (by first | omega | (dsimp only; omega)))) ?_)) ⟨by omega, hnoj.more (fun h0 => by have := h0.2.1; omega), hS⟩ (by omega)
              · intro c67
                refine KA.skip ?_
                refine sqQ.normal ?_
                refine KA.sub (Sub.cons (t := 5) Look.eq (Sub.cons (t := 8) Look.eq (Sub.cons (t := 9) Look.eq (Sub.cons (t := 10) Look.eq (Sub.cons (t := 11) Look.eq (Sub.cons (t := 12) Look.eq (Sub.cons (t := 48) Look.eq (Sub.cons (t := 49) Look.eq (Sub.cons (t := 50) Look.eq (Sub.cons (t := 55) Look.eq (Sub.cons (t := 56) Look.eq (Sub.cons (t := 57) Look.eq (Sub.cons (t := 65) Look.eq (Sub.cons (t := 66) Look.eq (Sub.nil _))))))))))))))) ?_
                refine KA.seq ?_
                refine KA.region rfl ?_
                refine KOps.move ?_
                refine KOps.move ?_
                refine KOps.move ?_
                refine KOps.move ?_
                refine KOps.call rfl (path_c hp22 (hS.rd 1 rfl) (Rd.ext hS.keeps hv) (hS.rd 2 rfl) hB hw.len (by omega) (by omega) (A := fun _ => true) (fun _ _ _ _ => found1_c)) ?_
                rintro q h8 ⟨b, G9, hq, hG, hno, hyes⟩
                have hS9 := St.trans hS hG
                clear hS
                refine KOps.assign ?_
                refine KOps.done ?_
                refine sqQ.normal ?_
                refine KA.sub (Sub.cons (t := 5) Look.eq (Sub.cons (t := 8) Look.eq (Sub.cons (t := 9) Look.eq (Sub.cons (t := 10) Look.eq (Sub.cons (t := 11) Look.eq (Sub.cons (t := 14) Look.eq (Sub.cons (t := 48) Look.eq (Sub.cons (t := 49) Look.eq (Sub.cons (t := 50) Look.eq (Sub.cons (t := 55) Look.eq (Sub.cons (t := 56) Look.eq (Sub.cons (t := 57) Look.eq (Sub.cons (t := 65) Look.eq (Sub.cons (t := 66) Look.eq (Sub.nil _))))))))))))))) ?_
                refine KA.seq ?_
                refine KA.region rfl ?_
                refine KOps.move ?_
                refine KOps.neqNilm (p := (3, 4)) (by kernel_rfl) hq ?_
                refine KOps.done ?_
                refine sqQ.normal ?_
                refine KA.sub (Sub.cons (t := 5) Look.eq (Sub.cons (t := 8) Look.eq (Sub.cons (t := 9) Look.eq (Sub.cons (t := 10) Look.eq (Sub.cons (t := 11) Look.eq (Sub.cons (t := 14) Look.eq (Sub.cons (t := 48) Look.eq (Sub.cons (t := 49) Look.eq (Sub.cons (t := 50) Look.eq (Sub.cons (t := 55) Look.eq (Sub.cons (t := 56) Look.eq (Sub.cons (t := 57) Look.eq (Sub.cons (t := 65) Look.eq (Sub.cons (t := 66) Look.eq (Sub.cons (t := 74) Look.eq (Sub.nil _)))))))))))))))) ?_
                refine KA.condB ?_ ?_
                · intro c74
                  have hb : b = false := by simpa using c74
                  subst hb
                  obtain ⟨vs, E, p, rfl⟩ := hyes rfl
                  have hwp : 0 < ws.length := by
                    rcases Nat.eq_zero_or_pos ws.length with h0 | h0
                    · have h1 : kept ws n (i : Int) = 0 := by
                        show keptTo ws n (i : Int) ws.length = 0
                        rw [h0]; rfl
                      omega
                    · exact h0
                  refine KA.seq ?_
                  refine KA.region rfl ?_
                  refine KOps.move ?_
                  refine KOps.move ?_
                  refine KOps.call rfl (pushP_c hp22 (AV.mapNil_mp hq) hB hw hwp p (St.swap (A := [_, _]) (B := [_, _]) hS9)) ?_
                  rintro _ h10 hS
                  refine KOps.done ?_
                  refine sqQ.normal ?_
                  refine KA.sub (Sub.cons (t := 5) Look.eq (Sub.cons (t := 8) Look.eq (Sub.cons (t := 65) Look.eq (Sub.cons (t := 66) Look.eq (Sub.nil _))))) ?_
                  refine KA.exit ?_
                  refine blQ.exit rfl ?_
                  refine sqQ.exit ?_
                  refine lpQ.exit ?_
                  refine blQ.exit rfl ?_
                  refine blQ.exit rfl ?_
                  refine sqQ.exit ?_
                  refine lpQ.exit ?_
                  refine blQ.exit rfl ?_
                  refine sqQ.exit ?_
                  refine blQ.here ?_
                  have hd := dev_push (p.kept hw.len) (by omega) (by omega) (by omega) (by omega) r
                  rw [if_pos (by omega), if_pos (by omega)] at hd
                  exact lpQ.normal (pushE E n, vn) (by repeat (first | exact Sub.nil _ | refine Sub.cons Look.eq ?_ | refine Sub.cons (Eq.trans Look.eq (congrArg (AV.int _) (by first | omega | (dsimp only; omega)))) ?_)) ⟨p.within hw, St.mid (A := [_, _]) (B := [_]) hS⟩ (by dsimp only; omega)
                · intro c74
                  refine KA.skip ?_
                  refine blQ.normal ?_
                  refine sqQ.normal ?_
                  refine KA.sub (Sub.cons (t := 5) Look.eq (Sub.cons (t := 8) Look.eq (Sub.cons (t := 9) Look.eq (Sub.cons (t := 10) Look.eq (Sub.cons (t := 11) Look.eq (Sub.cons (t := 48) Look.eq (Sub.cons (t := 49) Look.eq (Sub.cons (t := 50) Look.eq (Sub.cons (t := 55) Look.eq (Sub.cons (t := 56) Look.eq (Sub.cons (t := 57) Look.eq (Sub.cons (t := 65) Look.eq (Sub.cons (t := 66) Look.eq (Sub.nil _)))))))))))))) ?_
                  refine KA.region rfl ?_
                  refine KOps.add (by first | omega | (simp; omega)) (by first | omega | (simp; omega)) ?_
                  refine KOps.move ?_
                  refine KOps.done ?_
                  exact lpQ.normal (j + 1) (by repeat (first | exact Sub.nil _ | refine Sub.cons Look.eq ?_ | refine Sub.cons (Eq.trans Look.eq (congrArg (AV.int _) (by first | omega | (dsimp only; omega)))) ?_)) ⟨by omega, hnoj.more (fun h0 => hno (by simpa using c74) h0.2.2), St.drop hS9⟩ (by omega)
            · intro g64
              have g64 := of_decide_eq_true g64
              refine KOps.guardNo (dj := 64) rfl rfl rfl ?_
              refine KOps.pickT ?_
              refine KOps.done ?_
              refine sqQ.normal ?_
              refine KA.sub (Sub.cons (t := 5) Look.eq (Sub.cons (t := 8) Look.eq (Sub.cons (t := 9) Look.eq (Sub.cons (t := 10) Look.eq (Sub.cons (t := 11) Look.eq (Sub.cons (t := 12) Look.eq (Sub.cons (t := 48) Look.eq (Sub.cons (t := 49) Look.eq (Sub.cons (t := 50) Look.eq (Sub.cons (t := 55) Look.eq (Sub.cons (t := 56) Look.eq (Sub.cons (t := 57) Look.eq (Sub.cons (t := 65) Look.eq (Sub.cons (t := 66) Look.eq (Sub.cons (t := 67) Look.eq (Sub.nil _)))))))))))))))) ?_
              refine KA.condT ?_
              refine KA.exit ?_
              refine sqQ.exit ?_
              refine blQ.here ?_
              refine sqQ.normal ?_
              refine KA.sub (Sub.cons (t := 5) Look.eq (Sub.cons (t := 8) Look.eq (Sub.cons (t := 9) Look.eq (Sub.cons (t := 10) Look.eq (Sub.cons (t := 11) Look.eq (Sub.cons (t := 48) Look.eq (Sub.cons (t := 49) Look.eq (Sub.cons (t := 50) Look.eq (Sub.cons (t := 55) Look.eq (Sub.cons (t := 56) Look.eq (Sub.cons (t := 57) Look.eq (Sub.cons (t := 65) Look.eq (Sub.cons (t := 66) Look.eq (Sub.nil _)))))))))))))) ?_
              refine KA.region rfl ?_
              refine KOps.add (by first | omega | (simp; omega)) (by first | omega | (simp; omega)) ?_
              refine KOps.move ?_
              refine KOps.done ?_
              exact lpQ.normal (j + 1) (by repeat (first | exact Sub.nil _ | refine Sub.cons Look.eq ?_ | refine Sub.cons (Eq.trans Look.eq (congrArg (AV.int _) (by first | omega | (dsimp only; omega)))) ?_)) ⟨by omega, hnoj.more (fun h0 => by have := h0.1; omega), hS⟩ (by omega)
          · intro c58
            refine KA.exit ?_
            refine sqQ.exit ?_
            refine lpQ.exit ?_
            refine blQ.here ?_
            refine blQ.normal ?_
            refine sqQ.normal ?_
            refine KA.sub (Sub.cons (t := 5) Look.eq (Sub.cons (t := 8) Look.eq (Sub.cons (t := 9) Look.eq (Sub.cons (t := 48) Look.eq (Sub.cons (t := 49) Look.eq (Sub.cons (t := 50) Look.eq (Sub.nil _))))))) ?_
            refine KA.region rfl ?_
            refine KOps.add (by first | omega | (simp; omega)) (by first | omega | (simp; omega)) ?_
            refine KOps.move ?_
            refine KOps.done ?_
            rw [show j = r by omega] at hnoj
            exact lpQ.normal (i + 1) (by repeat (first | exact Sub.nil _ | refine Sub.cons Look.eq ?_ | refine Sub.cons (Eq.trans Look.eq (congrArg (AV.int _) (by first | omega | (dsimp only; omega)))) ?_)) ⟨by omega, hnoj.row, hS⟩ (by omega)
        · intro c51
          refine KA.exit ?_
          refine sqQ.exit ?_
          refine lpQ.exit ?_
          refine blQ.here ?_
          refine sqQ.normal ?_
          refine KA.sub (Sub.nil _) ?_
          refine KA.seq ?_
          refine KA.region rfl ?_
          refine KOps.assign ?_
          refine KOps.assign ?_
          refine KOps.done ?_
          refine sqQ.normal ?_
          refine KA.ret ?_
          refine blQ.ret ?_
          refine lpQ.ret ?_
          refine blQ.ret ?_
          refine fnQ.retN ?_
          have hir : i = r := by omega
          subst hir
          have e0 := NoTo.lost c18 hw (keptL_dev (by simpa using c46)) hno0
          rw [e0]
          exact ⟨.nilp, rfl, hS.keeps, rfl, fun h0 => absurd h0 (by decide)⟩

end Go.Am


namespace Go.Am
theorem lo_exists {ws : List W} {i : Nat} (h : ∃ n, Flow ws n) (hi : i < ws.length) : ∃ v, IsLo ws i v := by
  obtain ⟨m, hm, hle⟩ := exists_min (P := fun n => Flow ws n) (fun n => (n.getD i 0 - (ws.getD i default).l).toNat) h
  refine ⟨m.getD i 0, ⟨m, hm, rfl⟩, fun n hn => ?_⟩
  have h1 := hle n hn
  have h2 := hm.lo i hi
  have h3 := hn.lo i hi
  omega
theorem hi_exists {ws : List W} {i : Nat} (h : ∃ n, Flow ws n) (hi : i < ws.length) : ∃ v, IsHi ws i v := by
  obtain ⟨m, hm, hle⟩ := exists_min (P := fun n => Flow ws n) (fun n => ((ws.getD i default).m - n.getD i 0).toNat) h
  refine ⟨m.getD i 0, ⟨m, hm, rfl⟩, fun n hn => ?_⟩
  have h1 := hle n hn
  have h2 := hm.hi i hi
  have h3 := hn.hi i hi
  omega
open Classical in
noncomputable def loOf (ws : List W) (i : Nat) : Int := if h : ∃ v, IsLo ws i v then Classical.choose h else 0
open Classical in
noncomputable def hiOf (ws : List W) (i : Nat) : Int := if h : ∃ v, IsHi ws i v then Classical.choose h else 0
theorem loOf_is {ws : List W} {i : Nat} (h : ∃ n, Flow ws n) (hi : i < ws.length) : IsLo ws i (loOf ws i) := by
  have h2 := lo_exists h hi
  unfold loOf
  rw [dif_pos h2]
  exact Classical.choose_spec h2
theorem hiOf_is {ws : List W} {i : Nat} (h : ∃ n, Flow ws n) (hi : i < ws.length) : IsHi ws i (hiOf ws i) := by
  have h2 := hi_exists h hi
  unfold hiOf
  rw [dif_pos h2]
  exact Classical.choose_spec h2
theorem Low.isLo {ws : List W} {i : Nat} {n : List Int} (hf : Flow ws n) (h : Low ws i (fun _ => true) n) : IsLo ws i (n.getD i 0) := ⟨⟨n, hf, rfl⟩, fun m hm => h m hm (fun _ _ hk => by cases hk)⟩
theorem High.isHi {ws : List W} {i : Nat} {n : List Int} (hf : Flow ws n) (h : High ws i (fun _ => true) n) : IsHi ws i (n.getD i 0) := ⟨⟨n, hf, rfl⟩, fun m hm => h m hm (fun _ _ hk => by cases hk)⟩
/-- The error of books and a way. -/
def askE (rm : Int) (ws : List W) (i : Int) : Int := if chkB rm ws = 0 then (if 0 ≤ i ∧ i ≤ (ws.length : Int) - 1 then agreeE rm ws else 2) else chkB rm ws
theorem ask_ok {rm : Int} {ws : List W} {i : Int} (h : askE rm ws i = 0) : agreeE rm ws = 0 ∧ 0 ≤ i ∧ i < ws.length := by
  unfold askE at h
  by_cases h1 : chkB rm ws = 0
  · rw [if_pos h1] at h
    by_cases h2 : 0 ≤ i ∧ i ≤ (ws.length : Int) - 1
    · rw [if_pos h2] at h; exact ⟨h, by omega, by omega⟩
    · rw [if_neg h2] at h; cases h
  · rw [if_neg h1] at h; exact absurd h h1

theorem span_c {h0 h : AHeap} {r : Nat} {i : Nat} {pf vW vn : AV} {ws : List W} {n : List Int} {tn : Bool} {G : List Obj} (hpf : AddrOf pf pf 0 0) (hv : Rd h0 vW 4 (flr wc ws)) (hB : BOk (r : Int) ws) (hfl : Flow ws n) (hi : i < ws.length) (hS : St h0 h (⟨pf, 0, [.int .i64 (r : Int), vW, vn], true⟩ :: ⟨vn, 1, ints n, tn⟩ :: G)) : ACalls Go.Proofs.Tryd.prog 58 [pf, .int .i64 (i : Int)] h (fun q h' => q = .tup [.int .i64 (loOf ws i), .int .i64 (hiOf ws i)] ∧ ∃ n', St h0 h' (⟨pf, 0, [.int .i64 (r : Int), vW, vn], true⟩ :: ⟨vn, 1, ints n', tn⟩ :: G) ∧ Flow ws n') := by
  refine KA.fn 27 [.tmp 4, .tmp 5] Go.Proofs.Tryd.func58 rfl (by decide) rfl rfl (Nat.le_of_ble_eq_true rfl) ?_
  show KA _ 27 _ _ [(0, pf), (1, .int .i64 (i : Int))] _
  refine KA.seq ?_
  refine KA.region rfl ?_
  refine KOps.assign ?_
  refine KOps.assign ?_
  refine KOps.done ?_
  refine sqQ.normal ?_
  refine KA.sub (Sub.cons (t := 0) Look.eq (Sub.cons (t := 1) Look.eq (Sub.nil _))) ?_
  refine KA.seq ?_
  refine KA.region rfl ?_
  refine KOps.move ?_
  refine KOps.move ?_
  refine KOps.call rfl (lower_c (i := i) (A := fun _ => true) hpf hv hB hfl hi (fun _ _ _ _ _ => span1_c) hS) ?_
  rintro _ h4 ⟨c2, hS4, hf2, hn2, hl2⟩
  clear hS
  have hS := hS4
  clear hS4
  have hcl := hf2.len
  have e1 := (hl2.isLo hf2).uniq (loOf_is ⟨_, hf2⟩ hi)
  refine KOps.done ?_
  refine sqQ.normal ?_
  refine KA.sub (Sub.cons (t := 0) Look.eq (Sub.cons (t := 1) Look.eq (Sub.nil _))) ?_
  refine KA.seq ?_
  refine KA.region rfl ?_
  refine KOps.move ?_
  refine KOps.nilP hpf ?_
  refine KOps.fieldAddr hpf ?_
  intro p11 hp11
  refine KOps.load hp11 (hS.rd 0 rfl) rfl ?_
  refine KOps.move ?_
  refine KOps.indexIJ (hS.rd 1 rfl) (j := i) (by first | omega | (simp; omega)) (by first | omega | (simp; omega)) ?_
  intro p14 hp14
  refine KOps.loadI hp14 (hS.rd 1 rfl) (by first | omega | (simp; omega)) ?_
  refine KOps.assign ?_
  refine KOps.done ?_
  refine sqQ.normal ?_
  refine KA.sub (Sub.cons (t := 0) Look.eq (Sub.cons (t := 1) Look.eq (Sub.cons (t := 4) Look.eq (Sub.nil _)))) ?_
  refine KA.seq ?_
  refine KA.region rfl ?_
  refine KOps.move ?_
  refine KOps.move ?_
  refine KOps.call rfl (raise_c (i := i) hpf hv hB hf2 hi hS) ?_
  rintro _ h5 ⟨c3, hS5, hf3, hn3, hl3⟩
  clear hS
  have hS := hS5
  clear hS5
  have hcl3 := hf3.len
  have e2 := (hl3.isHi hf3).uniq (hiOf_is ⟨_, hf3⟩ hi)
  refine KOps.done ?_
  refine sqQ.normal ?_
  refine KA.sub (Sub.cons (t := 0) Look.eq (Sub.cons (t := 1) Look.eq (Sub.cons (t := 4) Look.eq (Sub.nil _)))) ?_
  refine KA.seq ?_
  refine KA.draw [] mixed rfl (by kernel_rfl) ?_
  refine KOps.move ?_
  refine KOps.move ?_
  refine KOps.nilP hpf ?_
  refine KOps.fieldAddr hpf ?_
  intro p22 hp22
  refine KOps.load hp22 (hS.rd 0 rfl) rfl ?_
  refine KOps.move ?_
  refine KOps.indexIJ (hS.rd 1 rfl) (j := i) (by first | omega | (simp; omega)) (by first | omega | (simp; omega)) ?_
  intro p25 hp25
  refine KOps.loadI hp25 (hS.rd 1 rfl) (by first | omega | (simp; omega)) ?_
  refine KOps.assign ?_
  refine KOps.assign ?_
  refine KOps.done ?_
  refine sqQ.normal ?_
  refine KA.sub (Sub.cons (t := 4) Look.eq (Sub.cons (t := 5) Look.eq (Sub.nil _))) ?_
  refine KA.ret ?_
  refine fnQ.retN ?_
  exact ⟨by rw [← e1, ← e2], c3, hS, hf3⟩

end Go.Am


namespace Go.Am
theorem asked_c {h : AHeap} {rm i : Int} {vW : AV} {ws : List W} (hv : Rd h vW 4 (flr wc ws)) : ACalls Go.Proofs.Tryd.prog 57 [.agg [.int .i64 rm, vW], .int .i64 i] h (fun q h' => ∃ qp, q = .tup [qp, .int .i64 (askE rm ws i)] ∧ Keeps h h' ∧ qp.one = true ∧ (askE rm ws i = 0 → ∃ n vn, AddrOf qp qp 0 0 ∧ Flow ws n ∧ St h h' [⟨qp, 0, [.int .i64 rm, vW, vn], true⟩, ⟨vn, 1, ints n, true⟩])) := by
  refine KA.fn 24 [.tmp 4, .tmp 5] Go.Proofs.Tryd.func57 rfl (by decide) rfl rfl (Nat.le_of_ble_eq_true rfl) ?_
  have hS := St.refl h
  have hvo : vW.one = true := hv.one
  show KA _ 24 _ _ [(0, .agg [.int .i64 rm, vW]), (1, .int .i64 i)] _
  refine KA.seq ?_
  refine KA.region rfl ?_
  refine KOps.boxAll hS (by first | rfl | (simp [AV.one]; done) | (simp [AV.one]; assumption) | (simp [AV.one, *]; done)) ?_
  intro p2 h' hp2 hS
  refine KOps.assign ?_
  refine KOps.assign ?_
  refine KOps.done ?_
  refine sqQ.normal ?_
  refine KA.sub (Sub.cons (t := 1) Look.eq (Sub.cons (t := 2) Look.eq (Sub.nil _))) ?_
  refine KA.seq ?_
  refine KA.seq ?_
  refine KA.region rfl ?_
  refine KOps.loadAll hS (i := 0) rfl hp2 (by rfl) (by decide) ?_
  refine KOps.call rfl (check_c (Rd.ext hS.keeps hv)) ?_
  rintro _ h5 ⟨rfl, hK⟩
  have hS0 : St _ _ (_ :: _) := St.trans hS (St.ofK hK)
  clear hS
  have hS := hS0
  clear hS0
  refine KOps.assign ?_
  refine KOps.done ?_
  refine sqQ.normal ?_
  refine KA.sub (Sub.cons (t := 1) Look.eq (Sub.cons (t := 2) Look.eq (Sub.cons (t := 6) Look.eq (Sub.nil _)))) ?_
  refine KA.seq ?_
  refine KA.region rfl ?_
  refine KOps.move ?_
  refine KOps.eql ?_
  refine KOps.move ?_
  refine KOps.guardB (dj := 11) rfl rfl true false rfl ?_ ?_
  · intro g11
    have g11 := of_decide_eq_true g11
    have hwl := (BOk.of g11).len
    refine KOps.move ?_
    refine KOps.guardYes (dj := 11) rfl rfl ?_
    refine KOps.fieldAddr hp2 ?_
    intro p13 hp13
    refine KOps.guardYes (dj := 11) rfl rfl ?_
    refine KOps.load hp13 (hS.rd 0 rfl) rfl ?_
    refine KOps.guardYes (dj := 11) rfl rfl ?_
    refine KOps.lenF wc_len (Rd.ext hS.keeps hv) ?_
    refine KOps.guardYes (dj := 11) rfl rfl ?_
    refine KOps.sub (by first | omega | (simp; omega)) (by first | omega | (simp; omega)) ?_
    refine KOps.guardYes (dj := 11) rfl rfl ?_
    refine KOps.call rfl (between_c) ?_
    rintro _ _ ⟨rfl, rfl⟩
    refine KOps.guardYes (dj := 11) rfl rfl ?_
    refine KOps.not ?_
    refine KOps.pickT ?_
    refine KOps.done ?_
    refine sqQ.normal ?_
    refine KA.sub (Sub.cons (t := 2) Look.eq (Sub.cons (t := 19) Look.eq (Sub.nil _))) ?_
    refine KA.condN ?_ ?_
    · intro c19
      refine KA.seq ?_
      refine KA.region rfl ?_
      refine KOps.assign ?_
      refine KOps.assign ?_
      refine KOps.done ?_
      refine sqQ.normal ?_
      refine KA.sub (Sub.cons (t := 4) Look.eq (Sub.cons (t := 5) Look.eq (Sub.nil _))) ?_
      refine KA.ret ?_
      refine sqQ.ret ?_
      refine fnQ.retN ?_
      have e0 : askE rm ws i = 2 := by rw [askE, if_pos g11, if_neg (by omega)]
      rw [e0]
      exact ⟨_, rfl, hS.keeps, rfl, fun h0 => absurd h0 (by decide)⟩
    · intro c19
      refine KA.skip ?_
      refine sqQ.normal ?_
      refine KA.sub (Sub.cons (t := 2) Look.eq (Sub.nil _)) ?_
      refine KA.seq ?_
      refine KA.region rfl ?_
      refine KOps.loadAll hS (i := 0) rfl hp2 (by rfl) (by decide) ?_
      refine KOps.call rfl (found_c (Rd.ext hS.keeps hv)) ?_
      rintro _ h6 ⟨qp, rfl, hK2, hqp, hyes⟩
      refine KOps.extract ?_
      refine KOps.extract ?_
      refine KOps.assign ?_
      refine KOps.assign ?_
      refine KOps.done ?_
      refine sqQ.normal ?_
      refine KA.sub (Sub.cons (t := 4) Look.eq (Sub.cons (t := 5) Look.eq (Sub.nil _))) ?_
      refine KA.ret ?_
      refine fnQ.retN ?_
      have e0 : askE rm ws i = agreeE rm ws := by rw [askE, if_pos g11, if_pos (by omega)]
      rw [e0]
      refine ⟨_, rfl, hS.keeps.trans hK2, hqp, fun h0 => ?_⟩
      obtain ⟨n, vn, hpf, hf, hSF⟩ := hyes h0
      exact ⟨n, vn, hpf, hf, St.pick [0, 1] (by decide) rfl (St.trans hS hSF : St _ _ (_ :: _ :: _))⟩
  · intro g11
    have g11 := of_decide_eq_false g11
    refine KOps.guardNo (dj := 11) rfl rfl rfl ?_
    refine KOps.guardNo (dj := 11) rfl rfl rfl ?_
    refine KOps.guardNo (dj := 11) rfl rfl rfl ?_
    refine KOps.guardNo (dj := 11) rfl rfl rfl ?_
    refine KOps.guardNo (dj := 11) rfl rfl rfl ?_
    refine KOps.guardNo (dj := 11) rfl rfl rfl ?_
    refine KOps.pickF ?_
    refine KOps.done ?_
    refine sqQ.normal ?_
    refine KA.sub (Sub.cons (t := 2) Look.eq (Sub.cons (t := 19) Look.eq (Sub.nil _))) ?_
    refine KA.condF ?_
    refine KA.skip ?_
    refine sqQ.normal ?_
    refine KA.sub (Sub.cons (t := 2) Look.eq (Sub.nil _)) ?_
    refine KA.seq ?_
    refine KA.region rfl ?_
    refine KOps.loadAll hS (i := 0) rfl hp2 (by rfl) (by decide) ?_
    refine KOps.call rfl (found_c (Rd.ext hS.keeps hv)) ?_
    rintro _ h6 ⟨qp, rfl, hK2, hqp, hyes⟩
    refine KOps.extract ?_
    refine KOps.extract ?_
    refine KOps.assign ?_
    refine KOps.assign ?_
    refine KOps.done ?_
    refine sqQ.normal ?_
    refine KA.sub (Sub.cons (t := 4) Look.eq (Sub.cons (t := 5) Look.eq (Sub.nil _))) ?_
    refine KA.ret ?_
    refine fnQ.retN ?_
    have e0 : askE rm ws i = agreeE rm ws := by rw [askE, if_neg g11, agreeE, if_neg g11]
    rw [e0]
    refine ⟨_, rfl, hS.keeps.trans hK2, hqp, fun h0 => ?_⟩
    obtain ⟨n, vn, hpf, hf, hSF⟩ := hyes h0
    exact ⟨n, vn, hpf, hf, St.pick [0, 1] (by decide) rfl (St.trans hS hSF : St _ _ (_ :: _ :: _))⟩

theorem stSpan_c {h : AHeap} {rm i : Int} {vW : AV} {ws : List W} (hv : Rd h vW 4 (flr wc ws)) : ACalls Go.Proofs.Tryd.prog 49 [.agg [.int .i64 rm, vW], .int .i64 i] h (fun q h' => q = .tup [.int .i64 (if askE rm ws i = 0 then loOf ws i.toNat else 0), .int .i64 (if askE rm ws i = 0 then hiOf ws i.toNat else 0), .int .i64 (askE rm ws i)] ∧ Keeps h h') := by
  refine KA.fn 25 [.tmp 4, .tmp 5, .tmp 6] Go.Proofs.Tryd.func49 rfl (by decide) rfl rfl (Nat.le_of_ble_eq_true rfl) ?_
  have hS := St.refl h
  have hvo : vW.one = true := hv.one
  show KA _ 25 _ _ [(0, .agg [.int .i64 rm, vW]), (1, .int .i64 i)] _
  refine KA.seq ?_
  refine KA.region rfl ?_
  refine KOps.boxAll hS (by first | rfl | (simp [AV.one]; done) | (simp [AV.one]; assumption) | (simp [AV.one, *]; done)) ?_
  intro p2 h' hp2 hS
  refine KOps.assign ?_
  refine KOps.assign ?_
  refine KOps.assign ?_
  refine KOps.done ?_
  refine sqQ.normal ?_
  refine KA.sub (Sub.cons (t := 1) Look.eq (Sub.cons (t := 2) Look.eq (Sub.nil _))) ?_
  refine KA.seq ?_
  refine KA.region rfl ?_
  refine KOps.loadAll hS (i := 0) rfl hp2 (by rfl) (by decide) ?_
  refine KOps.move ?_
  refine KOps.call rfl (asked_c (Rd.ext hS.keeps hv)) ?_
  rintro _ h5 ⟨qp, rfl, hK, hqp, hyes⟩
  refine KOps.move ?_
  refine KOps.extract ?_
  refine KOps.extract ?_
  refine KOps.assign ?_
  refine KOps.assign ?_
  refine KOps.done ?_
  refine sqQ.normal ?_
  refine KA.sub (Sub.cons (t := 1) Look.eq (Sub.cons (t := 6) Look.eq (Sub.cons (t := 7) Look.eq (Sub.nil _)))) ?_
  refine KA.seq ?_
  refine KA.seq ?_
  refine KA.region rfl ?_
  refine KOps.move ?_
  refine KOps.neq ?_
  refine KOps.done ?_
  refine sqQ.normal ?_
  refine KA.sub (Sub.cons (t := 1) Look.eq (Sub.cons (t := 6) Look.eq (Sub.cons (t := 7) Look.eq (Sub.cons (t := 15) Look.eq (Sub.nil _))))) ?_
  refine KA.condN ?_ ?_
  · intro c15
    refine KA.seq ?_
    refine KA.region rfl ?_
    refine KOps.move ?_
    refine KOps.assign ?_
    refine KOps.assign ?_
    refine KOps.assign ?_
    refine KOps.done ?_
    refine sqQ.normal ?_
    refine KA.sub (Sub.cons (t := 4) Look.eq (Sub.cons (t := 5) Look.eq (Sub.cons (t := 6) Look.eq (Sub.nil _)))) ?_
    refine KA.ret ?_
    refine sqQ.ret ?_
    refine fnQ.retN ?_
    rw [if_neg c15, if_neg c15]
    exact ⟨rfl, hS.keeps.trans hK⟩
  · intro c15
    obtain ⟨he, hi0, hi1⟩ := ask_ok c15
    have hB := (agree_ok he).1
    obtain ⟨r, rfl⟩ : ∃ r : Nat, rm = (r : Int) := ⟨rm.toNat, by have := hB.r2; omega⟩
    obtain ⟨j, rfl⟩ : ∃ j : Nat, i = (j : Int) := ⟨i.toNat, by omega⟩
    obtain ⟨n, vn, hpf, hf, hSF⟩ := hyes c15
    have hS0 : St _ _ (_ :: _ :: _) := St.trans hS hSF
    clear hS
    have hS := hS0
    clear hS0
    refine KA.skip ?_
    refine sqQ.normal ?_
    refine KA.sub (Sub.cons (t := 1) Look.eq (Sub.cons (t := 7) Look.eq (Sub.nil _))) ?_
    refine KA.seq ?_
    refine KA.region rfl ?_
    refine KOps.move ?_
    refine KOps.move ?_
    refine KOps.call rfl (span_c (r := r) (i := j) hpf hv hB hf (by omega) hS) ?_
    rintro _ h6 ⟨rfl, c2, hS6, hf6⟩
    refine KOps.move ?_
    refine KOps.extract ?_
    refine KOps.extract ?_
    refine KOps.assign ?_
    refine KOps.assign ?_
    refine KOps.done ?_
    refine sqQ.normal ?_
    refine KA.sub (Sub.cons (t := 4) Look.eq (Sub.cons (t := 5) Look.eq (Sub.nil _))) ?_
    refine KA.seq ?_
    refine KA.region rfl ?_
    refine KOps.move ?_
    refine KOps.move ?_
    refine KOps.assign ?_
    refine KOps.assign ?_
    refine KOps.assign ?_
    refine KOps.done ?_
    refine sqQ.normal ?_
    refine KA.sub (Sub.cons (t := 4) Look.eq (Sub.cons (t := 5) Look.eq (Sub.cons (t := 6) Look.eq (Sub.nil _)))) ?_
    refine KA.ret ?_
    refine fnQ.retN ?_
    rw [if_pos c15, if_pos c15, c15]
    exact ⟨rfl, hS6.keeps⟩

end Go.Am


namespace Go.Am
def wT : List W := [⟨0, 1, 5, 9⟩, ⟨1, 2, 0, 7⟩, ⟨2, 0, 4, 6⟩]
theorem askWT : askE 3 wT 0 = 0 := by decide +kernel
theorem verWT : verE 3 wT [5, 5, 5] = 0 := by decide +kernel
theorem verWT6 : verE 3 wT [6, 6, 6] = 0 := by decide +kernel
theorem flowWT {n : List Int} (h : Flow wT n) : ∃ v, n = [v, v, v] ∧ 5 ≤ v ∧ v ≤ 6 := by
  have hl : n.length = 3 := h.len
  match n, hl with
  | [a, b, c], _ =>
    have l0 : (5 : Int) ≤ a := h.lo 0 (by decide)
    have m0 : a ≤ 9 := h.hi 0 (by decide)
    have l2 : (4 : Int) ≤ c := h.lo 2 (by decide)
    have m2 : c ≤ 6 := h.hi 2 (by decide)
    have k0 := h.kp 0
    have k1 := h.kp 1
    have e0 : kept wT [a, b, c] 0 = 0 + a * (0 - 1) + b * (0 - 0) + c * (1 - 0) := rfl
    have e1 : kept wT [a, b, c] 1 = 0 + a * (1 - 0) + b * (0 - 1) + c * (0 - 0) := rfl
    rw [e0] at k0
    rw [e1] at k1
    have h1 : b = a := by omega
    have h2 : c = a := by omega
    subst h1 h2
    exact ⟨_, rfl, l0, m2⟩
theorem flowWT5 : Flow wT [5, 5, 5] := (verE_flow verWT).2
theorem flowWT6 : Flow wT [6, 6, 6] := (verE_flow verWT6).2
theorem loWT : loOf wT 0 = 5 := (loOf_is ⟨_, flowWT5⟩ (by decide)).uniq ⟨⟨_, flowWT5, rfl⟩, fun m hm => by obtain ⟨v, rfl, h1, h2⟩ := flowWT hm; exact h1⟩
theorem hiWT : hiOf wT 0 = 6 := (hiOf_is ⟨_, flowWT5⟩ (by decide)).uniq ⟨⟨_, flowWT6, rfl⟩, fun m hm => by obtain ⟨v, rfl, h1, h2⟩ := flowWT hm; exact h2⟩
theorem spanWT_c {h : AHeap} {v : AV} (hv : Rd h v 4 (flr wc wT)) : ACalls Go.Proofs.Tryd.prog 49 [.agg [.int .i64 3, v], .int .i64 0] h (fun q h' => q = .tup [.int .i64 5, .int .i64 6, .int .i64 0] ∧ Keeps h h') := by
  refine ACalls.mono (stSpan_c (rm := 3) (i := 0) (ws := wT) hv) ?_
  rintro q h' ⟨rfl, hk⟩
  rw [askWT, if_pos rfl, if_pos rfl, show (0 : Int).toNat = 0 from rfl, loWT, hiWT]
  exact ⟨rfl, hk⟩
def tM : Tray := ⟨3, [0, 1, 2, 0, 1], [1, 2, 0, 1, 0]⟩
theorem okTM : tM.Ok := ⟨by decide, by decide, rfl, by decide, by decide⟩
theorem fewTM : tM.fewS = 3 ∧ tM.chk = 0 := by decide +kernel

theorem lst_c {h : AHeap} {v : AV} : ACalls Go.Proofs.Tryd.prog 18 [v] h (fun q h' => q = v ∧ h = h') := by
  refine KA.fn 4 [.tmp 2] Go.Proofs.Tryd.func18 rfl (by decide) rfl rfl (Nat.le_of_ble_eq_true rfl) ?_
  show KA _ 4 _ _ [(0, v)] _
  refine KA.seq ?_
  refine KA.region rfl ?_
  refine KOps.assign ?_
  refine KOps.done ?_
  refine sqQ.normal ?_
  refine KA.sub (Sub.cons (t := 0) Look.eq (Sub.nil _)) ?_
  refine KA.seq ?_
  refine KA.region rfl ?_
  refine KOps.move ?_
  refine KOps.assign ?_
  refine KOps.done ?_
  refine sqQ.normal ?_
  refine KA.sub (Sub.cons (t := 2) Look.eq (Sub.nil _)) ?_
  refine KA.ret ?_
  refine fnQ.ret1 ?_
  exact ⟨rfl, rfl⟩

theorem turnedWorks_c {h : AHeap} : ACalls Go.Proofs.Tryd.prog 38 [] h (fun q h' => q = .bool true ∧ Keeps h h') := by
  refine KA.fn 56 [.tmp 0] Go.Proofs.Tryd.func38 rfl (by decide) rfl rfl (Nat.le_of_ble_eq_true rfl) ?_
  have hS := St.refl h
  show KA _ 56 _ _ [] _
  refine KA.seq ?_
  refine KA.region rfl ?_
  refine KOps.assign ?_
  refine KOps.done ?_
  refine sqQ.normal ?_
  refine KA.sub (Sub.nil _) ?_
  refine KA.seq ?_
  refine KA.region rfl ?_
  refine KOps.buildSlice hS rfl (by decide) rfl ?_
  intro v9 h' hS
  have hv9 : v9.one = true := St.one hS (k := 0) rfl
  refine KOps.call rfl lst_c ?_
  rintro _ _ ⟨rfl, rfl⟩
  refine KOps.buildG (zs := [.int .i64 0, .int .i64 0, .int .i64 0, .nils]) (cs := [_, _, _, _]) (by kernel_rfl) (by rfl) (by kernel_rfl) (.cons (off := 0) (s := 1) (by kernel_rfl) (AV.cells_one (by first | rfl | assumption)) rfl (by decide) (.cons (off := 1) (s := 1) (by kernel_rfl) (AV.cells_one (by first | rfl | assumption)) rfl (by decide) (.cons (off := 2) (s := 1) (by kernel_rfl) (AV.cells_one (by first | rfl | assumption)) rfl (by decide) (.cons (off := 3) (s := 1) (by kernel_rfl) (AV.cells_one (by first | rfl | assumption)) rfl (by decide) .nil)))) (by rfl) ?_
  refine KOps.call rfl (backCount_c (hS.rd 0 rfl)) ?_
  rintro _ hx ⟨rfl, hK⟩
  have hS0 : St _ _ _ := St.trans hS (St.ofK hK)
  clear hS
  have hS := hS0
  clear hS0
  simp only [List.nil_append] at hS
  refine KOps.move ?_
  refine KOps.extract ?_
  refine KOps.extract ?_
  refine KOps.assign ?_
  refine KOps.assign ?_
  refine KOps.done ?_
  refine sqQ.normal ?_
  refine KA.sub (Sub.cons (t := 1) Look.eq (Sub.cons (t := 2) Look.eq (Sub.nil _))) ?_
  refine KA.seq ?_
  refine KA.region rfl ?_
  refine KOps.buildG (zs := [.int .i64 0, .int .i64 0, .int .i64 0, .int .i64 0]) (cs := [_, _, _, _]) (by kernel_rfl) (by rfl) (by kernel_rfl) (.cons (off := 0) (s := 1) (by kernel_rfl) (AV.cells_one (by first | rfl | assumption)) rfl (by decide) (.cons (off := 1) (s := 1) (by kernel_rfl) (AV.cells_one (by first | rfl | assumption)) rfl (by decide) (.cons (off := 2) (s := 1) (by kernel_rfl) (AV.cells_one (by first | rfl | assumption)) rfl (by decide) (.cons (off := 3) (s := 1) (by kernel_rfl) (AV.cells_one (by first | rfl | assumption)) rfl (by decide) .nil)))) (by rfl) ?_
  refine KOps.call rfl (cut23_c) ?_
  rintro _ hx ⟨rfl, hK⟩
  have hS0 : St _ _ _ := St.trans hS (St.ofK hK)
  clear hS
  have hS := hS0
  clear hS0
  simp only [List.nil_append] at hS
  refine KOps.move ?_
  refine KOps.extract ?_
  refine KOps.extract ?_
  refine KOps.assign ?_
  refine KOps.assign ?_
  refine KOps.done ?_
  refine sqQ.normal ?_
  refine KA.sub (Sub.cons (t := 1) Look.eq (Sub.cons (t := 2) Look.eq (Sub.cons (t := 3) Look.eq (Sub.cons (t := 4) Look.eq (Sub.nil _))))) ?_
  refine KA.seq ?_
  refine KA.region rfl ?_
  refine KOps.buildG (zs := [.int .i64 0, .int .i64 0, .int .i64 0, .int .i64 0]) (cs := [_, _, _, _]) (by kernel_rfl) (by rfl) (by kernel_rfl) (.cons (off := 0) (s := 1) (by kernel_rfl) (AV.cells_one (by first | rfl | assumption)) rfl (by decide) (.cons (off := 1) (s := 1) (by kernel_rfl) (AV.cells_one (by first | rfl | assumption)) rfl (by decide) (.cons (off := 2) (s := 1) (by kernel_rfl) (AV.cells_one (by first | rfl | assumption)) rfl (by decide) (.cons (off := 3) (s := 1) (by kernel_rfl) (AV.cells_one (by first | rfl | assumption)) rfl (by decide) .nil)))) (by rfl) ?_
  refine KOps.buildG (zs := [.int .i64 0, .int .i64 0, .int .i64 0, .int .i64 0]) (cs := [_, _, _, _]) (by kernel_rfl) (by rfl) (by kernel_rfl) (.cons (off := 0) (s := 1) (by kernel_rfl) (AV.cells_one (by first | rfl | assumption)) rfl (by decide) (.cons (off := 1) (s := 1) (by kernel_rfl) (AV.cells_one (by first | rfl | assumption)) rfl (by decide) (.cons (off := 2) (s := 1) (by kernel_rfl) (AV.cells_one (by first | rfl | assumption)) rfl (by decide) (.cons (off := 3) (s := 1) (by kernel_rfl) (AV.cells_one (by first | rfl | assumption)) rfl (by decide) .nil)))) (by rfl) ?_
  refine KOps.buildG (zs := [.int .i64 0, .int .i64 0, .int .i64 0, .int .i64 0]) (cs := [_, _, _, _]) (by kernel_rfl) (by rfl) (by kernel_rfl) (.cons (off := 0) (s := 1) (by kernel_rfl) (AV.cells_one (by first | rfl | assumption)) rfl (by decide) (.cons (off := 1) (s := 1) (by kernel_rfl) (AV.cells_one (by first | rfl | assumption)) rfl (by decide) (.cons (off := 2) (s := 1) (by kernel_rfl) (AV.cells_one (by first | rfl | assumption)) rfl (by decide) (.cons (off := 3) (s := 1) (by kernel_rfl) (AV.cells_one (by first | rfl | assumption)) rfl (by decide) .nil)))) (by rfl) ?_
  refine KOps.buildSliceS (cs := flr wc wT) hS rfl rfl rfl (by decide) ?_
  intro v24 h' hS
  have hv24 : v24.one = true := St.one hS (k := 0) rfl
  refine KOps.buildG (zs := [.int .i64 0, .nils]) (cs := [_, _]) (by kernel_rfl) (by rfl) (by kernel_rfl) (.cons (off := 0) (s := 1) (by kernel_rfl) (AV.cells_one (by first | rfl | assumption)) rfl (by decide) (.cons (off := 1) (s := 1) (by kernel_rfl) (AV.cells_one (by first | rfl | assumption)) rfl (by decide) .nil)) (by rfl) ?_
  refine KOps.call rfl (spanWT_c (hS.rd 0 rfl)) ?_
  rintro _ hx ⟨rfl, hK⟩
  have hS0 : St _ _ _ := St.trans hS (St.ofK hK)
  clear hS
  have hS := hS0
  clear hS0
  simp only [List.nil_append] at hS
  refine KOps.move ?_
  refine KOps.extract ?_
  refine KOps.extract ?_
  refine KOps.extract ?_
  refine KOps.assign ?_
  refine KOps.assign ?_
  refine KOps.assign ?_
  refine KOps.done ?_
  refine sqQ.normal ?_
  refine KA.sub (Sub.cons (t := 1) Look.eq (Sub.cons (t := 2) Look.eq (Sub.cons (t := 3) Look.eq (Sub.cons (t := 4) Look.eq (Sub.cons (t := 5) Look.eq (Sub.cons (t := 6) Look.eq (Sub.cons (t := 7) Look.eq (Sub.nil _)))))))) ?_
  refine KA.seq ?_
  refine KA.region rfl ?_
  refine KOps.move ?_
  refine KOps.eql ?_
  refine KOps.move ?_
  refine KOps.guardB (dj := 32) rfl rfl true false rfl ?_ ?_
  · intro g32
    have g32 := of_decide_eq_true g32
    refine KOps.move ?_
    refine KOps.guardYes (dj := 32) rfl rfl ?_
    refine KOps.eql ?_
    refine KOps.pickT ?_
    refine KOps.move ?_
    refine KOps.guardB (dj := 36) rfl rfl true false rfl ?_ ?_
    · intro g36
      have g36 := of_decide_eq_true g36
      refine KOps.move ?_
      refine KOps.guardYes (dj := 36) rfl rfl ?_
      refine KOps.eql ?_
      refine KOps.pickT ?_
      refine KOps.move ?_
      refine KOps.guardB (dj := 40) rfl rfl true false rfl ?_ ?_
      · intro g40
        have g40 := of_decide_eq_true g40
        refine KOps.move ?_
        refine KOps.guardYes (dj := 40) rfl rfl ?_
        refine KOps.eql ?_
        refine KOps.pickT ?_
        refine KOps.move ?_
        refine KOps.guardB (dj := 44) rfl rfl true false rfl ?_ ?_
        · intro g44
          have g44 := of_decide_eq_true g44
          refine KOps.move ?_
          refine KOps.guardYes (dj := 44) rfl rfl ?_
          refine KOps.eql ?_
          refine KOps.pickT ?_
          refine KOps.move ?_
          refine KOps.guardB (dj := 48) rfl rfl true false rfl ?_ ?_
          · intro g48
            have g48 := of_decide_eq_true g48
            refine KOps.move ?_
            refine KOps.guardYes (dj := 48) rfl rfl ?_
            refine KOps.eql ?_
            refine KOps.pickT ?_
            refine KOps.move ?_
            refine KOps.guardB (dj := 52) rfl rfl true false rfl ?_ ?_
            · intro g52
              have g52 := of_decide_eq_true g52
              refine KOps.move ?_
              refine KOps.guardYes (dj := 52) rfl rfl ?_
              refine KOps.eql ?_
              refine KOps.pickT ?_
              refine KOps.assign ?_
              refine KOps.done ?_
              refine sqQ.normal ?_
              refine KA.sub (Sub.cons (t := 0) Look.eq (Sub.nil _)) ?_
              refine KA.ret ?_
              refine fnQ.ret1 ?_
              exact ⟨rfl, hS.keeps⟩
            · intro g52
              have g52 := of_decide_eq_false g52
              exact absurd rfl g52
          · intro g48
            have g48 := of_decide_eq_false g48
            exact absurd rfl g48
        · intro g44
          have g44 := of_decide_eq_false g44
          exact absurd rfl g44
      · intro g40
        have g40 := of_decide_eq_false g40
        exact absurd rfl g40
    · intro g36
      have g36 := of_decide_eq_false g36
      exact absurd rfl g36
  · intro g32
    have g32 := of_decide_eq_false g32
    exact absurd rfl g32

theorem dealtWorks_c {h : AHeap} : ACalls Go.Proofs.Tryd.prog 31 [] h (fun q h' => q = .bool true ∧ Keeps h h') := by
  refine KA.fn 18 [.tmp 0] Go.Proofs.Tryd.func31 rfl (by decide) rfl rfl (Nat.le_of_ble_eq_true rfl) ?_
  have hS := St.refl h
  show KA _ 18 _ _ [] _
  refine KA.seq ?_
  refine KA.region rfl ?_
  refine KOps.assign ?_
  refine KOps.done ?_
  refine sqQ.normal ?_
  refine KA.sub (Sub.nil _) ?_
  refine KA.seq ?_
  refine KA.region rfl ?_
  refine KOps.buildSlice hS rfl (by decide) rfl ?_
  intro v4 h' hS
  refine KOps.call rfl lst_c ?_
  rintro _ _ ⟨rfl, rfl⟩
  refine KOps.call rfl (ways_c (hS.rd 0 rfl)) ?_
  rintro _ hx ⟨rfl, hK⟩
  have hS0 : St _ _ _ := St.trans hS (St.ofK hK)
  clear hS
  have hS := hS0
  clear hS0
  simp only [List.nil_append] at hS
  refine KOps.move ?_
  refine KOps.extract ?_
  refine KOps.extract ?_
  refine KOps.assign ?_
  refine KOps.assign ?_
  refine KOps.done ?_
  refine sqQ.normal ?_
  refine KA.sub (Sub.cons (t := 1) Look.eq (Sub.cons (t := 2) Look.eq (Sub.nil _))) ?_
  refine KA.seq ?_
  refine KA.region rfl ?_
  refine KOps.move ?_
  refine KOps.eql ?_
  refine KOps.move ?_
  refine KOps.guardB (dj := 11) rfl rfl true false rfl ?_ ?_
  · intro g11
    have g11 := of_decide_eq_true g11
    refine KOps.move ?_
    refine KOps.guardYes (dj := 11) rfl rfl ?_
    refine KOps.eql ?_
    refine KOps.pickT ?_
    refine KOps.move ?_
    refine KOps.guardB (dj := 15) rfl rfl true false rfl ?_ ?_
    · intro g15
      have g15 := of_decide_eq_true g15
      refine KOps.call rfl (turnedWorks_c) ?_
      rintro _ hx ⟨rfl, hK⟩
      have hS0 : St _ _ _ := St.trans hS (St.ofK hK)
      clear hS
      have hS := hS0
      clear hS0
      simp only [List.nil_append] at hS
      refine KOps.pickT ?_
      refine KOps.assign ?_
      refine KOps.done ?_
      refine sqQ.normal ?_
      refine KA.sub (Sub.cons (t := 0) Look.eq (Sub.nil _)) ?_
      refine KA.ret ?_
      refine fnQ.ret1 ?_
      exact ⟨rfl, hS.keeps⟩
    · intro g15
      have g15 := of_decide_eq_false g15
      exact absurd rfl g15
  · intro g11
    have g11 := of_decide_eq_false g11
    exact absurd rfl g11

theorem tableWorks_c {h : AHeap} (hT : Tabs h) : ACalls Go.Proofs.Tryd.prog 19 [] h (fun q h' => q = .bool true ∧ Keeps h h') := by
  refine KA.fn 20 [.tmp 0] Go.Proofs.Tryd.func19 rfl (by decide) rfl rfl (Nat.le_of_ble_eq_true rfl) ?_
  have hS := St.refl h
  show KA _ 20 _ _ [] _
  refine KA.seq ?_
  refine KA.region rfl ?_
  refine KOps.assign ?_
  refine KOps.done ?_
  refine sqQ.normal ?_
  refine KA.sub (Sub.nil _) ?_
  refine KA.seq ?_
  refine KA.region rfl ?_
  refine KOps.buildG (zs := [.int .i64 0, .int .i64 0]) (cs := [_, _]) (by kernel_rfl) (by rfl) (by kernel_rfl) (.cons (off := 0) (s := 1) (by kernel_rfl) (AV.cells_one (by first | rfl | assumption)) rfl (by decide) (.cons (off := 1) (s := 1) (by kernel_rfl) (AV.cells_one (by first | rfl | assumption)) rfl (by decide) .nil)) (by rfl) ?_
  refine KOps.buildG (zs := [.int .i64 0, .int .i64 0]) (cs := [_, _]) (by kernel_rfl) (by rfl) (by kernel_rfl) (.cons (off := 0) (s := 1) (by kernel_rfl) (AV.cells_one (by first | rfl | assumption)) rfl (by decide) (.cons (off := 1) (s := 1) (by kernel_rfl) (AV.cells_one (by first | rfl | assumption)) rfl (by decide) .nil)) (by rfl) ?_
  refine KOps.buildG (zs := [.int .i64 0, .int .i64 0]) (cs := [_, _]) (by kernel_rfl) (by rfl) (by kernel_rfl) (.cons (off := 0) (s := 1) (by kernel_rfl) (AV.cells_one (by first | rfl | assumption)) rfl (by decide) (.cons (off := 1) (s := 1) (by kernel_rfl) (AV.cells_one (by first | rfl | assumption)) rfl (by decide) .nil)) (by rfl) ?_
  refine KOps.buildSliceS (cs := ints [0, 1, 1, 2, 0, 1]) hS rfl rfl rfl (by decide) ?_
  intro v7 h' hS
  have hv7 : v7.one = true := St.one hS (k := 0) rfl
  refine KOps.buildG (zs := [.int .i64 0, .nils]) (cs := [_, _]) (by kernel_rfl) (by rfl) (by kernel_rfl) (.cons (off := 0) (s := 1) (by kernel_rfl) (AV.cells_one (by first | rfl | assumption)) rfl (by decide) (.cons (off := 1) (s := 1) (by kernel_rfl) (AV.cells_one (by first | rfl | assumption)) rfl (by decide) .nil)) (by rfl) ?_
  refine KOps.call rfl (sorts_c (hS.rd 0 rfl) (hT.ext hS.keeps)) ?_
  rintro _ hx ⟨rfl, hK⟩
  have hS0 : St _ _ _ := St.trans hS (St.ofK hK)
  clear hS
  have hS := hS0
  clear hS0
  simp only [List.nil_append] at hS
  refine KOps.move ?_
  refine KOps.extract ?_
  refine KOps.extract ?_
  refine KOps.assign ?_
  refine KOps.assign ?_
  refine KOps.done ?_
  refine sqQ.normal ?_
  refine KA.sub (Sub.cons (t := 1) Look.eq (Sub.cons (t := 2) Look.eq (Sub.nil _))) ?_
  refine KA.seq ?_
  refine KA.region rfl ?_
  refine KOps.move ?_
  refine KOps.eql ?_
  refine KOps.move ?_
  refine KOps.guardB (dj := 14) rfl rfl true false rfl ?_ ?_
  · intro g14
    have g14 := of_decide_eq_true g14
    refine KOps.move ?_
    refine KOps.pickT ?_
    refine KOps.move ?_
    refine KOps.guardYes (dj := 17) rfl rfl ?_
    refine KOps.call rfl (dealtWorks_c) ?_
    rintro _ hx ⟨rfl, hK⟩
    have hS0 : St _ _ _ := St.trans hS (St.ofK hK)
    clear hS
    have hS := hS0
    clear hS0
    simp only [List.nil_append] at hS
    refine KOps.pickT ?_
    refine KOps.assign ?_
    refine KOps.done ?_
    refine sqQ.normal ?_
    refine KA.sub (Sub.cons (t := 0) Look.eq (Sub.nil _)) ?_
    refine KA.ret ?_
    refine fnQ.ret1 ?_
    exact ⟨rfl, hS.keeps⟩
  · intro g14
    have g14 := of_decide_eq_false g14
    exact absurd rfl g14

theorem mendWorks_c {h : AHeap} (hT : Tabs h) : ACalls Go.Proofs.Tryd.prog 7 [] h (fun q h' => q = .bool true ∧ Keeps h h') := by
  refine KA.fn 21 [.tmp 0] Go.Proofs.Tryd.func7 rfl (by decide) rfl rfl (Nat.le_of_ble_eq_true rfl) ?_
  have hS := St.refl h
  show KA _ 21 _ _ [] _
  refine KA.seq ?_
  refine KA.region rfl ?_
  refine KOps.assign ?_
  refine KOps.done ?_
  refine sqQ.normal ?_
  refine KA.sub (Sub.nil _) ?_
  refine KA.seq ?_
  refine KA.region rfl ?_
  refine KOps.buildSlice hS rfl (by decide) rfl ?_
  intro v4 h' hS
  have hv4 : v4.one = true := St.one hS (k := 0) rfl
  refine KOps.call rfl lst_c ?_
  rintro _ _ ⟨rfl, rfl⟩
  refine KOps.buildSlice hS rfl (by decide) rfl ?_
  intro v6 h' hS
  have hv6 : v6.one = true := St.one hS (k := 0) rfl
  refine KOps.call rfl lst_c ?_
  rintro _ _ ⟨rfl, rfl⟩
  refine KOps.buildG (zs := [.int .i64 0, .nils, .nils]) (cs := [_, _, _]) (by kernel_rfl) (by rfl) (by kernel_rfl) (.cons (off := 0) (s := 1) (by kernel_rfl) (AV.cells_one (by first | rfl | assumption)) rfl (by decide) (.cons (off := 1) (s := 1) (by kernel_rfl) (AV.cells_one (by first | rfl | assumption)) rfl (by decide) (.cons (off := 2) (s := 1) (by kernel_rfl) (AV.cells_one (by first | rfl | assumption)) rfl (by decide) .nil))) (by rfl) ?_
  refine KOps.call rfl (fewestP_c (t := tM) okTM (hS.rd 1 rfl) (hS.rd 0 rfl) (hT.1.ext hS.keeps)) ?_
  rintro _ hx ⟨rfl, hK⟩
  have hS0 : St _ _ _ := St.trans hS (St.ofK hK)
  clear hS
  have hS := hS0
  clear hS0
  simp only [List.nil_append] at hS
  rw [fewTM.2, fewTM.1, if_pos rfl]
  refine KOps.move ?_
  refine KOps.extract ?_
  refine KOps.extract ?_
  refine KOps.assign ?_
  refine KOps.assign ?_
  refine KOps.done ?_
  refine sqQ.normal ?_
  refine KA.sub (Sub.cons (t := 1) Look.eq (Sub.cons (t := 2) Look.eq (Sub.nil _))) ?_
  refine KA.seq ?_
  refine KA.region rfl ?_
  refine KOps.move ?_
  refine KOps.eql ?_
  refine KOps.move ?_
  refine KOps.guardB (dj := 14) rfl rfl true false rfl ?_ ?_
  · intro g14
    have g14 := of_decide_eq_true g14
    refine KOps.move ?_
    refine KOps.guardYes (dj := 14) rfl rfl ?_
    refine KOps.eql ?_
    refine KOps.pickT ?_
    refine KOps.move ?_
    refine KOps.guardB (dj := 18) rfl rfl true false rfl ?_ ?_
    · intro g18
      have g18 := of_decide_eq_true g18
      refine KOps.call rfl (tableWorks_c (hT.ext hS.keeps)) ?_
      rintro _ hx ⟨rfl, hK⟩
      have hS0 : St _ _ _ := St.trans hS (St.ofK hK)
      clear hS
      have hS := hS0
      clear hS0
      simp only [List.nil_append] at hS
      refine KOps.pickT ?_
      refine KOps.assign ?_
      refine KOps.done ?_
      refine sqQ.normal ?_
      refine KA.sub (Sub.cons (t := 0) Look.eq (Sub.nil _)) ?_
      refine KA.ret ?_
      refine fnQ.ret1 ?_
      exact ⟨rfl, hS.keeps⟩
    · intro g18
      have g18 := of_decide_eq_false g18
      exact absurd rfl g18
  · intro g14
    have g14 := of_decide_eq_false g14
    exact absurd rfl g14

end Go.Am

namespace Go.Am
/-- Places of the one sort and of the other one: the smaller number. -/
def mn (p : Nat → Bool) (l : List Nat) : Nat := min (l.countP p) (l.countP fun i => !p i)
theorem countP_without (q : Nat → Bool) : ∀ {l : List Nat} {i : Nat}, l.Nodup → i ∈ l → l.countP q = (l.filter fun j => decide (j ≠ i)).countP q + if q i = true then 1 else 0
  | [], i, _, hi => by cases hi
  | x :: l, i, hn, hi => by
    obtain ⟨hx, hn⟩ := List.nodup_cons.1 hn
    by_cases he : x = i
    · subst he
      have hf : (l.filter fun j => decide (j ≠ x)) = l := List.filter_eq_self.2 fun j hj => decide_eq_true fun e => hx (e ▸ hj)
      rw [List.filter_cons, if_neg (by simp), hf, List.countP_cons]
    · have hi : i ∈ l := (List.mem_cons.1 hi).resolve_left fun e => he e.symm
      rw [List.filter_cons, if_pos (decide_eq_true he), List.countP_cons, List.countP_cons, countP_without q hn hi]
      omega
theorem mn_without {p : Nat → Bool} {l : List Nat} {i : Nat} (hn : l.Nodup) (hi : i ∈ l) :
    mn p (l.filter fun j => decide (j ≠ i)) = if p i = true then min (l.countP p - 1) (l.countP fun i => !p i) else min (l.countP p) (l.countP (fun i => !p i) - 1) := by
  have h1 := countP_without p hn hi
  have h2 := countP_without (fun i => !p i) hn hi
  unfold mn
  cases hp : p i with
  | true => rw [hp] at h1 h2; simp at h1 h2 ⊢; omega
  | false => rw [hp] at h1 h2; simp at h1 h2 ⊢; omega
def bestM (p : Nat → Bool) (l : List Nat) : Nat → Nat
  | 0 => 0
  | k + 1 => max (bestM p l k) (mn p (l.filter fun j => decide (j ≠ l.getD k 0)))
theorem bestM_le {p : Nat → Bool} {l : List Nat} {m : Nat} : ∀ {k : Nat}, k ≤ l.length → (∀ i ∈ l, mn p (l.filter fun j => decide (j ≠ i)) ≤ m) → bestM p l k ≤ m := by
  intro k
  induction k with
  | zero => intro _ _; exact Nat.zero_le _
  | succ k ih =>
    intro hk h
    rw [bestM]
    refine Nat.max_le.2 ⟨ih (by omega) h, h _ ?_⟩
    rw [List.getD_eq_getElem?_getD, List.getElem?_eq_getElem (by omega : k < l.length)]
    exact List.getElem_mem _
theorem bestM_ge {p : Nat → Bool} {l : List Nat} {j : Nat} : ∀ {k : Nat}, j < k → mn p (l.filter fun x => decide (x ≠ l.getD j 0)) ≤ bestM p l k := by
  intro k
  induction k with
  | zero => intro h; omega
  | succ k ih =>
    intro h
    rw [bestM]
    rcases Nat.lt_succ_iff_lt_or_eq.1 h with h | rfl
    · exact Nat.le_trans (ih h) (Nat.le_max_left ..)
    · exact Nat.le_max_right ..
theorem countP_pos {q : Nat → Bool} {l : List Nat} (h : 0 < l.countP q) : ∃ j, j < l.length ∧ q (l.getD j 0) = true := by
  obtain ⟨x, hx, hq⟩ := List.countP_pos_iff.1 h
  obtain ⟨j, hj, rfl⟩ := List.getElem_of_mem hx
  exact ⟨j, hj, by rw [List.getD_eq_getElem?_getD, List.getElem?_eq_getElem hj]; exact hq⟩
theorem countP_all (p : Nat → Bool) (l : List Nat) : l.countP p + l.countP (fun i => !p i) = l.length := by
  induction l with
  | nil => rfl
  | cons x l ih =>
    rw [List.countP_cons, List.countP_cons, List.length_cons]
    cases p x <;> simp <;> omega
theorem best_all {p : Nat → Bool} {l : List Nat} (hn : l.Nodup) (h0 : l ≠ []) : bestM p l l.length + (if l.countP p = l.countP (fun i => !p i) then 1 else 0) = mn p l := by
  have hall := countP_all p l
  have hlen : 0 < l.length := List.length_pos_iff.2 h0
  have hmem : ∀ {j}, j < l.length → l.getD j 0 ∈ l := fun {j} hj => by
    rw [List.getD_eq_getElem?_getD, List.getElem?_eq_getElem hj]; exact List.getElem_mem _
  by_cases he : l.countP p = l.countP fun i => !p i
  · rw [if_pos he]
    have hle : bestM p l l.length ≤ l.countP p - 1 := bestM_le (Nat.le_refl _) fun i hi => by
      rw [mn_without hn hi]; split <;> omega
    have hge : l.countP p - 1 ≤ bestM p l l.length := by
      refine Nat.le_trans ?_ (bestM_ge (j := 0) hlen)
      rw [mn_without hn (hmem hlen)]; split <;> omega
    unfold mn
    omega
  · rw [if_neg he, Nat.add_zero]
    refine Nat.le_antisymm (bestM_le (Nat.le_refl _) fun i hi => by rw [mn_without hn hi]; unfold mn; split <;> omega) ?_
    rcases Nat.lt_or_gt_of_ne he with h | h
    · obtain ⟨j, hj, hq⟩ := countP_pos (q := fun i => !p i) (l := l) (by omega)
      refine Nat.le_trans ?_ (bestM_ge (j := j) hj)
      rw [mn_without hn (hmem hj), if_neg (by simpa using hq)]
      unfold mn
      omega
    · obtain ⟨j, hj, hq⟩ := countP_pos (q := p) (l := l) (by omega)
      refine Nat.le_trans ?_ (bestM_ge (j := j) hj)
      rw [mn_without hn (hmem hj), if_pos hq]
      unfold mn
      omega
end Go.Am

namespace Go.Am
/-- How many places have a notch in the one and none in the other, and the sum of these places. -/
def onlyN (w u : List Bool) : Nat → Nat
  | 0 => 0
  | k + 1 => onlyN w u k + if w.getD k false = true ∧ u.getD k false = false then 1 else 0
def onlyS (w u : List Bool) : Nat → Nat
  | 0 => 0
  | k + 1 => onlyS w u k + if w.getD k false = true ∧ u.getD k false = false then k + 1 else 0
theorem only_wt (w u : List Bool) (k : Nat) : wtTo w k + onlyS u w k = wtTo u k + onlyS w u k := by
  induction k with
  | zero => rfl
  | succ k ih =>
    simp only [wtTo, onlyS]
    cases hw : w.getD k false <;> cases hu : u.getD k false <;> simp <;> omega
theorem only_none (w u : List Bool) (k : Nat) : onlyN w u k = 0 → onlyS w u k = 0 := by
  induction k with
  | zero => intro _; rfl
  | succ k ih =>
    simp only [onlyN, onlyS]
    intro h
    split at h
    · omega
    · rename_i hc; rw [if_neg hc, ih (by omega)]
theorem only_one (w u : List Bool) (k : Nat) : onlyN w u k = 1 → 1 ≤ onlyS w u k ∧ onlyS w u k ≤ k := by
  induction k with
  | zero => intro h; cases h
  | succ k ih =>
    simp only [onlyN, onlyS]
    intro h
    split at h
    · rename_i hc
      rw [if_pos hc, only_none w u k (by omega)]; omega
    · rename_i hc
      have := ih (by omega)
      rw [if_neg hc]; omega
theorem only_ne (w u : List Bool) (k : Nat) : onlyN w u k = 1 → onlyN u w k = 1 → onlyS w u k ≠ onlyS u w k := by
  induction k with
  | zero => intro h; cases h
  | succ k ih =>
    simp only [onlyN, onlyS]
    cases hw : w.getD k false <;> cases hu : u.getD k false
    · simp; exact ih
    · simp
      intro h1 h2
      rw [only_none u w k h2]
      have := (only_one w u k h1).2
      omega
    · simp
      intro h1 h2
      rw [only_none w u k h1]
      have := (only_one u w k h2).2
      omega
    · simp; exact ih
theorem moved_cls {w u : List Bool} (hl : w.length = u.length) (h1 : onlyN w u w.length = 1) (h2 : onlyN u w w.length = 1) : cls w ≠ cls u := by
  intro hc
  have hwt := only_wt w u w.length
  have o1 := only_one w u _ h1
  have o2 := only_one u w _ h2
  refine only_ne w u _ h1 h2 ?_
  unfold cls at hc
  rw [← hl] at hc
  have hwu : wt u = wtTo u w.length := by rw [hl]
  refine mod_eq_lt (a := wt u) (m := w.length + 1) (by omega) (by omega) ?_
  have hc2 : wtTo w w.length % (w.length + 1) = wtTo u w.length % (w.length + 1) := by rw [← hwu]; exact hc
  rw [hwu, ← hwt, ← Nat.mod_add_mod, hc2, Nat.mod_add_mod]
end Go.Am

namespace Go.Am
def bN (b : Bool) : Nat := if b = true then 1 else 0
/-- The letters of a word by a number. -/
def bitsT (x i : Nat) : List Bool := (List.range i).map x.testBit
def hasT (x i : Nat) : List Int := (List.range i).map fun j => ((bN (x.testBit j) : Nat) : Int)
theorem bitsT_len (x i : Nat) : (bitsT x i).length = i := by simp [bitsT]
theorem hasT_len (x i : Nat) : (hasT x i).length = i := by simp [hasT]
theorem bitsT_get {x n j : Nat} (h : j < n) : (bitsT x n).getD j false = x.testBit j := by
  rw [List.getD_eq_getElem?_getD, bitsT, List.getElem?_map, List.getElem?_range h]; rfl
theorem hasT_get {x n j : Nat} (h : j < n) : (hasT x n).getD j 0 = ((bN (x.testBit j) : Nat) : Int) := by
  rw [List.getD_eq_getElem?_getD, hasT, List.getElem?_map, List.getElem?_range h]; rfl
/-- How many notches more, and how many letters differ. -/
def notT (x y : Nat) : Nat → Int
  | 0 => 0
  | i + 1 => notT x y i + (((bN (x.testBit i) : Nat) : Int) - ((bN (y.testBit i) : Nat) : Int))
def difT (x y : Nat) : Nat → Nat
  | 0 => 0
  | i + 1 => if bN (x.testBit i) = bN (y.testBit i) then difT x y i else difT x y i + 1
abbrev swT (x y n : Nat) : Tray := ⟨2, hasT x n, hasT y n⟩
/-- The sum over some places. -/
def sumT (x y : Nat) (p : Nat → Bool) : Nat → Int
  | 0 => 0
  | i + 1 => sumT x y p i + if p i = true then ((bN (x.testBit i) : Nat) : Int) - ((bN (y.testBit i) : Nat) : Int) else 0
theorem moreT {x y n : Nat} (p : Nat → Bool) : ∀ i, i ≤ n → (swT x y n).more p i = [-(sumT x y p i), sumT x y p i, 0, 0, 0] := by
  intro i
  induction i with
  | zero => intro _; rfl
  | succ i ih =>
    intro hi
    rw [Tray.more, ih (by omega), sumT]
    show (if p i = true then addAt (addAt _ ((hasT x n).getD i 0) 1) ((hasT y n).getD i 0) (-1) else _) = _
    rw [hasT_get (show i < n by omega), hasT_get (show i < n by omega)]
    generalize sumT x y p i = s
    cases p i with
    | false => simp
    | true =>
      cases x.testBit i <;> cases y.testBit i <;> simp [bN, addAt] <;> omega
theorem even_iff {x y n : Nat} (p : Nat → Bool) : (swT x y n).evenB p = decide (sumT x y p n = 0) := by
  unfold Tray.evenB
  rw [show (swT x y n).has.length = n from hasT_len x n, moreT p n (Nat.le_refl _)]
  refine decide_eq_decide.2 ⟨fun h => ?_, fun h => by rw [h]; rfl⟩
  exact (List.cons.inj (List.cons.inj h).2).1
theorem wrongT_bit (x y n j : Nat) : (swT x y n).wrongS.testBit j = (decide (j < n) && (x.testBit j != y.testBit j)) := by
  unfold Tray.wrongS
  rw [Tray.wrongTo_bit, show (swT x y n).has.length = n from hasT_len x n]
  by_cases h : j < n
  · rw [decide_eq_true h, Bool.true_and, Bool.true_and]
    show (!decide ((hasT x n).getD j 0 = (hasT y n).getD j 0)) = _
    rw [hasT_get h, hasT_get h]
    cases x.testBit j <;> cases y.testBit j <;> decide
  · rw [decide_eq_false h, Bool.false_and, Bool.false_and]
/-- The places of a set below a bound. -/
def bel (s i : Nat) : List Nat := (List.range i).filter s.testBit
theorem bel_succ (s i : Nat) : bel s (i + 1) = bel s i ++ if s.testBit i = true then [i] else [] := by
  unfold bel
  rw [List.range_succ, List.filter_append]
  congr 1
  cases h : s.testBit i <;> simp [h]
theorem bel_16 {s n : Nat} (hn : n ≤ 16) (h : ∀ j, s.testBit j = true → j < n) : bitsOf s = bel s n := by
  have key : ∀ d, bel s (n + d) = bel s n := by
    intro d
    induction d with
    | zero => rfl
    | succ d ih =>
      rw [show n + (d + 1) = (n + d) + 1 from rfl, bel_succ, ih, if_neg (fun e => by have := h _ e; omega), List.append_nil]
  have := key (16 - n)
  rw [show n + (16 - n) = 16 by omega] at this
  exact this
/-- All wrong places. -/
def Wr (x y n s : Nat) : Prop := ∀ j, s.testBit j = true → j < n ∧ x.testBit j ≠ y.testBit j
theorem Wr.drop {x y n s : Nat} (h : Wr x y n s) (i : Nat) : Wr x y n (dropB s i) := by
  intro j hj
  rw [dropB_bit, Bool.and_eq_true] at hj
  exact h j hj.1
theorem sum_count {x y n s : Nat} (h : Wr x y n s) : ∀ i, sumT x y s.testBit i = ((bel s i).countP x.testBit : Int) - ((bel s i).countP (fun j => !x.testBit j) : Int) := by
  intro i
  induction i with
  | zero => rfl
  | succ i ih =>
    rw [sumT, ih, bel_succ, List.countP_append, List.countP_append]
    by_cases hs : s.testBit i = true
    · rw [if_pos hs, if_pos hs]
      have hne := (h i hs).2
      cases hx : x.testBit i <;> cases hy : y.testBit i <;> simp [hx, hy, bN] at hne ⊢ <;> omega
    · rw [if_neg hs, if_neg hs]; simp
theorem bestK_bestM {x y n s : Nat} (hr : ∀ i ∈ bitsOf s, (swT x y n).mostS (dropB s i) = mn x.testBit (bitsOf (dropB s i))) : ∀ k, k ≤ (bitsOf s).length → (swT x y n).bestK s k = bestM x.testBit (bitsOf s) k := by
  intro k
  induction k with
  | zero => intro _; rfl
  | succ k ih =>
    intro hk
    have hm : (bitsOf s).getD k 0 ∈ bitsOf s := by
      rw [List.getD_eq_getElem?_getD, List.getElem?_eq_getElem (show k < (bitsOf s).length by omega)]; exact List.getElem_mem _
    rw [Tray.bestK_succ _ (by omega), ih (by omega), bestM, hr _ hm, bitsOf_drop]
theorem most_mn {x y n : Nat} (hn : n ≤ 10) : ∀ (d s : Nat), s < 2 ^ 16 → (bitsOf s).length = d → Wr x y n s → (swT x y n).mostS s = mn x.testBit (bitsOf s) := by
  intro d
  induction d using Nat.strongRecOn with
  | _ d ih =>
    intro s hs hd hw
    by_cases h0 : s = 0
    · subst h0
      rw [Tray.mostS_zero]
      rfl
    · have hne : bitsOf s ≠ [] := fun e => h0 (bitsOf_zero hs (by rw [e]; rfl))
      have hrec : ∀ i ∈ bitsOf s, (swT x y n).mostS (dropB s i) = mn x.testBit (bitsOf (dropB s i)) := fun i hi => by
        have := bitsOf_drop_len hi
        exact ih _ (by omega) _ (Nat.lt_of_le_of_lt (dropB_le s i) hs) rfl (hw.drop i)
      rw [Tray.mostS_step _ hs h0, bestK_bestM hrec _ (Nat.le_refl _), ← best_all (bitsOf_nodup s) hne]
      congr 1
      rw [even_iff, sum_count hw, bel_16 (by omega) (fun j hj => (hw j hj).1)]
      by_cases he : (bel s n).countP x.testBit = (bel s n).countP (fun j => !x.testBit j)
      · rw [if_pos (decide_eq_true (by omega)), if_pos he]
      · rw [if_neg (by rw [decide_eq_false (by omega)]; decide), if_neg he]
theorem wrong_wr (x y n : Nat) : Wr x y n (swT x y n).wrongS := by
  intro j hj
  rw [wrongT_bit, Bool.and_eq_true, decide_eq_true_iff, bne_iff_ne] at hj
  exact hj
theorem dif_len (x y n : Nat) : ∀ i, i ≤ n → difT x y i = (bel (swT x y n).wrongS i).length := by
  intro i
  induction i with
  | zero => intro _; rfl
  | succ i ih =>
    intro hi
    rw [difT, bel_succ, List.length_append, ih (by omega), wrongT_bit, decide_eq_true (show i < n by omega), Bool.true_and]
    cases x.testBit i <;> cases y.testBit i <;> simp [bN]
theorem only_count (x y n : Nat) : ∀ i, i ≤ n → onlyN (bitsT x n) (bitsT y n) i = (bel (swT x y n).wrongS i).countP x.testBit := by
  intro i
  induction i with
  | zero => intro _; rfl
  | succ i ih =>
    intro hi
    rw [onlyN, bel_succ, List.countP_append, ih (by omega), wrongT_bit, decide_eq_true (show i < n by omega), Bool.true_and, bitsT_get (show i < n by omega), bitsT_get (show i < n by omega)]
    cases hx : x.testBit i <;> cases hy : y.testBit i <;> simp [hx]
theorem only_count' (x y n : Nat) : ∀ i, i ≤ n → onlyN (bitsT y n) (bitsT x n) i = (bel (swT x y n).wrongS i).countP (fun j => !x.testBit j) := by
  intro i
  induction i with
  | zero => intro _; rfl
  | succ i ih =>
    intro hi
    rw [onlyN, bel_succ, List.countP_append, ih (by omega), wrongT_bit, decide_eq_true (show i < n by omega), Bool.true_and, bitsT_get (show i < n by omega), bitsT_get (show i < n by omega)]
    cases hx : x.testBit i <;> cases hy : y.testBit i <;> simp [hx]
/-- What the law says. -/
theorem swapped {x y n : Nat} (h1 : 1 ≤ n) (hn : n ≤ 10) (h0 : notT x y n = 0) : (swT x y n).fewS = ((difT x y n / 2 : Nat) : Int) ∧ ((swT x y n).fewS = 1 → cls (bitsT x n) ≠ cls (bitsT y n)) := by
  have hw := wrong_wr x y n
  have hlt : (swT x y n).wrongS < 2 ^ 16 := Nat.lt_of_lt_of_le (Tray.wrongTo_lt _ _) (Nat.pow_le_pow_right (by decide) (by rw [show (swT x y n).has.length = n from hasT_len x n]; omega))
  have hb := bel_16 (n := n) (by omega) (fun j hj => (hw j hj).1)
  have hs := sum_count hw n
  have hall : sumT x y (swT x y n).wrongS.testBit n = notT x y n := by
    have key : ∀ i, i ≤ n → sumT x y (swT x y n).wrongS.testBit i = notT x y i := by
      intro i
      induction i with
      | zero => intro _; rfl
      | succ i ih =>
        intro hi
        rw [sumT, notT, ih (by omega), wrongT_bit, decide_eq_true (show i < n by omega), Bool.true_and]
        cases x.testBit i <;> cases y.testBit i <;> simp [bN]
    exact key n (Nat.le_refl _)
  rw [hall, h0] at hs
  have hc := countP_all x.testBit (bel (swT x y n).wrongS n)
  have hd := dif_len x y n n (Nat.le_refl _)
  have hf : (swT x y n).fewS = ((bel (swT x y n).wrongS n).countP x.testBit : Int) := by
    unfold Tray.fewS
    rw [most_mn hn _ _ hlt rfl hw, hb]
    unfold mn
    omega
  refine ⟨by rw [hf]; omega, fun h => ?_⟩
  rw [hf] at h
  have o1 := only_count x y n n (Nat.le_refl _)
  have o2 := only_count' x y n n (Nat.le_refl _)
  exact moved_cls (by rw [bitsT_len, bitsT_len]) (by rw [bitsT_len, o1]; omega) (by rw [bitsT_len, o2]; omega)
end Go.Am

namespace Go.Am
/-- A struct of two parts. -/
def EPair {X Y : Type} (s0 : Nat) (E0 : AHeap → List AV → X → Prop) (E1 : AHeap → List AV → Y → Prop) (h : AHeap) (avs : List AV) (p : X × Y) : Prop := E0 h (avs.take s0) p.1 ∧ E1 h (avs.drop s0) p.2
theorem VRels.split {φ : Emb} {a b : List AV} {cs : List Value} {s : Nat} (h1 : VRels φ a (cs.take s)) (h2 : VRels φ b (cs.drop s)) (hs : s ≤ cs.length) : VRels φ (a ++ b) cs ∧ (a ++ b).take s = a ∧ (a ++ b).drop s = b := by
  have ha : a.length = s := by rw [h1.1, List.length_take]; omega
  have h3 := VRels.append h1 h2
  rw [List.take_append_drop] at h3
  exact ⟨h3, by rw [← ha, List.take_left], by rw [← ha, List.drop_left]⟩
theorem IC.pair {H : Type} {enc : TypeId × Value → H} {P : Program} {t : TypeId} {f0 f1 : Field} {s0 s1 : Nat} {X Y : Type} {E0 : AHeap → List AV → X → Prop} {E1 : AHeap → List AV → Y → Prop} (ht : P.underlying t = some (.struct #[f0, f1])) (hc : P.cellsOf t = s0 + s1) (h0 : f0.offset = 0) (h1 : f1.offset = s0) (hc0 : P.cellsOf f0.type = s0) (hc1 : P.cellsOf f1.type = s1) (i0 : IC enc P f0.type E0) (i1 : IC enc P f1.type E1) : IC enc P t (EPair s0 E0 E1) := by
  refine ⟨?_, fun h h' avs x k hE => ⟨i0.mono _ _ _ _ k hE.1, i1.mono _ _ _ _ k hE.2⟩⟩
  intro W φ h im fuel cs y hy
  obtain ⟨xs, m, rfl, rfl, hl, hxl, hx⟩ := DataW.trod_struct ht hy
  rw [hc] at hl
  have hxl : xs.length = 2 := hxl
  have e0 := hx 0 f0 rfl
  have e1 := hx 1 f1 rfl
  rw [h0, hc0, List.drop_zero, List.getElem?_eq_getElem (by omega)] at e0
  rw [h1, hc1, List.take_of_length_le (by rw [List.length_drop]; omega), List.getElem?_eq_getElem (by omega)] at e1
  obtain ⟨φ1, hp1, a, x, im1, le1, k1, hv1, hE1⟩ := i0.imp W φ h im m _ _ e0
  obtain ⟨φ2, hp2, b, z, im2, le2, k2, hv2, hE2⟩ := i1.imp W φ1 hp1 im1 m _ _ e1
  obtain ⟨q1, q2, q3⟩ := VRels.split (hv1.mono le2) hv2 (by omega)
  exact ⟨φ2, hp2, a ++ b, (x, z), im2, Emb.le_trans le1 le2, k1.trans k2, q1, by rw [q2]; exact i0.mono _ _ _ _ k2 hE1, by rw [q3]; exact hE2⟩
/-- A table, as the first package-level variable. -/
theorem Imp.table {W : World} {cs : List AV} (hcell : ∀ (j : Nat) (x : AV), cs[j]? = some x → ∃ v, W.cell? ⟨0, j, none⟩ = some v ∧ ∀ φ, VRel φ x v) (h0 : 0 < W.heap.size) : ∃ φ h, Imp W φ h ∧ h.globs.contains 0 = true ∧ Rd h (.ptr 0 0) 0 cs := by
  obtain ⟨im, _⟩ := (Imp.empty W).push cs (some (0, 0, cs.length)) (by
    intro k i z hq
    cases hq
    refine ⟨h0, fun j x hx => ?_⟩
    obtain ⟨v, h1, h2⟩ := hcell j x hx
    exact ⟨v, by rw [Nat.zero_add]; exact h1, h2 _⟩)
  refine ⟨_, ⟨(h00.push (.cells none 0 cs)).blks, (h00.push (.cells none 0 cs)).fams, [0]⟩, ⟨⟨?_, im.rel.lt, im.rel.blk, im.rel.arr, im.rel.one, im.rel.sep, im.rel.map, im.rel.ext⟩, im.ro, im.out⟩, rfl, .inr (.inl ⟨0, 0, none, 0, cs, .inr ⟨rfl, rfl⟩, rfl, rfl, by rw [List.drop_zero, List.take_length]⟩)⟩
  intro g hg
  have hg : g = 0 := by simpa using hg
  subst hg
  exact ⟨cs.length, rfl⟩
end Go.Am

namespace Go.Am
open Go.ChangeShapes Go.WideShapes
def laidL : List (String × DataW Unit) := [("math/bits.deBruijn32tab", Go.Proofs.YtdfhmdhjeiipfaaDoor.Rows.laid_math_bits_deBruijn32tab), ("math/bits.deBruijn64tab", Go.Proofs.YtdfhmdhjeiipfaaDoor.Rows.laid_math_bits_deBruijn64tab)]
def litI : DataW Unit → Option Int
  | .lit (.int .u8 n) => some n
  | _ => none
def aggL : DataW Unit → List (DataW Unit)
  | .agg l => l
  | _ => []
theorem laid_lits : (aggL Go.Proofs.YtdfhmdhjeiipfaaDoor.Rows.laid_math_bits_deBruijn32tab).map litI = tzL.map fun (v : Nat) => some (v : Int) := by kernel_rfl
theorem laid_lits64 : (aggL Go.Proofs.YtdfhmdhjeiipfaaDoor.Rows.laid_math_bits_deBruijn64tab).map litI = tzL64.map fun (v : Nat) => some (v : Int) := by kernel_rfl
/-- Tables, as the first two package-level variables. -/
theorem Imp.table2 {W : World} {cs ds : List AV} (hcell : ∀ (j : Nat) (x : AV), cs[j]? = some x → ∃ v, W.cell? ⟨0, j, none⟩ = some v ∧ ∀ φ, VRel φ x v) (h0 : 0 < W.heap.size) (hcel1 : ∀ (j : Nat) (x : AV), ds[j]? = some x → ∃ v, W.cell? ⟨1, j, none⟩ = some v ∧ ∀ φ, VRel φ x v) (h1 : 1 < W.heap.size) :
    ∃ φ h, Imp W φ h ∧ (h.globs.contains 0 = true ∧ Rd h (.ptr 0 0) 0 cs) ∧ h.globs.contains 1 = true ∧ Rd h (.ptr 1 0) 0 ds := by
  obtain ⟨im, _⟩ := (Imp.empty W).push cs (some (0, 0, cs.length)) (by
    intro k i z hq
    cases hq
    refine ⟨h0, fun j x hx => ?_⟩
    obtain ⟨v, h1, h2⟩ := hcell j x hx
    exact ⟨v, by rw [Nat.zero_add]; exact h1, h2 _⟩)
  obtain ⟨im2, _⟩ := im.push ds (some (1, 0, ds.length)) (by
    intro k i z hq
    cases hq
    refine ⟨h1, fun j x hx => ?_⟩
    obtain ⟨v, h1, h2⟩ := hcel1 j x hx
    exact ⟨v, by rw [Nat.zero_add]; exact h1, h2 _⟩)
  refine ⟨_, ⟨((h00.push (.cells none 0 cs)).push (.cells none 0 ds)).blks, ((h00.push (.cells none 0 cs)).push (.cells none 0 ds)).fams, [0, 1]⟩, ⟨⟨?_, im2.rel.lt, im2.rel.blk, im2.rel.arr, im2.rel.one, im2.rel.sep, im2.rel.map, im2.rel.ext⟩, im2.ro, im2.out⟩, ⟨rfl, .inr (.inl ⟨0, 0, none, 0, cs, .inr ⟨rfl, rfl⟩, rfl, rfl, by rw [List.drop_zero, List.take_length]⟩)⟩, rfl, .inr (.inl ⟨1, 0, none, 0, ds, .inr ⟨rfl, rfl⟩, rfl, rfl, by rw [List.drop_zero, List.take_length]⟩)⟩
  intro g hg
  have hg : g = 0 ∨ g = 1 := by simpa using hg
  rcases hg with rfl | rfl
  · exact ⟨cs.length, rfl⟩
  · exact ⟨ds.length, rfl⟩
/-- The cells of a laid table. -/
theorem table_cells {W : World} {l : List Nat} {lay : DataW Unit} {g t n : Nat} {nm : String} {cs : Array Value} {f : Nat} {p : List MemPlace}
    (hU : Go.Proofs.Tryd.prog.underlying t = some (.array n 5)) (c2 : Go.Proofs.Tryd.prog.cellsOf t = l.length) (hn : n = l.length) (hlits : (aggL lay).map litI = l.map fun (v : Nat) => some (v : Int)) (hl0 : 0 < l.length)
    (hg0 : Go.Proofs.Tryd.prog.globalNamed nm = some g) (hv0 : W.var? Go.Proofs.Tryd.prog nm = some cs)
    (hd0 : DataW.trod (fun _ => ()) Go.Proofs.Tryd.prog W 0 (fun _ => true) false f t cs.toList = some (lay, p)) :
    (∀ i x, (l.map fun (v : Nat) => AV.int .u8 (v : Int))[i]? = some x → ∃ v, W.cell? ⟨g, i, none⟩ = some v ∧ ∀ φ, VRel φ x v) ∧ g < W.heap.size := by
  obtain ⟨xs, m, rfl, hx1, hl, hxl, hx⟩ := DataW.trod_array hU hd0
  have c1 : Go.Proofs.Tryd.prog.cellsOf 5 = 1 := by kernel_rfl
  rw [c2] at hl
  have hd := (Prod.mk.inj hx1).1
  have hxs : xs.map (fun x => litI x.1) = l.map fun (v : Nat) => some (v : Int) := by
    rw [← hlits, hd]
    show _ = (xs.map (·.1)).map litI
    rw [List.map_map]; rfl
  have key : ∀ i, i < l.length → cs.toList[i]? = some (.int .u8 ((l.getD i 0 : Nat) : Int)) := by
    intro i hi
    have h2 := hx i (by omega)
    rw [c1, Nat.mul_one, List.getElem?_eq_getElem (by omega)] at h2
    obtain ⟨c, h3, h4, _⟩ := DataW.trod_int Go.Proofs.Tryd.underlying5 h2
    have h5 : ((cs.toList.drop i).take 1)[0]? = some (.int .u8 c) := by rw [h3]; rfl
    have h6 : cs.toList[i]? = some (.int .u8 c) := by simpa [List.getElem?_take, List.getElem?_drop] using h5
    have h7 := congrArg (fun l => l[i]?) hxs
    simp only [List.getElem?_map, List.getElem?_eq_getElem (show i < xs.length by omega), List.getElem?_eq_getElem hi, Option.map_some, Option.some.injEq] at h7
    rw [h4] at h7
    have h8 : c = ((l.getD i 0 : Nat) : Int) := by
      rw [List.getD_eq_getElem?_getD, List.getElem?_eq_getElem hi]
      simpa [litI] using h7
    rw [h6, h8]
  have hcell : ∀ i, i < l.length → W.cell? ⟨g, i, none⟩ = some (.int .u8 ((l.getD i 0 : Nat) : Int)) := by
    intro i hi
    rw [World.var?_cell hg0 hv0 i, ← Array.getElem?_toList]
    exact key i hi
  refine ⟨fun i x hx => ?_, ?_⟩
  · have hi : i < l.length := by
      have := (List.getElem?_eq_some_iff.1 hx).1
      rwa [List.length_map] at this
    rw [List.getElem?_map, List.getElem?_eq_getElem hi] at hx
    cases hx
    refine ⟨_, hcell i hi, fun φ => ?_⟩
    rw [List.getD_eq_getElem?_getD, List.getElem?_eq_getElem hi]
    exact .int _ _
  · have h3 := hcell 0 hl0
    unfold World.cell? at h3
    split at h3
    · rename_i hc
      exact (Array.getElem?_eq_some_iff.1 hc).1
    · cases h3
theorem sizes_laid {W : World} (h : laidMetH Go.Proofs.Tryd.prog laidL W) : ∃ φ hp, Imp W φ hp ∧ Tabs hp := by
  rw [MakeChecks.laidMetH_plain _ _ _ (by kernel_rfl)] at h
  obtain ⟨ps, ⟨g0, t0, cs0, f0, p0, q0, hg0, ht0, hv0, hd0, ⟨g1, t1, cs1, f1, p1, q1, hg1, ht1, hv1, hd1, _, _⟩, _⟩, _, _⟩ := h
  obtain rfl := Option.some.inj ((show Go.Proofs.Tryd.prog.globalNamed "math/bits.deBruijn32tab" = some 0 by kernel_rfl).symm.trans hg0)
  obtain rfl := Option.some.inj ((show (Go.Proofs.Tryd.prog.globals[0]?).map (·.type) = some 103 by kernel_rfl).symm.trans ht0)
  obtain rfl := Option.some.inj ((show Go.Proofs.Tryd.prog.globalNamed "math/bits.deBruijn64tab" = some 1 by kernel_rfl).symm.trans hg1)
  obtain rfl := Option.some.inj ((show (Go.Proofs.Tryd.prog.globals[1]?).map (·.type) = some 106 by kernel_rfl).symm.trans ht1)
  obtain ⟨a0, b0⟩ := table_cells Go.Proofs.Tryd.underlying103 (show _ = tzL.length by kernel_rfl) rfl laid_lits (by decide) hg0 hv0 hd0
  obtain ⟨a1, b1⟩ := table_cells Go.Proofs.Tryd.underlying106 (show _ = tzL64.length by kernel_rfl) rfl laid_lits64 (by decide) hg1 hv1 hd1
  obtain ⟨φ, hp, im, h0, h1⟩ := Imp.table2 (cs := tzC) (ds := tzC64) a0 b0 a1 b1
  exact ⟨φ, hp, im, h0, h1⟩
end Go.Am

namespace Go.Am
/-- A part of what is returned: a value without addresses, or a row of such. -/
inductive PV where
  | pl (x : AV)
  | row (s : Nat) (xs : List AV)
def PV.chk (m : Nat) (h1 : AHeap) : PV → AV → Bool
  | .pl x, r => AV.isP 3 r x && x.plain
  | .row s xs, .slc b o n s' _ => decide (m ≤ b) && (decide (s' = s) && (decide (0 < s) && (decide (xs.length = n * s) && (h1.valid b && (xs.all AV.plain && match h1.get b with | some (.cells _ _ cs) => AV.isP 3 (.agg ((cs.drop o).take xs.length)) (.agg xs) | _ => false)))))
  | .row _ xs, .nils => xs.isEmpty
  | _, _ => false
def PV.holds (h : AHeap) : PV → AV → Prop
  | .pl x, r => r = x
  | .row s xs, r => Rd h r s xs
end Go.Am

namespace Go.Am
/-- All packs. -/
def perms : Nat → List Nat → List (List Nat)
  | 0, _ => [[]]
  | k + 1, l => (List.range l.length).flatMap fun i => (perms k (l.eraseIdx i)).map (l.getD i 0 :: ·)
def packs (n : Nat) : List (List Nat) := perms n (List.range n)
def natI (l : List Nat) : List AV := ints (nI l)
/-- The comparators of neighbours that sort. -/
def bubL (n : Nat) : List Nat := (List.range (n - 1)).flatMap fun j => List.range (n - 1 - j)
def pairL (l : List Nat) : List AV := l.flatMap fun (a : Nat) => [.int .i64 (a : Int), .int .i64 ((a + 1 : Nat) : Int)]
/-- A comparator of neighbours. -/
def passP (a : Nat) (p : List Nat) : List Nat := (p.set a (min (p.getD a 0) (p.getD (a + 1) 0))).set (a + 1) (max (p.getD a 0) (p.getD (a + 1) 0))
/-- The pack, and the comparators that have done something. -/
def bubS (s : List Nat × List Nat) (a : Nat) : List Nat × List Nat := (passP a s.1, if passP a s.1 = s.1 then s.2 else s.2 ++ [a])
def bubP (n j : Nat) (p : List Nat) : List Nat × List Nat := ((bubL n).take j).foldl bubS (p, [])
def bubE (n : Nat) (p : List Nat) : List Nat × List Nat := (bubL n).foldl bubS (p, [])
noncomputable def okNear (n : Nat) : Bool := (packs n).all fun p => runsG Go.Proofs.Tryd.prog 4000 12 [.agg [.int .i64 (n : Int), .slc 0 0 n 1 false, .slc 1 0 n 1 false]] [natI p, natI (List.range n)] [] (fun r _ => AV.isP 3 r (.tup [.int .i64 ((bubE n p).2.length : Int), .int .i64 0]))
theorem run_near1 : okNear 1 = true := by kernel_rfl
theorem run_near2 : okNear 2 = true := by kernel_rfl
theorem run_near3 : okNear 3 = true := by kernel_rfl
theorem run_near4 : okNear 4 = true := by kernel_rfl
noncomputable def okMend (n : Nat) (p : List Nat) : Bool := match (bubE n p).2 with
  | [] => runsG Go.Proofs.Tryd.prog 4000 13 [.agg [.int .i64 (n : Int), .slc 0 0 n 1 false, .slc 1 0 n 1 false], .nils] [natI p, natI (List.range n)] [] (fun r _ => AV.isP 3 r (.int .i64 0))
  | d => runsG Go.Proofs.Tryd.prog 4000 13 [.agg [.int .i64 (n : Int), .slc 0 0 n 1 false, .slc 1 0 n 1 false], .slc 2 0 d.length 2 false] [natI p, natI (List.range n), pairL d] [] (fun r _ => AV.isP 3 r (.int .i64 0))
noncomputable def okMends (n : Nat) : Bool := (packs n).all (okMend n)
theorem run_mends1 : okMends 1 = true := by kernel_rfl
theorem run_mends2 : okMends 2 = true := by kernel_rfl
theorem run_mends3 : okMends 3 = true := by kernel_rfl
end Go.Am
