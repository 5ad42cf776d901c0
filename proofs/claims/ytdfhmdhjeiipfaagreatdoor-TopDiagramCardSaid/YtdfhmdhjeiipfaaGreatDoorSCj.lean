/-
  Tops: contracts: into how many rings sets of places can be divided, and the fewest exchanges.
  Conditions: none.
-/
import Derived.Test.YtdfhmdhjeiipfaaGreatDoorCvb
namespace Go.Am
abbrev mtA (m : Nat) : AV := .int .i64 (m : Int)
/-- What is known of sets. -/
def OkM (t : Tray) (L : List (Int × Nat)) : Prop := mget L 0 = some 0 ∧ ∀ (s v : Nat), s < 1024 → mget L (s : Int) = some v → v = t.mostS s
theorem OkM.init (t : Tray) : OkM t [(0, 0)] := by
  refine ⟨rfl, ?_⟩
  intro s v _ h
  simp only [mget] at h
  split at h
  · rename_i e
    cases h
    have : s = 0 := by omega
    rw [this, t.mostS_zero]
  · cases h
theorem OkM.put {t : Tray} {L : List (Int × Nat)} (h : OkM t L) (s : Nat) (hs : s ≠ 0) : OkM t (mput L (s : Int) (t.mostS s)) := by
  refine ⟨by rw [mget_mput, if_neg (by omega)]; exact h.1, ?_⟩
  intro c v hc hv
  rw [mget_mput] at hv
  split at hv
  · rename_i e
    cases hv
    rw [Int.ofNat_inj.1 e]
  · exact h.2 c v hc hv
theorem Tray.wrongS_lt {t : Tray} (ht : t.Ok) : t.wrongS < 1024 := Nat.lt_of_lt_of_le (t.wrongTo_lt _) (Nat.pow_le_pow_right (n := 2) (by decide) ht.n.2)
theorem nI_get (l : List Nat) (i : Nat) : (nI l).getD i 0 = ((l.getD i 0 : Nat) : Int) := by
  rw [List.getD_eq_getElem?_getD, List.getD_eq_getElem?_getD, List.getElem?_map]
  cases l[i]? <;> rfl
theorem getD_mem {l : List Nat} {i : Nat} (h : i < l.length) : l.getD i 0 ∈ l := by
  rw [List.getD_eq_getElem?_getD, List.getElem?_eq_getElem h]; exact List.getElem_mem _

theorem opened_c {h : AHeap} {t : Tray} {vH vW : AV} (ht : t.Ok) (hH : Row h vH t.has) (hW : Row h vW t.wants) : ACalls Go.Proofs.Tryz.prog 148 [.agg [.int .i64 (t.k : Int), vH, vW]] h (fun q h' => ∃ vm, IsMp vm ∧ AddrOf q q 0 0 ∧ St h h' [⟨q, 0, [.int .i64 (t.k : Int), vH, vW, vm], true⟩, mapO vm (entL (AV.int .u16) mtA [(0, 0)])]) := by
  refine KA.fn 8 [.tmp 2] Go.Proofs.Tryz.func148 rfl (by decide) rfl rfl (Nat.le_of_ble_eq_true rfl) ?_
  have hS := St.refl h
  have hvh : vH.one = true := Rd.one hH
  have hvw : vW.one = true := Rd.one hW

  show KA _ 8 _ _ [(0, .agg [.int .i64 (t.k : Int), vH, vW])] _
  refine KA.seq ?_
  refine KA.region rfl ?_
  refine KOps.boxAll hS (by show (true && (vH.one && (vW.one && true))) = true; rw [hvh, hvw]; rfl) ?_
  intro p1 h' hp1 hS
  refine KOps.assign ?_
  refine KOps.done ?_
  refine sqQ.normal ?_
  refine KA.sub (Sub.cons (t := 1) Look.eq (Sub.nil _)) ?_
  refine KA.seq ?_
  refine KA.region rfl ?_
  refine KOps.loadAll hS (i := 0) rfl hp1 (by rfl) (by decide) ?_
  refine KOps.makeMap hS rfl ?_
  intro v4 h' hv4 hS
  have hv4o : v4.one = true := by obtain ⟨_, rfl⟩ := hv4; rfl
  refine KOps.insertK (kf := AV.int .u16) (vf := mtA) (l := []) (i := 0) (b := 0) EvK.eq rfl hS hv4 rfl rfl ?_
  intro h' hS
  simp only [List.set_cons_zero, List.set_cons_succ, Nat.zero_add] at hS
  refine KOps.move ?_
  refine KOps.buildG (zs := [.int .i64 0, .nils, .nils, .nilm]) (cs := [_, _, _, _]) (by kernel_rfl) (by rfl) (by kernel_rfl) (.cons (off := 0) (s := 3) (by kernel_rfl) (cells_agg (by show (true && (vH.one && (vW.one && true))) = true; rw [hvh, hvw]; rfl)) rfl (by decide) (.cons (off := 3) (s := 1) (by kernel_rfl) (AV.cells_one (by first | rfl | assumption)) rfl (by decide) .nil)) (by rfl) ?_
  refine KOps.boxAll hS (by show (true && (vH.one && (vW.one && (v4.one && true)))) = true; rw [hvh, hvw, hv4o]; rfl) ?_
  intro p7 h' hp7 hS
  refine KOps.assign ?_
  refine KOps.done ?_
  refine sqQ.normal ?_
  refine KA.sub (Sub.cons (t := 2) Look.eq (Sub.nil _)) ?_
  refine KA.ret ?_
  refine fnQ.ret1 ?_
  exact ⟨v4, hv4, hp7, St.pick [0, 1] (by decide) rfl hS⟩

theorem most_c {h0 : AHeap} {t : Tray} {vH vW pl vm : AV} (ht : t.Ok) (hH : Row h0 vH t.has) (hW : Row h0 vW t.wants) (hTab : Tab h0) (hpl : AddrOf pl pl 0 0) (hvm : IsMp vm) (d : Nat) : ∀ {h : AHeap} {s : Nat} {L : List (Int × Nat)} {G : List Obj}, s < 1024 → (bitsOf s).length = d → OkM t L → St h0 h (⟨pl, 0, [.int .i64 (t.k : Int), vH, vW, vm], true⟩ :: mapO vm (entL (AV.int .u16) mtA L) :: G) →
    ACalls Go.Proofs.Tryz.prog 149 [pl, .int .u16 (s : Int)] h (fun q h' => ∃ L', OkM t L' ∧ q = mtA (t.mostS s) ∧ St h0 h' (⟨pl, 0, [.int .i64 (t.k : Int), vH, vW, vm], true⟩ :: mapO vm (entL (AV.int .u16) mtA L') :: G)) := by
  induction d using Nat.strongRecOn
  rename_i d ih
  intro h s L G hs hd hL hS
  refine KA.fn 52 [.tmp 4] Go.Proofs.Tryz.func149 rfl (by decide) rfl rfl (Nat.le_of_ble_eq_true rfl) ?_
  have hvmo : vm.one = true := by obtain ⟨_, rfl⟩ := hvm; rfl
  have hbl := bitsOf_len s
  have hlen : (nI (bitsOf s)).length = (bitsOf s).length := List.length_map _
  show KA _ 52 _ _ [(0, pl), (1, .int .u16 (s : Int))] _
  refine KA.seq ?_
  refine KA.region rfl ?_
  refine KOps.assign ?_
  refine KOps.done ?_
  refine sqQ.normal ?_
  refine KA.sub (Sub.cons (t := 0) Look.eq (Sub.cons (t := 1) Look.eq (Sub.nil _))) ?_
  refine KA.seq ?_
  refine KA.seq ?_
  refine KA.region rfl ?_
  refine KOps.move ?_
  refine KOps.nilP hpl ?_
  refine KOps.fieldAddr hpl ?_
  intro p13 hp13
  refine KOps.load hp13 (hS.rd 0 rfl) rfl ?_
  refine KOps.move ?_
  refine KOps.lookupD2 (kf := AV.int .u16) (vf := mtA) (w := 0) EvK.eq (St.rdM hS 1 rfl hvm) rfl rfl ?_
  refine KOps.move ?_
  refine KOps.extract ?_
  refine KOps.extract ?_
  refine KOps.assign ?_
  refine KOps.assign ?_
  refine KOps.done ?_
  refine sqQ.normal ?_
  refine KA.sub (Sub.cons (t := 0) Look.eq (Sub.cons (t := 1) Look.eq (Sub.cons (t := 5) Look.eq (Sub.cons (t := 6) Look.eq (Sub.nil _))))) ?_
  refine KA.seq ?_
  refine KA.region rfl ?_
  refine KOps.move ?_
  refine KOps.done ?_
  refine sqQ.normal ?_
  refine KA.sub (Sub.cons (t := 0) Look.eq (Sub.cons (t := 1) Look.eq (Sub.cons (t := 5) Look.eq (Sub.cons (t := 19) Look.eq (Sub.nil _))))) ?_
  refine KA.condB ?_ ?_
  · intro c19
    refine KA.seq ?_
    refine KA.region rfl ?_
    refine KOps.move ?_
    refine KOps.assign ?_
    refine KOps.done ?_
    refine sqQ.normal ?_
    refine KA.sub (Sub.cons (t := 4) Look.eq (Sub.nil _)) ?_
    refine KA.ret ?_
    refine sqQ.ret ?_
    refine fnQ.ret1 ?_
    obtain ⟨v, hv⟩ := Option.isSome_iff_exists.1 c19
    rw [hv]
    exact ⟨L, hL, by rw [Option.getD_some, hL.2 s v hs hv], hS⟩
  · intro c19
    have hs0 : s ≠ 0 := fun e => by rw [e] at c19; have := hL.1; rw [show ((0 : Nat) : Int) = 0 from rfl, this] at c19; cases c19
    refine KA.skip ?_
    refine sqQ.normal ?_
    refine KA.sub (Sub.cons (t := 0) Look.eq (Sub.cons (t := 1) Look.eq (Sub.nil _))) ?_
    refine KA.seq ?_
    refine KA.region rfl ?_
    refine KOps.assign ?_
    refine KOps.done ?_
    refine sqQ.normal ?_
    refine KA.seq ?_
    refine KA.seq ?_
    refine KA.region rfl ?_
    refine KOps.move ?_
    refine KOps.call rfl (setList_c (hTab.ext hS.keeps) hs) ?_
    rintro v22 h22 hS22
    have hS0 : St _ _ (_ :: _) := St.trans hS hS22
    clear hS
    have hS := hS0
    clear hS0
    refine KOps.lenI (hS.rd 0 rfl) ?_
    refine KOps.move ?_
    refine KOps.done ?_
    refine sqQ.normal ?_
    refine KA.sub (Sub.cons (t := 0) Look.eq (Sub.cons (t := 1) Look.eq (Sub.cons (t := 7) Look.eq (Sub.cons (t := 22) Look.eq (Sub.cons (t := 23) Look.eq (Sub.cons (t := 24) Look.eq (Sub.nil _))))))) ?_
    refine KA.block ?_
    refine KA.loop (X := Nat × List (Int × Nat)) (fun x => [(0, pl), (1, .int .u16 (s : Int)), (7, .int .i64 (t.bestK s x.1 : Int)), (22, v22), (23, .int .i64 ((nI (bitsOf s)).length : Int)), (24, .int .i64 (x.1 : Int))]) (fun x h' => x.1 ≤ (bitsOf s).length ∧ OkM t x.2 ∧ St h0 h' (⟨v22, 1, ints (nI (bitsOf s)), true⟩ :: ⟨pl, 0, [.int .i64 (t.k : Int), vH, vW, vm], true⟩ :: mapO vm (entL (AV.int .u16) mtA x.2) :: G)) (fun x => (bitsOf s).length - x.1) (0, L) (by repeat (first | exact Sub.nil _ | refine Sub.cons Look.eq ?_ | refine Sub.cons (Eq.trans Look.eq (congrArg (AV.int _) (by first | omega | (dsimp only; omega)))) ?_)) ?_ ?_
    · exact ⟨Nat.zero_le _, hL, hS⟩
    rintro ⟨i, L⟩ h2 ⟨hi, hL, hS⟩
    dsimp only at hi hL hS ⊢
    have hbk := t.bestK_le s i
    refine KA.seq ?_
    refine KA.region rfl ?_
    refine KOps.lss ?_
    refine KOps.done ?_
    refine sqQ.normal ?_
    refine KA.seq ?_
    refine KA.condD ?_ ?_
    · intro c25
      have hil : i < (bitsOf s).length := by omega
      have hb10 := bits1024 s hs _ (getD_mem hil)
      have hdl := bitsOf_drop_len (getD_mem hil)
      refine KA.skip ?_
      refine sqQ.normal ?_
      refine KA.sub (Sub.cons (t := 0) Look.eq (Sub.cons (t := 1) Look.eq (Sub.cons (t := 7) Look.eq (Sub.cons (t := 22) Look.eq (Sub.cons (t := 23) Look.eq (Sub.cons (t := 24) Look.eq (Sub.nil _))))))) ?_
      refine KA.seq ?_
      refine KA.block ?_
      refine KA.seq ?_
      refine KA.region rfl ?_
      refine KOps.indexIJ (hS.rd 0 rfl) (j := i) rfl (by first | omega | (simp; done) | (simp; omega)) ?_
      intro p26 hp26
      refine KOps.loadI hp26 (hS.rd 0 rfl) (by first | omega | (simp; done) | (simp; omega)) ?_
      rw [nI_get]
      refine KOps.assign ?_
      refine KOps.done ?_
      refine sqQ.normal ?_
      refine KA.sub (Sub.cons (t := 0) Look.eq (Sub.cons (t := 1) Look.eq (Sub.cons (t := 7) Look.eq (Sub.cons (t := 9) Look.eq (Sub.cons (t := 22) Look.eq (Sub.cons (t := 23) Look.eq (Sub.cons (t := 24) Look.eq (Sub.nil _)))))))) ?_
      refine KA.region rfl ?_
      refine KOps.move ?_
      refine KOps.move ?_
      refine KOps.move ?_
      refine KOps.move ?_
      refine KOps.shlN (1) ((bitsOf s).getD i 0) rfl rfl (by show _ ≤ 16; omega) (by rw [Nat.one_shiftLeft]; exact Nat.lt_of_lt_of_le (Nat.pow_lt_pow_right (by decide) hb10) (by decide)) ?_
      rw [Nat.one_shiftLeft]
      refine KOps.andNotN (s) (2 ^ (bitsOf s).getD i 0) rfl rfl (by show s < 65536; omega) (Nat.lt_of_lt_of_le (Nat.pow_lt_pow_right (by decide) hb10) (by decide)) ?_
      refine KOps.call rfl (ih (bitsOf (dropB s ((bitsOf s).getD i 0))).length (by omega) (s := dropB s ((bitsOf s).getD i 0)) (by have := dropB_le s ((bitsOf s).getD i 0); omega) rfl hL (St.pickF (A := [_, _, _]) (A' := [_, _, _]) 3 [1, 2, 0] rfl (by decide) (by decide) rfl hS)) ?_
      rintro _ h9 ⟨L2, hL2, rfl, hS9⟩
      have hS0 := St.pickF (A := [_, _, _]) (A' := [_, _, _]) 3 [2, 0, 1] rfl (by decide) (by decide) rfl hS9
      clear hS
      have hS := hS0
      clear hS0
      simp only [List.cons_append, List.nil_append] at hS
      refine KOps.max ?_
      refine KOps.assign ?_
      refine KOps.done ?_
      refine blQ.normal ?_
      refine sqQ.normal ?_
      refine KA.sub (Sub.cons (t := 0) Look.eq (Sub.cons (t := 1) Look.eq (Sub.cons (t := 7) Look.eq (Sub.cons (t := 22) Look.eq (Sub.cons (t := 23) Look.eq (Sub.cons (t := 24) Look.eq (Sub.nil _))))))) ?_
      refine KA.region rfl ?_
      refine KOps.add (by first | omega | (simp; omega)) (by first | omega | (simp; omega)) ?_
      refine KOps.move ?_
      refine KOps.done ?_
      exact lpQ.normal (i + 1, L2) (by repeat (first | exact Sub.nil _ | refine Sub.cons Look.eq ?_ | refine Sub.cons (Eq.trans Look.eq (congrArg (AV.int _) (by first | omega | (dsimp only; omega)))) ?_ | refine Sub.cons (Eq.trans Look.eq (congrArg (AV.int _) (by dsimp only; rw [t.bestK_succ hil]; omega))) ?_)) ⟨hil, hL2, hS⟩ (by dsimp only; omega)
    · intro c25
      obtain rfl : i = (bitsOf s).length := by omega
      have hst := t.mostS_step (Nat.lt_trans hs (by decide)) hs0
      have hmt : t.evenB s.testBit = true → ((t.bestK s (bitsOf s).length : Nat) : Int) + 1 = ((t.mostS s : Nat) : Int) := fun q => by rw [hst, if_pos q]; omega
      have hmf : t.evenB s.testBit = false → ((t.bestK s (bitsOf s).length : Nat) : Int) = ((t.mostS s : Nat) : Int) := fun q => by rw [hst, if_neg (by rw [q]; decide)]; omega
      refine KA.exit ?_
      refine sqQ.exit ?_
      refine lpQ.exit ?_
      refine blQ.here ?_
      refine sqQ.normal ?_
      refine KA.sub (Sub.cons (t := 0) Look.eq (Sub.cons (t := 1) Look.eq (Sub.cons (t := 7) Look.eq (Sub.nil _)))) ?_
      refine KA.seq ?_
      refine KA.seq ?_
      refine KA.region rfl ?_
      refine KOps.move ?_
      refine KOps.nilP hpl ?_
      refine KOps.fieldAddr hpl ?_
      intro p39 hp39
      refine KOps.loadPart (z := 3) (ys := [_, _, _]) hp39 (hS.rd 1 rfl) (by decide) (by simp) rfl ?_
      refine KOps.move ?_
      refine KOps.call rfl (even_c ht (Row.ext hS.keeps hH) (Row.ext hS.keeps hW) hs) ?_
      rintro _ hx ⟨rfl, hK⟩
      have hS0 : St _ _ _ := St.trans hS (St.ofK hK)
      clear hS
      have hS := hS0
      clear hS0
      simp only [List.nil_append] at hS
      refine KOps.done ?_
      refine sqQ.normal ?_
      refine KA.sub (Sub.cons (t := 0) Look.eq (Sub.cons (t := 1) Look.eq (Sub.cons (t := 7) Look.eq (Sub.cons (t := 42) Look.eq (Sub.nil _))))) ?_
      refine KA.condB ?_ ?_
      · intro c42
        refine KA.region rfl ?_
        refine KOps.move ?_
        refine KOps.add (by first | omega | (simp; omega)) (by first | omega | (simp; omega)) ?_
        rw [hmt c42]
        refine KOps.assign ?_
        refine KOps.done ?_
        refine sqQ.normal ?_
        refine KA.sub (Sub.cons (t := 0) Look.eq (Sub.cons (t := 1) Look.eq (Sub.cons (t := 7) Look.eq (Sub.nil _)))) ?_
        refine KA.seq ?_
        refine KA.region rfl ?_
        refine KOps.move ?_
        refine KOps.nilP hpl ?_
        refine KOps.fieldAddr hpl ?_
        intro p47 hp47
        refine KOps.load hp47 (hS.rd 1 rfl) rfl ?_
        refine KOps.move ?_
        refine KOps.move ?_
        refine KOps.mapPutK (kf := AV.int .u16) (vf := mtA) (i := 2) (b := t.mostS s) EvK.eq rfl hS hvm rfl rfl ?_
        intro h' hS
        simp only [List.set_cons_zero, List.set_cons_succ, Nat.zero_add] at hS
        refine KOps.done ?_
        refine sqQ.normal ?_
        refine KA.sub (Sub.cons (t := 7) Look.eq (Sub.nil _)) ?_
        refine KA.seq ?_
        refine KA.region rfl ?_
        refine KOps.move ?_
        refine KOps.assign ?_
        refine KOps.done ?_
        refine sqQ.normal ?_
        refine KA.sub (Sub.cons (t := 4) Look.eq (Sub.nil _)) ?_
        refine KA.ret ?_
        refine fnQ.ret1 ?_
        exact ⟨_, hL.put s hs0, rfl, St.drop (A := [_]) hS⟩
      · intro c42
        rw [hmf c42]
        refine KA.skip ?_
        refine sqQ.normal ?_
        refine KA.sub (Sub.cons (t := 0) Look.eq (Sub.cons (t := 1) Look.eq (Sub.cons (t := 7) Look.eq (Sub.nil _)))) ?_
        refine KA.seq ?_
        refine KA.region rfl ?_
        refine KOps.move ?_
        refine KOps.nilP hpl ?_
        refine KOps.fieldAddr hpl ?_
        intro p47 hp47
        refine KOps.load hp47 (hS.rd 1 rfl) rfl ?_
        refine KOps.move ?_
        refine KOps.move ?_
        refine KOps.mapPutK (kf := AV.int .u16) (vf := mtA) (i := 2) (b := t.mostS s) EvK.eq rfl hS hvm rfl rfl ?_
        intro h' hS
        simp only [List.set_cons_zero, List.set_cons_succ, Nat.zero_add] at hS
        refine KOps.done ?_
        refine sqQ.normal ?_
        refine KA.sub (Sub.cons (t := 7) Look.eq (Sub.nil _)) ?_
        refine KA.seq ?_
        refine KA.region rfl ?_
        refine KOps.move ?_
        refine KOps.assign ?_
        refine KOps.done ?_
        refine sqQ.normal ?_
        refine KA.sub (Sub.cons (t := 4) Look.eq (Sub.nil _)) ?_
        refine KA.ret ?_
        refine fnQ.ret1 ?_
        exact ⟨_, hL.put s hs0, rfl, St.drop (A := [_]) hS⟩

theorem fewestM_c {h : AHeap} {t : Tray} {vH vW : AV} (ht : t.Ok) (hH : Row h vH t.has) (hW : Row h vW t.wants) (hTab : Tab h) : ACalls Go.Proofs.Tryz.prog 102 [.agg [.int .i64 (t.k : Int), vH, vW]] h (fun q h' => q = .int .i64 t.fewS ∧ Keeps h h') := by
  refine KA.fn 13 [.tmp 2] Go.Proofs.Tryz.func102 rfl (by decide) rfl rfl (Nat.le_of_ble_eq_true rfl) ?_
  have hS := St.refl h
  have hws := Tray.wrongS_lt ht
  have hbl := bitsOf_len t.wrongS
  have hms := t.mostS_le t.wrongS
  have hvh : vH.one = true := Rd.one hH
  have hvw : vW.one = true := Rd.one hW

  show KA _ 13 _ _ [(0, .agg [.int .i64 (t.k : Int), vH, vW])] _
  refine KA.seq ?_
  refine KA.region rfl ?_
  refine KOps.boxAll hS (by show (true && (vH.one && (vW.one && true))) = true; rw [hvh, hvw]; rfl) ?_
  intro p1 h' hp1 hS
  refine KOps.assign ?_
  refine KOps.done ?_
  refine sqQ.normal ?_
  refine KA.sub (Sub.cons (t := 1) Look.eq (Sub.nil _)) ?_
  refine KA.seq ?_
  refine KA.region rfl ?_
  refine KOps.loadAll hS (i := 0) rfl hp1 (by rfl) (by decide) ?_
  refine KOps.call rfl (wrong_c ht (Row.ext hS.keeps hH) (Row.ext hS.keeps hW)) ?_
  rintro _ hx ⟨rfl, hK⟩
  have hS0 : St _ _ _ := St.trans hS (St.ofK hK)
  clear hS
  have hS := hS0
  clear hS0
  simp only [List.nil_append] at hS
  refine KOps.assign ?_
  refine KOps.done ?_
  refine sqQ.normal ?_
  refine KA.sub (Sub.cons (t := 1) Look.eq (Sub.cons (t := 3) Look.eq (Sub.nil _))) ?_
  refine KA.seq ?_
  refine KA.draw [1] mixed rfl (by kernel_rfl) ?_
  refine KOps.move ?_
  refine KOps.callK (by rintro _ _ ⟨_, rfl⟩; exact Keeps.refl _) (ones16_c hws) ?_
  rintro _ _ ⟨rfl, rfl⟩
  refine KOps.loadAll hS (i := 0) rfl hp1 (by rfl) (by decide) ?_
  refine KOps.call rfl (opened_c ht (Row.ext hS.keeps hH) (Row.ext hS.keeps hW)) ?_
  rintro pl h9 ⟨vm, hvm, hpl, hS9⟩
  have hS0 : St _ _ (_ :: _ :: _) := St.trans hS hS9
  clear hS
  have hS := hS0
  clear hS0
  refine KOps.move ?_
  refine KOps.call rfl (most_c ht hH hW hTab hpl hvm _ hws rfl (OkM.init t) hS) ?_
  rintro _ h8 ⟨L2, hL2, rfl, hS8⟩
  have hS0 := hS8
  clear hS
  have hS := hS0
  clear hS0
  refine KOps.sub (by first | omega | (simp; omega)) (by first | omega | (simp; omega)) ?_
  refine KOps.assign ?_
  refine KOps.done ?_
  refine sqQ.normal ?_
  refine KA.sub (Sub.cons (t := 2) Look.eq (Sub.nil _)) ?_
  refine KA.ret ?_
  refine fnQ.ret1 ?_
  exact ⟨rfl, hS.keeps⟩

theorem fewestP_c {h : AHeap} {t : Tray} {vH vW : AV} (ht : t.Ok) (hH : Row h vH t.has) (hW : Row h vW t.wants) (hTab : Tab h) : ACalls Go.Proofs.Tryz.prog 68 [.agg [.int .i64 (t.k : Int), vH, vW]] h (fun q h' => q = .tup [.int .i64 (if t.chk = 0 then t.fewS else 0), .int .i64 t.chk] ∧ Keeps h h') := by
  refine KA.fn 12 [.tmp 2, .tmp 3] Go.Proofs.Tryz.func68 rfl (by decide) rfl rfl (Nat.le_of_ble_eq_true rfl) ?_
  have hS := St.refl h
  have hvh : vH.one = true := Rd.one hH
  have hvw : vW.one = true := Rd.one hW

  show KA _ 12 _ _ [(0, .agg [.int .i64 (t.k : Int), vH, vW])] _
  refine KA.seq ?_
  refine KA.region rfl ?_
  refine KOps.boxAll hS (by show (true && (vH.one && (vW.one && true))) = true; rw [hvh, hvw]; rfl) ?_
  intro p1 h' hp1 hS
  refine KOps.assign ?_
  refine KOps.assign ?_
  refine KOps.done ?_
  refine sqQ.normal ?_
  refine KA.sub (Sub.cons (t := 1) Look.eq (Sub.nil _)) ?_
  refine KA.seq ?_
  refine KA.seq ?_
  refine KA.region rfl ?_
  refine KOps.loadAll hS (i := 0) rfl hp1 (by rfl) (by decide) ?_
  refine KOps.call rfl (mdCheck_c ht (Row.ext hS.keeps hH) (Row.ext hS.keeps hW)) ?_
  rintro _ hx ⟨rfl, hK⟩
  have hS0 : St _ _ _ := St.trans hS (St.ofK hK)
  clear hS
  have hS := hS0
  clear hS0
  simp only [List.nil_append] at hS
  refine KOps.assign ?_
  refine KOps.done ?_
  refine sqQ.normal ?_
  refine KA.sub (Sub.cons (t := 1) Look.eq (Sub.cons (t := 4) Look.eq (Sub.nil _))) ?_
  refine KA.seq ?_
  refine KA.region rfl ?_
  refine KOps.move ?_
  refine KOps.neq ?_
  refine KOps.done ?_
  refine sqQ.normal ?_
  refine KA.sub (Sub.cons (t := 1) Look.eq (Sub.cons (t := 4) Look.eq (Sub.cons (t := 8) Look.eq (Sub.nil _)))) ?_
  refine KA.condN ?_ ?_
  · intro c8
    refine KA.seq ?_
    refine KA.region rfl ?_
    refine KOps.move ?_
    refine KOps.assign ?_
    refine KOps.assign ?_
    refine KOps.done ?_
    refine sqQ.normal ?_
    refine KA.sub (Sub.cons (t := 2) Look.eq (Sub.cons (t := 3) Look.eq (Sub.nil _))) ?_
    refine KA.ret ?_
    refine sqQ.ret ?_
    refine fnQ.retN ?_
    rw [if_neg c8]
    exact ⟨rfl, hS.keeps⟩
  · intro c8
    refine KA.skip ?_
    refine sqQ.normal ?_
    refine KA.sub (Sub.cons (t := 1) Look.eq (Sub.nil _)) ?_
    refine KA.seq ?_
    refine KA.region rfl ?_
    refine KOps.loadAll hS (i := 0) rfl hp1 (by rfl) (by decide) ?_
    refine KOps.call rfl (fewestM_c ht (Row.ext hS.keeps hH) (Row.ext hS.keeps hW) (hTab.ext hS.keeps)) ?_
    rintro _ hx ⟨rfl, hK⟩
    have hS0 : St _ _ _ := St.trans hS (St.ofK hK)
    clear hS
    have hS := hS0
    clear hS0
    simp only [List.nil_append] at hS
    refine KOps.assign ?_
    refine KOps.assign ?_
    refine KOps.done ?_
    refine sqQ.normal ?_
    refine KA.sub (Sub.cons (t := 2) Look.eq (Sub.cons (t := 3) Look.eq (Sub.nil _))) ?_
    refine KA.ret ?_
    refine fnQ.retN ?_
    have c8 : t.chk = 0 := by omega
    rw [if_pos c8, c8]
    exact ⟨rfl, hS.keeps⟩

end Go.Am


namespace Go.Am
/-- A way: from, to, least, most. -/
structure W where
  f : Int
  t : Int
  l : Int
  m : Int
  deriving DecidableEq, Inhabited
abbrev wc (w : W) : List AV := [.int .i64 w.f, .int .i64 w.t, .int .i64 w.l, .int .i64 w.m]
theorem wc_len (w : W) : (wc w).length = 4 := rfl
/-- The error of a way, or 0. -/
def wayE (r : Int) (w : W) : Int :=
  if ¬ (0 ≤ w.f ∧ w.f < r ∧ 0 ≤ w.t ∧ w.t < r) then 2 else if w.f = w.t then 13 else if ¬ (0 ≤ w.l ∧ w.l ≤ w.m ∧ w.m ≤ 99) then 1 else 0
def waysE (r : Int) (ws : List W) : Nat → Int
  | 0 => 0
  | i + 1 => if waysE r ws i = 0 then wayE r (ws.getD i default) else waysE r ws i
/-- The error of books. -/
def chkB (r : Int) (ws : List W) : Int := if ¬ (2 ≤ r ∧ r ≤ 6) then 1 else if 12 < ws.length then 3 else waysE r ws ws.length
theorem waysE_zero {r : Int} {ws : List W} : ∀ {n i : Nat}, i ≤ n → waysE r ws n = 0 → waysE r ws i = 0 := by
  intro n
  induction n with
  | zero => intro i hi h; obtain rfl : i = 0 := by omega
            exact h
  | succ n ih =>
    intro i hi h
    have h1 : waysE r ws n = 0 := by
      rw [waysE] at h
      by_cases h2 : waysE r ws n = 0
      · exact h2
      · rw [if_neg h2] at h; exact h
    rcases Nat.lt_or_eq_of_le hi with h3 | rfl
    · exact ih (by omega) h1
    · exact h
theorem waysE_stop {r : Int} {ws : List W} {i : Nat} (h0 : waysE r ws i = 0) (he : wayE r (ws.getD i default) ≠ 0) : ∀ {n : Nat}, i < n → waysE r ws n = wayE r (ws.getD i default) := by
  intro n
  induction n with
  | zero => intro h; omega
  | succ n ih =>
    intro h
    rcases Nat.lt_succ_iff_lt_or_eq.1 h with h1 | rfl
    · rw [waysE, ih h1, if_neg he]
    · rw [waysE, if_pos h0]
theorem waysE_all {r : Int} {ws : List W} {n : Nat} (h : waysE r ws n = 0) {i : Nat} (hi : i < n) : wayE r (ws.getD i default) = 0 := by
  have h1 := waysE_zero (show i ≤ n by omega) h
  by_cases h2 : wayE r (ws.getD i default) = 0
  · exact h2
  · rw [waysE_stop h1 h2 hi] at h; exact absurd h h2
/-- A way that is well told. -/
structure WOk (r : Int) (w : W) : Prop where
  f0 : 0 ≤ w.f
  f1 : w.f < r
  t0 : 0 ≤ w.t
  t1 : w.t < r
  ne : w.f ≠ w.t
  l0 : 0 ≤ w.l
  lm : w.l ≤ w.m
  m1 : w.m ≤ 99
theorem WOk.of {r : Int} {w : W} (h : wayE r w = 0) : WOk r w := by
  unfold wayE at h
  by_cases h1 : ¬ (0 ≤ w.f ∧ w.f < r ∧ 0 ≤ w.t ∧ w.t < r)
  · rw [if_pos h1] at h; cases h
  · rw [if_neg h1] at h
    by_cases h2 : w.f = w.t
    · rw [if_pos h2] at h; cases h
    · rw [if_neg h2] at h
      by_cases h3 : ¬ (0 ≤ w.l ∧ w.l ≤ w.m ∧ w.m ≤ 99)
      · rw [if_pos h3] at h; cases h
      · have h1 := Decidable.not_not.1 h1
        have h3 := Decidable.not_not.1 h3
        exact ⟨h1.1, h1.2.1, h1.2.2.1, h1.2.2.2, h2, h3.1, h3.2.1, h3.2.2⟩
/-- Books that are well told. -/
structure BOk (r : Int) (ws : List W) : Prop where
  r2 : 2 ≤ r
  r6 : r ≤ 6
  len : ws.length ≤ 12
  way : ∀ i, i < ws.length → WOk r (ws.getD i default)
theorem BOk.of {r : Int} {ws : List W} (h : chkB r ws = 0) : BOk r ws := by
  unfold chkB at h
  by_cases h1 : ¬ (2 ≤ r ∧ r ≤ 6)
  · rw [if_pos h1] at h; cases h
  · rw [if_neg h1] at h
    by_cases h2 : 12 < ws.length
    · rw [if_pos h2] at h; cases h
    · rw [if_neg h2] at h
      have h1 := Decidable.not_not.1 h1
      exact ⟨h1.1, h1.2, by omega, fun i hi => WOk.of (waysE_all h hi)⟩
end Go.Am


namespace Go.Am
theorem chk_at {r e : Int} {ws : List W} {i : Nat} (h1 : 2 ≤ r ∧ r ≤ 6) (h2 : ws.length ≤ 12) (h0 : waysE r ws i = 0) (hi : i < ws.length) (he : wayE r (ws.getD i default) = e) (hne : e ≠ 0) : chkB r ws = e := by
  unfold chkB
  rw [if_neg (Decidable.not_not.2 h1), if_neg (by omega), waysE_stop h0 (by rw [he]; exact hne) hi, he]
theorem chk_end {r : Int} {ws : List W} (h1 : 2 ≤ r ∧ r ≤ 6) (h2 : ws.length ≤ 12) (h0 : waysE r ws ws.length = 0) : chkB r ws = 0 := by
  unfold chkB
  rw [if_neg (Decidable.not_not.2 h1), if_neg (by omega), h0]

theorem between_c {h : AHeap} {a b c : Int} : ACalls Go.Proofs.Tryz.prog 115 [.int .i64 a, .int .i64 b, .int .i64 c] h (fun q h' => q = .bool (decide (a ≤ b ∧ b ≤ c)) ∧ h = h') := by
  refine KA.fn 15 [.tmp 6] Go.Proofs.Tryz.func115 rfl (by decide) rfl rfl (Nat.le_of_ble_eq_true rfl) ?_
  show KA _ 15 _ _ [(0, .int .i64 a), (1, .int .i64 b), (2, .int .i64 c)] _
  refine KA.seq ?_
  refine KA.region rfl ?_
  refine KOps.assign ?_
  refine KOps.done ?_
  refine sqQ.normal ?_
  refine KA.sub (Sub.cons (t := 0) Look.eq (Sub.cons (t := 1) Look.eq (Sub.cons (t := 2) Look.eq (Sub.nil _)))) ?_
  refine KA.seq ?_
  refine KA.region rfl ?_
  refine KOps.move ?_
  refine KOps.move ?_
  refine KOps.leq ?_
  refine KOps.move ?_
  refine KOps.guardB (dj := 10) rfl rfl true false rfl ?_ ?_
  · intro g10
    have g10 := of_decide_eq_true g10
    refine KOps.move ?_
    refine KOps.guardYes (dj := 10) rfl rfl ?_
    refine KOps.move ?_
    refine KOps.guardYes (dj := 10) rfl rfl ?_
    refine KOps.leq ?_
    refine KOps.pickT ?_
    refine KOps.assign ?_
    refine KOps.done ?_
    refine sqQ.normal ?_
    refine KA.sub (Sub.cons (t := 6) Look.eq (Sub.nil _)) ?_
    refine KA.ret ?_
    refine fnQ.ret1 ?_
    exact ⟨congrArg AV.bool (decide_eq_decide.2 (by omega)), rfl⟩
  · intro g10
    have g10 := of_decide_eq_false g10
    refine KOps.guardNo (dj := 10) rfl rfl rfl ?_
    refine KOps.guardNo (dj := 10) rfl rfl rfl ?_
    refine KOps.pickF ?_
    refine KOps.assign ?_
    refine KOps.done ?_
    refine sqQ.normal ?_
    refine KA.sub (Sub.cons (t := 6) Look.eq (Sub.nil _)) ?_
    refine KA.ret ?_
    refine fnQ.ret1 ?_
    exact ⟨congrArg AV.bool (decide_eq_false (by omega)).symm, rfl⟩

theorem check_c {h : AHeap} {rm : Int} {vW : AV} {ws : List W} (hv : Rd h vW 4 (flr wc ws)) : ACalls Go.Proofs.Tryz.prog 76 [.agg [.int .i64 rm, vW]] h (fun q h' => q = .int .i64 (chkB rm ws) ∧ Keeps h h') := by
  refine KA.fn 62 [.tmp 2] Go.Proofs.Tryz.func76 rfl (by decide) rfl rfl (Nat.le_of_ble_eq_true rfl) ?_
  have hS := St.refl h
  have hvo : vW.one = true := hv.one
  show KA _ 62 _ _ [(0, .agg [.int .i64 rm, vW])] _
  refine KA.seq ?_
  refine KA.region rfl ?_
  refine KOps.boxAll hS (by first | rfl | (simp [AV.one]; done) | (simp [AV.one]; assumption) | (simp [AV.one, *]; done)) ?_
  intro p1 h' hp1 hS
  refine KOps.assign ?_
  refine KOps.done ?_
  refine sqQ.normal ?_
  refine KA.sub (Sub.cons (t := 1) Look.eq (Sub.nil _)) ?_
  refine KA.seq ?_
  refine KA.block ?_
  refine KA.seq ?_
  refine KA.region rfl ?_
  refine KOps.fieldAddr hp1 ?_
  intro p6 hp6
  refine KOps.load hp6 (hS.rd 0 rfl) rfl ?_
  refine KOps.call rfl (between_c) ?_
  rintro _ _ ⟨rfl, rfl⟩
  refine KOps.not ?_
  refine KOps.assign ?_
  refine KOps.done ?_
  refine sqQ.normal ?_
  refine KA.sub (Sub.cons (t := 1) Look.eq (Sub.cons (t := 5) Look.eq (Sub.nil _))) ?_
  refine KA.condN ?_ ?_
  · intro c5
    refine KA.seq ?_
    refine KA.region rfl ?_
    refine KOps.assign ?_
    refine KOps.done ?_
    refine sqQ.normal ?_
    refine KA.sub (Sub.cons (t := 2) Look.eq (Sub.nil _)) ?_
    refine KA.ret ?_
    refine blQ.ret ?_
    refine sqQ.ret ?_
    refine fnQ.ret1 ?_
    first | exact ⟨congrArg (AV.int .i64) (by rw [chkB, if_pos (by omega)]), hS.keeps⟩ | exact ⟨congrArg (AV.int .i64) (by rw [chkB, if_neg (by omega), if_pos (by omega)]), hS.keeps⟩ | exact ⟨congrArg (AV.int .i64) (chk_at (e := 2) (by omega) (by omega) hw (by omega) (by unfold wayE; rw [if_pos (by omega)]) (by decide)).symm, hS.keeps⟩ | exact ⟨congrArg (AV.int .i64) (chk_at (e := 13) (by omega) (by omega) hw (by omega) (by unfold wayE; rw [if_neg (by omega), if_pos (by omega)]) (by decide)).symm, hS.keeps⟩ | exact ⟨congrArg (AV.int .i64) (chk_at (e := 1) (by omega) (by omega) hw (by omega) (by unfold wayE; rw [if_neg (by omega), if_neg (by omega), if_pos (by omega)]) (by decide)).symm, hS.keeps⟩ | exact ⟨congrArg (AV.int .i64) (chk_end (by omega) (by omega) (by rw [show ws.length = i by omega]; exact hw)).symm, hS.keeps⟩
  · intro c5
    refine KA.seq ?_
    refine KA.region rfl ?_
    refine KOps.fieldAddr hp1 ?_
    intro p11 hp11
    refine KOps.load hp11 (hS.rd 0 rfl) rfl ?_
    refine KOps.lenF wc_len (Rd.ext hS.keeps hv) ?_
    refine KOps.gtr ?_
    refine KOps.assign ?_
    refine KOps.done ?_
    refine sqQ.normal ?_
    refine KA.sub (Sub.cons (t := 1) Look.eq (Sub.cons (t := 10) Look.eq (Sub.nil _))) ?_
    refine KA.condD ?_ ?_
    · intro c10
      refine KA.seq ?_
      refine KA.region rfl ?_
      refine KOps.assign ?_
      refine KOps.done ?_
      refine sqQ.normal ?_
      refine KA.sub (Sub.cons (t := 2) Look.eq (Sub.nil _)) ?_
      refine KA.ret ?_
      refine blQ.ret ?_
      refine sqQ.ret ?_
      refine fnQ.ret1 ?_
      first | exact ⟨congrArg (AV.int .i64) (by rw [chkB, if_pos (by omega)]), hS.keeps⟩ | exact ⟨congrArg (AV.int .i64) (by rw [chkB, if_neg (by omega), if_pos (by omega)]), hS.keeps⟩ | exact ⟨congrArg (AV.int .i64) (chk_at (e := 2) (by omega) (by omega) hw (by omega) (by unfold wayE; rw [if_pos (by omega)]) (by decide)).symm, hS.keeps⟩ | exact ⟨congrArg (AV.int .i64) (chk_at (e := 13) (by omega) (by omega) hw (by omega) (by unfold wayE; rw [if_neg (by omega), if_pos (by omega)]) (by decide)).symm, hS.keeps⟩ | exact ⟨congrArg (AV.int .i64) (chk_at (e := 1) (by omega) (by omega) hw (by omega) (by unfold wayE; rw [if_neg (by omega), if_neg (by omega), if_pos (by omega)]) (by decide)).symm, hS.keeps⟩ | exact ⟨congrArg (AV.int .i64) (chk_end (by omega) (by omega) (by rw [show ws.length = i by omega]; exact hw)).symm, hS.keeps⟩
    · intro c10
      refine KA.skip ?_
      refine blQ.normal ?_
      refine sqQ.normal ?_
      refine KA.sub (Sub.cons (t := 1) Look.eq (Sub.nil _)) ?_
      refine KA.seq ?_
      refine KA.seq ?_
      refine KA.region rfl ?_
      refine KOps.fieldAddr hp1 ?_
      intro p15 hp15
      refine KOps.load hp15 (hS.rd 0 rfl) rfl ?_
      refine KOps.lenF wc_len (Rd.ext hS.keeps hv) ?_
      refine KOps.move ?_
      refine KOps.done ?_
      refine sqQ.normal ?_
      refine KA.sub (Sub.cons (t := 1) Look.eq (Sub.cons (t := 16) Look.eq (Sub.cons (t := 17) Look.eq (Sub.cons (t := 18) Look.eq (Sub.nil _))))) ?_
      refine KA.block ?_
      refine KA.loop (X := Nat) (fun i => [(1, p1), (16, vW), (17, .int .i64 (ws.length : Int)), (18, .int .i64 (i : Int))]) (fun i h' => i ≤ ws.length ∧ waysE rm ws i = 0 ∧ St h h' [⟨p1, 0, [.int .i64 rm, vW], true⟩]) (fun i => ws.length - i) 0 (by repeat (first | exact Sub.nil _ | refine Sub.cons Look.eq ?_ | refine Sub.cons (Eq.trans Look.eq (congrArg (AV.int _) (by first | omega | (dsimp only; omega)))) ?_)) ?_ ?_
      · exact ⟨Nat.zero_le _, rfl, hS⟩
      rintro i h2 ⟨hi, hw, hS⟩
      refine KA.seq ?_
      refine KA.region rfl ?_
      refine KOps.lss ?_
      refine KOps.done ?_
      refine sqQ.normal ?_
      refine KA.seq ?_
      refine KA.condD ?_ ?_
      · intro c19
        refine KA.skip ?_
        refine sqQ.normal ?_
        refine KA.sub (Sub.cons (t := 1) Look.eq (Sub.cons (t := 16) Look.eq (Sub.cons (t := 17) Look.eq (Sub.cons (t := 18) Look.eq (Sub.nil _))))) ?_
        refine KA.seq ?_
        refine KA.block ?_
        refine KA.seq ?_
        refine KA.region rfl ?_
        refine KOps.indexF wc_len (Rd.ext hS.keeps hv) (j := i) rfl (by first | omega | (simp; omega)) ?_
        intro p20 hp20
        refine KOps.loadFl wc_len (by decide) hp20 (Rd.ext hS.keeps hv) (by first | omega | (simp; omega)) ?_
        refine KOps.alloc hS ?_
        intro p4 h' hp4 hS
        refine KOps.storeAll hS rfl (i := 0) rfl hp4 (by first | rfl | (simp [AV.one]; done) | (simp [AV.one]; assumption) | (simp [AV.one, *]; done)) (by rfl) (by rfl) (by decide) ?_
        intro h' hS
        simp only [List.set_cons_zero, List.set_cons_succ, Nat.zero_add] at hS
        refine KOps.done ?_
        refine sqQ.normal ?_
        refine KA.sub (Sub.cons (t := 1) Look.eq (Sub.cons (t := 4) Look.eq (Sub.cons (t := 16) Look.eq (Sub.cons (t := 17) Look.eq (Sub.cons (t := 18) Look.eq (Sub.nil _)))))) ?_
        refine KA.block ?_
        refine KA.seq ?_
        refine KA.region rfl ?_
        refine KOps.fieldAddr hp4 ?_
        intro p23 hp23
        refine KOps.load hp23 (hS.rd 0 rfl) rfl ?_
        refine KOps.fieldAddr hp4 ?_
        intro p25 hp25
        refine KOps.load hp25 (hS.rd 0 rfl) rfl ?_
        refine KOps.min ?_
        refine KOps.lss ?_
        refine KOps.move ?_
        refine KOps.guardB (dj := 29) rfl rfl false true rfl ?_ ?_
        · intro g29
          have g29 := of_decide_eq_false g29
          refine KOps.fieldAddr hp4 ?_
          intro p30 hp30
          refine KOps.guardYes (dj := 29) rfl rfl ?_
          refine KOps.load hp30 (hS.rd 0 rfl) rfl ?_
          refine KOps.guardYes (dj := 29) rfl rfl ?_
          refine KOps.fieldAddr hp4 ?_
          intro p32 hp32
          refine KOps.guardYes (dj := 29) rfl rfl ?_
          refine KOps.load hp32 (hS.rd 0 rfl) rfl ?_
          refine KOps.guardYes (dj := 29) rfl rfl ?_
          refine KOps.max ?_
          refine KOps.guardYes (dj := 29) rfl rfl ?_
          refine KOps.fieldAddr hp1 ?_
          intro p35 hp35
          refine KOps.guardYes (dj := 29) rfl rfl ?_
          refine KOps.load hp35 (hS.rd 1 rfl) rfl ?_
          refine KOps.guardYes (dj := 29) rfl rfl ?_
          refine KOps.geq ?_
          refine KOps.pickF ?_
          refine KOps.assign ?_
          refine KOps.done ?_
          refine sqQ.normal ?_
          refine KA.sub (Sub.cons (t := 1) Look.eq (Sub.cons (t := 4) Look.eq (Sub.cons (t := 16) Look.eq (Sub.cons (t := 17) Look.eq (Sub.cons (t := 18) Look.eq (Sub.cons (t := 22) Look.eq (Sub.cons (t := 30) Look.eq (Sub.cons (t := 31) Look.eq (Sub.cons (t := 32) Look.eq (Sub.cons (t := 33) Look.eq (Sub.cons (t := 34) Look.eq (Sub.cons (t := 35) Look.eq (Sub.cons (t := 36) Look.eq (Sub.cons (t := 37) Look.eq (Sub.nil _))))))))))))))) ?_
          refine KA.condD ?_ ?_
          · intro c22
            refine KA.seq ?_
            refine KA.region rfl ?_
            refine KOps.assign ?_
            refine KOps.done ?_
            refine sqQ.normal ?_
            refine KA.sub (Sub.cons (t := 2) Look.eq (Sub.nil _)) ?_
            refine KA.ret ?_
            refine blQ.ret ?_
            refine blQ.ret ?_
            refine sqQ.ret ?_
            refine lpQ.ret ?_
            refine blQ.ret ?_
            refine sqQ.ret ?_
            refine fnQ.ret1 ?_
            first | exact ⟨congrArg (AV.int .i64) (by rw [chkB, if_pos (by omega)]), hS.keeps⟩ | exact ⟨congrArg (AV.int .i64) (by rw [chkB, if_neg (by omega), if_pos (by omega)]), hS.keeps⟩ | exact ⟨congrArg (AV.int .i64) (chk_at (e := 2) (by omega) (by omega) hw (by omega) (by unfold wayE; rw [if_pos (by omega)]) (by decide)).symm, hS.keeps⟩ | exact ⟨congrArg (AV.int .i64) (chk_at (e := 13) (by omega) (by omega) hw (by omega) (by unfold wayE; rw [if_neg (by omega), if_pos (by omega)]) (by decide)).symm, hS.keeps⟩ | exact ⟨congrArg (AV.int .i64) (chk_at (e := 1) (by omega) (by omega) hw (by omega) (by unfold wayE; rw [if_neg (by omega), if_neg (by omega), if_pos (by omega)]) (by decide)).symm, hS.keeps⟩ | exact ⟨congrArg (AV.int .i64) (chk_end (by omega) (by omega) (by rw [show ws.length = i by omega]; exact hw)).symm, hS.keeps⟩
          · intro c22
            refine KA.seq ?_
            refine KA.region rfl ?_
            refine KOps.fieldAddr hp4 ?_
            intro p40 hp40
            refine KOps.load hp40 (hS.rd 0 rfl) rfl ?_
            refine KOps.fieldAddr hp4 ?_
            intro p42 hp42
            refine KOps.load hp42 (hS.rd 0 rfl) rfl ?_
            refine KOps.eql ?_
            refine KOps.assign ?_
            refine KOps.done ?_
            refine sqQ.normal ?_
            refine KA.sub (Sub.cons (t := 1) Look.eq (Sub.cons (t := 4) Look.eq (Sub.cons (t := 16) Look.eq (Sub.cons (t := 17) Look.eq (Sub.cons (t := 18) Look.eq (Sub.cons (t := 30) Look.eq (Sub.cons (t := 31) Look.eq (Sub.cons (t := 32) Look.eq (Sub.cons (t := 33) Look.eq (Sub.cons (t := 34) Look.eq (Sub.cons (t := 35) Look.eq (Sub.cons (t := 36) Look.eq (Sub.cons (t := 37) Look.eq (Sub.cons (t := 39) Look.eq (Sub.nil _))))))))))))))) ?_
            refine KA.condD ?_ ?_
            · intro c39
              refine KA.seq ?_
              refine KA.region rfl ?_
              refine KOps.assign ?_
              refine KOps.done ?_
              refine sqQ.normal ?_
              refine KA.sub (Sub.cons (t := 2) Look.eq (Sub.nil _)) ?_
              refine KA.ret ?_
              refine blQ.ret ?_
              refine blQ.ret ?_
              refine sqQ.ret ?_
              refine lpQ.ret ?_
              refine blQ.ret ?_
              refine sqQ.ret ?_
              refine fnQ.ret1 ?_
              first | exact ⟨congrArg (AV.int .i64) (by rw [chkB, if_pos (by omega)]), hS.keeps⟩ | exact ⟨congrArg (AV.int .i64) (by rw [chkB, if_neg (by omega), if_pos (by omega)]), hS.keeps⟩ | exact ⟨congrArg (AV.int .i64) (chk_at (e := 2) (by omega) (by omega) hw (by omega) (by unfold wayE; rw [if_pos (by omega)]) (by decide)).symm, hS.keeps⟩ | exact ⟨congrArg (AV.int .i64) (chk_at (e := 13) (by omega) (by omega) hw (by omega) (by unfold wayE; rw [if_neg (by omega), if_pos (by omega)]) (by decide)).symm, hS.keeps⟩ | exact ⟨congrArg (AV.int .i64) (chk_at (e := 1) (by omega) (by omega) hw (by omega) (by unfold wayE; rw [if_neg (by omega), if_neg (by omega), if_pos (by omega)]) (by decide)).symm, hS.keeps⟩ | exact ⟨congrArg (AV.int .i64) (chk_end (by omega) (by omega) (by rw [show ws.length = i by omega]; exact hw)).symm, hS.keeps⟩
            · intro c39
              refine KA.seq ?_
              refine KA.region rfl ?_
              refine KOps.fieldAddr hp4 ?_
              intro p46 hp46
              refine KOps.load hp46 (hS.rd 0 rfl) rfl ?_
              refine KOps.lss ?_
              refine KOps.move ?_
              refine KOps.guardB (dj := 49) rfl rfl false true rfl ?_ ?_
              · intro g49
                have g49 := of_decide_eq_false g49
                refine KOps.fieldAddr hp4 ?_
                intro p50 hp50
                refine KOps.guardYes (dj := 49) rfl rfl ?_
                refine KOps.load hp50 (hS.rd 0 rfl) rfl ?_
                refine KOps.guardYes (dj := 49) rfl rfl ?_
                refine KOps.gtr ?_
                refine KOps.pickF ?_
                refine KOps.move ?_
                refine KOps.guardB (dj := 54) rfl rfl false true rfl ?_ ?_
                · intro g54
                  have g54 := of_decide_eq_false g54
                  refine KOps.fieldAddr hp4 ?_
                  intro p55 hp55
                  refine KOps.guardYes (dj := 54) rfl rfl ?_
                  refine KOps.load hp55 (hS.rd 0 rfl) rfl ?_
                  refine KOps.guardYes (dj := 54) rfl rfl ?_
                  refine KOps.fieldAddr hp4 ?_
                  intro p57 hp57
                  refine KOps.guardYes (dj := 54) rfl rfl ?_
                  refine KOps.load hp57 (hS.rd 0 rfl) rfl ?_
                  refine KOps.guardYes (dj := 54) rfl rfl ?_
                  refine KOps.gtr ?_
                  refine KOps.pickF ?_
                  refine KOps.assign ?_
                  refine KOps.done ?_
                  refine sqQ.normal ?_
                  refine KA.sub (Sub.cons (t := 1) Look.eq (Sub.cons (t := 16) Look.eq (Sub.cons (t := 17) Look.eq (Sub.cons (t := 18) Look.eq (Sub.cons (t := 30) Look.eq (Sub.cons (t := 31) Look.eq (Sub.cons (t := 32) Look.eq (Sub.cons (t := 33) Look.eq (Sub.cons (t := 34) Look.eq (Sub.cons (t := 35) Look.eq (Sub.cons (t := 36) Look.eq (Sub.cons (t := 37) Look.eq (Sub.cons (t := 45) Look.eq (Sub.cons (t := 50) Look.eq (Sub.cons (t := 51) Look.eq (Sub.cons (t := 52) Look.eq (Sub.cons (t := 55) Look.eq (Sub.cons (t := 56) Look.eq (Sub.cons (t := 57) Look.eq (Sub.cons (t := 58) Look.eq (Sub.cons (t := 59) Look.eq (Sub.nil _)))))))))))))))))))))) ?_
                  refine KA.condD ?_ ?_
                  · intro c45
                    refine KA.seq ?_
                    refine KA.region rfl ?_
                    refine KOps.assign ?_
                    refine KOps.done ?_
                    refine sqQ.normal ?_
                    refine KA.sub (Sub.cons (t := 2) Look.eq (Sub.nil _)) ?_
                    refine KA.ret ?_
                    refine blQ.ret ?_
                    refine blQ.ret ?_
                    refine sqQ.ret ?_
                    refine lpQ.ret ?_
                    refine blQ.ret ?_
                    refine sqQ.ret ?_
                    refine fnQ.ret1 ?_
                    first | exact ⟨congrArg (AV.int .i64) (by rw [chkB, if_pos (by omega)]), hS.keeps⟩ | exact ⟨congrArg (AV.int .i64) (by rw [chkB, if_neg (by omega), if_pos (by omega)]), hS.keeps⟩ | exact ⟨congrArg (AV.int .i64) (chk_at (e := 2) (by omega) (by omega) hw (by omega) (by unfold wayE; rw [if_pos (by omega)]) (by decide)).symm, hS.keeps⟩ | exact ⟨congrArg (AV.int .i64) (chk_at (e := 13) (by omega) (by omega) hw (by omega) (by unfold wayE; rw [if_neg (by omega), if_pos (by omega)]) (by decide)).symm, hS.keeps⟩ | exact ⟨congrArg (AV.int .i64) (chk_at (e := 1) (by omega) (by omega) hw (by omega) (by unfold wayE; rw [if_neg (by omega), if_neg (by omega), if_pos (by omega)]) (by decide)).symm, hS.keeps⟩ | exact ⟨congrArg (AV.int .i64) (chk_end (by omega) (by omega) (by rw [show ws.length = i by omega]; exact hw)).symm, hS.keeps⟩
                  · intro c45
                    refine KA.skip ?_
                    refine blQ.normal ?_
                    refine blQ.normal ?_
                    refine sqQ.normal ?_
                    refine KA.sub (Sub.cons (t := 1) Look.eq (Sub.cons (t := 16) Look.eq (Sub.cons (t := 17) Look.eq (Sub.cons (t := 18) Look.eq (Sub.cons (t := 30) Look.eq (Sub.cons (t := 31) Look.eq (Sub.cons (t := 32) Look.eq (Sub.cons (t := 33) Look.eq (Sub.cons (t := 34) Look.eq (Sub.cons (t := 35) Look.eq (Sub.cons (t := 36) Look.eq (Sub.cons (t := 37) Look.eq (Sub.cons (t := 50) Look.eq (Sub.cons (t := 51) Look.eq (Sub.cons (t := 52) Look.eq (Sub.cons (t := 55) Look.eq (Sub.cons (t := 56) Look.eq (Sub.cons (t := 57) Look.eq (Sub.cons (t := 58) Look.eq (Sub.cons (t := 59) Look.eq (Sub.nil _))))))))))))))))))))) ?_
                    refine KA.region rfl ?_
                    refine KOps.add (by first | omega | (simp; omega)) (by first | omega | (simp; omega)) ?_
                    refine KOps.move ?_
                    refine KOps.done ?_
                    refine lpQ.normal (i + 1) (by repeat (first | exact Sub.nil _ | refine Sub.cons Look.eq ?_ | refine Sub.cons (Eq.trans Look.eq (congrArg (AV.int _) (by first | omega | (dsimp only; omega)))) ?_)) ⟨by omega, ?_, St.tail hS⟩ (by omega)
                    rw [waysE, if_pos hw]
                    unfold wayE
                    rw [if_neg (by omega), if_neg (by omega), if_neg (by omega)]
                · intro g54
                  have g54 := of_decide_eq_true g54
                  refine KOps.guardNo (dj := 54) rfl rfl rfl ?_
                  refine KOps.guardNo (dj := 54) rfl rfl rfl ?_
                  refine KOps.guardNo (dj := 54) rfl rfl rfl ?_
                  refine KOps.guardNo (dj := 54) rfl rfl rfl ?_
                  refine KOps.pickT ?_
                  refine KOps.assign ?_
                  refine KOps.done ?_
                  refine sqQ.normal ?_
                  refine KA.sub (Sub.cons (t := 1) Look.eq (Sub.cons (t := 16) Look.eq (Sub.cons (t := 17) Look.eq (Sub.cons (t := 18) Look.eq (Sub.cons (t := 30) Look.eq (Sub.cons (t := 31) Look.eq (Sub.cons (t := 32) Look.eq (Sub.cons (t := 33) Look.eq (Sub.cons (t := 34) Look.eq (Sub.cons (t := 35) Look.eq (Sub.cons (t := 36) Look.eq (Sub.cons (t := 37) Look.eq (Sub.cons (t := 45) Look.eq (Sub.cons (t := 50) Look.eq (Sub.cons (t := 51) Look.eq (Sub.cons (t := 52) Look.eq (Sub.cons (t := 55) Look.eq (Sub.cons (t := 56) Look.eq (Sub.cons (t := 57) Look.eq (Sub.cons (t := 58) Look.eq (Sub.cons (t := 59) Look.eq (Sub.nil _)))))))))))))))))))))) ?_
                  refine KA.condT ?_
                  refine KA.seq ?_
                  refine KA.region rfl ?_
                  refine KOps.assign ?_
                  refine KOps.done ?_
                  refine sqQ.normal ?_
                  refine KA.sub (Sub.cons (t := 2) Look.eq (Sub.nil _)) ?_
                  refine KA.ret ?_
                  refine blQ.ret ?_
                  refine blQ.ret ?_
                  refine sqQ.ret ?_
                  refine lpQ.ret ?_
                  refine blQ.ret ?_
                  refine sqQ.ret ?_
                  refine fnQ.ret1 ?_
                  first | exact ⟨congrArg (AV.int .i64) (by rw [chkB, if_pos (by omega)]), hS.keeps⟩ | exact ⟨congrArg (AV.int .i64) (by rw [chkB, if_neg (by omega), if_pos (by omega)]), hS.keeps⟩ | exact ⟨congrArg (AV.int .i64) (chk_at (e := 2) (by omega) (by omega) hw (by omega) (by unfold wayE; rw [if_pos (by omega)]) (by decide)).symm, hS.keeps⟩ | exact ⟨congrArg (AV.int .i64) (chk_at (e := 13) (by omega) (by omega) hw (by omega) (by unfold wayE; rw [if_neg (by omega), if_pos (by omega)]) (by decide)).symm, hS.keeps⟩ | exact ⟨congrArg (AV.int .i64) (chk_at (e := 1) (by omega) (by omega) hw (by omega) (by unfold wayE; rw [if_neg (by omega), if_neg (by omega), if_pos (by omega)]) (by decide)).symm, hS.keeps⟩ | exact ⟨congrArg (AV.int .i64) (chk_end (by omega) (by omega) (by rw [show ws.length = i by omega]; exact hw)).symm, hS.keeps⟩
              · intro g49
                have g49 := of_decide_eq_true g49
                refine KOps.guardNo (dj := 49) rfl rfl rfl ?_
                refine KOps.guardNo (dj := 49) rfl rfl rfl ?_
                refine KOps.pickT ?_
                refine KOps.move ?_
                refine KOps.guardNo (dj := 54) rfl rfl rfl ?_
                refine KOps.guardNo (dj := 54) rfl rfl rfl ?_
                refine KOps.guardNo (dj := 54) rfl rfl rfl ?_
                refine KOps.guardNo (dj := 54) rfl rfl rfl ?_
                refine KOps.guardNo (dj := 54) rfl rfl rfl ?_
                refine KOps.pickT ?_
                refine KOps.assign ?_
                refine KOps.done ?_
                refine sqQ.normal ?_
                refine KA.sub (Sub.cons (t := 1) Look.eq (Sub.cons (t := 16) Look.eq (Sub.cons (t := 17) Look.eq (Sub.cons (t := 18) Look.eq (Sub.cons (t := 30) Look.eq (Sub.cons (t := 31) Look.eq (Sub.cons (t := 32) Look.eq (Sub.cons (t := 33) Look.eq (Sub.cons (t := 34) Look.eq (Sub.cons (t := 35) Look.eq (Sub.cons (t := 36) Look.eq (Sub.cons (t := 37) Look.eq (Sub.cons (t := 45) Look.eq (Sub.cons (t := 50) Look.eq (Sub.cons (t := 51) Look.eq (Sub.cons (t := 52) Look.eq (Sub.cons (t := 55) Look.eq (Sub.cons (t := 56) Look.eq (Sub.cons (t := 57) Look.eq (Sub.cons (t := 58) Look.eq (Sub.cons (t := 59) Look.eq (Sub.nil _)))))))))))))))))))))) ?_
                refine KA.condT ?_
                refine KA.seq ?_
                refine KA.region rfl ?_
                refine KOps.assign ?_
                refine KOps.done ?_
                refine sqQ.normal ?_
                refine KA.sub (Sub.cons (t := 2) Look.eq (Sub.nil _)) ?_
                refine KA.ret ?_
                refine blQ.ret ?_
                refine blQ.ret ?_
                refine sqQ.ret ?_
                refine lpQ.ret ?_
                refine blQ.ret ?_
                refine sqQ.ret ?_
                refine fnQ.ret1 ?_
                first | exact ⟨congrArg (AV.int .i64) (by rw [chkB, if_pos (by omega)]), hS.keeps⟩ | exact ⟨congrArg (AV.int .i64) (by rw [chkB, if_neg (by omega), if_pos (by omega)]), hS.keeps⟩ | exact ⟨congrArg (AV.int .i64) (chk_at (e := 2) (by omega) (by omega) hw (by omega) (by unfold wayE; rw [if_pos (by omega)]) (by decide)).symm, hS.keeps⟩ | exact ⟨congrArg (AV.int .i64) (chk_at (e := 13) (by omega) (by omega) hw (by omega) (by unfold wayE; rw [if_neg (by omega), if_pos (by omega)]) (by decide)).symm, hS.keeps⟩ | exact ⟨congrArg (AV.int .i64) (chk_at (e := 1) (by omega) (by omega) hw (by omega) (by unfold wayE; rw [if_neg (by omega), if_neg (by omega), if_pos (by omega)]) (by decide)).symm, hS.keeps⟩ | exact ⟨congrArg (AV.int .i64) (chk_end (by omega) (by omega) (by rw [show ws.length = i by omega]; exact hw)).symm, hS.keeps⟩
        · intro g29
          have g29 := of_decide_eq_true g29
          refine KOps.guardNo (dj := 29) rfl rfl rfl ?_
          refine KOps.guardNo (dj := 29) rfl rfl rfl ?_
          refine KOps.guardNo (dj := 29) rfl rfl rfl ?_
          refine KOps.guardNo (dj := 29) rfl rfl rfl ?_
          refine KOps.guardNo (dj := 29) rfl rfl rfl ?_
          refine KOps.guardNo (dj := 29) rfl rfl rfl ?_
          refine KOps.guardNo (dj := 29) rfl rfl rfl ?_
          refine KOps.pickT ?_
          refine KOps.assign ?_
          refine KOps.done ?_
          refine sqQ.normal ?_
          refine KA.sub (Sub.cons (t := 1) Look.eq (Sub.cons (t := 4) Look.eq (Sub.cons (t := 16) Look.eq (Sub.cons (t := 17) Look.eq (Sub.cons (t := 18) Look.eq (Sub.cons (t := 22) Look.eq (Sub.cons (t := 30) Look.eq (Sub.cons (t := 31) Look.eq (Sub.cons (t := 32) Look.eq (Sub.cons (t := 33) Look.eq (Sub.cons (t := 34) Look.eq (Sub.cons (t := 35) Look.eq (Sub.cons (t := 36) Look.eq (Sub.cons (t := 37) Look.eq (Sub.nil _))))))))))))))) ?_
          refine KA.condT ?_
          refine KA.seq ?_
          refine KA.region rfl ?_
          refine KOps.assign ?_
          refine KOps.done ?_
          refine sqQ.normal ?_
          refine KA.sub (Sub.cons (t := 2) Look.eq (Sub.nil _)) ?_
          refine KA.ret ?_
          refine blQ.ret ?_
          refine blQ.ret ?_
          refine sqQ.ret ?_
          refine lpQ.ret ?_
          refine blQ.ret ?_
          refine sqQ.ret ?_
          refine fnQ.ret1 ?_
          first | exact ⟨congrArg (AV.int .i64) (by rw [chkB, if_pos (by omega)]), hS.keeps⟩ | exact ⟨congrArg (AV.int .i64) (by rw [chkB, if_neg (by omega), if_pos (by omega)]), hS.keeps⟩ | exact ⟨congrArg (AV.int .i64) (chk_at (e := 2) (by omega) (by omega) hw (by omega) (by unfold wayE; rw [if_pos (by omega)]) (by decide)).symm, hS.keeps⟩ | exact ⟨congrArg (AV.int .i64) (chk_at (e := 13) (by omega) (by omega) hw (by omega) (by unfold wayE; rw [if_neg (by omega), if_pos (by omega)]) (by decide)).symm, hS.keeps⟩ | exact ⟨congrArg (AV.int .i64) (chk_at (e := 1) (by omega) (by omega) hw (by omega) (by unfold wayE; rw [if_neg (by omega), if_neg (by omega), if_pos (by omega)]) (by decide)).symm, hS.keeps⟩ | exact ⟨congrArg (AV.int .i64) (chk_end (by omega) (by omega) (by rw [show ws.length = i by omega]; exact hw)).symm, hS.keeps⟩
      · intro c19
        refine KA.exit ?_
        refine sqQ.exit ?_
        refine lpQ.exit ?_
        refine blQ.here ?_
        refine sqQ.normal ?_
        refine KA.sub (Sub.nil _) ?_
        refine KA.seq ?_
        refine KA.region rfl ?_
        refine KOps.assign ?_
        refine KOps.done ?_
        refine sqQ.normal ?_
        refine KA.ret ?_
        refine fnQ.ret1 ?_
        first | exact ⟨congrArg (AV.int .i64) (by rw [chkB, if_pos (by omega)]), hS.keeps⟩ | exact ⟨congrArg (AV.int .i64) (by rw [chkB, if_neg (by omega), if_pos (by omega)]), hS.keeps⟩ | exact ⟨congrArg (AV.int .i64) (chk_at (e := 2) (by omega) (by omega) hw (by omega) (by unfold wayE; rw [if_pos (by omega)]) (by decide)).symm, hS.keeps⟩ | exact ⟨congrArg (AV.int .i64) (chk_at (e := 13) (by omega) (by omega) hw (by omega) (by unfold wayE; rw [if_neg (by omega), if_pos (by omega)]) (by decide)).symm, hS.keeps⟩ | exact ⟨congrArg (AV.int .i64) (chk_at (e := 1) (by omega) (by omega) hw (by omega) (by unfold wayE; rw [if_neg (by omega), if_neg (by omega), if_pos (by omega)]) (by decide)).symm, hS.keeps⟩ | exact ⟨congrArg (AV.int .i64) (chk_end (by omega) (by omega) (by rw [show ws.length = i by omega]; exact hw)).symm, hS.keeps⟩

end Go.Am


namespace Go.Am

def dl (a b : Int) : Int := if a = b then 1 else 0
/-- How many more come into a room than go out of it, by the first ways. -/
def keptTo (ws : List W) (n : List Int) (x : Int) : Nat → Int
  | 0 => 0
  | i + 1 => keptTo ws n x i + n.getD i 0 * (dl (ws.getD i default).t x - dl (ws.getD i default).f x)
abbrev kept (ws : List W) (n : List Int) (x : Int) : Int := keptTo ws n x ws.length
structure Within (ws : List W) (n : List Int) : Prop where
  len : n.length = ws.length
  lo : ∀ i, i < ws.length → (ws.getD i default).l ≤ n.getD i 0
  hi : ∀ i, i < ws.length → n.getD i 0 ≤ (ws.getD i default).m
structure Flow (ws : List W) (n : List Int) : Prop extends Within ws n where
  kp : ∀ x, kept ws n x = 0
/-- Rooms of all ways are rooms. -/
def InR (r : Int) (ws : List W) : Prop := ∀ i, i < ws.length → 0 ≤ (ws.getD i default).f ∧ (ws.getD i default).f < r ∧ 0 ≤ (ws.getD i default).t ∧ (ws.getD i default).t < r

theorem keptTo_set {ws : List W} {n : List Int} {x : Int} {i : Nat} {c : Int} (hi : i < n.length) : ∀ k, keptTo ws (n.set i c) x k = keptTo ws n x k + if i < k then (c - n.getD i 0) * (dl (ws.getD i default).t x - dl (ws.getD i default).f x) else 0 := by
  intro k
  induction k with
  | zero => simp [keptTo]
  | succ k ih =>
    by_cases h : i = k
    · subst h
      have e1 : (n.set i c).getD i 0 = c := by rw [getD_setJ, if_pos ⟨rfl, hi⟩]
      rw [keptTo, keptTo, ih, e1, if_neg (Nat.lt_irrefl i), if_pos (Nat.lt_succ_self i), Int.sub_mul]
      omega
    · have e1 : (n.set i c).getD k 0 = n.getD k 0 := by rw [getD_setJ, if_neg (fun h2 => h h2.1.symm)]
      rw [keptTo, keptTo, ih, e1]
      by_cases h3 : i < k
      · rw [if_pos h3, if_pos (show i < k + 1 by omega)]; omega
      · rw [if_neg h3, if_neg (show ¬ i < k + 1 by omega)]; omega
theorem kept_set {ws : List W} {n : List Int} {x : Int} {i : Nat} {c : Int} (hi : i < n.length) (hw : i < ws.length) : kept ws (n.set i c) x = kept ws n x + (c - n.getD i 0) * (dl (ws.getD i default).t x - dl (ws.getD i default).f x) := by
  rw [kept, keptTo_set hi, if_pos hw]

/-- One step: one stamp more, or one less. -/
def StepOK (ws : List W) (n : List Int) (A : Nat → Bool) (u v : Int) (i : Nat) (more : Bool) : Prop :=
  i < ws.length ∧ A i = true ∧ if more then (ws.getD i default).f = u ∧ (ws.getD i default).t = v ∧ n.getD i 0 < (ws.getD i default).m else (ws.getD i default).t = u ∧ (ws.getD i default).f = v ∧ (ws.getD i default).l < n.getD i 0
/-- A path by rooms of which no two are the same. -/
inductive Path (ws : List W) (n : List Int) (A : Nat → Bool) (u : Int) : List Int → Int → List (Int × Bool) → Prop where
  | nil : Path ws n A u [u] u []
  | snoc {vs : List Int} {v x : Int} {E : List (Int × Bool)} {i : Nat} {more : Bool} (p : Path ws n A u vs v E) (s : StepOK ws n A v x i more) (hx : x ∉ vs) : Path ws n A u (x :: vs) x (((i : Int), more) :: E)
section
variable {ws : List W} {n : List Int} {A : Nat → Bool} {u v : Int} {vs : List Int} {E : List (Int × Bool)}
theorem Path.last (p : Path ws n A u vs v E) : v ∈ vs := by cases p <;> simp
theorem Path.ends (p : Path ws n A u vs v E) : ∀ q ∈ E, ∃ i : Nat, q.1 = (i : Int) ∧ i < ws.length ∧ A i = true ∧ (ws.getD i default).f ∈ vs ∧ (ws.getD i default).t ∈ vs ∧ (if q.2 then n.getD i 0 < (ws.getD i default).m else (ws.getD i default).l < n.getD i 0) := by
  induction p with
  | nil => intro q hq; cases hq
  | @snoc vs v x E i more p s hx ih =>
    intro q hq
    rcases List.mem_cons.1 hq with rfl | hq
    · refine ⟨i, rfl, s.1, s.2.1, ?_⟩
      have hv := p.last
      have hs := s.2.2
      cases more with
      | true =>
        simp only [if_true] at hs ⊢
        exact ⟨by rw [hs.1]; simp [hv], by rw [hs.2.1]; simp, hs.2.2⟩
      | false =>
        simp only [Bool.false_eq_true, if_false] at hs ⊢
        exact ⟨by rw [hs.2.1]; simp, by rw [hs.1]; simp [hv], hs.2.2⟩
    · obtain ⟨j, h1, h2, h3, h4, h5, h6⟩ := ih q hq
      exact ⟨j, h1, h2, h3, List.mem_cons_of_mem _ h4, List.mem_cons_of_mem _ h5, h6⟩
theorem Path.keys (p : Path ws n A u vs v E) : (E.map (·.1)).Nodup := by
  induction p with
  | nil => exact List.nodup_nil
  | @snoc vs v x E i more p s hx ih =>
    rw [List.map_cons, List.nodup_cons]
    refine ⟨?_, ih⟩
    intro hm
    obtain ⟨q, hq, he⟩ := List.mem_map.1 hm
    obtain ⟨j, h1, _, _, h4, h5, _⟩ := p.ends q hq
    have hij : j = i := by
      have : (j : Int) = (i : Int) := by rw [← h1]; exact he
      omega
    subst hij
    have hs := s.2.2
    cases more with
    | true => simp only [if_true] at hs; rw [hs.2.1] at h5; exact hx h5
    | false => simp only [Bool.false_eq_true, if_false] at hs; rw [hs.2.1] at h4; exact hx h4
/-- What is pushed along a path. -/
def bump1 (l : List Int) (q : Int × Bool) : List Int := l.set q.1.toNat (l.getD q.1.toNat 0 + if q.2 then 1 else -1)
def pushE (E : List (Int × Bool)) (n : List Int) : List Int := E.foldr (fun q l => bump1 l q) n
theorem bump1_len (l : List Int) (q : Int × Bool) : (bump1 l q).length = l.length := by simp [bump1]
theorem pushE_len (E : List (Int × Bool)) (n : List Int) : (pushE E n).length = n.length := by
  induction E with
  | nil => rfl
  | cons q E ih => show (bump1 (pushE E n) q).length = _; rw [bump1_len, ih]
theorem bump_at {E : List (Int × Bool)} {l : List Int} {j : Nat} {q : Int × Bool} (h : E[j]? = some q) : bump E l j = bump1 l q := by
  unfold bump bump1
  rw [h]
theorem bump1_comm (l : List Int) (p q : Int × Bool) : bump1 (bump1 l p) q = bump1 (bump1 l q) p := by
  have h := bump_comm [p, q] l 0 1
  rw [bump_at (E := [p, q]) (j := 0) rfl, bump_at (E := [p, q]) (j := 1) rfl, bump_at (E := [p, q]) (j := 1) rfl, bump_at (E := [p, q]) (j := 0) rfl] at h
  exact h
theorem bumps_foldl (E : List (Int × Bool)) (n : List Int) : ∀ k, k ≤ E.length → bumps E n (List.range k) = (E.take k).foldl bump1 n := by
  intro k
  induction k with
  | zero => intro _; rfl
  | succ k ih =>
    intro hk
    have hg : E[k]? = some (E[k]'(by omega)) := List.getElem?_eq_getElem _
    rw [List.range_succ, bumps_snoc, ih (by omega), bump_at hg, List.take_add_one, hg, List.foldl_append]
    rfl
theorem foldl_one (E : List (Int × Bool)) : ∀ (n : List Int) (q : Int × Bool), E.foldl bump1 (bump1 n q) = bump1 (E.foldl bump1 n) q := by
  induction E with
  | nil => intro n q; rfl
  | cons p E ih => intro n q; rw [List.foldl_cons, List.foldl_cons, bump1_comm, ih]
theorem bumps_push (E : List (Int × Bool)) (n : List Int) : bumps E n (List.range E.length) = pushE E n := by
  rw [bumps_foldl E n _ (Nat.le_refl _), List.take_length]
  induction E with
  | nil => rfl
  | cons q E ih => rw [List.foldl_cons, foldl_one, ih]; rfl
theorem pushE_other {E : List (Int × Bool)} {n : List Int} {i : Nat} (h : ∀ q ∈ E, q.1.toNat ≠ i) : (pushE E n).getD i 0 = n.getD i 0 := by
  induction E with
  | nil => rfl
  | cons q E ih =>
    show (bump1 (pushE E n) q).getD i 0 = _
    rw [bump1, getD_setJ, if_neg (fun h2 => h q (by simp) h2.1.symm), ih (fun p hp => h p (by simp [hp]))]
theorem pushE_at {E : List (Int × Bool)} {n : List Int} (hk : (E.map (·.1)).Nodup) (h0 : ∀ q ∈ E, 0 ≤ q.1) {q : Int × Bool} (hq : q ∈ E) (hl : q.1.toNat < n.length) : (pushE E n).getD q.1.toNat 0 = n.getD q.1.toNat 0 + if q.2 then 1 else -1 := by
  induction E with
  | nil => cases hq
  | cons p E ih =>
    rw [List.map_cons, List.nodup_cons] at hk
    show (bump1 (pushE E n) p).getD _ 0 = _
    rw [bump1, getD_setJ, pushE_len]
    rcases List.mem_cons.1 hq with rfl | hq
    · rw [if_pos ⟨rfl, hl⟩, pushE_other]
      intro p' hp' he
      have h1 := h0 p' (by simp [hp'])
      have h2 := h0 q (by simp)
      exact hk.1 (List.mem_map.2 ⟨p', hp', by omega⟩)
    · have hne : ¬ q.1.toNat = p.1.toNat := by
        intro he
        have h1 := h0 q (by simp [hq])
        have h2 := h0 p (by simp)
        exact hk.1 (List.mem_map.2 ⟨q, hq, by omega⟩)
      rw [if_neg (fun h => hne h.1)]
      exact ih hk.2 (fun p' hp' => h0 p' (by simp [hp'])) hq
/-- One stamp goes the whole way. -/
theorem Path.kept (p : Path ws n A u vs v E) (hl : n.length = ws.length) (x : Int) : kept ws (pushE E n) x = Go.Am.kept ws n x + dl v x - dl u x := by
  induction p with
  | nil => show Go.Am.kept ws n x = _; omega
  | @snoc vs v y E i more p s hy ih =>
    have hk := (Path.snoc p s hy).keys
    rw [List.map_cons, List.nodup_cons] at hk
    have hot : (pushE E n).getD i 0 = n.getD i 0 := by
      refine pushE_other ?_
      intro q hq he
      obtain ⟨j, h1, _⟩ := p.ends q hq
      refine hk.1 (List.mem_map.2 ⟨q, hq, ?_⟩)
      rw [h1] at he ⊢
      simp only [Int.toNat_natCast] at he
      rw [he]
    show Go.Am.kept ws (bump1 (pushE E n) ((i : Int), more)) x = _
    unfold bump1
    simp only [Int.toNat_natCast]
    rw [kept_set (by rw [pushE_len, hl]; exact s.1) s.1, ih, hot]
    have hs := s.2.2
    cases more with
    | true =>
      simp only [if_true] at hs ⊢
      rw [hs.1, hs.2.1]
      have : n.getD i 0 + 1 - n.getD i 0 = 1 := by omega
      rw [this, Int.one_mul]; omega
    | false =>
      simp only [Bool.false_eq_true, if_false] at hs ⊢
      rw [hs.1, hs.2.1]
      have : n.getD i 0 + -1 - n.getD i 0 = -1 := by omega
      rw [this]; omega
theorem Path.within (p : Path ws n A u vs v E) (h : Within ws n) : Within ws (pushE E n) := by
  have hk := p.keys
  have h0 : ∀ q ∈ E, 0 ≤ q.1 := fun q hq => by obtain ⟨j, h1, _⟩ := p.ends q hq; omega
  have key : ∀ i, i < ws.length → (ws.getD i default).l ≤ (pushE E n).getD i 0 ∧ (pushE E n).getD i 0 ≤ (ws.getD i default).m := by
    intro i hi
    have h1 := h.lo i hi
    have h2 := h.hi i hi
    by_cases hm : ∃ q ∈ E, q.1.toNat = i
    · obtain ⟨q, hq, rfl⟩ := hm
      have h3 := pushE_at hk h0 hq (n := n) (by rw [h.len]; exact hi)
      obtain ⟨j, h4, h5, _, _, _, h6⟩ := p.ends q hq
      have hj : q.1.toNat = j := by omega
      rw [hj] at h1 h2 h3 ⊢
      rw [h3]
      split at h6
      · rename_i hm; rw [if_pos hm]; omega
      · rename_i hm; rw [if_neg hm]; omega
    · rw [pushE_other (fun q hq he => hm ⟨q, hq, he⟩)]
      exact ⟨h1, h2⟩
  exact ⟨by rw [pushE_len, h.len], fun i hi => (key i hi).1, fun i hi => (key i hi).2⟩
theorem Path.same (p : Path ws n A u vs v E) {i : Nat} (hA : A i = false) : (pushE E n).getD i 0 = n.getD i 0 := by
  refine pushE_other ?_
  intro q hq he
  obtain ⟨j, h4, _, h5, _⟩ := p.ends q hq
  have : j = i := by omega
  subst this
  rw [hA] at h5; cases h5
end

/-- Rooms out of which no step leads. -/
def Closed (ws : List W) (n : List Int) (A : Nat → Bool) (R : Int → Prop) : Prop := ∀ i, i < ws.length → A i = true → (R (ws.getD i default).f → n.getD i 0 < (ws.getD i default).m → R (ws.getD i default).t) ∧ (R (ws.getD i default).t → (ws.getD i default).l < n.getD i 0 → R (ws.getD i default).f)
theorem path_or {ws : List W} {n : List Int} {A : Nat → Bool} (u : Int) : Closed ws n A (fun x => ∃ vs E, Path ws n A u vs x E) := by
  have short : ∀ {vs v E}, Path ws n A u vs v E → ∀ x, x ∈ vs → ∃ vs' E', Path ws n A u vs' x E' := by
    intro vs v E p
    induction p with
    | nil => intro x hx; rw [List.mem_singleton] at hx; subst hx; exact ⟨_, _, .nil⟩
    | @snoc vs v y E i more p s hy ih =>
      intro x hx
      rcases List.mem_cons.1 hx with rfl | hx
      · exact ⟨_, _, .snoc p s hy⟩
      · exact ih x hx
  intro i hi hA
  constructor
  · rintro ⟨vs, E, p⟩ hlt
    by_cases hm : (ws.getD i default).t ∈ vs
    · exact short p _ hm
    · exact ⟨_, _, .snoc p (i := i) (more := true) ⟨hi, hA, by simp only [if_true]; exact ⟨trivial, trivial, hlt⟩⟩ hm⟩
  · rintro ⟨vs, E, p⟩ hlt
    by_cases hm : (ws.getD i default).f ∈ vs
    · exact short p _ hm
    · exact ⟨_, _, .snoc p (i := i) (more := false) ⟨hi, hA, by simp only [Bool.false_eq_true, if_false]; exact ⟨trivial, trivial, hlt⟩⟩ hm⟩
end Go.Am


namespace Go.Am

def bi (b : Bool) : Int := if b then 1 else 0
/-- What comes into rooms, less what leaves them, over the first ways. -/
def crossTo (ws : List W) (n : List Int) (ρ : Int → Bool) : Nat → Int
  | 0 => 0
  | i + 1 => crossTo ws n ρ i + n.getD i 0 * (bi (ρ (ws.getD i default).t) - bi (ρ (ws.getD i default).f))
/-- A sum over some of the first rooms. -/
def sumR (ρ : Int → Bool) (F : Int → Int) : Nat → Int
  | 0 => 0
  | k + 1 => sumR ρ F k + if ρ k then F k else 0
theorem sumR_add (ρ : Int → Bool) (F G : Int → Int) : ∀ k, sumR ρ (fun x => F x + G x) k = sumR ρ F k + sumR ρ G k := by
  intro k
  induction k with
  | zero => rfl
  | succ k ih => simp only [sumR, ih]; split <;> omega
theorem sumR_mul (ρ : Int → Bool) (c : Int) (F : Int → Int) : ∀ k, sumR ρ (fun x => c * F x) k = c * sumR ρ F k := by
  intro k
  induction k with
  | zero => simp [sumR]
  | succ k ih => simp only [sumR, ih]; split <;> simp [Int.mul_add]
theorem sumR_dl (ρ : Int → Bool) {a : Int} (h0 : 0 ≤ a) : ∀ k : Nat, sumR ρ (fun x => dl a x) k = if a < k then bi (ρ a) else 0 := by
  intro k
  induction k with
  | zero => rw [if_neg (by omega)]; rfl
  | succ k ih =>
    rw [sumR, ih]
    by_cases h : a = k
    · subst h
      rw [if_neg (Int.lt_irrefl _), if_pos (show ((k : Nat) : Int) < ((k + 1 : Nat) : Int) by omega)]
      unfold dl bi
      simp
    · have e : dl a k = 0 := if_neg h
      rw [e, ite_self, Int.add_zero]
      by_cases h2 : a < k
      · rw [if_pos h2, if_pos (show a < ((k + 1 : Nat) : Int) by omega)]
      · rw [if_neg h2, if_neg (show ¬ a < ((k + 1 : Nat) : Int) by omega)]
theorem sumR_zero {ρ : Int → Bool} {F : Int → Int} (h : ∀ x, F x = 0) : ∀ k, sumR ρ F k = 0 := by
  intro k
  induction k with
  | zero => rfl
  | succ k ih => rw [sumR, ih, h, ite_self]; rfl
theorem sumR_kept {r : Nat} {ws : List W} (hr : InR r ws) (n : List Int) (ρ : Int → Bool) : ∀ k, k ≤ ws.length → sumR ρ (fun x => keptTo ws n x k) r = crossTo ws n ρ k := by
  intro k
  induction k with
  | zero =>
    intro _
    exact sumR_zero (fun x => rfl) r
  | succ k ih =>
    intro hk
    obtain ⟨h1, h2, h3, h4⟩ := hr k (by omega)
    have e : (fun x => keptTo ws n x (k + 1)) = fun x => keptTo ws n x k + n.getD k 0 * (dl (ws.getD k default).t x + -1 * dl (ws.getD k default).f x) := by
      funext x
      rw [keptTo]
      congr 2
      omega
    rw [e, sumR_add, ih (by omega), sumR_mul, sumR_add, sumR_mul, sumR_dl ρ h3, sumR_dl ρ h1, if_pos h4, if_pos h2, crossTo]
    congr 2
    omega
theorem crossTo_same {ws : List W} {n : List Int} {ρ : Int → Bool} (h : ∀ x, ρ x = true) : ∀ k, crossTo ws n ρ k = 0 := by
  intro k
  induction k with
  | zero => rfl
  | succ k ih => rw [crossTo, ih, h, h]; simp [bi]
theorem kept_out {r : Int} {ws : List W} (hr : InR r ws) (n : List Int) {x : Int} (hx : x < 0 ∨ r ≤ x) : ∀ k, k ≤ ws.length → keptTo ws n x k = 0 := by
  intro k
  induction k with
  | zero => intro _; rfl
  | succ k ih =>
    intro hk
    obtain ⟨h1, h2, h3, h4⟩ := hr k (by omega)
    rw [keptTo, ih (by omega), dl, dl, if_neg (by omega), if_neg (by omega)]
    simp

/-- Rooms as bits. -/
def inS (s : Nat) (x : Int) : Bool := s.testBit x.toNat
def lvs (w : W) (s : Nat) : Bool := inS s w.f && !inS s w.t
def ens (w : W) (s : Nat) : Bool := !inS s w.f && inS s w.t
def netTo (ws : List W) (s : Nat) : Nat → Int
  | 0 => 0
  | i + 1 => netTo ws s i + (if lvs (ws.getD i default) s then (ws.getD i default).l else 0) - if ens (ws.getD i default) s then (ws.getD i default).m else 0
def proofB (ws : List W) (s : Nat) : Bool := decide (0 < netTo ws s ws.length)
/-- No rooms prove the opposite. -/
def canB (r : Nat) (ws : List W) : Bool := (List.range (2 ^ r)).all fun s => !proofB ws s
theorem canB_iff {r : Nat} {ws : List W} : canB r ws = true ↔ ∀ s, s < 2 ^ r → proofB ws s = false := by
  unfold canB
  rw [List.all_eq_true]
  exact ⟨fun h s hs => by have := h s (List.mem_range.2 hs); simpa using this, fun h s hs => by rw [h s (List.mem_range.1 hs)]; rfl⟩

/-- Rooms that prove: no flow. -/
theorem net_cross {ws : List W} {n : List Int} (h : Within ws n) (s : Nat) : ∀ k, k ≤ ws.length → netTo ws s k ≤ -crossTo ws n (inS s) k := by
  intro k
  induction k with
  | zero => intro _; exact Int.le_refl _
  | succ k ih =>
    intro hk
    have h0 := ih (by omega)
    have h1 := h.lo k (by omega)
    have h2 := h.hi k (by omega)
    rw [netTo, crossTo]
    generalize ws.getD k default = w at *
    generalize n.getD k 0 = c at *
    unfold lvs ens bi
    cases inS s w.f <;> cases inS s w.t <;> simp <;> omega
theorem proof_none {r : Nat} {ws : List W} (hr : InR r ws) {s : Nat} (hp : proofB ws s = true) : ¬ ∃ n, Flow ws n := by
  rintro ⟨n, hf⟩
  have h1 := net_cross hf.toWithin s ws.length (Nat.le_refl _)
  have h2 := sumR_kept hr n (inS s) ws.length (Nat.le_refl _)
  rw [sumR_zero (fun x => hf.kp x)] at h2
  have h3 := of_decide_eq_true hp
  omega

/-- Bits out of a function. -/
def maskB (ρ : Int → Bool) : Nat → Nat
  | 0 => 0
  | k + 1 => maskB ρ k + if ρ k then 2 ^ k else 0
theorem maskB_lt (ρ : Int → Bool) : ∀ k, maskB ρ k < 2 ^ k := by
  intro k
  induction k with
  | zero => exact Nat.one_pos
  | succ k ih => rw [maskB, Nat.pow_succ]; split <;> omega
theorem maskB_bit (ρ : Int → Bool) : ∀ k i : Nat, (maskB ρ k).testBit i = (decide (i < k) && ρ i) := by
  intro k
  induction k with
  | zero => intro i; simp [maskB]
  | succ k ih =>
    intro i
    have hlt := maskB_lt ρ k
    rw [maskB]
    by_cases hρ : ρ k = true
    · rw [if_pos hρ, Nat.add_comm]
      by_cases hik : i = k
      · subst hik
        rw [Nat.testBit_two_pow_add_eq, Nat.testBit_lt_two_pow hlt]
        simp [hρ]
      · by_cases hlt2 : i < k
        · rw [Nat.testBit_two_pow_add_gt hlt2, ih]
          simp [hlt2, show i < k + 1 by omega]
        · have hb : 2 ^ k + maskB ρ k < 2 ^ i := by
            have h2 : 2 ^ (k + 1) ≤ 2 ^ i := Nat.pow_le_pow_right (by decide) (by omega)
            rw [Nat.pow_succ] at h2
            omega
          rw [Nat.testBit_lt_two_pow hb]
          simp [show ¬ i < k + 1 by omega]
    · have hρ : ρ k = false := by simpa using hρ
      rw [if_neg (by simp [hρ]), Nat.add_zero, ih]
      by_cases hik : i = k
      · subst hik; simp [hρ]
      · by_cases hlt2 : i < k
        · simp [hlt2, show i < k + 1 by omega]
        · simp [hlt2, show ¬ i < k + 1 by omega]
theorem inS_mask {ρ : Int → Bool} {r : Nat} {x : Int} (h0 : 0 ≤ x) (h1 : x < r) : inS (maskB ρ r) x = ρ x := by
  unfold inS
  rw [maskB_bit, decide_eq_true (by omega), Bool.true_and]
  congr 1
  omega
/-- Where no path leads on, and more comes in than goes out: the other rooms prove. -/
theorem cut_proof {r : Nat} {ws : List W} (hr : InR r ws) {n : List Int} (h : Within ws n) {ρ : Int → Bool} (hc : Closed ws n (fun _ => true) (fun x => ρ x = true)) (hpos : 0 < sumR ρ (fun x => kept ws n x) r) : proofB ws (maskB (fun x => !ρ x) r) = true := by
  have key : ∀ k, k ≤ ws.length → netTo ws (maskB (fun x => !ρ x) r) k = crossTo ws n ρ k := by
    intro k
    induction k with
    | zero => intro _; rfl
    | succ k ih =>
      intro hk
      obtain ⟨h1, h2, h3, h4⟩ := hr k (by omega)
      obtain ⟨c1, c2⟩ := hc k (by omega) rfl
      have hl := h.lo k (by omega)
      have hm := h.hi k (by omega)
      rw [netTo, crossTo, ih (by omega)]
      unfold lvs ens bi
      rw [inS_mask h1 h2, inS_mask h3 h4]
      cases hf : ρ (ws.getD k default).f <;> cases ht : ρ (ws.getD k default).t
      · simp
      · have : ¬ (ws.getD k default).l < n.getD k 0 := fun hlt => by have this : ρ (ws.getD k default).f = true := c2 ht hlt; rw [hf] at this; cases this
        simp only [Bool.not_false, Bool.not_true, Bool.and_true, Bool.and_false, if_true, Bool.false_eq_true, if_false]
        omega
      · have : ¬ n.getD k 0 < (ws.getD k default).m := fun hlt => by have this : ρ (ws.getD k default).t = true := c1 hf hlt; rw [ht] at this; cases this
        simp only [Bool.not_false, Bool.not_true, Bool.and_true, Bool.and_false, if_true, Bool.false_eq_true, if_false]
        omega
      · simp
  unfold proofB
  rw [key _ (Nat.le_refl _), ← sumR_kept hr n ρ _ (Nat.le_refl _)]
  exact decide_eq_true hpos

def devTo (ws : List W) (n : List Int) : Nat → Nat
  | 0 => 0
  | k + 1 => devTo ws n k + (kept ws n k).natAbs
theorem dev_push {ws : List W} {n n' : List Int} {u v : Int} (hk : ∀ x, kept ws n' x = kept ws n x + dl v x - dl u x) (hu : 0 < kept ws n u) (hv : kept ws n v < 0) (h0u : 0 ≤ u) (h0v : 0 ≤ v) : ∀ r : Nat, devTo ws n' r + ((if u < r then 1 else 0) + if v < r then 1 else 0) = devTo ws n r := by
  have hne : u ≠ v := by rintro rfl; omega
  intro r
  induction r with
  | zero => rw [if_neg (by omega), if_neg (by omega)]; rfl
  | succ r ih =>
    rw [devTo, devTo, hk]
    have cr : ((r + 1 : Nat) : Int) = (r : Int) + 1 := by omega
    rw [cr]
    by_cases h1 : u = r
    · have e1 : dl u r = 1 := if_pos h1
      have e2 : dl v r = 0 := if_neg (fun h => hne (h1.trans h.symm))
      have e3 : (if u < (r : Int) then 1 else 0 : Nat) = 0 := if_neg (by omega)
      have e4 : (if u < (r : Int) + 1 then 1 else 0 : Nat) = 1 := if_pos (by omega)
      have e5 : (if v < (r : Int) + 1 then 1 else 0 : Nat) = if v < (r : Int) then 1 else 0 := by
        by_cases h2 : v < (r : Int)
        · rw [if_pos h2, if_pos (by omega)]
        · rw [if_neg h2, if_neg (by omega)]
      rw [h1] at hu
      rw [e3] at ih
      rw [e1, e2, e4, e5]
      omega
    · by_cases h2 : v = r
      · have e1 : dl u r = 0 := if_neg h1
        have e2 : dl v r = 1 := if_pos h2
        have e3 : (if v < (r : Int) then 1 else 0 : Nat) = 0 := if_neg (by omega)
        have e4 : (if v < (r : Int) + 1 then 1 else 0 : Nat) = 1 := if_pos (by omega)
        have e5 : (if u < (r : Int) + 1 then 1 else 0 : Nat) = if u < (r : Int) then 1 else 0 := by
          by_cases h3 : u < (r : Int)
          · rw [if_pos h3, if_pos (by omega)]
          · rw [if_neg h3, if_neg (by omega)]
        rw [h2] at hv
        rw [e3] at ih
        rw [e1, e2, e4, e5]
        omega
      · have e1 : dl u r = 0 := if_neg h1
        have e2 : dl v r = 0 := if_neg h2
        have e5 : (if u < (r : Int) + 1 then 1 else 0 : Nat) = if u < (r : Int) then 1 else 0 := by
          by_cases h3 : u < (r : Int)
          · rw [if_pos h3, if_pos (by omega)]
          · rw [if_neg h3, if_neg (by omega)]
        have e6 : (if v < (r : Int) + 1 then 1 else 0 : Nat) = if v < (r : Int) then 1 else 0 := by
          by_cases h3 : v < (r : Int)
          · rw [if_pos h3, if_pos (by omega)]
          · rw [if_neg h3, if_neg (by omega)]
        rw [e1, e2, e5, e6]
        have e7 : kept ws n ↑r + 0 - 0 = kept ws n ↑r := by omega
        rw [e7]
        omega
theorem dev_zero {ws : List W} {n : List Int} : ∀ {r : Nat}, devTo ws n r = 0 → ∀ x : Nat, x < r → kept ws n x = 0 := by
  intro r
  induction r with
  | zero => intro _ x hx; omega
  | succ r ih =>
    intro h x hx
    rw [devTo] at h
    rcases Nat.lt_succ_iff_lt_or_eq.1 hx with h1 | rfl
    · exact ih (by omega) x h1
    · omega
theorem sumR_pos {ρ : Int → Bool} {F : Int → Int} {u : Nat} (hu : ρ u = true) (hF : 0 < F u) (h : ∀ x : Nat, ρ x = true → 0 ≤ F x) : ∀ r, u < r → 0 < sumR ρ F r := by
  have h0 : ∀ r, 0 ≤ sumR ρ F r := by
    intro r
    induction r with
    | zero => exact Int.le_refl _
    | succ r ih =>
      rw [sumR]
      split
      · rename_i hr; have := h r hr; omega
      · omega
  intro r
  induction r with
  | zero => intro hr; omega
  | succ r ih =>
    intro hr
    rw [sumR]
    rcases Nat.lt_succ_iff_lt_or_eq.1 hr with h1 | rfl
    · have := ih h1
      split
      · rename_i hr; have := h r hr; omega
      · omega
    · rw [if_pos hu]; have := h0 u; omega
theorem sumR_some {F : Int → Int} : ∀ {r : Nat}, sumR (fun _ => true) F r = 0 → (∃ x : Nat, x < r ∧ F x ≠ 0) → (∃ u : Nat, u < r ∧ 0 < F u) ∧ ∃ v : Nat, v < r ∧ F v < 0 := by
  intro r hs hx
  have hpos : (∀ u : Nat, u < r → F u ≤ 0) → (∃ x : Nat, x < r ∧ F x ≠ 0) → sumR (fun _ => true) F r < 0 := by
    clear hs hx
    induction r with
    | zero => rintro _ ⟨x, hx, _⟩; omega
    | succ r ih =>
      intro h ⟨x, hx, hne⟩
      have hr := h r (by omega)
      have hle : sumR (fun _ => true) F r ≤ 0 := by
        by_cases hex : ∃ y : Nat, y < r ∧ F y ≠ 0
        · exact Int.le_of_lt (ih (fun u hu => h u (by omega)) hex)
        · have : ∀ k, k ≤ r → sumR (fun _ => true) F k = 0 := by
            intro k
            induction k with
            | zero => intro _; rfl
            | succ k ih2 =>
              intro hk
              rw [sumR, ih2 (by omega), if_pos rfl]
              have : F k = 0 := Classical.byContradiction fun hne => hex ⟨k, by omega, hne⟩
              omega
          rw [this r (Nat.le_refl _)]; exact Int.le_refl _
      rw [sumR, if_pos rfl]
      rcases Nat.lt_succ_iff_lt_or_eq.1 hx with h1 | rfl
      · have := ih (fun u hu => h u (by omega)) ⟨x, h1, hne⟩
        omega
      · omega
  have hneg : (∀ u : Nat, u < r → 0 ≤ F u) → (∃ x : Nat, x < r ∧ F x ≠ 0) → 0 < sumR (fun _ => true) F r := by
    intro h ⟨x, hx, hne⟩
    have hnn : ∀ k, k ≤ r → 0 ≤ sumR (fun _ => true) F k := by
      intro k
      induction k with
      | zero => intro _; exact Int.le_refl _
      | succ k ih => intro hk; rw [sumR, if_pos rfl]; have := ih (by omega); have := h k (by omega); omega
    have : ∀ k, x < k → k ≤ r → 0 < sumR (fun _ => true) F k := by
      intro k
      induction k with
      | zero => intro h1; omega
      | succ k ih =>
        intro h1 hk
        rw [sumR, if_pos rfl]
        have h2 := h k (by omega)
        rcases Nat.lt_succ_iff_lt_or_eq.1 h1 with h3 | rfl
        · have := ih h3 (by omega); omega
        · have := hnn x (by omega); have := h x hx; omega
    exact this r hx (Nat.le_refl _)
  constructor
  · apply Classical.byContradiction
    intro hno
    have := hpos (fun u hu => by
      have : ¬ 0 < F u := fun hp => hno ⟨u, hu, hp⟩
      omega) hx
    omega
  · apply Classical.byContradiction
    intro hno
    have := hneg (fun u hu => by
      have : ¬ F u < 0 := fun hp => hno ⟨u, hu, hp⟩
      omega) hx
    omega
/-- The sum of what comes and goes is nothing. -/
theorem kept_sum {r : Nat} {ws : List W} (hr : InR r ws) (n : List Int) : sumR (fun _ => true) (fun x => kept ws n x) r = 0 := by
  rw [sumR_kept hr n _ _ (Nat.le_refl _), crossTo_same (fun _ => rfl)]
open Classical in
/-- A path, or a proof. -/
theorem path_or_proof {r : Nat} {ws : List W} (hr : InR r ws) {n : List Int} (h : Within ws n) (hne : devTo ws n r ≠ 0) :
    (∃ u v : Nat, u < r ∧ v < r ∧ 0 < kept ws n u ∧ kept ws n v < 0 ∧ ∃ vs E, Path ws n (fun _ => true) u vs v E) ∨ ∃ s, s < 2 ^ r ∧ proofB ws s = true := by
  have hex : ∃ x : Nat, x < r ∧ kept ws n x ≠ 0 := by
    apply Classical.byContradiction
    intro hno
    apply hne
    have : ∀ k, k ≤ r → devTo ws n k = 0 := by
      intro k
      induction k with
      | zero => intro _; rfl
      | succ k ih =>
        intro hk
        have h0 : kept ws n k = 0 := Classical.byContradiction fun hne => hno ⟨k, by omega, hne⟩
        rw [devTo, ih (by omega), h0]; rfl
    exact this r (Nat.le_refl _)
  obtain ⟨⟨u, hu, hpu⟩, _⟩ := sumR_some (kept_sum hr n) hex
  by_cases hp : ∃ v : Nat, v < r ∧ kept ws n v < 0 ∧ ∃ vs E, Path ws n (fun _ => true) u vs v E
  · obtain ⟨v, h1, h2, h3⟩ := hp
    exact .inl ⟨u, v, hu, h1, hpu, h2, h3⟩
  · right
    have hcl := path_or (ws := ws) (n := n) (A := fun _ => true) (u : Int)
    have e : (fun x : Int => (decide (∃ vs E, Path ws n (fun _ => true) u vs x E)) = true) = fun x => ∃ vs E, Path ws n (fun _ => true) u vs x E := by
      funext x
      exact decide_eq_true_eq
    refine ⟨_, maskB_lt _ r, cut_proof hr h (ρ := fun x => decide (∃ vs E, Path ws n (fun _ => true) u vs x E)) (by rw [e]; exact hcl) ?_⟩
    refine sumR_pos (u := u) (decide_eq_true ⟨_, _, .nil⟩) hpu ?_ r hu
    intro x hx
    have hx := of_decide_eq_true hx
    by_cases hxr : x < r
    · have : ¬ kept ws n x < 0 := fun hlt => hp ⟨x, hxr, hlt, hx⟩
      omega
    · have : kept ws n x = 0 := kept_out hr n (.inr (by omega)) _ (Nat.le_refl _)
      omega
/-- The theorem of Hoffman. -/
theorem flow_of_can {r : Nat} {ws : List W} (hr : InR r ws) (hc : canB r ws = true) : ∀ (d : Nat) (n : List Int), devTo ws n r = d → Within ws n → ∃ n', Flow ws n' := by
  intro d
  induction d using Nat.strongRecOn with
  | _ d ih =>
    intro n hd h
    by_cases h0 : d = 0
    · subst h0
      refine ⟨n, h, ?_⟩
      intro x
      by_cases hx : x < 0 ∨ (r : Int) ≤ x
      · exact kept_out hr n hx _ (Nat.le_refl _)
      · have := dev_zero hd x.toNat (by omega)
        rwa [show ((x.toNat : Nat) : Int) = x by omega] at this
    · rcases path_or_proof hr h (by omega) with ⟨u, v, hu, hv, hpu, hpv, vs, E, p⟩ | ⟨s, hs, hp⟩
      · have hdv := dev_push (n' := pushE E n) (fun x => p.kept h.len x) hpu hpv (by omega) (by omega) r
        rw [if_pos (by omega), if_pos (by omega)] at hdv
        exact ih (devTo ws (pushE E n) r) (by omega) _ rfl (p.within h)
      · rw [canB_iff.1 hc s hs] at hp; cases hp
theorem hoffman {r : Nat} {ws : List W} (hr : InR r ws) (hl : ∀ i, i < ws.length → (ws.getD i default).l ≤ (ws.getD i default).m) : canB r ws = true ↔ ∃ n, Flow ws n := by
  constructor
  · intro hc
    have hg : ∀ i, (ws.map (·.l)).getD i 0 = if i < ws.length then (ws.getD i default).l else 0 := by
      intro i
      rw [List.getD_eq_getElem?_getD, List.getElem?_map, List.getD_eq_getElem?_getD]
      by_cases hi : i < ws.length
      · rw [List.getElem?_eq_getElem hi, if_pos hi]; rfl
      · rw [List.getElem?_eq_none (by omega), if_neg hi]; rfl
    refine flow_of_can hr hc _ (ws.map (·.l)) rfl ⟨by simp, ?_, ?_⟩
    · intro i hi; rw [hg, if_pos hi]; exact Int.le_refl _
    · intro i hi; rw [hg, if_pos hi]; exact hl i hi
  · intro hf
    refine canB_iff.2 fun s _ => ?_
    cases hp : proofB ws s with
    | false => rfl
    | true => exact absurd hf (proof_none hr hp)
end Go.Am


namespace Go.Am

/-- Where no path leads on, no other flow has less on a way that leaves the rooms. -/
theorem cross_diff {ws : List W} {n n' : List Int} {A : Nat → Bool} {ρ : Int → Bool} {i : Nat} (h : Within ws n) (h' : Within ws n') (hc : Closed ws n A (fun x => ρ x = true)) (hA : A i = false) (hs : ∀ k, k < ws.length → A k = false → k ≠ i → n'.getD k 0 = n.getD k 0) :
    ∀ k, k ≤ ws.length → crossTo ws n ρ k + (if i < k then (n'.getD i 0 - n.getD i 0) * (bi (ρ (ws.getD i default).t) - bi (ρ (ws.getD i default).f)) else 0) ≤ crossTo ws n' ρ k := by
  intro k
  induction k with
  | zero => intro _; rw [if_neg (by omega)]; exact Int.le_refl _
  | succ k ih =>
    intro hk
    have h0 := ih (by omega)
    rw [crossTo, crossTo]
    by_cases hik : i = k
    · subst hik
      rw [if_neg (Nat.lt_irrefl _)] at h0
      rw [if_pos (Nat.lt_succ_self _), Int.sub_mul]
      omega
    · have h1 : n.getD k 0 * (bi (ρ (ws.getD k default).t) - bi (ρ (ws.getD k default).f)) ≤ n'.getD k 0 * (bi (ρ (ws.getD k default).t) - bi (ρ (ws.getD k default).f)) := by
        cases hAk : A k with
        | false => rw [hs k (by omega) hAk (fun h => hik h.symm)]; exact Int.le_refl _
        | true =>
          obtain ⟨c1, c2⟩ := hc k (by omega) hAk
          have l1 := h.lo k (by omega)
          have l2 := h.hi k (by omega)
          have l3 := h'.lo k (by omega)
          have l4 := h'.hi k (by omega)
          have c1 : ρ (ws.getD k default).f = true → n.getD k 0 < (ws.getD k default).m → ρ (ws.getD k default).t = true := c1
          have c2 : ρ (ws.getD k default).t = true → (ws.getD k default).l < n.getD k 0 → ρ (ws.getD k default).f = true := c2
          generalize ws.getD k default = w at *
          generalize n.getD k 0 = a at *
          generalize n'.getD k 0 = b at *
          cases hf : ρ w.f <;> cases ht : ρ w.t
          · simp [bi]
          · have : ¬ w.l < a := fun hlt => by have := c2 ht hlt; rw [hf] at this; cases this
            simp [bi]; omega
          · have : ¬ a < w.m := fun hlt => by have := c1 hf hlt; rw [ht] at this; cases this
            simp [bi]; omega
          · simp [bi]
      by_cases h2 : i < k
      · rw [if_pos h2] at h0; rw [if_pos (by omega)]; omega
      · rw [if_neg h2] at h0; rw [if_neg (by omega)]; omega
theorem cross_flow {r : Nat} {ws : List W} (hr : InR r ws) {n : List Int} (hf : Flow ws n) (ρ : Int → Bool) : crossTo ws n ρ ws.length = 0 := by
  rw [← sumR_kept hr n ρ _ (Nat.le_refl _)]
  exact sumR_zero (fun x => hf.kp x) r
theorem cut_least {r : Nat} {ws : List W} (hr : InR r ws) {n n' : List Int} {A : Nat → Bool} {ρ : Int → Bool} {i : Nat} (hf : Flow ws n) (hf' : Flow ws n') (hi : i < ws.length) (hc : Closed ws n A (fun x => ρ x = true)) (hA : A i = false) (hs : ∀ k, k < ws.length → A k = false → k ≠ i → n'.getD k 0 = n.getD k 0)
    (h1 : ρ (ws.getD i default).f = true) (h2 : ρ (ws.getD i default).t = false) : n.getD i 0 ≤ n'.getD i 0 := by
  have h := cross_diff hf.toWithin hf'.toWithin hc hA hs ws.length (Nat.le_refl _)
  rw [if_pos hi, cross_flow hr hf, cross_flow hr hf', h1, h2] at h
  simp only [bi, Bool.false_eq_true, if_true, if_false] at h
  omega
theorem cut_most {r : Nat} {ws : List W} (hr : InR r ws) {n n' : List Int} {A : Nat → Bool} {ρ : Int → Bool} {i : Nat} (hf : Flow ws n) (hf' : Flow ws n') (hi : i < ws.length) (hc : Closed ws n A (fun x => ρ x = true)) (hA : A i = false) (hs : ∀ k, k < ws.length → A k = false → k ≠ i → n'.getD k 0 = n.getD k 0)
    (h1 : ρ (ws.getD i default).t = true) (h2 : ρ (ws.getD i default).f = false) : n'.getD i 0 ≤ n.getD i 0 := by
  have h := cross_diff hf.toWithin hf'.toWithin hc hA hs ws.length (Nat.le_refl _)
  rw [if_pos hi, cross_flow hr hf, cross_flow hr hf', h1, h2] at h
  simp only [bi, Bool.false_eq_true, if_true, if_false] at h
  omega

/-- The least numbers. -/
def LM (ws : List W) : Prop := ∀ i, i < ws.length → (ws.getD i default).l ≤ (ws.getD i default).m
theorem exists_min {α : Type} {P : α → Prop} (f : α → Nat) (h : ∃ a, P a) : ∃ a, P a ∧ ∀ b, P b → f a ≤ f b := by
  obtain ⟨a, ha⟩ := h
  have : ∀ k a, P a → f a = k → ∃ a, P a ∧ ∀ b, P b → f a ≤ f b := by
    intro k
    induction k using Nat.strongRecOn with
    | _ k ih =>
      intro a ha hk
      by_cases hb : ∃ b, P b ∧ f b < f a
      · obtain ⟨b, hb, hlt⟩ := hb
        exact ih (f b) (by omega) b hb rfl
      · refine ⟨a, ha, fun b hb' => ?_⟩
        have : ¬ f b < f a := fun h => hb ⟨b, hb', h⟩
        omega
  exact this _ a ha rfl
/-- The ends of a span. -/
def IsLo (ws : List W) (i : Nat) (v : Int) : Prop := (∃ n, Flow ws n ∧ n.getD i 0 = v) ∧ ∀ n, Flow ws n → v ≤ n.getD i 0
def IsHi (ws : List W) (i : Nat) (v : Int) : Prop := (∃ n, Flow ws n ∧ n.getD i 0 = v) ∧ ∀ n, Flow ws n → n.getD i 0 ≤ v
theorem IsLo.uniq {ws : List W} {i : Nat} {v v' : Int} (h : IsLo ws i v) (h' : IsLo ws i v') : v = v' := by
  obtain ⟨⟨n, hn, rfl⟩, h2⟩ := h
  obtain ⟨⟨n', hn', rfl⟩, h2'⟩ := h'
  have := h2 n' hn'; have := h2' n hn; omega
theorem IsHi.uniq {ws : List W} {i : Nat} {v v' : Int} (h : IsHi ws i v) (h' : IsHi ws i v') : v = v' := by
  obtain ⟨⟨n, hn, rfl⟩, h2⟩ := h
  obtain ⟨⟨n', hn', rfl⟩, h2'⟩ := h'
  have := h2 n' hn'; have := h2' n hn; omega
end Go.Am


namespace Go.Am
theorem BOk.inR {rm : Int} {ws : List W} (h : BOk rm ws) : InR rm ws := fun i hi => ⟨(h.way i hi).f0, (h.way i hi).f1, (h.way i hi).t0, (h.way i hi).t1⟩
theorem BOk.LM {rm : Int} {ws : List W} (h : BOk rm ws) : LM ws := fun i hi => (h.way i hi).lm
end Go.Am


namespace Go.Am
/-- Do books agree? -/
def canP (rm : Int) (ws : List W) : Bool := decide (chkB rm ws = 0) && canB rm.toNat ws
/-- The error of books, or that they do not agree. -/
def agreeE (rm : Int) (ws : List W) : Int := if chkB rm ws = 0 then (if canP rm ws then 0 else 12) else chkB rm ws
end Go.Am


namespace Go.Am
theorem take_next {l : List Int} {i : Nat} (h : i < l.length) : l.take (i + 1) = l.take i ++ [l.getD i 0] := by
  rw [List.take_add_one, List.getD_eq_getElem?_getD, List.getElem?_eq_getElem h]; rfl
end Go.Am


namespace Go.Am
theorem agree_ok {rm : Int} {ws : List W} (h : agreeE rm ws = 0) : BOk rm ws ∧ ∃ n, Flow ws n := by
  unfold agreeE at h
  by_cases hc : chkB rm ws = 0
  · rw [if_pos hc] at h
    have hB := BOk.of hc
    refine ⟨hB, ?_⟩
    cases hp : canP rm ws with
    | false => rw [hp] at h; cases h
    | true =>
      unfold canP at hp
      rw [decide_eq_true hc, Bool.true_and] at hp
      have hr : InR ((rm.toNat : Nat) : Int) ws := by
        have := hB.r2
        rw [show ((rm.toNat : Nat) : Int) = rm by omega]
        exact hB.inR
      exact (hoffman hr hB.LM).1 hp
  · rw [if_neg hc] at h; exact absurd h hc
end Go.Am


namespace Go.Am
def keptL (r : Nat) (ws : List W) (n : List Int) (k : Nat) : List Int := (List.range r).map fun x : Nat => keptTo ws n (x : Int) k
theorem keptL_len (r : Nat) (ws : List W) (n : List Int) (k : Nat) : (keptL r ws n k).length = r := by simp [keptL]
theorem keptL_get {r : Nat} {ws : List W} {n : List Int} {k x : Nat} (hx : x < r) : (keptL r ws n k).getD x 0 = keptTo ws n (x : Int) k := by
  unfold keptL
  rw [List.getD_eq_getElem?_getD, List.getElem?_map, List.getElem?_range hx]
  rfl
theorem keptL_zero (r : Nat) (ws : List W) (n : List Int) : keptL r ws n 0 = List.replicate r 0 := by
  unfold keptL
  apply List.ext_getElem
  · simp
  · intro i h1 h2
    simp [keptTo]
theorem keptL_succ {r : Nat} {ws : List W} {n : List Int} {k f t : Nat} (hf : f < r) (ht : t < r) (hne : f ≠ t) (ef : (ws.getD k default).f = (f : Int)) (et : (ws.getD k default).t = (t : Int)) :
    ((keptL r ws n k).set t ((keptL r ws n k).getD t 0 + n.getD k 0)).set f (((keptL r ws n k).set t ((keptL r ws n k).getD t 0 + n.getD k 0)).getD f 0 - n.getD k 0) = keptL r ws n (k + 1) := by
  refine extJ (by simp only [List.length_set, keptL_len]) ?_
  intro x
  by_cases hx : x < r
  · have hl := keptL_len r ws n k
    rw [getD_setJ, getD_setJ, getD_setJ, keptL_get hx, keptL_get hx, List.length_set, hl, keptTo, ef, et, keptL_get ht, keptL_get hf]
    unfold dl
    by_cases h1 : x = f
    · subst h1
      rw [if_pos ⟨rfl, hf⟩, if_neg (fun h => hne h.1), if_neg (by omega), if_pos rfl]; omega
    · rw [if_neg (fun h => h1 h.1)]
      by_cases h2 : x = t
      · subst h2
        rw [if_pos ⟨rfl, ht⟩, if_pos rfl, if_neg (by omega)]; omega
      · rw [if_neg (fun h => h2 h.1), if_neg (by omega), if_neg (by omega)]; omega
  · have e1 : (keptL r ws n (k + 1))[x]? = none := List.getElem?_eq_none (by rw [keptL_len]; omega)
    rw [List.getD_eq_getElem?_getD, List.getElem?_eq_none (by simp only [List.length_set, keptL_len]; omega)]
    rw [List.getD_eq_getElem?_getD, e1]
theorem kept_bound {ws : List W} {n : List Int} (hn : ∀ i, i < ws.length → 0 ≤ n.getD i 0 ∧ n.getD i 0 ≤ 99) (x : Int) : ∀ k, k ≤ ws.length → -(99 * (k : Int)) ≤ keptTo ws n x k ∧ keptTo ws n x k ≤ 99 * (k : Int) := by
  intro k
  induction k with
  | zero => intro _; simp [keptTo]
  | succ k ih =>
    intro hk
    have h1 := ih (by omega)
    have h2 := hn k (by omega)
    rw [keptTo]
    generalize n.getD k 0 = c at *
    unfold dl
    split <;> split <;> simp <;> omega

theorem kept_c {h : AHeap} {r : Nat} {pf vW vn : AV} {ws : List W} {n : List Int} (hpf : AddrOf pf pf 0 0) (hf : Rd h pf 0 [.int .i64 (r : Int), vW, vn]) (hv : Rd h vW 4 (flr wc ws)) (hn : Row h vn n) (hB : BOk (r : Int) ws) (hl : n.length = ws.length) (hb : ∀ i, i < ws.length → 0 ≤ n.getD i 0 ∧ n.getD i 0 ≤ 99) : ACalls Go.Proofs.Tryz.prog 78 [pf] h (fun q h' => St h h' [⟨q, 1, ints (keptL r ws n ws.length), true⟩]) := by
  refine KA.fn 53 [.tmp 2] Go.Proofs.Tryz.func78 rfl (by decide) rfl rfl (Nat.le_of_ble_eq_true rfl) ?_
  have hS := St.refl h
  have hr6 := hB.r6
  have hwl := hB.len
  show KA _ 53 _ _ [(0, pf)] _
  refine KA.seq ?_
  refine KA.region rfl ?_
  refine KOps.assign ?_
  refine KOps.done ?_
  refine sqQ.normal ?_
  refine KA.sub (Sub.cons (t := 0) Look.eq (Sub.nil _)) ?_
  refine KA.seq ?_
  refine KA.region rfl ?_
  refine KOps.move ?_
  refine KOps.nilP hpf ?_
  refine KOps.fieldAddr hpf ?_
  intro p8 hp8
  refine KOps.fieldAddr hp8 ?_
  intro p9 hp9
  refine KOps.load hp9 (Rd.ext hS.keeps hf) rfl ?_
  refine KOps.makeI hS (by first | omega | (simp; omega)) (by first | omega | (simp; omega)) (by first | omega | (simp; omega)) ?_
  intro v11 h' hS
  refine KOps.assign ?_
  refine KOps.done ?_
  refine sqQ.normal ?_
  refine KA.sub (Sub.cons (t := 0) Look.eq (Sub.cons (t := 3) Look.eq (Sub.nil _))) ?_
  refine KA.seq ?_
  refine KA.seq ?_
  refine KA.region rfl ?_
  refine KOps.move ?_
  refine KOps.nilP hpf ?_
  refine KOps.fieldAddr hpf ?_
  intro p14 hp14
  refine KOps.fieldAddr hp14 ?_
  intro p15 hp15
  refine KOps.load hp15 (Rd.ext hS.keeps hf) rfl ?_
  refine KOps.lenF wc_len (Rd.ext hS.keeps hv) ?_
  refine KOps.move ?_
  refine KOps.done ?_
  refine sqQ.normal ?_
  refine KA.sub (Sub.cons (t := 0) Look.eq (Sub.cons (t := 3) Look.eq (Sub.cons (t := 16) Look.eq (Sub.cons (t := 17) Look.eq (Sub.cons (t := 18) Look.eq (Sub.nil _)))))) ?_
  refine KA.block ?_
  refine KA.loop (X := Nat) (fun i => [(0, pf), (3, v11), (16, vW), (17, .int .i64 (ws.length : Int)), (18, .int .i64 (i : Int))]) (fun i h' => i ≤ ws.length ∧ St h h' [⟨v11, 1, ints (keptL r ws n i), true⟩]) (fun i => ws.length - i) 0 (by repeat (first | exact Sub.nil _ | refine Sub.cons Look.eq ?_ | refine Sub.cons (Eq.trans Look.eq (congrArg (AV.int _) (by first | omega | (dsimp only; omega)))) ?_)) ?_ ?_
  · refine ⟨Nat.zero_le _, ?_⟩
    rw [keptL_zero]
    exact hS
  rintro i h2 ⟨hi, hS⟩
  refine KA.seq ?_
  refine KA.region rfl ?_
  refine KOps.lss ?_
  refine KOps.done ?_
  refine sqQ.normal ?_
  refine KA.seq ?_
  refine KA.condD ?_ ?_
  · intro c19
    refine KA.skip ?_
    refine sqQ.normal ?_
    refine KA.sub (Sub.cons (t := 0) Look.eq (Sub.cons (t := 3) Look.eq (Sub.cons (t := 16) Look.eq (Sub.cons (t := 17) Look.eq (Sub.cons (t := 18) Look.eq (Sub.nil _)))))) ?_
    refine KA.seq ?_
    refine KA.block ?_
    refine KA.seq ?_
    refine KA.region rfl ?_
    refine KOps.move ?_
    refine KOps.indexF wc_len (Rd.ext hS.keeps hv) (j := i) rfl (by first | omega | (simp; omega)) ?_
    intro p21 hp21
    refine KOps.loadFl wc_len (by decide) hp21 (Rd.ext hS.keeps hv) (by first | omega | (simp; omega)) ?_
    refine KOps.alloc hS ?_
    intro p5 h' hp5 hS
    refine KOps.assign ?_
    refine KOps.storeAll hS rfl (i := 0) rfl hp5 (by first | rfl | (simp [AV.one]; done) | (simp [AV.one]; assumption) | (simp [AV.one, *]; done)) (by rfl) (by rfl) (by decide) ?_
    intro h' hS
    simp only [List.set_cons_zero, List.set_cons_succ, Nat.zero_add] at hS
    refine KOps.done ?_
    refine sqQ.normal ?_
    refine KA.sub (Sub.cons (t := 0) Look.eq (Sub.cons (t := 3) Look.eq (Sub.cons (t := 4) Look.eq (Sub.cons (t := 5) Look.eq (Sub.cons (t := 16) Look.eq (Sub.cons (t := 17) Look.eq (Sub.cons (t := 18) Look.eq (Sub.nil _)))))))) ?_
    refine KA.seq ?_
    refine KA.draw [] mixed rfl (by kernel_rfl) ?_
    have hwi := hB.way i (by omega)
    have hwf0 := hwi.f0
    have hwf1 := hwi.f1
    have hwt0 := hwi.t0
    have hwt1 := hwi.t1
    have hne := hwi.ne
    have hbi := hb i (by omega)
    have hkl := keptL_len r ws n i
    have hkt := kept_bound hb (ws.getD i default).t i (by omega)
    have hkf := kept_bound hb (ws.getD i default).f i (by omega)
    have hgt := keptL_get (ws := ws) (n := n) (k := i) (show (ws.getD i default).t.toNat < r by omega)
    have hgf := keptL_get (ws := ws) (n := n) (k := i) (show (ws.getD i default).f.toNat < r by omega)
    rw [show (((ws.getD i default).t.toNat : Nat) : Int) = (ws.getD i default).t by omega] at hgt
    rw [show (((ws.getD i default).f.toNat : Nat) : Int) = (ws.getD i default).f by omega] at hgf
    refine KOps.move ?_
    refine KOps.fieldAddr hp5 ?_
    intro p24 hp24
    refine KOps.load hp24 (hS.rd 0 rfl) rfl ?_
    refine KOps.indexIJ (hS.rd 1 rfl) (j := (ws.getD i default).t.toNat) (by first | omega | (simp; omega)) (by first | omega | (simp; omega)) ?_
    intro p26 hp26
    refine KOps.loadI hp26 (hS.rd 1 rfl) (by first | omega | (simp; omega)) ?_
    refine KOps.move ?_
    refine KOps.nilP hpf ?_
    refine KOps.fieldAddr hpf ?_
    intro p30 hp30
    refine KOps.load hp30 (Rd.ext hS.keeps hf) rfl ?_
    refine KOps.move ?_
    refine KOps.indexIJ (Row.ext hS.keeps hn) (j := i) rfl (by first | omega | (simp; omega)) ?_
    intro p33 hp33
    refine KOps.loadI hp33 (Row.ext hS.keeps hn) (by first | omega | (simp; omega)) ?_
    refine KOps.add (by first | omega | (simp; omega)) (by first | omega | (simp; omega)) ?_
    refine KOps.indexIJ (hS.rd 1 rfl) (j := (ws.getD i default).t.toNat) (by first | omega | (simp; omega)) (by first | omega | (simp; omega)) ?_
    intro p36 hp36
    refine KOps.storeI hS rfl (i := 1) rfl hp36 (by first | omega | (simp; omega)) ?_
    intro h' hS
    refine KOps.done ?_
    refine sqQ.normal ?_
    refine KA.sub (Sub.cons (t := 0) Look.eq (Sub.cons (t := 3) Look.eq (Sub.cons (t := 4) Look.eq (Sub.cons (t := 5) Look.eq (Sub.cons (t := 16) Look.eq (Sub.cons (t := 17) Look.eq (Sub.cons (t := 18) Look.eq (Sub.nil _)))))))) ?_
    refine KA.draw [] mixed rfl (by kernel_rfl) ?_
    have hgf2 : ((keptL r ws n i).set (ws.getD i default).t.toNat ((keptL r ws n i).getD (ws.getD i default).t.toNat 0 + n.getD i 0)).getD (ws.getD i default).f.toNat 0 = (keptL r ws n i).getD (ws.getD i default).f.toNat 0 := by
      rw [getD_setJ, if_neg (by omega)]
    simp only [List.set_cons_zero, List.set_cons_succ] at hS
    refine KOps.move ?_
    refine KOps.fieldAddr hp5 ?_
    intro p38 hp38
    refine KOps.load hp38 (hS.rd 0 rfl) rfl ?_
    refine KOps.indexIJ (hS.rd 1 rfl) (j := (ws.getD i default).f.toNat) (by omega) (by rw [List.length_set]; omega) ?_
    intro p40 hp40
    refine KOps.loadI hp40 (hS.rd 1 rfl) (by rw [List.length_set]; omega) ?_
    refine KOps.move ?_
    refine KOps.nilP hpf ?_
    refine KOps.fieldAddr hpf ?_
    intro p44 hp44
    refine KOps.load hp44 (Rd.ext hS.keeps hf) rfl ?_
    refine KOps.move ?_
    refine KOps.indexIJ (Row.ext hS.keeps hn) (j := i) rfl (by first | omega | (simp; omega)) ?_
    intro p47 hp47
    refine KOps.loadI hp47 (Row.ext hS.keeps hn) (by first | omega | (simp; omega)) ?_
    refine KOps.sub (by first | omega | (simp; omega)) (by first | omega | (simp; omega)) ?_
    refine KOps.indexIJ (hS.rd 1 rfl) (j := (ws.getD i default).f.toNat) (by omega) (by rw [List.length_set]; omega) ?_
    intro p50 hp50
    refine KOps.storeI hS rfl (i := 1) rfl hp50 (by rw [List.length_set]; omega) ?_
    intro h9 hS
    refine KOps.done ?_
    refine blQ.normal ?_
    refine sqQ.normal ?_
    refine KA.sub (Sub.cons (t := 0) Look.eq (Sub.cons (t := 3) Look.eq (Sub.cons (t := 16) Look.eq (Sub.cons (t := 17) Look.eq (Sub.cons (t := 18) Look.eq (Sub.nil _)))))) ?_
    refine KA.region rfl ?_
    refine KOps.add (by first | omega | (simp; omega)) (by first | omega | (simp; omega)) ?_
    refine KOps.move ?_
    refine KOps.done ?_
    simp only [List.set_cons_zero, List.set_cons_succ] at hS
    rw [keptL_succ (f := (ws.getD i default).f.toNat) (t := (ws.getD i default).t.toNat) (by omega) (by omega) (by omega) (by omega) (by omega)] at hS
    exact lpQ.normal (i + 1) (by repeat (first | exact Sub.nil _ | refine Sub.cons Look.eq ?_ | refine Sub.cons (Eq.trans Look.eq (congrArg (AV.int _) (by first | omega | (dsimp only; omega)))) ?_)) ⟨by omega, St.tail hS⟩ (by omega)
  · intro c19
    refine KA.exit ?_
    refine sqQ.exit ?_
    refine lpQ.exit ?_
    refine blQ.here ?_
    refine sqQ.normal ?_
    refine KA.sub (Sub.cons (t := 3) Look.eq (Sub.nil _)) ?_
    refine KA.seq ?_
    refine KA.region rfl ?_
    refine KOps.move ?_
    refine KOps.assign ?_
    refine KOps.done ?_
    refine sqQ.normal ?_
    refine KA.sub (Sub.cons (t := 2) Look.eq (Sub.nil _)) ?_
    refine KA.ret ?_
    refine fnQ.ret1 ?_
    have hie : i = ws.length := by omega
    subst hie
    exact hS

end Go.Am


namespace Go.Am

def withinB (ws : List W) (n : List Int) : Bool := (List.range ws.length).all fun i => decide ((ws.getD i default).l ≤ n.getD i 0 ∧ n.getD i 0 ≤ (ws.getD i default).m)
def zeroB (r : Nat) (ws : List W) (n : List Int) : Bool := (List.range r).all fun x : Nat => decide (kept ws n (x : Int) = 0)
/-- The error of a flow, or 0. -/
def verE (rm : Int) (ws : List W) (n : List Int) : Int :=
  if chkB rm ws ≠ 0 then chkB rm ws else if n.length ≠ ws.length then 5 else if withinB ws n = false then 1 else if zeroB rm.toNat ws n = false then 17 else 0
theorem withinB_iff {ws : List W} {n : List Int} : withinB ws n = true ↔ ∀ i, i < ws.length → (ws.getD i default).l ≤ n.getD i 0 ∧ n.getD i 0 ≤ (ws.getD i default).m := by
  unfold withinB
  rw [List.all_eq_true]
  exact ⟨fun h i hi => of_decide_eq_true (h i (List.mem_range.2 hi)), fun h i hi => decide_eq_true (h i (List.mem_range.1 hi))⟩
theorem zeroB_iff {r : Nat} {ws : List W} {n : List Int} : zeroB r ws n = true ↔ ∀ x : Nat, x < r → kept ws n (x : Int) = 0 := by
  unfold zeroB
  rw [List.all_eq_true]
  exact ⟨fun h i hi => of_decide_eq_true (h i (List.mem_range.2 hi)), fun h i hi => decide_eq_true (h i (List.mem_range.1 hi))⟩
theorem verE_flow {rm : Int} {ws : List W} {n : List Int} (h : verE rm ws n = 0) : BOk rm ws ∧ Flow ws n := by
  unfold verE at h
  by_cases h1 : chkB rm ws = 0
  · have hB := BOk.of h1
    have h2 := hB.r2
    rw [if_neg (fun h2 => h2 h1)] at h
    by_cases h3 : n.length = ws.length
    · rw [if_neg (fun h2 => h2 h3)] at h
      cases h4 : withinB ws n with
      | false => rw [h4, if_pos rfl] at h; cases h
      | true =>
        rw [h4, if_neg (by decide)] at h
        cases h5 : zeroB rm.toNat ws n with
        | false => rw [h5, if_pos rfl] at h; cases h
        | true =>
          have hw := withinB_iff.1 h4
          refine ⟨hB, ⟨h3, fun i hi => (hw i hi).1, fun i hi => (hw i hi).2⟩, ?_⟩
          intro x
          by_cases hx : x < 0 ∨ rm ≤ x
          · exact kept_out hB.inR n hx _ (Nat.le_refl _)
          · have := zeroB_iff.1 h5 x.toNat (by omega)
            rwa [show ((x.toNat : Nat) : Int) = x by omega] at this
    · rw [if_pos h3] at h; cases h
  · rw [if_pos h1] at h; exact absurd h h1
end Go.Am


namespace Go.Am

theorem nz90_c {h : AHeap} {a : Int} : ACalls Go.Proofs.Tryz.prog 80 [.int .i64 a] h (fun q h' => q = .bool (!decide (a = 0)) ∧ h = h') := by
  refine KA.fn 5 [.tmp 2] Go.Proofs.Tryz.func80 rfl (by decide) rfl rfl (Nat.le_of_ble_eq_true rfl) ?_
  show KA _ 5 _ _ [(0, .int .i64 a)] _
  refine KA.seq ?_
  refine KA.region rfl ?_
  refine KOps.assign ?_
  refine KOps.done ?_
  refine sqQ.normal ?_
  refine KA.sub (Sub.cons (t := 0) Look.eq (Sub.nil _)) ?_
  refine KA.seq ?_
  refine KA.region rfl ?_
  refine KOps.move ?_
  refine KOps.neq ?_
  refine KOps.assign ?_
  refine KOps.done ?_
  refine sqQ.normal ?_
  refine KA.sub (Sub.cons (t := 2) Look.eq (Sub.nil _)) ?_
  refine KA.ret ?_
  refine fnQ.ret1 ?_
  exact ⟨rfl, rfl⟩

theorem indexNz_c {h : AHeap} {v : AV} {f : FuncId} {l : List Int} (hv : Row h v l) (hl : l.length ≤ 1000000) (hf : ∀ (h : AHeap) (a : Int), ACalls Go.Proofs.Tryz.prog f [.int .i64 a] h (fun q h' => q = .bool (!decide (a = 0)) ∧ h = h')) : ACalls Go.Proofs.Tryz.prog 116 [v, .fn f []] h (fun q h' => (∃ c : Int, q = .int .i64 c ∧ (0 ≤ c ↔ ∃ j, j < l.length ∧ l.getD j 0 ≠ 0)) ∧ h = h') := by
  refine KA.fn 19 [.tmp 4] Go.Proofs.Tryz.func116 rfl (by decide) rfl rfl (Nat.le_of_ble_eq_true rfl) ?_
  show KA _ 19 _ _ [(0, v), (1, .fn f [])] _
  refine KA.seq ?_
  refine KA.region rfl ?_
  refine KOps.assign ?_
  refine KOps.done ?_
  refine sqQ.normal ?_
  refine KA.sub (Sub.cons (t := 0) Look.eq (Sub.cons (t := 1) Look.eq (Sub.nil _))) ?_
  refine KA.seq ?_
  refine KA.seq ?_
  refine KA.region rfl ?_
  refine KOps.move ?_
  refine KOps.lenI hv ?_
  refine KOps.move ?_
  refine KOps.done ?_
  refine sqQ.normal ?_
  refine KA.sub (Sub.cons (t := 0) Look.eq (Sub.cons (t := 1) Look.eq (Sub.cons (t := 7) Look.eq (Sub.cons (t := 8) Look.eq (Sub.nil _))))) ?_
  refine KA.block ?_
  refine KA.loop (X := Nat) (fun i => [(0, v), (1, .fn f []), (7, .int .i64 (l.length : Int)), (8, .int .i64 (i : Int))]) (fun i h' => h = h' ∧ i ≤ l.length ∧ ∀ j, j < i → l.getD j 0 = 0) (fun i => l.length - i) 0 (by repeat (first | exact Sub.nil _ | refine Sub.cons Look.eq ?_ | refine Sub.cons (Eq.trans Look.eq (congrArg (AV.int _) (by first | omega | (dsimp only; omega)))) ?_)) ?_ ?_
  · exact ⟨rfl, Nat.zero_le _, fun j hj => by omega⟩
  rintro i _ ⟨rfl, hi, hj⟩
  refine KA.seq ?_
  refine KA.region rfl ?_
  refine KOps.lss ?_
  refine KOps.done ?_
  refine sqQ.normal ?_
  refine KA.seq ?_
  refine KA.condD ?_ ?_
  · intro c9
    refine KA.skip ?_
    refine sqQ.normal ?_
    refine KA.sub (Sub.cons (t := 0) Look.eq (Sub.cons (t := 1) Look.eq (Sub.cons (t := 7) Look.eq (Sub.cons (t := 8) Look.eq (Sub.nil _))))) ?_
    refine KA.seq ?_
    refine KA.block ?_
    refine KA.seq ?_
    refine KA.region rfl ?_
    refine KOps.move ?_
    refine KOps.assign ?_
    refine KOps.done ?_
    refine sqQ.normal ?_
    refine KA.sub (Sub.cons (t := 0) Look.eq (Sub.cons (t := 1) Look.eq (Sub.cons (t := 5) Look.eq (Sub.cons (t := 7) Look.eq (Sub.cons (t := 8) Look.eq (Sub.nil _)))))) ?_
    refine KA.seq ?_
    refine KA.region rfl ?_
    refine KOps.move ?_
    refine KOps.move ?_
    refine KOps.move ?_
    refine KOps.indexIJ hv (j := i) rfl (by first | omega | (simp; omega)) ?_
    intro p14 hp14
    refine KOps.loadI hp14 hv (by first | omega | (simp; omega)) ?_
    refine KOps.call rfl (hf _ _) ?_
    rintro _ _ ⟨rfl, rfl⟩
    refine KOps.done ?_
    refine sqQ.normal ?_
    refine KA.sub (Sub.cons (t := 0) Look.eq (Sub.cons (t := 1) Look.eq (Sub.cons (t := 5) Look.eq (Sub.cons (t := 7) Look.eq (Sub.cons (t := 8) Look.eq (Sub.cons (t := 16) Look.eq (Sub.nil _))))))) ?_
    refine KA.condN ?_ ?_
    · intro c16
      refine KA.seq ?_
      refine KA.region rfl ?_
      refine KOps.move ?_
      refine KOps.assign ?_
      refine KOps.done ?_
      refine sqQ.normal ?_
      refine KA.sub (Sub.cons (t := 4) Look.eq (Sub.nil _)) ?_
      refine KA.ret ?_
      refine blQ.ret ?_
      refine sqQ.ret ?_
      refine lpQ.ret ?_
      refine blQ.ret ?_
      refine sqQ.ret ?_
      refine fnQ.ret1 ?_
      exact ⟨⟨_, rfl, fun _ => ⟨i, by omega, by omega⟩, fun _ => by omega⟩, rfl⟩
    · intro c16
      refine KA.skip ?_
      refine blQ.normal ?_
      refine sqQ.normal ?_
      refine KA.sub (Sub.cons (t := 0) Look.eq (Sub.cons (t := 1) Look.eq (Sub.cons (t := 7) Look.eq (Sub.cons (t := 8) Look.eq (Sub.nil _))))) ?_
      refine KA.region rfl ?_
      refine KOps.add (by first | omega | (simp; omega)) (by first | omega | (simp; omega)) ?_
      refine KOps.move ?_
      refine KOps.done ?_
      refine lpQ.normal (i + 1) (by repeat (first | exact Sub.nil _ | refine Sub.cons Look.eq ?_ | refine Sub.cons (Eq.trans Look.eq (congrArg (AV.int _) (by first | omega | (dsimp only; omega)))) ?_)) ⟨rfl, by omega, ?_⟩ (by omega)
      intro j hj2
      rcases Nat.lt_succ_iff_lt_or_eq.1 hj2 with h3 | rfl
      · exact hj j h3
      · omega
  · intro c9
    refine KA.exit ?_
    refine sqQ.exit ?_
    refine lpQ.exit ?_
    refine blQ.here ?_
    refine sqQ.normal ?_
    refine KA.sub (Sub.nil _) ?_
    refine KA.seq ?_
    refine KA.region rfl ?_
    refine KOps.assign ?_
    refine KOps.done ?_
    refine sqQ.normal ?_
    refine KA.ret ?_
    refine fnQ.ret1 ?_
    exact ⟨⟨_, rfl, fun h0 => absurd h0 (by decide), fun ⟨j, h1, h2⟩ => absurd (hj j (by omega)) h2⟩, rfl⟩

theorem anyNz_c {h : AHeap} {v : AV} {f : FuncId} {l : List Int} (hv : Row h v l) (hl : l.length ≤ 1000000) (hf : ∀ (h : AHeap) (a : Int), ACalls Go.Proofs.Tryz.prog f [.int .i64 a] h (fun q h' => q = .bool (!decide (a = 0)) ∧ h = h')) : ACalls Go.Proofs.Tryz.prog 79 [v, .fn f []] h (fun q h' => q = .bool (l.any fun x => !decide (x = 0)) ∧ h = h') := by
  refine KA.fn 9 [.tmp 4] Go.Proofs.Tryz.func79 rfl (by decide) rfl rfl (Nat.le_of_ble_eq_true rfl) ?_
  show KA _ 9 _ _ [(0, v), (1, .fn f [])] _
  refine KA.seq ?_
  refine KA.region rfl ?_
  refine KOps.assign ?_
  refine KOps.done ?_
  refine sqQ.normal ?_
  refine KA.sub (Sub.cons (t := 0) Look.eq (Sub.cons (t := 1) Look.eq (Sub.nil _))) ?_
  refine KA.seq ?_
  refine KA.region rfl ?_
  refine KOps.move ?_
  refine KOps.move ?_
  refine KOps.call rfl (indexNz_c hv hl hf) ?_
  rintro _ _ ⟨⟨c, rfl, hc⟩, rfl⟩
  refine KOps.geq ?_
  refine KOps.assign ?_
  refine KOps.done ?_
  refine sqQ.normal ?_
  refine KA.sub (Sub.cons (t := 4) Look.eq (Sub.nil _)) ?_
  refine KA.ret ?_
  refine fnQ.ret1 ?_
  refine ⟨congrArg AV.bool ?_, rfl⟩
  rw [Bool.eq_iff_iff, decide_eq_true_iff, List.any_eq_true]
  constructor
  · intro h0
    obtain ⟨j, h1, h2⟩ := hc.1 h0
    refine ⟨l.getD j 0, ?_, by simpa using h2⟩
    rw [List.getD_eq_getElem?_getD, List.getElem?_eq_getElem h1]
    exact List.getElem_mem h1
  · rintro ⟨x, hx, h2⟩
    obtain ⟨j, h1, rfl⟩ := List.getElem_of_mem hx
    refine hc.2 ⟨j, h1, ?_⟩
    rw [List.getD_eq_getElem?_getD, List.getElem?_eq_getElem h1]
    simpa using h2

end Go.Am

