/-
  Layer 08: the law on words turned: the Go function returns true.
  Conditions: none.
-/
import Derived.Test.YtfoiccnlcheklaaDoorWr
namespace Go.Am
theorem xw_len {w : List Bool} (h : w.length ≤ 8) : (shortW w ++ longW w).length ≤ 1036 := by
  have h1 := shortW_len w
  have h2 : 2 ^ (w.length - 1) ≤ 2 ^ 10 := Nat.pow_le_pow_right (by decide) (by omega)
  have h3 := longW_len w
  rw [List.length_append]
  omega
theorem anyS_words {l : List (List Bool)} {w : List Bool} : anyS (l.map wd) (wd w) = decide (w ∈ l) := by
  by_cases h : w ∈ l
  · rw [decide_eq_true h, anyS_iff]; exact List.mem_map_of_mem h
  · rw [decide_eq_false h]
    cases hq : anyS (l.map wd) (wd w) with
    | false => rfl
    | true =>
      obtain ⟨y, hy, he⟩ := List.mem_map.1 (anyS_iff.1 hq)
      exact absurd (wd_inj he ▸ hy) h
theorem safe_three {ws : List (List Bool)} {m : Nat} (hm : 0 < m ∧ m ≤ 10) (hl : ∀ w ∈ ws, w.length = m) (hn : ws.Nodup) (h40 : ws.length ≤ 40) :
    ∃ A C e : Int, safeV (ws.map wd) = .tup [.int .i64 A, .int .i64 C, .int .i64 e] ∧ (e = 0 ∨ e = 13) ∧ (e = 0 ↔ ∀ x ∈ ws, ∀ y ∈ ws, x ≠ y → clashW x y = false) := by
  have hg : ∀ i, (hi : i < ws.length) → ws.getD i [] = ws[i] := fun i hi => by rw [List.getD_eq_getElem?_getD, List.getElem?_eq_getElem hi]; rfl
  rcases safe_cases hm hl hn h40 with ⟨i, k, hik, hk, hc, hv⟩ | ⟨hno, hv⟩
  · refine ⟨_, _, 13, hv, .inr rfl, fun e => absurd e (by decide), fun hx => ?_⟩
    rw [hg i (by omega), hg k hk] at hc
    have hne : ws[i] ≠ ws[k] := fun e => List.pairwise_iff_getElem.1 hn i k (by omega) hk hik e
    rw [hx _ (List.getElem_mem _) _ (List.getElem_mem _) hne] at hc
    cases hc
  · refine ⟨_, _, 0, hv, .inl rfl, fun _ x hx y hy hne => ?_, fun _ => rfl⟩
    obtain ⟨i, hi, rfl⟩ := List.getElem_of_mem hx
    obtain ⟨k, hk, rfl⟩ := List.getElem_of_mem hy
    rcases Nat.lt_trichotomy i k with h | h | h
    · have := hno i k h hk
      rwa [hg i hi, hg k hk] at this
    · subst h; exact absurd rfl hne
    · have := hno k i h hi
      rw [hg i hi, hg k hk] at this
      rw [clash_symm]; exact this
theorem turn_c {h : AHeap} {p1 : AV} {b : Bool} {l : List Bool} (hp1 : AddrOf p1 p1 0 0) (hb : Rd h p1 0 [.bool b]) (hl : l.length ≤ 12) : ACalls Go.Proofs.Tryd.prog 46 [.str (wd l), p1] h (fun q h' => q = .str (wd (turnW b l)) ∧ Keeps h h') := by
  refine KA.fn 23 [.tmp 3] Go.Proofs.Tryd.func46 rfl (by decide) rfl rfl (Nat.le_of_ble_eq_true rfl) ?_
  have hS := St.refl h
  show KA _ 23 _ _ [(0, .str (wd l)), (1, p1)] _
  refine KA.seq ?_
  refine KA.region rfl ?_
  refine KOps.assign ?_
  refine KOps.done ?_
  refine sqQ.normal ?_
  refine KA.sub (Sub.cons (t := 0) Look.eq (Sub.cons (t := 1) Look.eq (Sub.nil _))) ?_
  refine KA.seq ?_
  refine KA.region rfl ?_
  refine KOps.assign ?_
  refine KOps.done ?_
  refine sqQ.normal ?_
  refine KA.seq ?_
  refine KA.seq ?_
  refine KA.region rfl ?_
  refine KOps.move ?_
  refine KOps.range hS rfl ?_
  intro v8 h' hv8 hS
  refine KOps.done ?_
  refine sqQ.normal ?_
  refine KA.sub (Sub.cons (t := 1) Look.eq (Sub.cons (t := 4) Look.eq (Sub.cons (t := 8) Look.eq (Sub.nil _)))) ?_
  refine KA.block ?_
  refine KA.loop (X := Nat) (fun p => [(1, p1), (4, .str (wd (turnW b (l.take p)))), (8, v8)]) (fun p h' => p ≤ l.length ∧ St h h' [walkO v8 (wd l) p]) (fun p => l.length - p) 0 (by repeat (first | exact Sub.nil _ | refine Sub.cons Look.eq ?_ | refine Sub.cons (Eq.trans Look.eq (congrArg (AV.int _) (by first | omega | (dsimp only; omega)))) ?_ | refine Sub.cons (Eq.trans Look.eq ((by cases b <;> rfl))) ?_)) ?_ ?_
  · exact ⟨Nat.zero_le _, hS⟩
  rintro p h2 ⟨hp, hS⟩
  have htl : (turnW b (l.take p)).length ≤ 12 := by rw [turnW_len, List.length_take]; omega
  refine KA.seq ?_
  refine KA.region rfl ?_
  refine KOps.next hS hv8 (i := 0) rfl rfl ?_ ?_
  · intro np h' hS
    simp only [List.set_cons_zero, List.set_cons_succ, Nat.zero_add] at hS
    have hlt : p < l.length := by rw [wd_size] at np; exact np
    simp only [dec_wd hlt] at hS ⊢
    have hbv := bch_cases (l.getD p false)
    have hts := turn_snoc b l hlt
    refine KOps.extract ?_
    refine KOps.done ?_
    refine sqQ.normal ?_
    refine KA.seq ?_
    refine KA.condT ?_
    refine KA.skip ?_
    refine sqQ.normal ?_
    refine KA.sub (Sub.cons (t := 1) Look.eq (Sub.cons (t := 4) Look.eq (Sub.cons (t := 8) Look.eq (Sub.cons (t := 9) Look.eq (Sub.nil _))))) ?_
    refine KA.block ?_
    refine KA.seq ?_
    refine KA.region rfl ?_
    refine KOps.extract ?_
    refine KOps.assign ?_
    refine KOps.done ?_
    refine sqQ.normal ?_
    refine KA.sub (Sub.cons (t := 1) Look.eq (Sub.cons (t := 4) Look.eq (Sub.cons (t := 6) Look.eq (Sub.cons (t := 8) Look.eq (Sub.nil _))))) ?_
    refine KA.seq ?_
    refine KA.region rfl ?_
    refine KOps.load hp1 (Rd.ext hS.keeps hb) rfl ?_
    refine KOps.done ?_
    refine sqQ.normal ?_
    refine KA.condB ?_ ?_
    · intro c12
      refine KA.region rfl ?_
      refine KOps.move ?_
      refine KOps.wRune (b := l.getD p false) (by kernel_rfl) rfl ?_
      refine KOps.move ?_
      refine KOps.wAdd (by simp only [List.length_cons, List.length_nil]; omega) ?_
      refine KOps.assign ?_
      refine KOps.done ?_
      refine blQ.normal ?_
      rw [if_pos c12] at hts
      exact lpQ.normal (p + 1) (by repeat (first | exact Sub.nil _ | refine Sub.cons Look.eq ?_ | refine Sub.cons (Eq.trans Look.eq (congrArg (AV.int _) (by first | omega | (dsimp only; omega)))) ?_ | refine Sub.cons (Eq.trans Look.eq (congrArg (fun w => AV.str (wd w)) hts.symm)) ?_)) ⟨by omega, hS⟩ (by omega)
    · intro c12
      refine KA.region rfl ?_
      refine KOps.move ?_
      refine KOps.move ?_
      refine KOps.subK (wrap32 (by first | omega | (simp; omega)) (by first | omega | (simp; omega))) ?_
      refine KOps.wRune (b := !l.getD p false) (by kernel_rfl) (by rcases hbv with q | q <;> (rw [q.1, q.2]; rfl)) ?_
      refine KOps.wAdd (by simp only [List.length_cons, List.length_nil]; omega) ?_
      refine KOps.assign ?_
      refine KOps.done ?_
      refine blQ.normal ?_
      rw [if_neg (by rw [c12]; decide)] at hts
      exact lpQ.normal (p + 1) (by repeat (first | exact Sub.nil _ | refine Sub.cons Look.eq ?_ | refine Sub.cons (Eq.trans Look.eq (congrArg (AV.int _) (by first | omega | (dsimp only; omega)))) ?_ | refine Sub.cons (Eq.trans Look.eq (congrArg (fun w => AV.str (wd w)) hts.symm)) ?_)) ⟨by omega, hS⟩ (by omega)
  · intro np
    refine KOps.extract ?_
    refine KOps.done ?_
    refine sqQ.normal ?_
    refine KA.seq ?_
    refine KA.condF ?_
    refine KA.exit ?_
    refine sqQ.exit ?_
    refine lpQ.exit ?_
    refine blQ.here ?_
    refine sqQ.normal ?_
    refine KA.sub (Sub.cons (t := 4) Look.eq (Sub.nil _)) ?_
    refine KA.seq ?_
    refine KA.region rfl ?_
    refine KOps.move ?_
    refine KOps.assign ?_
    refine KOps.done ?_
    refine sqQ.normal ?_
    refine KA.sub (Sub.cons (t := 3) Look.eq (Sub.nil _)) ?_
    refine KA.ret ?_
    refine fnQ.ret1 ?_
    have he : p = l.length := by rw [wd_size] at np; omega
    subst he
    rw [List.take_length]
    exact ⟨rfl, hS.keeps⟩

theorem cloneW_c {h : AHeap} {v : AV} {l : List (List Bool)} (hv : WRow h v l) (hne : l ≠ []) (hl : l.length ≤ 4096) : ACalls Go.Proofs.Tryd.prog 47 [v] h (fun v h' => St h h' [⟨v, 1, wcs (l), true⟩]) := by
  refine KA.fn 8 [.tmp 2] Go.Proofs.Tryd.func47 rfl (by decide) rfl rfl (Nat.le_of_ble_eq_true rfl) ?_
  have hS := St.refl h
  show KA _ 8 _ _ [(0, v)] _
  refine KA.seq ?_
  refine KA.region rfl ?_
  refine KOps.assign ?_
  refine KOps.done ?_
  refine sqQ.normal ?_
  refine KA.sub (Sub.cons (t := 0) Look.eq (Sub.nil _)) ?_
  refine KA.seq ?_
  refine KA.seq ?_
  refine KA.region rfl ?_
  refine KOps.move ?_
  refine KOps.slcEq hv (by decide) (by intro he; exact hne (by simpa [wcs] using he)) ?_
  refine KOps.done ?_
  refine sqQ.normal ?_
  refine KA.sub (Sub.cons (t := 0) Look.eq (Sub.cons (t := 4) Look.eq (Sub.nil _))) ?_
  refine KA.condF ?_
  refine KA.skip ?_
  refine sqQ.normal ?_
  refine KA.sub (Sub.cons (t := 0) Look.eq (Sub.nil _)) ?_
  refine KA.seq ?_
  refine KA.region rfl ?_
  refine KOps.buildSlice hS rfl (by decide) rfl ?_
  intro v5 h' hS
  refine KOps.move ?_
  refine KOps.append hS (fun _ => rfl) (i := 0) rfl (a := 0) rfl (Rd.ext hS.keeps hv) (b := l.length) (wcs_len l) (by simp [AV.one]) (by omega) ?_
  intro v7 h' hS
  simp only [List.set_cons_zero, List.set_cons_succ, Nat.zero_add] at hS
  refine KOps.assign ?_
  refine KOps.done ?_
  refine sqQ.normal ?_
  refine KA.sub (Sub.cons (t := 2) Look.eq (Sub.nil _)) ?_
  refine KA.ret ?_
  refine fnQ.ret1 ?_
  exact hS

set_option synthInstance.maxSize 4000
set_option synthInstance.maxHeartbeats 2000000
set_option maxHeartbeats 4000000 in
set_option maxRecDepth 100000 in
theorem law_turned {h : AHeap} {v : AV} {xs : List Int} {n o : Nat} {b : Bool} (hTab : Tab h) (hv : Rd h v 1 (xs.map (AV.int .u16))) (hxs : ∀ x ∈ xs, 0 ≤ x ∧ x ≤ 65535) (hlen : xs.length ≤ 9223372036854775807) (hn : n < 256) (ho : o < 256) : ACalls Go.Proofs.Tryd.prog 12 [v, .int .u8 (n : Int), .bool b, .int .u8 (o : Int)] h (fun r _ => r = .bool true) := by
  refine KA.fn 220 [.tmp 8] Go.Proofs.Tryd.func12 rfl (by decide) rfl rfl (Nat.le_of_ble_eq_true rfl) ?_
  have hS := St.refl h
  have hn8 : n % 8 < 8 := Nat.mod_lt _ (by decide)
  show KA _ 220 _ _ [(0, v), (1, .int .u8 (n : Int)), (2, .bool b), (3, .int .u8 (o : Int))] _
  refine KA.seq ?_
  refine KA.region rfl ?_
  refine KOps.box hS (l := [_]) rfl ?_
  intro p6 h' hp6 hS
  refine KOps.assign ?_
  refine KOps.done ?_
  refine sqQ.normal ?_
  refine KA.sub (Sub.cons (t := 0) Look.eq (Sub.cons (t := 1) Look.eq (Sub.cons (t := 3) Look.eq (Sub.cons (t := 6) Look.eq (Sub.nil _))))) ?_
  refine KA.seq ?_
  refine KA.region rfl ?_
  refine KOps.move ?_
  refine KOps.convU (by omega) (by omega) ?_
  refine KOps.remN (i := n) (j := 8) rfl rfl (by omega) (by omega) ?_
  refine KOps.add (by omega) (by omega) ?_
  obtain ⟨N, hN⟩ : ∃ N : Nat, 1 + ((n % 8 : Nat) : Int) = (N : Int) := ⟨1 + n % 8, by omega⟩
  rw [hN]
  refine KOps.assign ?_
  refine KOps.done ?_
  refine sqQ.normal ?_
  refine KA.sub (Sub.cons (t := 0) Look.eq (Sub.cons (t := 3) Look.eq (Sub.cons (t := 6) Look.eq (Sub.cons (t := 9) Look.eq (Sub.nil _))))) ?_
  refine KA.seq ?_
  refine KA.region rfl ?_
  refine KOps.makeFunc ?_
  refine KOps.assign ?_
  refine KOps.done ?_
  refine sqQ.normal ?_
  refine KA.sub (Sub.cons (t := 0) Look.eq (Sub.cons (t := 3) Look.eq (Sub.cons (t := 9) Look.eq (Sub.cons (t := 10) Look.eq (Sub.nil _))))) ?_
  refine KA.seq ?_
  refine KA.region rfl ?_
  refine KOps.assign ?_
  refine KOps.assign ?_
  refine KOps.assign ?_
  refine KOps.done ?_
  refine sqQ.normal ?_
  refine KA.seq ?_
  refine KA.seq ?_
  refine KA.region rfl ?_
  have hN8 : 1 ≤ N ∧ N ≤ 8 := by omega
  refine KOps.move ?_
  refine KOps.lenI (Rd.ext hS.keeps hv) ?_
  refine KOps.move ?_
  refine KOps.done ?_
  refine sqQ.normal ?_
  refine KA.block ?_
  refine KA.loop (X := Nat × AV × AV × AV × List (List Bool) × List (List Bool)) (fun x => [(0, v), (3, .int .u8 (o : Int)), (9, .int .i64 (N : Int)), (10, .fn 46 [p6]), (11, x.2.1), (12, x.2.2.1), (13, x.2.2.2.1), (43, v), (44, .int .i64 (xs.length : Int)), (45, .int .i64 (x.1 : Int))]) (fun x h' => x.1 ≤ xs.length ∧ x.2.2.2.2.1.length ≤ 12 ∧ x.2.2.2.2.1.Nodup ∧ (∀ w ∈ x.2.2.2.2.1, w.length = N) ∧ x.2.2.2.2.2.Nodup ∧ (∀ w ∈ x.2.2.2.2.2, w ∈ x.2.2.2.2.1) ∧ St h h' [⟨x.2.1, 1, wcs (x.2.2.2.2.1), true⟩, ⟨x.2.2.1, 1, wcs (x.2.2.2.2.1.map (turnW b)), true⟩, ⟨x.2.2.2.1, 1, wcs (x.2.2.2.2.2), true⟩, ⟨p6, 0, [.bool b], true⟩]) (fun x => xs.length - x.1) (0, .nils, .nils, .nils, [], []) (by repeat (first | exact Sub.nil _ | refine Sub.cons Look.eq ?_ | refine Sub.cons (Eq.trans Look.eq (congrArg (AV.int _) (by first | omega | (dsimp only; omega)))) ?_)) ?_ ?_
  · exact ⟨Nat.zero_le _, by decide, List.nodup_nil, fun w hw => (by cases hw), List.nodup_nil, fun w hw => (by cases hw), ((hS.nil 1).nil 1).nil 1⟩
  rintro ⟨i, va, vb, vc, l, m⟩ h2 ⟨hi, hl12, hnd, hlN, hnm, hml, hS⟩
  dsimp only at hi hl12 hnd hlN hnm hml hS ⊢
  have hmm := nodup_le hnm hml
  refine KA.seq ?_
  refine KA.region rfl ?_
  refine KOps.lss ?_
  refine KOps.done ?_
  refine sqQ.normal ?_
  refine KA.seq ?_
  refine KA.condD ?_ ?_
  · intro c46
    refine KA.skip ?_
    refine sqQ.normal ?_
    refine KA.sub (Sub.cons (t := 0) Look.eq (Sub.cons (t := 3) Look.eq (Sub.cons (t := 9) Look.eq (Sub.cons (t := 10) Look.eq (Sub.cons (t := 11) Look.eq (Sub.cons (t := 12) Look.eq (Sub.cons (t := 13) Look.eq (Sub.cons (t := 43) Look.eq (Sub.cons (t := 44) Look.eq (Sub.cons (t := 45) Look.eq (Sub.nil _))))))))))) ?_
    refine KA.seq ?_
    refine KA.block ?_
    refine KA.seq ?_
    refine KA.region rfl ?_
    refine KOps.move ?_
    refine KOps.indexIJ (Rd.ext hS.keeps hv) (j := i) rfl (by first | omega | (simp; done) | (simp; omega)) ?_
    intro p48 hp48
    refine KOps.loadM (f := AV.int .u16) 0 hp48 (Rd.ext hS.keeps hv) (by omega) ?_
    refine KOps.assign ?_
    refine KOps.assign ?_
    refine KOps.done ?_
    refine sqQ.normal ?_
    refine KA.sub (Sub.cons (t := 0) Look.eq (Sub.cons (t := 3) Look.eq (Sub.cons (t := 9) Look.eq (Sub.cons (t := 10) Look.eq (Sub.cons (t := 11) Look.eq (Sub.cons (t := 12) Look.eq (Sub.cons (t := 13) Look.eq (Sub.cons (t := 14) Look.eq (Sub.cons (t := 15) Look.eq (Sub.cons (t := 43) Look.eq (Sub.cons (t := 44) Look.eq (Sub.cons (t := 45) Look.eq (Sub.nil _))))))))))))) ?_
    refine KA.seq ?_
    refine KA.region rfl ?_
    obtain ⟨y, hy, hy2⟩ : ∃ y : Nat, xs.getD i 0 = (y : Int) ∧ y < 65536 := by
      have hm : xs.getD i 0 ∈ xs := by
        rw [List.getD_eq_getElem?_getD, List.getElem?_eq_getElem (by omega : i < xs.length)]; exact List.getElem_mem _
      have := hxs _ hm
      exact ⟨(xs.getD i 0).toNat, by omega, by omega⟩
    rw [hy]
    refine KOps.move ?_
    refine KOps.move ?_
    refine KOps.call rfl (word_c (by omega) (by omega)) ?_
    rintro _ _ ⟨rfl, rfl⟩
    refine KOps.assign ?_
    refine KOps.done ?_
    refine sqQ.normal ?_
    refine KA.sub (Sub.cons (t := 0) Look.eq (Sub.cons (t := 3) Look.eq (Sub.cons (t := 9) Look.eq (Sub.cons (t := 10) Look.eq (Sub.cons (t := 11) Look.eq (Sub.cons (t := 12) Look.eq (Sub.cons (t := 13) Look.eq (Sub.cons (t := 14) Look.eq (Sub.cons (t := 16) Look.eq (Sub.cons (t := 43) Look.eq (Sub.cons (t := 44) Look.eq (Sub.cons (t := 45) Look.eq (Sub.nil _))))))))))))) ?_
    refine KA.seq ?_
    refine KA.region rfl ?_
    refine KOps.move ?_
    refine KOps.lenI (hS.rd 0 rfl) ?_
    refine KOps.lss ?_
    refine KOps.move ?_
    refine KOps.guardB (dj := 56) rfl rfl true false rfl ?_ ?_
    · intro g56
      have g56 := of_decide_eq_true g56
      refine KOps.move ?_
      refine KOps.guardYes (dj := 56) rfl rfl ?_
      refine KOps.move ?_
      refine KOps.guardYes (dj := 56) rfl rfl ?_
      refine KOps.call rfl (containsS_c (WRow.s (hS.rd 0 rfl)) (by rw [List.length_map]; omega)) ?_
      rintro _ _ ⟨rfl, rfl⟩
      rw [anyS_words]
      refine KOps.guardYes (dj := 56) rfl rfl ?_
      refine KOps.not ?_
      refine KOps.pickT ?_
      refine KOps.done ?_
      refine sqQ.normal ?_
      refine KA.sub (Sub.cons (t := 0) Look.eq (Sub.cons (t := 3) Look.eq (Sub.cons (t := 9) Look.eq (Sub.cons (t := 10) Look.eq (Sub.cons (t := 11) Look.eq (Sub.cons (t := 12) Look.eq (Sub.cons (t := 13) Look.eq (Sub.cons (t := 14) Look.eq (Sub.cons (t := 16) Look.eq (Sub.cons (t := 43) Look.eq (Sub.cons (t := 44) Look.eq (Sub.cons (t := 45) Look.eq (Sub.cons (t := 57) Look.eq (Sub.cons (t := 58) Look.eq (Sub.cons (t := 59) Look.eq (Sub.cons (t := 60) Look.eq (Sub.cons (t := 61) Look.eq (Sub.nil _)))))))))))))))))) ?_
      refine KA.condN ?_ ?_
      · intro c61
        refine KA.seq ?_
        refine KA.region rfl ?_
        have hnew : ¬ wordN y N ∈ l := c61
        have hnd2 : (l ++ [wordN y N]).Nodup := List.nodup_append.2 ⟨hnd, by simp, by
          rintro z hz u hu rfl
          exact hnew (List.mem_singleton.1 hu ▸ hz)⟩
        have hlN2 : ∀ w ∈ l ++ [wordN y N], w.length = N := by
          intro w hw
          rcases List.mem_append.1 hw with hw | hw
          · exact hlN w hw
          · rw [List.mem_singleton.1 hw]; exact wordN_len y N
        have hwl := wordN_len y N
        have hmp : (l.map (turnW b)).length = l.length := List.length_map ..
        refine KOps.move ?_
        refine KOps.move ?_
        refine KOps.buildSlice hS rfl (by decide) rfl ?_
        intro v64 h' hS
        refine KOps.appendW1 hS (fun _ => rfl) (i := 0) rfl (by first | omega | (simp; done) | (simp; omega)) ?_
        intro r65 h' hr65 hS
        refine KOps.move ?_
        refine KOps.move ?_
        refine KOps.move ?_
        refine KOps.call rfl (turn_c hp6 (hS.rd 3 rfl) (by omega)) ?_
        rintro _ hx ⟨rfl, hK⟩
        have hS0 : St _ _ _ := St.trans hS (St.ofK hK)
        clear hS
        have hS := hS0
        clear hS0
        simp only [List.nil_append] at hS
        refine KOps.buildSlice hS rfl (by decide) rfl ?_
        intro v70 h' hS
        refine KOps.appendW1 hS (fun _ => rfl) (i := 1) rfl (by first | omega | (simp; done) | (simp; omega)) ?_
        intro r71 h' hr71 hS
        refine KOps.assign ?_
        refine KOps.assign ?_
        refine KOps.done ?_
        refine sqQ.normal ?_
        refine KA.sub (Sub.cons (t := 0) Look.eq (Sub.cons (t := 3) Look.eq (Sub.cons (t := 9) Look.eq (Sub.cons (t := 10) Look.eq (Sub.cons (t := 11) Look.eq (Sub.cons (t := 12) Look.eq (Sub.cons (t := 13) Look.eq (Sub.cons (t := 14) Look.eq (Sub.cons (t := 16) Look.eq (Sub.cons (t := 43) Look.eq (Sub.cons (t := 44) Look.eq (Sub.cons (t := 45) Look.eq (Sub.cons (t := 57) Look.eq (Sub.cons (t := 58) Look.eq (Sub.cons (t := 59) Look.eq (Sub.cons (t := 60) Look.eq (Sub.nil _))))))))))))))))) ?_
        refine KA.seq ?_
        refine KA.region rfl ?_
        refine KOps.move ?_
        refine KOps.move ?_
        refine KOps.convU (by omega) (by omega) ?_
        refine KOps.move ?_
        refine KOps.lenI (Rd.ext hS.keeps hv) ?_
        refine KOps.remN (i := o) (j := xs.length) rfl rfl (by omega) (by omega) ?_
        refine KOps.neq ?_
        refine KOps.done ?_
        refine sqQ.normal ?_
        refine KA.sub (Sub.cons (t := 0) Look.eq (Sub.cons (t := 3) Look.eq (Sub.cons (t := 9) Look.eq (Sub.cons (t := 10) Look.eq (Sub.cons (t := 11) Look.eq (Sub.cons (t := 12) Look.eq (Sub.cons (t := 13) Look.eq (Sub.cons (t := 16) Look.eq (Sub.cons (t := 43) Look.eq (Sub.cons (t := 44) Look.eq (Sub.cons (t := 45) Look.eq (Sub.cons (t := 57) Look.eq (Sub.cons (t := 58) Look.eq (Sub.cons (t := 59) Look.eq (Sub.cons (t := 60) Look.eq (Sub.cons (t := 78) Look.eq (Sub.nil _))))))))))))))))) ?_
        refine KA.condN ?_ ?_
        · intro c78
          refine KA.region rfl ?_
          refine KOps.move ?_
          refine KOps.move ?_
          refine KOps.buildSlice hS rfl (by decide) rfl ?_
          intro v81 h' hS
          refine KOps.appendW1 hS (fun _ => rfl) (i := 2) rfl (by first | omega | (simp; done) | (simp; omega)) ?_
          intro r82 h' hr82 hS
          refine KOps.assign ?_
          refine KOps.done ?_
          refine blQ.normal ?_
          refine sqQ.normal ?_
          refine KA.sub (Sub.cons (t := 0) Look.eq (Sub.cons (t := 3) Look.eq (Sub.cons (t := 9) Look.eq (Sub.cons (t := 10) Look.eq (Sub.cons (t := 11) Look.eq (Sub.cons (t := 12) Look.eq (Sub.cons (t := 13) Look.eq (Sub.cons (t := 43) Look.eq (Sub.cons (t := 44) Look.eq (Sub.cons (t := 45) Look.eq (Sub.cons (t := 57) Look.eq (Sub.cons (t := 58) Look.eq (Sub.cons (t := 59) Look.eq (Sub.cons (t := 60) Look.eq (Sub.nil _))))))))))))))) ?_
          refine KA.region rfl ?_
          refine KOps.add (by first | omega | (simp; omega)) (by first | omega | (simp; omega)) ?_
          refine KOps.move ?_
          refine KOps.done ?_
          refine lpQ.normal (i + 1, _, _, _, l ++ [wordN y N], m ++ [wordN y N]) (by repeat (first | exact Sub.nil _ | refine Sub.cons Look.eq ?_ | refine Sub.cons (Eq.trans Look.eq (congrArg (AV.int _) (by first | omega | (dsimp only; omega)))) ?_)) ⟨by dsimp only; omega, by rw [List.length_append]; exact (by omega : l.length + 1 ≤ 12), hnd2, hlN2, ?_, ?_, by
            rw [List.map_append]; exact hS⟩ (by dsimp only; omega)
          · exact List.nodup_append.2 ⟨hnm, by simp, by
              rintro z hz u hu rfl
              exact hnew (List.mem_singleton.1 hu ▸ hml z hz)⟩
          · intro w hw
            rcases List.mem_append.1 hw with hw | hw
            · exact List.mem_append.2 (.inl (hml w hw))
            · exact List.mem_append.2 (.inr hw)
        · intro c78
          refine KA.skip ?_
          refine blQ.normal ?_
          refine sqQ.normal ?_
          refine KA.sub (Sub.cons (t := 0) Look.eq (Sub.cons (t := 3) Look.eq (Sub.cons (t := 9) Look.eq (Sub.cons (t := 10) Look.eq (Sub.cons (t := 11) Look.eq (Sub.cons (t := 12) Look.eq (Sub.cons (t := 13) Look.eq (Sub.cons (t := 43) Look.eq (Sub.cons (t := 44) Look.eq (Sub.cons (t := 45) Look.eq (Sub.cons (t := 57) Look.eq (Sub.cons (t := 58) Look.eq (Sub.cons (t := 59) Look.eq (Sub.cons (t := 60) Look.eq (Sub.nil _))))))))))))))) ?_
          refine KA.region rfl ?_
          refine KOps.add (by first | omega | (simp; omega)) (by first | omega | (simp; omega)) ?_
          refine KOps.move ?_
          refine KOps.done ?_
          exact lpQ.normal (i + 1, _, _, _, l ++ [wordN y N], m) (by repeat (first | exact Sub.nil _ | refine Sub.cons Look.eq ?_ | refine Sub.cons (Eq.trans Look.eq (congrArg (AV.int _) (by first | omega | (dsimp only; omega)))) ?_)) ⟨by dsimp only; omega, by rw [List.length_append]; exact (by omega : l.length + 1 ≤ 12), hnd2, hlN2, hnm, fun w hw => List.mem_append.2 (.inl (hml w hw)), by
            rw [List.map_append]; exact hS⟩ (by dsimp only; omega)
      · intro c61
        refine KA.skip ?_
        refine blQ.normal ?_
        refine sqQ.normal ?_
        refine KA.sub (Sub.cons (t := 0) Look.eq (Sub.cons (t := 3) Look.eq (Sub.cons (t := 9) Look.eq (Sub.cons (t := 10) Look.eq (Sub.cons (t := 11) Look.eq (Sub.cons (t := 12) Look.eq (Sub.cons (t := 13) Look.eq (Sub.cons (t := 43) Look.eq (Sub.cons (t := 44) Look.eq (Sub.cons (t := 45) Look.eq (Sub.cons (t := 57) Look.eq (Sub.cons (t := 58) Look.eq (Sub.cons (t := 59) Look.eq (Sub.cons (t := 60) Look.eq (Sub.nil _))))))))))))))) ?_
        refine KA.region rfl ?_
        refine KOps.add (by first | omega | (simp; omega)) (by first | omega | (simp; omega)) ?_
        refine KOps.move ?_
        refine KOps.done ?_
        exact lpQ.normal (i + 1, va, vb, vc, l, m) (by repeat (first | exact Sub.nil _ | refine Sub.cons Look.eq ?_ | refine Sub.cons (Eq.trans Look.eq (congrArg (AV.int _) (by first | omega | (dsimp only; omega)))) ?_)) ⟨by dsimp only; omega, hl12, hnd, hlN, hnm, hml, hS⟩ (by dsimp only; omega)
    · intro g56
      have g56 := of_decide_eq_false g56
      refine KOps.guardNo (dj := 56) rfl rfl rfl ?_
      refine KOps.guardNo (dj := 56) rfl rfl rfl ?_
      refine KOps.guardNo (dj := 56) rfl rfl rfl ?_
      refine KOps.pickF ?_
      refine KOps.done ?_
      refine sqQ.normal ?_
      refine KA.sub (Sub.cons (t := 0) Look.eq (Sub.cons (t := 3) Look.eq (Sub.cons (t := 9) Look.eq (Sub.cons (t := 10) Look.eq (Sub.cons (t := 11) Look.eq (Sub.cons (t := 12) Look.eq (Sub.cons (t := 13) Look.eq (Sub.cons (t := 14) Look.eq (Sub.cons (t := 16) Look.eq (Sub.cons (t := 43) Look.eq (Sub.cons (t := 44) Look.eq (Sub.cons (t := 45) Look.eq (Sub.cons (t := 57) Look.eq (Sub.cons (t := 58) Look.eq (Sub.cons (t := 59) Look.eq (Sub.cons (t := 60) Look.eq (Sub.cons (t := 61) Look.eq (Sub.nil _)))))))))))))))))) ?_
      refine KA.condF ?_
      refine KA.skip ?_
      refine blQ.normal ?_
      refine sqQ.normal ?_
      refine KA.sub (Sub.cons (t := 0) Look.eq (Sub.cons (t := 3) Look.eq (Sub.cons (t := 9) Look.eq (Sub.cons (t := 10) Look.eq (Sub.cons (t := 11) Look.eq (Sub.cons (t := 12) Look.eq (Sub.cons (t := 13) Look.eq (Sub.cons (t := 43) Look.eq (Sub.cons (t := 44) Look.eq (Sub.cons (t := 45) Look.eq (Sub.cons (t := 57) Look.eq (Sub.cons (t := 58) Look.eq (Sub.cons (t := 59) Look.eq (Sub.cons (t := 60) Look.eq (Sub.nil _))))))))))))))) ?_
      refine KA.region rfl ?_
      refine KOps.add (by first | omega | (simp; omega)) (by first | omega | (simp; omega)) ?_
      refine KOps.move ?_
      refine KOps.done ?_
      exact lpQ.normal (i + 1, va, vb, vc, l, m) (by repeat (first | exact Sub.nil _ | refine Sub.cons Look.eq ?_ | refine Sub.cons (Eq.trans Look.eq (congrArg (AV.int _) (by first | omega | (dsimp only; omega)))) ?_)) ⟨by dsimp only; omega, hl12, hnd, hlN, hnm, hml, hS⟩ (by dsimp only; omega)
  · intro c46
    refine KA.exit ?_
    refine sqQ.exit ?_
    refine lpQ.exit ?_
    refine blQ.here ?_
    refine sqQ.normal ?_
    refine KA.sub (Sub.cons (t := 10) Look.eq (Sub.cons (t := 11) Look.eq (Sub.cons (t := 12) Look.eq (Sub.cons (t := 13) Look.eq (Sub.nil _))))) ?_
    refine KA.seq ?_
    refine KA.region rfl ?_
    obtain ⟨A, C, e, hsv, he, hcl⟩ := safe_three (m := N) (by omega) hlN hnd (by omega)
    have hst := safe_turn b (show 0 < N ∧ N ≤ 10 by omega) hlN hnd
    obtain ⟨A2, C2, g, hsv2, hg, hcl2⟩ := safe_three (m := N) (by omega) (fun w hw => hlN w (hml w hw)) hnm (by omega)
    have hg0 : e = 0 → g = 0 := fun q => hcl2.2 fun z hz u hu => hcl.1 q z (hml z hz) u (hml u hu)
    refine KOps.move ?_
    refine KOps.call rfl (safeP_c (WRow.s (hS.rd 0 rfl)) (by rw [List.length_map]; omega)) ?_
    rintro _ hx ⟨rfl, hK⟩
    have hS0 : St _ _ _ := St.trans hS (St.ofK hK)
    clear hS
    have hS := hS0
    clear hS0
    simp only [List.nil_append] at hS
    rw [hsv]
    refine KOps.move ?_
    refine KOps.extract ?_
    refine KOps.extract ?_
    refine KOps.extract ?_
    refine KOps.assign ?_
    refine KOps.assign ?_
    refine KOps.assign ?_
    refine KOps.done ?_
    refine sqQ.normal ?_
    refine KA.sub (Sub.cons (t := 10) Look.eq (Sub.cons (t := 11) Look.eq (Sub.cons (t := 12) Look.eq (Sub.cons (t := 13) Look.eq (Sub.cons (t := 17) Look.eq (Sub.cons (t := 18) Look.eq (Sub.cons (t := 19) Look.eq (Sub.nil _)))))))) ?_
    refine KA.seq ?_
    refine KA.region rfl ?_
    refine KOps.move ?_
    refine KOps.call rfl (safeP_c (WRow.s (hS.rd 1 rfl)) (by rw [List.length_map, List.length_map]; omega)) ?_
    rintro _ hx ⟨rfl, hK⟩
    have hS0 : St _ _ _ := St.trans hS (St.ofK hK)
    clear hS
    have hS := hS0
    clear hS0
    simp only [List.nil_append] at hS
    rw [hst, hsv]
    refine KOps.move ?_
    refine KOps.extract ?_
    refine KOps.extract ?_
    refine KOps.extract ?_
    refine KOps.assign ?_
    refine KOps.assign ?_
    refine KOps.assign ?_
    refine KOps.done ?_
    refine sqQ.normal ?_
    refine KA.sub (Sub.cons (t := 10) Look.eq (Sub.cons (t := 11) Look.eq (Sub.cons (t := 13) Look.eq (Sub.cons (t := 17) Look.eq (Sub.cons (t := 18) Look.eq (Sub.cons (t := 19) Look.eq (Sub.cons (t := 20) Look.eq (Sub.cons (t := 21) Look.eq (Sub.cons (t := 22) Look.eq (Sub.nil _)))))))))) ?_
    refine KA.seq ?_
    refine KA.region rfl ?_
    refine KOps.move ?_
    refine KOps.call rfl (safeP_c (WRow.s (hS.rd 2 rfl)) (by rw [List.length_map]; omega)) ?_
    rintro _ hx ⟨rfl, hK⟩
    have hS0 : St _ _ _ := St.trans hS (St.ofK hK)
    clear hS
    have hS := hS0
    clear hS0
    simp only [List.nil_append] at hS
    rw [hsv2]
    refine KOps.move ?_
    refine KOps.extract ?_
    refine KOps.extract ?_
    refine KOps.extract ?_
    refine KOps.assign ?_
    refine KOps.assign ?_
    refine KOps.assign ?_
    refine KOps.done ?_
    refine sqQ.normal ?_
    refine KA.sub (Sub.cons (t := 10) Look.eq (Sub.cons (t := 11) Look.eq (Sub.cons (t := 17) Look.eq (Sub.cons (t := 18) Look.eq (Sub.cons (t := 19) Look.eq (Sub.cons (t := 20) Look.eq (Sub.cons (t := 21) Look.eq (Sub.cons (t := 22) Look.eq (Sub.cons (t := 25) Look.eq (Sub.nil _)))))))))) ?_
    refine KA.seq ?_
    refine KA.seq ?_
    refine KA.region rfl ?_
    refine KOps.move ?_
    refine KOps.move ?_
    refine KOps.neqF (rfl) ?_
    refine KOps.move ?_
    refine KOps.guardYes (dj := 105) rfl rfl ?_
    refine KOps.move ?_
    refine KOps.guardYes (dj := 105) rfl rfl ?_
    refine KOps.move ?_
    refine KOps.guardYes (dj := 105) rfl rfl ?_
    refine KOps.neqF (rfl) ?_
    refine KOps.pickF ?_
    refine KOps.move ?_
    refine KOps.guardYes (dj := 110) rfl rfl ?_
    refine KOps.move ?_
    refine KOps.guardYes (dj := 110) rfl rfl ?_
    refine KOps.move ?_
    refine KOps.guardYes (dj := 110) rfl rfl ?_
    refine KOps.neqF (rfl) ?_
    refine KOps.pickF ?_
    refine KOps.move ?_
    refine KOps.guardYes (dj := 115) rfl rfl ?_
    refine KOps.move ?_
    refine KOps.guardYes (dj := 115) rfl rfl ?_
    refine KOps.eql ?_
    refine KOps.guardYes (dj := 115) rfl rfl ?_
    refine KOps.move ?_
    refine KOps.guardB (dj := 118) rfl rfl true false rfl ?_ ?_
    · intro g118
      have g118 := of_decide_eq_true g118
      refine KOps.move ?_
      refine KOps.guardYes (dj := 118) rfl rfl ?_
      refine KOps.neq ?_
      refine KOps.guardYes (dj := 115) rfl rfl ?_
      refine KOps.pickT ?_
      refine KOps.pickF ?_
      refine KOps.move ?_
      refine KOps.guardB (dj := 123) rfl rfl false true rfl ?_ ?_
      · intro g123
        have g123 := of_not_decide g123
        refine KOps.move ?_
        refine KOps.guardYes (dj := 123) rfl rfl ?_
        refine KOps.neq ?_
        refine KOps.guardYes (dj := 123) rfl rfl ?_
        refine KOps.move ?_
        refine KOps.guardB (dj := 126) rfl rfl true false rfl ?_ ?_
        · intro g126
          have g126 := not_of_not_decide g126
          refine KOps.move ?_
          refine KOps.guardYes (dj := 126) rfl rfl ?_
          refine KOps.neq ?_
          refine KOps.guardYes (dj := 123) rfl rfl ?_
          refine KOps.pickT ?_
          refine KOps.pickF ?_
          refine KOps.done ?_
          refine sqQ.normal ?_
          refine KA.sub (Sub.cons (t := 10) Look.eq (Sub.cons (t := 11) Look.eq (Sub.cons (t := 130) Look.eq (Sub.nil _)))) ?_
          refine KA.condN ?_ ?_
          · intro c130
            refine KA.seq ?_
            refine KA.region rfl ?_
            refine KOps.assign ?_
            refine KOps.done ?_
            refine sqQ.normal ?_
            refine KA.sub (Sub.cons (t := 8) Look.eq (Sub.nil _)) ?_
            refine KA.ret ?_
            refine sqQ.ret ?_
            refine fnQ.ret1 ?_
            first
             | exact rfl
             | (exfalso; omega)
             | (exfalso; rcases hmem with q | q <;> contradiction)
          · intro c130
            refine KA.skip ?_
            refine sqQ.normal ?_
            refine KA.sub (Sub.cons (t := 10) Look.eq (Sub.cons (t := 11) Look.eq (Sub.nil _))) ?_
            refine KA.seq ?_
            refine KA.seq ?_
            refine KA.region rfl ?_
            refine KOps.move ?_
            refine KOps.lenI (hS.rd 0 rfl) ?_
            refine KOps.move ?_
            refine KOps.done ?_
            refine sqQ.normal ?_
            refine KA.sub (Sub.cons (t := 10) Look.eq (Sub.cons (t := 131) Look.eq (Sub.cons (t := 132) Look.eq (Sub.cons (t := 133) Look.eq (Sub.nil _))))) ?_
            refine KA.block ?_
            refine KA.loop (X := Nat) (fun j => [(10, .fn 46 [p6]), (131, va), (132, .int .i64 (l.length : Int)), (133, .int .i64 (j : Int))]) (fun j h' => j ≤ l.length ∧ St h h' [⟨va, 1, wcs l, true⟩, ⟨p6, 0, [.bool b], true⟩]) (fun j => l.length - j) 0 (by repeat (first | exact Sub.nil _ | refine Sub.cons Look.eq ?_ | refine Sub.cons (Eq.trans Look.eq (congrArg (AV.int _) (by first | omega | (dsimp only; omega)))) ?_)) ?_ ?_
            · exact ⟨Nat.zero_le _, St.pick [0, 3] (by decide) rfl hS⟩
            rintro j h3 ⟨hj, hS⟩
            have hjb : j + 1 ≤ 13 := Nat.succ_le_succ (Nat.le_trans hj hl12)
            refine KA.seq ?_
            refine KA.region rfl ?_
            refine KOps.lss ?_
            refine KOps.done ?_
            refine sqQ.normal ?_
            refine KA.seq ?_
            refine KA.condD ?_ ?_
            · intro c134
              refine KA.skip ?_
              refine sqQ.normal ?_
              refine KA.sub (Sub.cons (t := 10) Look.eq (Sub.cons (t := 131) Look.eq (Sub.cons (t := 132) Look.eq (Sub.cons (t := 133) Look.eq (Sub.nil _))))) ?_
              refine KA.seq ?_
              refine KA.block ?_
              refine KA.seq ?_
              refine KA.region rfl ?_
              refine KOps.indexIJ (hS.rd 0 rfl) (j := j) rfl (by first | omega | (simp; done) | (simp; omega)) ?_
              intro p135 hp135
              refine KOps.loadW hp135 (hS.rd 0 rfl) (by first | omega | (simp; done) | (simp; omega)) ?_
              refine KOps.assign ?_
              refine KOps.done ?_
              refine sqQ.normal ?_
              refine KA.sub (Sub.cons (t := 10) Look.eq (Sub.cons (t := 27) Look.eq (Sub.cons (t := 131) Look.eq (Sub.cons (t := 132) Look.eq (Sub.cons (t := 133) Look.eq (Sub.nil _)))))) ?_
              refine KA.seq ?_
              refine KA.region rfl ?_
              have hjl : j < l.length := by omega
              obtain ⟨w, hw⟩ : ∃ w, l.getD j [] = w := ⟨_, rfl⟩
              rw [hw]
              have hwN : w.length = N := hlN w (by rw [← hw, List.getD_eq_getElem?_getD, List.getElem?_eq_getElem hjl]; exact List.getElem_mem _)
              have htN := turnW_len b w
              have hne : w ≠ [] := fun q => by rw [q] at hwN; simp at hwN; omega
              have hne2 : turnW b w ≠ [] := fun q => by rw [q] at htN; simp at htN; omega
              have hE1 : shortE (wd w) = 0 := by rw [shortE_wd (by omega), if_neg hne]
              have hE2 : shortE (wd (turnW b w)) = 0 := by rw [shortE_wd (by omega), if_neg hne2]
              have hE3 : longE (wd w) = 0 := by rw [longE_wd (by omega), if_neg (by omega)]
              have hE4 : longE (wd (turnW b w)) = 0 := by rw [longE_wd (by omega), if_neg (by omega)]
              have hsl := shortW_len w
              have hsp : 2 ^ (w.length - 1) ≤ 2 ^ 10 := Nat.pow_le_pow_right (by decide) (by omega)
              have hll := longW_len w
              have hs0 : shortW w ≠ [] := fun q => by
                have h1 := (mem_shortW (w := w) (r := w.eraseIdx 0)).2 (isDel_iff.2 ⟨0, by omega, rfl⟩)
                rw [q] at h1; cases h1
              have hsl2 := shortW_len (turnW b w)
              have hll2 := longW_len (turnW b w)
              have hsp2 : 2 ^ ((turnW b w).length - 1) ≤ 2 ^ 10 := Nat.pow_le_pow_right (by decide) (by omega)
              refine KOps.move ?_
              refine KOps.call rfl (shortP_c) ?_
              rintro _ h139 ⟨v139, rfl, hS139⟩
              have hS0 : St _ _ (_ :: _) := St.trans hS hS139
              clear hS
              have hS := hS0
              clear hS0
              refine KOps.move ?_
              refine KOps.extract ?_
              refine KOps.extract ?_
              refine KOps.assign ?_
              refine KOps.assign ?_
              refine KOps.done ?_
              refine sqQ.normal ?_
              refine KA.sub (Sub.cons (t := 10) Look.eq (Sub.cons (t := 27) Look.eq (Sub.cons (t := 28) Look.eq (Sub.cons (t := 29) Look.eq (Sub.cons (t := 131) Look.eq (Sub.cons (t := 132) Look.eq (Sub.cons (t := 133) Look.eq (Sub.nil _)))))))) ?_
              refine KA.seq ?_
              refine KA.region rfl ?_
              refine KOps.move ?_
              refine KOps.move ?_
              refine KOps.call rfl (turn_c hp6 (hS.rd 2 rfl) (by omega)) ?_
              rintro _ hx ⟨rfl, hK⟩
              have hS0 : St _ _ _ := St.trans hS (St.ofK hK)
              clear hS
              have hS := hS0
              clear hS0
              simp only [List.nil_append] at hS
              refine KOps.call rfl (shortP_c) ?_
              rintro _ h146 ⟨v146, rfl, hS146⟩
              have hS0 : St _ _ (_ :: _) := St.trans hS hS146
              clear hS
              have hS := hS0
              clear hS0
              refine KOps.move ?_
              refine KOps.extract ?_
              refine KOps.extract ?_
              refine KOps.assign ?_
              refine KOps.assign ?_
              refine KOps.done ?_
              refine sqQ.normal ?_
              refine KA.sub (Sub.cons (t := 10) Look.eq (Sub.cons (t := 27) Look.eq (Sub.cons (t := 28) Look.eq (Sub.cons (t := 29) Look.eq (Sub.cons (t := 30) Look.eq (Sub.cons (t := 31) Look.eq (Sub.cons (t := 131) Look.eq (Sub.cons (t := 132) Look.eq (Sub.cons (t := 133) Look.eq (Sub.nil _)))))))))) ?_
              refine KA.seq ?_
              refine KA.region rfl ?_
              refine KOps.move ?_
              refine KOps.call rfl (longP_c) ?_
              rintro _ h151 ⟨v151, rfl, hS151⟩
              have hS0 : St _ _ (_ :: _) := St.trans hS hS151
              clear hS
              have hS := hS0
              clear hS0
              refine KOps.move ?_
              refine KOps.extract ?_
              refine KOps.extract ?_
              refine KOps.assign ?_
              refine KOps.assign ?_
              refine KOps.done ?_
              refine sqQ.normal ?_
              refine KA.sub (Sub.cons (t := 10) Look.eq (Sub.cons (t := 27) Look.eq (Sub.cons (t := 28) Look.eq (Sub.cons (t := 29) Look.eq (Sub.cons (t := 30) Look.eq (Sub.cons (t := 31) Look.eq (Sub.cons (t := 32) Look.eq (Sub.cons (t := 33) Look.eq (Sub.cons (t := 131) Look.eq (Sub.cons (t := 132) Look.eq (Sub.cons (t := 133) Look.eq (Sub.nil _)))))))))))) ?_
              refine KA.seq ?_
              refine KA.region rfl ?_
              refine KOps.move ?_
              refine KOps.move ?_
              refine KOps.call rfl (turn_c hp6 (hS.rd 4 rfl) (by omega)) ?_
              rintro _ hx ⟨rfl, hK⟩
              have hS0 : St _ _ _ := St.trans hS (St.ofK hK)
              clear hS
              have hS := hS0
              clear hS0
              simp only [List.nil_append] at hS
              refine KOps.call rfl (longP_c) ?_
              rintro _ h158 ⟨v158, rfl, hS158⟩
              have hS0 : St _ _ (_ :: _) := St.trans hS hS158
              clear hS
              have hS := hS0
              clear hS0
              refine KOps.move ?_
              refine KOps.extract ?_
              refine KOps.extract ?_
              refine KOps.assign ?_
              refine KOps.assign ?_
              refine KOps.done ?_
              refine sqQ.normal ?_
              refine KA.sub (Sub.cons (t := 10) Look.eq (Sub.cons (t := 28) Look.eq (Sub.cons (t := 29) Look.eq (Sub.cons (t := 30) Look.eq (Sub.cons (t := 31) Look.eq (Sub.cons (t := 32) Look.eq (Sub.cons (t := 33) Look.eq (Sub.cons (t := 34) Look.eq (Sub.cons (t := 35) Look.eq (Sub.cons (t := 131) Look.eq (Sub.cons (t := 132) Look.eq (Sub.cons (t := 133) Look.eq (Sub.nil _))))))))))))) ?_
              refine KA.seq ?_
              refine KA.seq ?_
              refine KA.region rfl ?_
              rw [shortS_wd hE1, shortS_wd hE2, longS_wd hE3, longS_wd hE4] at hS
              refine KOps.move ?_
              refine KOps.neqF (hE1) ?_
              refine KOps.move ?_
              refine KOps.guardYes (dj := 163) rfl rfl ?_
              refine KOps.move ?_
              refine KOps.guardYes (dj := 163) rfl rfl ?_
              refine KOps.neqF (hE2) ?_
              refine KOps.pickF ?_
              refine KOps.move ?_
              refine KOps.guardYes (dj := 167) rfl rfl ?_
              refine KOps.move ?_
              refine KOps.guardYes (dj := 167) rfl rfl ?_
              refine KOps.neqF (hE3) ?_
              refine KOps.pickF ?_
              refine KOps.move ?_
              refine KOps.guardYes (dj := 171) rfl rfl ?_
              refine KOps.move ?_
              refine KOps.guardYes (dj := 171) rfl rfl ?_
              refine KOps.neqF (hE4) ?_
              refine KOps.pickF ?_
              refine KOps.move ?_
              refine KOps.guardYes (dj := 175) rfl rfl ?_
              refine KOps.move ?_
              refine KOps.guardYes (dj := 175) rfl rfl ?_
              refine KOps.lenI (hS.rd 3 rfl) ?_
              refine KOps.guardYes (dj := 175) rfl rfl ?_
              refine KOps.move ?_
              refine KOps.guardYes (dj := 175) rfl rfl ?_
              refine KOps.lenI (hS.rd 2 rfl) ?_
              refine KOps.guardYes (dj := 175) rfl rfl ?_
              refine KOps.neqF (by rw [short_turn_len]) ?_
              refine KOps.pickF ?_
              refine KOps.move ?_
              refine KOps.guardYes (dj := 182) rfl rfl ?_
              refine KOps.move ?_
              refine KOps.guardYes (dj := 182) rfl rfl ?_
              refine KOps.lenI (hS.rd 1 rfl) ?_
              refine KOps.guardYes (dj := 182) rfl rfl ?_
              refine KOps.move ?_
              refine KOps.guardYes (dj := 182) rfl rfl ?_
              refine KOps.lenI (hS.rd 0 rfl) ?_
              refine KOps.guardYes (dj := 182) rfl rfl ?_
              refine KOps.neqF (by rw [longW_len, longW_len, turnW_len]) ?_
              refine KOps.pickF ?_
              refine KOps.done ?_
              refine sqQ.normal ?_
              refine KA.sub (Sub.cons (t := 10) Look.eq (Sub.cons (t := 28) Look.eq (Sub.cons (t := 30) Look.eq (Sub.cons (t := 32) Look.eq (Sub.cons (t := 34) Look.eq (Sub.cons (t := 131) Look.eq (Sub.cons (t := 132) Look.eq (Sub.cons (t := 133) Look.eq (Sub.cons (t := 164) Look.eq (Sub.cons (t := 165) Look.eq (Sub.cons (t := 168) Look.eq (Sub.cons (t := 169) Look.eq (Sub.cons (t := 172) Look.eq (Sub.cons (t := 173) Look.eq (Sub.cons (t := 176) Look.eq (Sub.cons (t := 177) Look.eq (Sub.cons (t := 178) Look.eq (Sub.cons (t := 179) Look.eq (Sub.cons (t := 180) Look.eq (Sub.cons (t := 183) Look.eq (Sub.cons (t := 184) Look.eq (Sub.cons (t := 185) Look.eq (Sub.cons (t := 186) Look.eq (Sub.cons (t := 187) Look.eq (Sub.cons (t := 188) Look.eq (Sub.nil _)))))))))))))))))))))))))) ?_
              refine KA.condF ?_
              refine KA.skip ?_
              refine sqQ.normal ?_
              refine KA.sub (Sub.cons (t := 10) Look.eq (Sub.cons (t := 28) Look.eq (Sub.cons (t := 30) Look.eq (Sub.cons (t := 32) Look.eq (Sub.cons (t := 34) Look.eq (Sub.cons (t := 131) Look.eq (Sub.cons (t := 132) Look.eq (Sub.cons (t := 133) Look.eq (Sub.cons (t := 164) Look.eq (Sub.cons (t := 165) Look.eq (Sub.cons (t := 168) Look.eq (Sub.cons (t := 169) Look.eq (Sub.cons (t := 172) Look.eq (Sub.cons (t := 173) Look.eq (Sub.cons (t := 176) Look.eq (Sub.cons (t := 177) Look.eq (Sub.cons (t := 178) Look.eq (Sub.cons (t := 179) Look.eq (Sub.cons (t := 180) Look.eq (Sub.cons (t := 183) Look.eq (Sub.cons (t := 184) Look.eq (Sub.cons (t := 185) Look.eq (Sub.cons (t := 186) Look.eq (Sub.cons (t := 187) Look.eq (Sub.nil _))))))))))))))))))))))))) ?_
              refine KA.seq ?_
              refine KA.region rfl ?_
              refine KOps.move ?_
              refine KOps.call rfl (cloneW_c (l := shortW w) (hS.rd 3 rfl) hs0 (by omega)) ?_
              rintro v190 h190 hS190
              have hS0 : St _ _ (_ :: _) := St.trans hS hS190
              clear hS
              have hS := hS0
              clear hS0
              refine KOps.move ?_
              refine KOps.append hS (fun _ => rfl) (i := 0) rfl (a := (shortW w).length) (wcs_len _) (hS.rd 2 rfl) (b := (longW w).length) (wcs_len _) (by simp [AV.one]) (by omega) ?_
              intro r192 h' hS
              simp only [List.set_cons_zero, List.set_cons_succ, Nat.zero_add] at hS
              have happ : wcs (shortW w) ++ wcs (longW w) = wcs (shortW w ++ longW w) := List.map_append.symm
              rw [happ] at hS
              refine KOps.lenI (hS.rd 0 rfl) ?_
              refine KOps.move ?_
              refine KOps.done ?_
              refine sqQ.normal ?_
              refine KA.sub (Sub.cons (t := 10) Look.eq (Sub.cons (t := 30) Look.eq (Sub.cons (t := 34) Look.eq (Sub.cons (t := 131) Look.eq (Sub.cons (t := 132) Look.eq (Sub.cons (t := 133) Look.eq (Sub.cons (t := 164) Look.eq (Sub.cons (t := 165) Look.eq (Sub.cons (t := 168) Look.eq (Sub.cons (t := 169) Look.eq (Sub.cons (t := 172) Look.eq (Sub.cons (t := 173) Look.eq (Sub.cons (t := 176) Look.eq (Sub.cons (t := 177) Look.eq (Sub.cons (t := 178) Look.eq (Sub.cons (t := 179) Look.eq (Sub.cons (t := 180) Look.eq (Sub.cons (t := 183) Look.eq (Sub.cons (t := 184) Look.eq (Sub.cons (t := 185) Look.eq (Sub.cons (t := 186) Look.eq (Sub.cons (t := 187) Look.eq (Sub.cons (t := 192) Look.eq (Sub.cons (t := 193) Look.eq (Sub.cons (t := 194) Look.eq (Sub.nil _)))))))))))))))))))))))))) ?_
              refine KA.block ?_
              -- live but not in the pattern: [164, 165, 168, 169, 172, 173, 176, 177, 178, 179, 180, 183, 184, 185, 186, 187]
              refine KA.loop (X := Nat) (fun q => [(10, .fn 46 [p6]), (30, v146), (34, v158), (131, va), (132, .int .i64 (l.length : Int)), (133, .int .i64 (j : Int)), (192, r192), (193, .int .i64 ((shortW w ++ longW w).length : Int)), (194, .int .i64 (q : Int))]) (fun q h' => q ≤ (shortW w ++ longW w).length ∧ St h h' [⟨r192, 1, wcs (shortW w ++ longW w), true⟩, ⟨v158, 1, wcs (longW (turnW b w)), true⟩, ⟨v146, 1, wcs (shortW (turnW b w)), true⟩, ⟨va, 1, wcs l, true⟩, ⟨p6, 0, [.bool b], true⟩]) (fun q => (shortW w ++ longW w).length - q) 0 (by repeat (first | exact Sub.nil _ | refine Sub.cons Look.eq ?_ | refine Sub.cons (Eq.trans Look.eq (congrArg (AV.int _) (by first | omega | (dsimp only; omega)))) ?_)) ?_ ?_
              · exact ⟨Nat.zero_le _, St.pick [0, 1, 3, 5, 6] (by decide) rfl hS⟩
              rintro q h5 ⟨hq, hS⟩
              have hqb : q + 1 ≤ 1037 := Nat.succ_le_succ (Nat.le_trans hq (xw_len (by rw [hwN]; exact hN8.2)))
              refine KA.seq ?_
              refine KA.region rfl ?_
              refine KOps.lss ?_
              refine KOps.done ?_
              refine sqQ.normal ?_
              refine KA.seq ?_
              refine KA.condD ?_ ?_
              · intro c195
                refine KA.skip ?_
                refine sqQ.normal ?_
                refine KA.sub (Sub.cons (t := 10) Look.eq (Sub.cons (t := 30) Look.eq (Sub.cons (t := 34) Look.eq (Sub.cons (t := 131) Look.eq (Sub.cons (t := 132) Look.eq (Sub.cons (t := 133) Look.eq (Sub.cons (t := 192) Look.eq (Sub.cons (t := 193) Look.eq (Sub.cons (t := 194) Look.eq (Sub.nil _)))))))))) ?_
                refine KA.seq ?_
                refine KA.block ?_
                refine KA.seq ?_
                refine KA.region rfl ?_
                refine KOps.indexIJ (hS.rd 0 rfl) (j := q) rfl (by first | omega | (simp; done) | (simp; omega)) ?_
                intro p196 hp196
                refine KOps.loadW hp196 (hS.rd 0 rfl) (by first | omega | (simp; done) | (simp; omega)) ?_
                refine KOps.assign ?_
                refine KOps.done ?_
                refine sqQ.normal ?_
                refine KA.sub (Sub.cons (t := 10) Look.eq (Sub.cons (t := 30) Look.eq (Sub.cons (t := 34) Look.eq (Sub.cons (t := 37) Look.eq (Sub.cons (t := 131) Look.eq (Sub.cons (t := 132) Look.eq (Sub.cons (t := 133) Look.eq (Sub.cons (t := 192) Look.eq (Sub.cons (t := 193) Look.eq (Sub.cons (t := 194) Look.eq (Sub.nil _))))))))))) ?_
                refine KA.seq ?_
                refine KA.region rfl ?_
                obtain ⟨s, hs⟩ : ∃ s, (shortW w ++ longW w).getD q [] = s := ⟨_, rfl⟩
                rw [hs]
                have hsm : s ∈ (shortW w ++ longW w) := by
                  rw [← hs, List.getD_eq_getElem?_getD, List.getElem?_eq_getElem (by omega : q < (shortW w ++ longW w).length)]; exact List.getElem_mem _
                have hs10 : s.length ≤ 10 := by
                  rcases List.mem_append.1 hsm with z | z
                  · have := isDel_len (mem_shortW.1 z); omega
                  · have := isDel_len (mem_longW.1 z); omega
                have hmem : turnW b s ∈ shortW (turnW b w) ∨ turnW b s ∈ longW (turnW b w) := (List.mem_append.1 hsm).imp short_turn_mem long_turn_mem
                refine KOps.move ?_
                refine KOps.lenW ?_
                refine KOps.gtr ?_
                rw [decide_eq_false (by omega)]
                refine KOps.move ?_
                refine KOps.guardYes (dj := 201) rfl rfl ?_
                refine KOps.move ?_
                refine KOps.guardYes (dj := 201) rfl rfl ?_
                refine KOps.move ?_
                refine KOps.guardYes (dj := 201) rfl rfl ?_
                refine KOps.move ?_
                refine KOps.guardYes (dj := 201) rfl rfl ?_
                refine KOps.call rfl (turn_c hp6 (hS.rd 4 rfl) (by omega)) ?_
                rintro _ hx ⟨rfl, hK⟩
                have hS0 : St _ _ _ := St.trans hS (St.ofK hK)
                clear hS
                have hS := hS0
                clear hS0
                simp only [List.nil_append] at hS
                refine KOps.guardYes (dj := 201) rfl rfl ?_
                refine KOps.call rfl (containsS_c (WRow.s (hS.rd 2 rfl)) (by rw [List.length_map]; omega)) ?_
                rintro _ _ ⟨rfl, rfl⟩
                rw [anyS_words]
                refine KOps.guardYes (dj := 201) rfl rfl ?_
                refine KOps.not ?_
                refine KOps.guardYes (dj := 201) rfl rfl ?_
                refine KOps.move ?_
                refine KOps.guardB (dj := 208) rfl rfl true false rfl ?_ ?_
                · intro g208
                  have g208 := not_of_not_decide g208
                  refine KOps.move ?_
                  refine KOps.guardYes (dj := 208) rfl rfl ?_
                  refine KOps.move ?_
                  refine KOps.guardYes (dj := 208) rfl rfl ?_
                  refine KOps.move ?_
                  refine KOps.guardYes (dj := 208) rfl rfl ?_
                  refine KOps.call rfl (turn_c hp6 (hS.rd 4 rfl) (by omega)) ?_
                  rintro _ hx ⟨rfl, hK⟩
                  have hS0 : St _ _ _ := St.trans hS (St.ofK hK)
                  clear hS
                  have hS := hS0
                  clear hS0
                  simp only [List.nil_append] at hS
                  refine KOps.guardYes (dj := 208) rfl rfl ?_
                  refine KOps.call rfl (containsS_c (WRow.s (hS.rd 1 rfl)) (by rw [List.length_map]; omega)) ?_
                  rintro _ _ ⟨rfl, rfl⟩
                  rw [anyS_words]
                  refine KOps.guardYes (dj := 208) rfl rfl ?_
                  refine KOps.not ?_
                  refine KOps.guardYes (dj := 201) rfl rfl ?_
                  refine KOps.pickT ?_
                  refine KOps.pickF ?_
                  refine KOps.done ?_
                  refine sqQ.normal ?_
                  refine KA.sub (Sub.cons (t := 10) Look.eq (Sub.cons (t := 30) Look.eq (Sub.cons (t := 34) Look.eq (Sub.cons (t := 131) Look.eq (Sub.cons (t := 132) Look.eq (Sub.cons (t := 133) Look.eq (Sub.cons (t := 192) Look.eq (Sub.cons (t := 193) Look.eq (Sub.cons (t := 194) Look.eq (Sub.cons (t := 202) Look.eq (Sub.cons (t := 203) Look.eq (Sub.cons (t := 204) Look.eq (Sub.cons (t := 205) Look.eq (Sub.cons (t := 206) Look.eq (Sub.cons (t := 207) Look.eq (Sub.cons (t := 208) Look.eq (Sub.cons (t := 209) Look.eq (Sub.cons (t := 210) Look.eq (Sub.cons (t := 211) Look.eq (Sub.cons (t := 212) Look.eq (Sub.cons (t := 213) Look.eq (Sub.cons (t := 214) Look.eq (Sub.cons (t := 215) Look.eq (Sub.cons (t := 216) Look.eq (Sub.nil _))))))))))))))))))))))))) ?_
                  refine KA.condN ?_ ?_
                  · intro c216
                    refine KA.seq ?_
                    refine KA.region rfl ?_
                    refine KOps.assign ?_
                    refine KOps.done ?_
                    refine sqQ.normal ?_
                    refine KA.sub (Sub.cons (t := 8) Look.eq (Sub.nil _)) ?_
                    refine KA.ret ?_
                    refine blQ.ret ?_
                    refine sqQ.ret ?_
                    refine lpQ.ret ?_
                    refine blQ.ret ?_
                    refine blQ.ret ?_
                    refine sqQ.ret ?_
                    refine lpQ.ret ?_
                    refine blQ.ret ?_
                    refine sqQ.ret ?_
                    refine fnQ.ret1 ?_
                    first
                     | exact rfl
                     | (exfalso; omega)
                     | (exfalso; rcases hmem with q | q <;> contradiction)
                  · intro c216
                    refine KA.skip ?_
                    refine blQ.normal ?_
                    refine sqQ.normal ?_
                    refine KA.sub (Sub.cons (t := 10) Look.eq (Sub.cons (t := 30) Look.eq (Sub.cons (t := 34) Look.eq (Sub.cons (t := 131) Look.eq (Sub.cons (t := 132) Look.eq (Sub.cons (t := 133) Look.eq (Sub.cons (t := 192) Look.eq (Sub.cons (t := 193) Look.eq (Sub.cons (t := 194) Look.eq (Sub.cons (t := 202) Look.eq (Sub.cons (t := 203) Look.eq (Sub.cons (t := 204) Look.eq (Sub.cons (t := 205) Look.eq (Sub.cons (t := 206) Look.eq (Sub.cons (t := 207) Look.eq (Sub.cons (t := 208) Look.eq (Sub.cons (t := 209) Look.eq (Sub.cons (t := 210) Look.eq (Sub.cons (t := 211) Look.eq (Sub.cons (t := 212) Look.eq (Sub.cons (t := 213) Look.eq (Sub.cons (t := 214) Look.eq (Sub.cons (t := 215) Look.eq (Sub.nil _)))))))))))))))))))))))) ?_
                    refine KA.region rfl ?_
                    refine KOps.add (Int.le_trans (b := 0) (by decide) (Int.natCast_nonneg (q + 1))) (Int.le_trans (Int.ofNat_le.2 hqb) (by decide)) ?_
                    refine KOps.move ?_
                    refine KOps.done ?_
                    exact lpQ.normal (q + 1) (by repeat (first | exact Sub.nil _ | refine Sub.cons Look.eq ?_ | refine Sub.cons (Eq.trans Look.eq (congrArg (AV.int _) (by first | omega | (dsimp only; omega)))) ?_)) ⟨by omega, hS⟩ (by omega)
                · intro g208
                  have g208 := of_not_decide g208
                  refine KOps.guardNo (dj := 208) rfl rfl rfl ?_
                  refine KOps.guardNo (dj := 208) rfl rfl rfl ?_
                  refine KOps.guardNo (dj := 208) rfl rfl rfl ?_
                  refine KOps.guardNo (dj := 208) rfl rfl rfl ?_
                  refine KOps.guardNo (dj := 208) rfl rfl rfl ?_
                  refine KOps.guardYes (dj := 201) rfl rfl ?_
                  refine KOps.pickF ?_
                  refine KOps.pickF ?_
                  refine KOps.done ?_
                  refine sqQ.normal ?_
                  refine KA.sub (Sub.cons (t := 10) Look.eq (Sub.cons (t := 30) Look.eq (Sub.cons (t := 34) Look.eq (Sub.cons (t := 131) Look.eq (Sub.cons (t := 132) Look.eq (Sub.cons (t := 133) Look.eq (Sub.cons (t := 192) Look.eq (Sub.cons (t := 193) Look.eq (Sub.cons (t := 194) Look.eq (Sub.cons (t := 202) Look.eq (Sub.cons (t := 203) Look.eq (Sub.cons (t := 204) Look.eq (Sub.cons (t := 205) Look.eq (Sub.cons (t := 206) Look.eq (Sub.cons (t := 207) Look.eq (Sub.cons (t := 208) Look.eq (Sub.cons (t := 209) Look.eq (Sub.cons (t := 210) Look.eq (Sub.cons (t := 211) Look.eq (Sub.cons (t := 212) Look.eq (Sub.cons (t := 213) Look.eq (Sub.cons (t := 214) Look.eq (Sub.cons (t := 215) Look.eq (Sub.cons (t := 216) Look.eq (Sub.nil _))))))))))))))))))))))))) ?_
                  refine KA.condF ?_
                  refine KA.skip ?_
                  refine blQ.normal ?_
                  refine sqQ.normal ?_
                  refine KA.sub (Sub.cons (t := 10) Look.eq (Sub.cons (t := 30) Look.eq (Sub.cons (t := 34) Look.eq (Sub.cons (t := 131) Look.eq (Sub.cons (t := 132) Look.eq (Sub.cons (t := 133) Look.eq (Sub.cons (t := 192) Look.eq (Sub.cons (t := 193) Look.eq (Sub.cons (t := 194) Look.eq (Sub.cons (t := 202) Look.eq (Sub.cons (t := 203) Look.eq (Sub.cons (t := 204) Look.eq (Sub.cons (t := 205) Look.eq (Sub.cons (t := 206) Look.eq (Sub.cons (t := 207) Look.eq (Sub.cons (t := 208) Look.eq (Sub.cons (t := 209) Look.eq (Sub.cons (t := 210) Look.eq (Sub.cons (t := 211) Look.eq (Sub.cons (t := 212) Look.eq (Sub.cons (t := 213) Look.eq (Sub.cons (t := 214) Look.eq (Sub.cons (t := 215) Look.eq (Sub.nil _)))))))))))))))))))))))) ?_
                  refine KA.region rfl ?_
                  refine KOps.add (Int.le_trans (b := 0) (by decide) (Int.natCast_nonneg (q + 1))) (Int.le_trans (Int.ofNat_le.2 hqb) (by decide)) ?_
                  refine KOps.move ?_
                  refine KOps.done ?_
                  exact lpQ.normal (q + 1) (by repeat (first | exact Sub.nil _ | refine Sub.cons Look.eq ?_ | refine Sub.cons (Eq.trans Look.eq (congrArg (AV.int _) (by first | omega | (dsimp only; omega)))) ?_)) ⟨by omega, hS⟩ (by omega)
              · intro c195
                refine KA.exit ?_
                refine sqQ.exit ?_
                refine lpQ.exit ?_
                refine blQ.here ?_
                refine blQ.normal ?_
                refine sqQ.normal ?_
                refine KA.sub (Sub.cons (t := 10) Look.eq (Sub.cons (t := 131) Look.eq (Sub.cons (t := 132) Look.eq (Sub.cons (t := 133) Look.eq (Sub.nil _))))) ?_
                refine KA.region rfl ?_
                refine KOps.add (Int.le_trans (b := 0) (by decide) (Int.natCast_nonneg (j + 1))) (Int.le_trans (Int.ofNat_le.2 hjb) (by decide)) ?_
                refine KOps.move ?_
                refine KOps.done ?_
                exact lpQ.normal (j + 1) (by repeat (first | exact Sub.nil _ | refine Sub.cons Look.eq ?_ | refine Sub.cons (Eq.trans Look.eq (congrArg (AV.int _) (by first | omega | (dsimp only; omega)))) ?_)) ⟨by omega, St.pick [3, 4] (by decide) rfl hS⟩ (by omega)
            · intro c134
              refine KA.exit ?_
              refine sqQ.exit ?_
              refine lpQ.exit ?_
              refine blQ.here ?_
              refine sqQ.normal ?_
              refine KA.sub (Sub.nil _) ?_
              refine KA.seq ?_
              refine KA.region rfl ?_
              refine KOps.call rfl (works_c (hTab.ext hS.keeps)) ?_
              rintro _ hx ⟨rfl, hK⟩
              have hS0 : St _ _ _ := St.trans hS (St.ofK hK)
              clear hS
              have hS := hS0
              clear hS0
              simp only [List.nil_append] at hS
              refine KOps.assign ?_
              refine KOps.done ?_
              refine sqQ.normal ?_
              refine KA.sub (Sub.cons (t := 8) Look.eq (Sub.nil _)) ?_
              refine KA.ret ?_
              refine fnQ.ret1 ?_
              first
               | exact rfl
               | (exfalso; omega)
               | (exfalso; rcases hmem with q | q <;> contradiction)
        · intro g126
          have g126 := of_not_decide g126
          refine KOps.guardNo (dj := 126) rfl rfl rfl ?_
          refine KOps.guardYes (dj := 123) rfl rfl ?_
          refine KOps.pickF ?_
          refine KOps.pickF ?_
          refine KOps.done ?_
          refine sqQ.normal ?_
          refine KA.sub (Sub.cons (t := 10) Look.eq (Sub.cons (t := 11) Look.eq (Sub.cons (t := 130) Look.eq (Sub.nil _)))) ?_
          refine KA.condF ?_
          refine KA.skip ?_
          refine sqQ.normal ?_
          refine KA.sub (Sub.cons (t := 10) Look.eq (Sub.cons (t := 11) Look.eq (Sub.nil _))) ?_
          refine KA.seq ?_
          refine KA.seq ?_
          refine KA.region rfl ?_
          refine KOps.move ?_
          refine KOps.lenI (hS.rd 0 rfl) ?_
          refine KOps.move ?_
          refine KOps.done ?_
          refine sqQ.normal ?_
          refine KA.sub (Sub.cons (t := 10) Look.eq (Sub.cons (t := 131) Look.eq (Sub.cons (t := 132) Look.eq (Sub.cons (t := 133) Look.eq (Sub.nil _))))) ?_
          refine KA.block ?_
          refine KA.loop (X := Nat) (fun j => [(10, .fn 46 [p6]), (131, va), (132, .int .i64 (l.length : Int)), (133, .int .i64 (j : Int))]) (fun j h' => j ≤ l.length ∧ St h h' [⟨va, 1, wcs l, true⟩, ⟨p6, 0, [.bool b], true⟩]) (fun j => l.length - j) 0 (by repeat (first | exact Sub.nil _ | refine Sub.cons Look.eq ?_ | refine Sub.cons (Eq.trans Look.eq (congrArg (AV.int _) (by first | omega | (dsimp only; omega)))) ?_)) ?_ ?_
          · exact ⟨Nat.zero_le _, St.pick [0, 3] (by decide) rfl hS⟩
          rintro j h3 ⟨hj, hS⟩
          have hjb : j + 1 ≤ 13 := Nat.succ_le_succ (Nat.le_trans hj hl12)
          refine KA.seq ?_
          refine KA.region rfl ?_
          refine KOps.lss ?_
          refine KOps.done ?_
          refine sqQ.normal ?_
          refine KA.seq ?_
          refine KA.condD ?_ ?_
          · intro c134
            refine KA.skip ?_
            refine sqQ.normal ?_
            refine KA.sub (Sub.cons (t := 10) Look.eq (Sub.cons (t := 131) Look.eq (Sub.cons (t := 132) Look.eq (Sub.cons (t := 133) Look.eq (Sub.nil _))))) ?_
            refine KA.seq ?_
            refine KA.block ?_
            refine KA.seq ?_
            refine KA.region rfl ?_
            refine KOps.indexIJ (hS.rd 0 rfl) (j := j) rfl (by first | omega | (simp; done) | (simp; omega)) ?_
            intro p135 hp135
            refine KOps.loadW hp135 (hS.rd 0 rfl) (by first | omega | (simp; done) | (simp; omega)) ?_
            refine KOps.assign ?_
            refine KOps.done ?_
            refine sqQ.normal ?_
            refine KA.sub (Sub.cons (t := 10) Look.eq (Sub.cons (t := 27) Look.eq (Sub.cons (t := 131) Look.eq (Sub.cons (t := 132) Look.eq (Sub.cons (t := 133) Look.eq (Sub.nil _)))))) ?_
            refine KA.seq ?_
            refine KA.region rfl ?_
            have hjl : j < l.length := by omega
            obtain ⟨w, hw⟩ : ∃ w, l.getD j [] = w := ⟨_, rfl⟩
            rw [hw]
            have hwN : w.length = N := hlN w (by rw [← hw, List.getD_eq_getElem?_getD, List.getElem?_eq_getElem hjl]; exact List.getElem_mem _)
            have htN := turnW_len b w
            have hne : w ≠ [] := fun q => by rw [q] at hwN; simp at hwN; omega
            have hne2 : turnW b w ≠ [] := fun q => by rw [q] at htN; simp at htN; omega
            have hE1 : shortE (wd w) = 0 := by rw [shortE_wd (by omega), if_neg hne]
            have hE2 : shortE (wd (turnW b w)) = 0 := by rw [shortE_wd (by omega), if_neg hne2]
            have hE3 : longE (wd w) = 0 := by rw [longE_wd (by omega), if_neg (by omega)]
            have hE4 : longE (wd (turnW b w)) = 0 := by rw [longE_wd (by omega), if_neg (by omega)]
            have hsl := shortW_len w
            have hsp : 2 ^ (w.length - 1) ≤ 2 ^ 10 := Nat.pow_le_pow_right (by decide) (by omega)
            have hll := longW_len w
            have hs0 : shortW w ≠ [] := fun q => by
              have h1 := (mem_shortW (w := w) (r := w.eraseIdx 0)).2 (isDel_iff.2 ⟨0, by omega, rfl⟩)
              rw [q] at h1; cases h1
            have hsl2 := shortW_len (turnW b w)
            have hll2 := longW_len (turnW b w)
            have hsp2 : 2 ^ ((turnW b w).length - 1) ≤ 2 ^ 10 := Nat.pow_le_pow_right (by decide) (by omega)
            refine KOps.move ?_
            refine KOps.call rfl (shortP_c) ?_
            rintro _ h139 ⟨v139, rfl, hS139⟩
            have hS0 : St _ _ (_ :: _) := St.trans hS hS139
            clear hS
            have hS := hS0
            clear hS0
            refine KOps.move ?_
            refine KOps.extract ?_
            refine KOps.extract ?_
            refine KOps.assign ?_
            refine KOps.assign ?_
            refine KOps.done ?_
            refine sqQ.normal ?_
            refine KA.sub (Sub.cons (t := 10) Look.eq (Sub.cons (t := 27) Look.eq (Sub.cons (t := 28) Look.eq (Sub.cons (t := 29) Look.eq (Sub.cons (t := 131) Look.eq (Sub.cons (t := 132) Look.eq (Sub.cons (t := 133) Look.eq (Sub.nil _)))))))) ?_
            refine KA.seq ?_
            refine KA.region rfl ?_
            refine KOps.move ?_
            refine KOps.move ?_
            refine KOps.call rfl (turn_c hp6 (hS.rd 2 rfl) (by omega)) ?_
            rintro _ hx ⟨rfl, hK⟩
            have hS0 : St _ _ _ := St.trans hS (St.ofK hK)
            clear hS
            have hS := hS0
            clear hS0
            simp only [List.nil_append] at hS
            refine KOps.call rfl (shortP_c) ?_
            rintro _ h146 ⟨v146, rfl, hS146⟩
            have hS0 : St _ _ (_ :: _) := St.trans hS hS146
            clear hS
            have hS := hS0
            clear hS0
            refine KOps.move ?_
            refine KOps.extract ?_
            refine KOps.extract ?_
            refine KOps.assign ?_
            refine KOps.assign ?_
            refine KOps.done ?_
            refine sqQ.normal ?_
            refine KA.sub (Sub.cons (t := 10) Look.eq (Sub.cons (t := 27) Look.eq (Sub.cons (t := 28) Look.eq (Sub.cons (t := 29) Look.eq (Sub.cons (t := 30) Look.eq (Sub.cons (t := 31) Look.eq (Sub.cons (t := 131) Look.eq (Sub.cons (t := 132) Look.eq (Sub.cons (t := 133) Look.eq (Sub.nil _)))))))))) ?_
            refine KA.seq ?_
            refine KA.region rfl ?_
            refine KOps.move ?_
            refine KOps.call rfl (longP_c) ?_
            rintro _ h151 ⟨v151, rfl, hS151⟩
            have hS0 : St _ _ (_ :: _) := St.trans hS hS151
            clear hS
            have hS := hS0
            clear hS0
            refine KOps.move ?_
            refine KOps.extract ?_
            refine KOps.extract ?_
            refine KOps.assign ?_
            refine KOps.assign ?_
            refine KOps.done ?_
            refine sqQ.normal ?_
            refine KA.sub (Sub.cons (t := 10) Look.eq (Sub.cons (t := 27) Look.eq (Sub.cons (t := 28) Look.eq (Sub.cons (t := 29) Look.eq (Sub.cons (t := 30) Look.eq (Sub.cons (t := 31) Look.eq (Sub.cons (t := 32) Look.eq (Sub.cons (t := 33) Look.eq (Sub.cons (t := 131) Look.eq (Sub.cons (t := 132) Look.eq (Sub.cons (t := 133) Look.eq (Sub.nil _)))))))))))) ?_
            refine KA.seq ?_
            refine KA.region rfl ?_
            refine KOps.move ?_
            refine KOps.move ?_
            refine KOps.call rfl (turn_c hp6 (hS.rd 4 rfl) (by omega)) ?_
            rintro _ hx ⟨rfl, hK⟩
            have hS0 : St _ _ _ := St.trans hS (St.ofK hK)
            clear hS
            have hS := hS0
            clear hS0
            simp only [List.nil_append] at hS
            refine KOps.call rfl (longP_c) ?_
            rintro _ h158 ⟨v158, rfl, hS158⟩
            have hS0 : St _ _ (_ :: _) := St.trans hS hS158
            clear hS
            have hS := hS0
            clear hS0
            refine KOps.move ?_
            refine KOps.extract ?_
            refine KOps.extract ?_
            refine KOps.assign ?_
            refine KOps.assign ?_
            refine KOps.done ?_
            refine sqQ.normal ?_
            refine KA.sub (Sub.cons (t := 10) Look.eq (Sub.cons (t := 28) Look.eq (Sub.cons (t := 29) Look.eq (Sub.cons (t := 30) Look.eq (Sub.cons (t := 31) Look.eq (Sub.cons (t := 32) Look.eq (Sub.cons (t := 33) Look.eq (Sub.cons (t := 34) Look.eq (Sub.cons (t := 35) Look.eq (Sub.cons (t := 131) Look.eq (Sub.cons (t := 132) Look.eq (Sub.cons (t := 133) Look.eq (Sub.nil _))))))))))))) ?_
            refine KA.seq ?_
            refine KA.seq ?_
            refine KA.region rfl ?_
            rw [shortS_wd hE1, shortS_wd hE2, longS_wd hE3, longS_wd hE4] at hS
            refine KOps.move ?_
            refine KOps.neqF (hE1) ?_
            refine KOps.move ?_
            refine KOps.guardYes (dj := 163) rfl rfl ?_
            refine KOps.move ?_
            refine KOps.guardYes (dj := 163) rfl rfl ?_
            refine KOps.neqF (hE2) ?_
            refine KOps.pickF ?_
            refine KOps.move ?_
            refine KOps.guardYes (dj := 167) rfl rfl ?_
            refine KOps.move ?_
            refine KOps.guardYes (dj := 167) rfl rfl ?_
            refine KOps.neqF (hE3) ?_
            refine KOps.pickF ?_
            refine KOps.move ?_
            refine KOps.guardYes (dj := 171) rfl rfl ?_
            refine KOps.move ?_
            refine KOps.guardYes (dj := 171) rfl rfl ?_
            refine KOps.neqF (hE4) ?_
            refine KOps.pickF ?_
            refine KOps.move ?_
            refine KOps.guardYes (dj := 175) rfl rfl ?_
            refine KOps.move ?_
            refine KOps.guardYes (dj := 175) rfl rfl ?_
            refine KOps.lenI (hS.rd 3 rfl) ?_
            refine KOps.guardYes (dj := 175) rfl rfl ?_
            refine KOps.move ?_
            refine KOps.guardYes (dj := 175) rfl rfl ?_
            refine KOps.lenI (hS.rd 2 rfl) ?_
            refine KOps.guardYes (dj := 175) rfl rfl ?_
            refine KOps.neqF (by rw [short_turn_len]) ?_
            refine KOps.pickF ?_
            refine KOps.move ?_
            refine KOps.guardYes (dj := 182) rfl rfl ?_
            refine KOps.move ?_
            refine KOps.guardYes (dj := 182) rfl rfl ?_
            refine KOps.lenI (hS.rd 1 rfl) ?_
            refine KOps.guardYes (dj := 182) rfl rfl ?_
            refine KOps.move ?_
            refine KOps.guardYes (dj := 182) rfl rfl ?_
            refine KOps.lenI (hS.rd 0 rfl) ?_
            refine KOps.guardYes (dj := 182) rfl rfl ?_
            refine KOps.neqF (by rw [longW_len, longW_len, turnW_len]) ?_
            refine KOps.pickF ?_
            refine KOps.done ?_
            refine sqQ.normal ?_
            refine KA.sub (Sub.cons (t := 10) Look.eq (Sub.cons (t := 28) Look.eq (Sub.cons (t := 30) Look.eq (Sub.cons (t := 32) Look.eq (Sub.cons (t := 34) Look.eq (Sub.cons (t := 131) Look.eq (Sub.cons (t := 132) Look.eq (Sub.cons (t := 133) Look.eq (Sub.cons (t := 164) Look.eq (Sub.cons (t := 165) Look.eq (Sub.cons (t := 168) Look.eq (Sub.cons (t := 169) Look.eq (Sub.cons (t := 172) Look.eq (Sub.cons (t := 173) Look.eq (Sub.cons (t := 176) Look.eq (Sub.cons (t := 177) Look.eq (Sub.cons (t := 178) Look.eq (Sub.cons (t := 179) Look.eq (Sub.cons (t := 180) Look.eq (Sub.cons (t := 183) Look.eq (Sub.cons (t := 184) Look.eq (Sub.cons (t := 185) Look.eq (Sub.cons (t := 186) Look.eq (Sub.cons (t := 187) Look.eq (Sub.cons (t := 188) Look.eq (Sub.nil _)))))))))))))))))))))))))) ?_
            refine KA.condF ?_
            refine KA.skip ?_
            refine sqQ.normal ?_
            refine KA.sub (Sub.cons (t := 10) Look.eq (Sub.cons (t := 28) Look.eq (Sub.cons (t := 30) Look.eq (Sub.cons (t := 32) Look.eq (Sub.cons (t := 34) Look.eq (Sub.cons (t := 131) Look.eq (Sub.cons (t := 132) Look.eq (Sub.cons (t := 133) Look.eq (Sub.cons (t := 164) Look.eq (Sub.cons (t := 165) Look.eq (Sub.cons (t := 168) Look.eq (Sub.cons (t := 169) Look.eq (Sub.cons (t := 172) Look.eq (Sub.cons (t := 173) Look.eq (Sub.cons (t := 176) Look.eq (Sub.cons (t := 177) Look.eq (Sub.cons (t := 178) Look.eq (Sub.cons (t := 179) Look.eq (Sub.cons (t := 180) Look.eq (Sub.cons (t := 183) Look.eq (Sub.cons (t := 184) Look.eq (Sub.cons (t := 185) Look.eq (Sub.cons (t := 186) Look.eq (Sub.cons (t := 187) Look.eq (Sub.nil _))))))))))))))))))))))))) ?_
            refine KA.seq ?_
            refine KA.region rfl ?_
            refine KOps.move ?_
            refine KOps.call rfl (cloneW_c (l := shortW w) (hS.rd 3 rfl) hs0 (by omega)) ?_
            rintro v190 h190 hS190
            have hS0 : St _ _ (_ :: _) := St.trans hS hS190
            clear hS
            have hS := hS0
            clear hS0
            refine KOps.move ?_
            refine KOps.append hS (fun _ => rfl) (i := 0) rfl (a := (shortW w).length) (wcs_len _) (hS.rd 2 rfl) (b := (longW w).length) (wcs_len _) (by simp [AV.one]) (by omega) ?_
            intro r192 h' hS
            simp only [List.set_cons_zero, List.set_cons_succ, Nat.zero_add] at hS
            have happ : wcs (shortW w) ++ wcs (longW w) = wcs (shortW w ++ longW w) := List.map_append.symm
            rw [happ] at hS
            refine KOps.lenI (hS.rd 0 rfl) ?_
            refine KOps.move ?_
            refine KOps.done ?_
            refine sqQ.normal ?_
            refine KA.sub (Sub.cons (t := 10) Look.eq (Sub.cons (t := 30) Look.eq (Sub.cons (t := 34) Look.eq (Sub.cons (t := 131) Look.eq (Sub.cons (t := 132) Look.eq (Sub.cons (t := 133) Look.eq (Sub.cons (t := 164) Look.eq (Sub.cons (t := 165) Look.eq (Sub.cons (t := 168) Look.eq (Sub.cons (t := 169) Look.eq (Sub.cons (t := 172) Look.eq (Sub.cons (t := 173) Look.eq (Sub.cons (t := 176) Look.eq (Sub.cons (t := 177) Look.eq (Sub.cons (t := 178) Look.eq (Sub.cons (t := 179) Look.eq (Sub.cons (t := 180) Look.eq (Sub.cons (t := 183) Look.eq (Sub.cons (t := 184) Look.eq (Sub.cons (t := 185) Look.eq (Sub.cons (t := 186) Look.eq (Sub.cons (t := 187) Look.eq (Sub.cons (t := 192) Look.eq (Sub.cons (t := 193) Look.eq (Sub.cons (t := 194) Look.eq (Sub.nil _)))))))))))))))))))))))))) ?_
            refine KA.block ?_
            -- live but not in the pattern: [164, 165, 168, 169, 172, 173, 176, 177, 178, 179, 180, 183, 184, 185, 186, 187]
            refine KA.loop (X := Nat) (fun q => [(10, .fn 46 [p6]), (30, v146), (34, v158), (131, va), (132, .int .i64 (l.length : Int)), (133, .int .i64 (j : Int)), (192, r192), (193, .int .i64 ((shortW w ++ longW w).length : Int)), (194, .int .i64 (q : Int))]) (fun q h' => q ≤ (shortW w ++ longW w).length ∧ St h h' [⟨r192, 1, wcs (shortW w ++ longW w), true⟩, ⟨v158, 1, wcs (longW (turnW b w)), true⟩, ⟨v146, 1, wcs (shortW (turnW b w)), true⟩, ⟨va, 1, wcs l, true⟩, ⟨p6, 0, [.bool b], true⟩]) (fun q => (shortW w ++ longW w).length - q) 0 (by repeat (first | exact Sub.nil _ | refine Sub.cons Look.eq ?_ | refine Sub.cons (Eq.trans Look.eq (congrArg (AV.int _) (by first | omega | (dsimp only; omega)))) ?_)) ?_ ?_
            · exact ⟨Nat.zero_le _, St.pick [0, 1, 3, 5, 6] (by decide) rfl hS⟩
            rintro q h5 ⟨hq, hS⟩
            have hqb : q + 1 ≤ 1037 := Nat.succ_le_succ (Nat.le_trans hq (xw_len (by rw [hwN]; exact hN8.2)))
            refine KA.seq ?_
            refine KA.region rfl ?_
            refine KOps.lss ?_
            refine KOps.done ?_
            refine sqQ.normal ?_
            refine KA.seq ?_
            refine KA.condD ?_ ?_
            · intro c195
              refine KA.skip ?_
              refine sqQ.normal ?_
              refine KA.sub (Sub.cons (t := 10) Look.eq (Sub.cons (t := 30) Look.eq (Sub.cons (t := 34) Look.eq (Sub.cons (t := 131) Look.eq (Sub.cons (t := 132) Look.eq (Sub.cons (t := 133) Look.eq (Sub.cons (t := 192) Look.eq (Sub.cons (t := 193) Look.eq (Sub.cons (t := 194) Look.eq (Sub.nil _)))))))))) ?_
              refine KA.seq ?_
              refine KA.block ?_
              refine KA.seq ?_
              refine KA.region rfl ?_
              refine KOps.indexIJ (hS.rd 0 rfl) (j := q) rfl (by first | omega | (simp; done) | (simp; omega)) ?_
              intro p196 hp196
              refine KOps.loadW hp196 (hS.rd 0 rfl) (by first | omega | (simp; done) | (simp; omega)) ?_
              refine KOps.assign ?_
              refine KOps.done ?_
              refine sqQ.normal ?_
              refine KA.sub (Sub.cons (t := 10) Look.eq (Sub.cons (t := 30) Look.eq (Sub.cons (t := 34) Look.eq (Sub.cons (t := 37) Look.eq (Sub.cons (t := 131) Look.eq (Sub.cons (t := 132) Look.eq (Sub.cons (t := 133) Look.eq (Sub.cons (t := 192) Look.eq (Sub.cons (t := 193) Look.eq (Sub.cons (t := 194) Look.eq (Sub.nil _))))))))))) ?_
              refine KA.seq ?_
              refine KA.region rfl ?_
              obtain ⟨s, hs⟩ : ∃ s, (shortW w ++ longW w).getD q [] = s := ⟨_, rfl⟩
              rw [hs]
              have hsm : s ∈ (shortW w ++ longW w) := by
                rw [← hs, List.getD_eq_getElem?_getD, List.getElem?_eq_getElem (by omega : q < (shortW w ++ longW w).length)]; exact List.getElem_mem _
              have hs10 : s.length ≤ 10 := by
                rcases List.mem_append.1 hsm with z | z
                · have := isDel_len (mem_shortW.1 z); omega
                · have := isDel_len (mem_longW.1 z); omega
              have hmem : turnW b s ∈ shortW (turnW b w) ∨ turnW b s ∈ longW (turnW b w) := (List.mem_append.1 hsm).imp short_turn_mem long_turn_mem
              refine KOps.move ?_
              refine KOps.lenW ?_
              refine KOps.gtr ?_
              rw [decide_eq_false (by omega)]
              refine KOps.move ?_
              refine KOps.guardYes (dj := 201) rfl rfl ?_
              refine KOps.move ?_
              refine KOps.guardYes (dj := 201) rfl rfl ?_
              refine KOps.move ?_
              refine KOps.guardYes (dj := 201) rfl rfl ?_
              refine KOps.move ?_
              refine KOps.guardYes (dj := 201) rfl rfl ?_
              refine KOps.call rfl (turn_c hp6 (hS.rd 4 rfl) (by omega)) ?_
              rintro _ hx ⟨rfl, hK⟩
              have hS0 : St _ _ _ := St.trans hS (St.ofK hK)
              clear hS
              have hS := hS0
              clear hS0
              simp only [List.nil_append] at hS
              refine KOps.guardYes (dj := 201) rfl rfl ?_
              refine KOps.call rfl (containsS_c (WRow.s (hS.rd 2 rfl)) (by rw [List.length_map]; omega)) ?_
              rintro _ _ ⟨rfl, rfl⟩
              rw [anyS_words]
              refine KOps.guardYes (dj := 201) rfl rfl ?_
              refine KOps.not ?_
              refine KOps.guardYes (dj := 201) rfl rfl ?_
              refine KOps.move ?_
              refine KOps.guardB (dj := 208) rfl rfl true false rfl ?_ ?_
              · intro g208
                have g208 := not_of_not_decide g208
                refine KOps.move ?_
                refine KOps.guardYes (dj := 208) rfl rfl ?_
                refine KOps.move ?_
                refine KOps.guardYes (dj := 208) rfl rfl ?_
                refine KOps.move ?_
                refine KOps.guardYes (dj := 208) rfl rfl ?_
                refine KOps.call rfl (turn_c hp6 (hS.rd 4 rfl) (by omega)) ?_
                rintro _ hx ⟨rfl, hK⟩
                have hS0 : St _ _ _ := St.trans hS (St.ofK hK)
                clear hS
                have hS := hS0
                clear hS0
                simp only [List.nil_append] at hS
                refine KOps.guardYes (dj := 208) rfl rfl ?_
                refine KOps.call rfl (containsS_c (WRow.s (hS.rd 1 rfl)) (by rw [List.length_map]; omega)) ?_
                rintro _ _ ⟨rfl, rfl⟩
                rw [anyS_words]
                refine KOps.guardYes (dj := 208) rfl rfl ?_
                refine KOps.not ?_
                refine KOps.guardYes (dj := 201) rfl rfl ?_
                refine KOps.pickT ?_
                refine KOps.pickF ?_
                refine KOps.done ?_
                refine sqQ.normal ?_
                refine KA.sub (Sub.cons (t := 10) Look.eq (Sub.cons (t := 30) Look.eq (Sub.cons (t := 34) Look.eq (Sub.cons (t := 131) Look.eq (Sub.cons (t := 132) Look.eq (Sub.cons (t := 133) Look.eq (Sub.cons (t := 192) Look.eq (Sub.cons (t := 193) Look.eq (Sub.cons (t := 194) Look.eq (Sub.cons (t := 202) Look.eq (Sub.cons (t := 203) Look.eq (Sub.cons (t := 204) Look.eq (Sub.cons (t := 205) Look.eq (Sub.cons (t := 206) Look.eq (Sub.cons (t := 207) Look.eq (Sub.cons (t := 208) Look.eq (Sub.cons (t := 209) Look.eq (Sub.cons (t := 210) Look.eq (Sub.cons (t := 211) Look.eq (Sub.cons (t := 212) Look.eq (Sub.cons (t := 213) Look.eq (Sub.cons (t := 214) Look.eq (Sub.cons (t := 215) Look.eq (Sub.cons (t := 216) Look.eq (Sub.nil _))))))))))))))))))))))))) ?_
                refine KA.condN ?_ ?_
                · intro c216
                  refine KA.seq ?_
                  refine KA.region rfl ?_
                  refine KOps.assign ?_
                  refine KOps.done ?_
                  refine sqQ.normal ?_
                  refine KA.sub (Sub.cons (t := 8) Look.eq (Sub.nil _)) ?_
                  refine KA.ret ?_
                  refine blQ.ret ?_
                  refine sqQ.ret ?_
                  refine lpQ.ret ?_
                  refine blQ.ret ?_
                  refine blQ.ret ?_
                  refine sqQ.ret ?_
                  refine lpQ.ret ?_
                  refine blQ.ret ?_
                  refine sqQ.ret ?_
                  refine fnQ.ret1 ?_
                  first
                   | exact rfl
                   | (exfalso; omega)
                   | (exfalso; rcases hmem with q | q <;> contradiction)
                · intro c216
                  refine KA.skip ?_
                  refine blQ.normal ?_
                  refine sqQ.normal ?_
                  refine KA.sub (Sub.cons (t := 10) Look.eq (Sub.cons (t := 30) Look.eq (Sub.cons (t := 34) Look.eq (Sub.cons (t := 131) Look.eq (Sub.cons (t := 132) Look.eq (Sub.cons (t := 133) Look.eq (Sub.cons (t := 192) Look.eq (Sub.cons (t := 193) Look.eq (Sub.cons (t := 194) Look.eq (Sub.cons (t := 202) Look.eq (Sub.cons (t := 203) Look.eq (Sub.cons (t := 204) Look.eq (Sub.cons (t := 205) Look.eq (Sub.cons (t := 206) Look.eq (Sub.cons (t := 207) Look.eq (Sub.cons (t := 208) Look.eq (Sub.cons (t := 209) Look.eq (Sub.cons (t := 210) Look.eq (Sub.cons (t := 211) Look.eq (Sub.cons (t := 212) Look.eq (Sub.cons (t := 213) Look.eq (Sub.cons (t := 214) Look.eq (Sub.cons (t := 215) Look.eq (Sub.nil _)))))))))))))))))))))))) ?_
                  refine KA.region rfl ?_
                  refine KOps.add (Int.le_trans (b := 0) (by decide) (Int.natCast_nonneg (q + 1))) (Int.le_trans (Int.ofNat_le.2 hqb) (by decide)) ?_
                  refine KOps.move ?_
                  refine KOps.done ?_
                  exact lpQ.normal (q + 1) (by repeat (first | exact Sub.nil _ | refine Sub.cons Look.eq ?_ | refine Sub.cons (Eq.trans Look.eq (congrArg (AV.int _) (by first | omega | (dsimp only; omega)))) ?_)) ⟨by omega, hS⟩ (by omega)
              · intro g208
                have g208 := of_not_decide g208
                refine KOps.guardNo (dj := 208) rfl rfl rfl ?_
                refine KOps.guardNo (dj := 208) rfl rfl rfl ?_
                refine KOps.guardNo (dj := 208) rfl rfl rfl ?_
                refine KOps.guardNo (dj := 208) rfl rfl rfl ?_
                refine KOps.guardNo (dj := 208) rfl rfl rfl ?_
                refine KOps.guardYes (dj := 201) rfl rfl ?_
                refine KOps.pickF ?_
                refine KOps.pickF ?_
                refine KOps.done ?_
                refine sqQ.normal ?_
                refine KA.sub (Sub.cons (t := 10) Look.eq (Sub.cons (t := 30) Look.eq (Sub.cons (t := 34) Look.eq (Sub.cons (t := 131) Look.eq (Sub.cons (t := 132) Look.eq (Sub.cons (t := 133) Look.eq (Sub.cons (t := 192) Look.eq (Sub.cons (t := 193) Look.eq (Sub.cons (t := 194) Look.eq (Sub.cons (t := 202) Look.eq (Sub.cons (t := 203) Look.eq (Sub.cons (t := 204) Look.eq (Sub.cons (t := 205) Look.eq (Sub.cons (t := 206) Look.eq (Sub.cons (t := 207) Look.eq (Sub.cons (t := 208) Look.eq (Sub.cons (t := 209) Look.eq (Sub.cons (t := 210) Look.eq (Sub.cons (t := 211) Look.eq (Sub.cons (t := 212) Look.eq (Sub.cons (t := 213) Look.eq (Sub.cons (t := 214) Look.eq (Sub.cons (t := 215) Look.eq (Sub.cons (t := 216) Look.eq (Sub.nil _))))))))))))))))))))))))) ?_
                refine KA.condF ?_
                refine KA.skip ?_
                refine blQ.normal ?_
                refine sqQ.normal ?_
                refine KA.sub (Sub.cons (t := 10) Look.eq (Sub.cons (t := 30) Look.eq (Sub.cons (t := 34) Look.eq (Sub.cons (t := 131) Look.eq (Sub.cons (t := 132) Look.eq (Sub.cons (t := 133) Look.eq (Sub.cons (t := 192) Look.eq (Sub.cons (t := 193) Look.eq (Sub.cons (t := 194) Look.eq (Sub.cons (t := 202) Look.eq (Sub.cons (t := 203) Look.eq (Sub.cons (t := 204) Look.eq (Sub.cons (t := 205) Look.eq (Sub.cons (t := 206) Look.eq (Sub.cons (t := 207) Look.eq (Sub.cons (t := 208) Look.eq (Sub.cons (t := 209) Look.eq (Sub.cons (t := 210) Look.eq (Sub.cons (t := 211) Look.eq (Sub.cons (t := 212) Look.eq (Sub.cons (t := 213) Look.eq (Sub.cons (t := 214) Look.eq (Sub.cons (t := 215) Look.eq (Sub.nil _)))))))))))))))))))))))) ?_
                refine KA.region rfl ?_
                refine KOps.add (Int.le_trans (b := 0) (by decide) (Int.natCast_nonneg (q + 1))) (Int.le_trans (Int.ofNat_le.2 hqb) (by decide)) ?_
                refine KOps.move ?_
                refine KOps.done ?_
                exact lpQ.normal (q + 1) (by repeat (first | exact Sub.nil _ | refine Sub.cons Look.eq ?_ | refine Sub.cons (Eq.trans Look.eq (congrArg (AV.int _) (by first | omega | (dsimp only; omega)))) ?_)) ⟨by omega, hS⟩ (by omega)
            · intro c195
              refine KA.exit ?_
              refine sqQ.exit ?_
              refine lpQ.exit ?_
              refine blQ.here ?_
              refine blQ.normal ?_
              refine sqQ.normal ?_
              refine KA.sub (Sub.cons (t := 10) Look.eq (Sub.cons (t := 131) Look.eq (Sub.cons (t := 132) Look.eq (Sub.cons (t := 133) Look.eq (Sub.nil _))))) ?_
              refine KA.region rfl ?_
              refine KOps.add (Int.le_trans (b := 0) (by decide) (Int.natCast_nonneg (j + 1))) (Int.le_trans (Int.ofNat_le.2 hjb) (by decide)) ?_
              refine KOps.move ?_
              refine KOps.done ?_
              exact lpQ.normal (j + 1) (by repeat (first | exact Sub.nil _ | refine Sub.cons Look.eq ?_ | refine Sub.cons (Eq.trans Look.eq (congrArg (AV.int _) (by first | omega | (dsimp only; omega)))) ?_)) ⟨by omega, St.pick [3, 4] (by decide) rfl hS⟩ (by omega)
          · intro c134
            refine KA.exit ?_
            refine sqQ.exit ?_
            refine lpQ.exit ?_
            refine blQ.here ?_
            refine sqQ.normal ?_
            refine KA.sub (Sub.nil _) ?_
            refine KA.seq ?_
            refine KA.region rfl ?_
            refine KOps.call rfl (works_c (hTab.ext hS.keeps)) ?_
            rintro _ hx ⟨rfl, hK⟩
            have hS0 : St _ _ _ := St.trans hS (St.ofK hK)
            clear hS
            have hS := hS0
            clear hS0
            simp only [List.nil_append] at hS
            refine KOps.assign ?_
            refine KOps.done ?_
            refine sqQ.normal ?_
            refine KA.sub (Sub.cons (t := 8) Look.eq (Sub.nil _)) ?_
            refine KA.ret ?_
            refine fnQ.ret1 ?_
            first
             | exact rfl
             | (exfalso; omega)
             | (exfalso; rcases hmem with q | q <;> contradiction)
      · intro g123
        have g123 := not_of_not_decide g123
        refine KOps.guardNo (dj := 123) rfl rfl rfl ?_
        refine KOps.guardNo (dj := 123) rfl rfl rfl ?_
        refine KOps.guardTup (dj := 126) rfl rfl ?_
        refine KOps.guardTup (dj := 126) rfl rfl ?_
        refine KOps.guardNo (dj := 123) rfl rfl rfl ?_
        refine KOps.pickT ?_
        refine KOps.done ?_
        refine sqQ.normal ?_
        refine KA.sub (Sub.cons (t := 10) Look.eq (Sub.cons (t := 11) Look.eq (Sub.cons (t := 130) Look.eq (Sub.nil _)))) ?_
        refine KA.condT ?_
        refine KA.seq ?_
        refine KA.region rfl ?_
        refine KOps.assign ?_
        refine KOps.done ?_
        refine sqQ.normal ?_
        refine KA.sub (Sub.cons (t := 8) Look.eq (Sub.nil _)) ?_
        refine KA.ret ?_
        refine sqQ.ret ?_
        refine fnQ.ret1 ?_
        first
         | exact rfl
         | (exfalso; omega)
         | (exfalso; rcases hmem with q | q <;> contradiction)
    · intro g118
      have g118 := of_decide_eq_false g118
      refine KOps.guardNo (dj := 118) rfl rfl rfl ?_
      refine KOps.guardYes (dj := 115) rfl rfl ?_
      refine KOps.pickF ?_
      refine KOps.pickF ?_
      refine KOps.move ?_
      refine KOps.guardYes (dj := 123) rfl rfl ?_
      refine KOps.move ?_
      refine KOps.guardYes (dj := 123) rfl rfl ?_
      refine KOps.neq ?_
      refine KOps.guardYes (dj := 123) rfl rfl ?_
      refine KOps.move ?_
      refine KOps.guardB (dj := 126) rfl rfl true false rfl ?_ ?_
      · intro g126
        have g126 := not_of_not_decide g126
        refine KOps.move ?_
        refine KOps.guardYes (dj := 126) rfl rfl ?_
        refine KOps.neq ?_
        refine KOps.guardYes (dj := 123) rfl rfl ?_
        refine KOps.pickT ?_
        refine KOps.pickF ?_
        refine KOps.done ?_
        refine sqQ.normal ?_
        refine KA.sub (Sub.cons (t := 10) Look.eq (Sub.cons (t := 11) Look.eq (Sub.cons (t := 130) Look.eq (Sub.nil _)))) ?_
        refine KA.condN ?_ ?_
        · intro c130
          refine KA.seq ?_
          refine KA.region rfl ?_
          refine KOps.assign ?_
          refine KOps.done ?_
          refine sqQ.normal ?_
          refine KA.sub (Sub.cons (t := 8) Look.eq (Sub.nil _)) ?_
          refine KA.ret ?_
          refine sqQ.ret ?_
          refine fnQ.ret1 ?_
          first
           | exact rfl
           | (exfalso; omega)
           | (exfalso; rcases hmem with q | q <;> contradiction)
        · intro c130
          refine KA.skip ?_
          refine sqQ.normal ?_
          refine KA.sub (Sub.cons (t := 10) Look.eq (Sub.cons (t := 11) Look.eq (Sub.nil _))) ?_
          refine KA.seq ?_
          refine KA.seq ?_
          refine KA.region rfl ?_
          refine KOps.move ?_
          refine KOps.lenI (hS.rd 0 rfl) ?_
          refine KOps.move ?_
          refine KOps.done ?_
          refine sqQ.normal ?_
          refine KA.sub (Sub.cons (t := 10) Look.eq (Sub.cons (t := 131) Look.eq (Sub.cons (t := 132) Look.eq (Sub.cons (t := 133) Look.eq (Sub.nil _))))) ?_
          refine KA.block ?_
          refine KA.loop (X := Nat) (fun j => [(10, .fn 46 [p6]), (131, va), (132, .int .i64 (l.length : Int)), (133, .int .i64 (j : Int))]) (fun j h' => j ≤ l.length ∧ St h h' [⟨va, 1, wcs l, true⟩, ⟨p6, 0, [.bool b], true⟩]) (fun j => l.length - j) 0 (by repeat (first | exact Sub.nil _ | refine Sub.cons Look.eq ?_ | refine Sub.cons (Eq.trans Look.eq (congrArg (AV.int _) (by first | omega | (dsimp only; omega)))) ?_)) ?_ ?_
          · exact ⟨Nat.zero_le _, St.pick [0, 3] (by decide) rfl hS⟩
          rintro j h3 ⟨hj, hS⟩
          have hjb : j + 1 ≤ 13 := Nat.succ_le_succ (Nat.le_trans hj hl12)
          refine KA.seq ?_
          refine KA.region rfl ?_
          refine KOps.lss ?_
          refine KOps.done ?_
          refine sqQ.normal ?_
          refine KA.seq ?_
          refine KA.condD ?_ ?_
          · intro c134
            refine KA.skip ?_
            refine sqQ.normal ?_
            refine KA.sub (Sub.cons (t := 10) Look.eq (Sub.cons (t := 131) Look.eq (Sub.cons (t := 132) Look.eq (Sub.cons (t := 133) Look.eq (Sub.nil _))))) ?_
            refine KA.seq ?_
            refine KA.block ?_
            refine KA.seq ?_
            refine KA.region rfl ?_
            refine KOps.indexIJ (hS.rd 0 rfl) (j := j) rfl (by first | omega | (simp; done) | (simp; omega)) ?_
            intro p135 hp135
            refine KOps.loadW hp135 (hS.rd 0 rfl) (by first | omega | (simp; done) | (simp; omega)) ?_
            refine KOps.assign ?_
            refine KOps.done ?_
            refine sqQ.normal ?_
            refine KA.sub (Sub.cons (t := 10) Look.eq (Sub.cons (t := 27) Look.eq (Sub.cons (t := 131) Look.eq (Sub.cons (t := 132) Look.eq (Sub.cons (t := 133) Look.eq (Sub.nil _)))))) ?_
            refine KA.seq ?_
            refine KA.region rfl ?_
            have hjl : j < l.length := by omega
            obtain ⟨w, hw⟩ : ∃ w, l.getD j [] = w := ⟨_, rfl⟩
            rw [hw]
            have hwN : w.length = N := hlN w (by rw [← hw, List.getD_eq_getElem?_getD, List.getElem?_eq_getElem hjl]; exact List.getElem_mem _)
            have htN := turnW_len b w
            have hne : w ≠ [] := fun q => by rw [q] at hwN; simp at hwN; omega
            have hne2 : turnW b w ≠ [] := fun q => by rw [q] at htN; simp at htN; omega
            have hE1 : shortE (wd w) = 0 := by rw [shortE_wd (by omega), if_neg hne]
            have hE2 : shortE (wd (turnW b w)) = 0 := by rw [shortE_wd (by omega), if_neg hne2]
            have hE3 : longE (wd w) = 0 := by rw [longE_wd (by omega), if_neg (by omega)]
            have hE4 : longE (wd (turnW b w)) = 0 := by rw [longE_wd (by omega), if_neg (by omega)]
            have hsl := shortW_len w
            have hsp : 2 ^ (w.length - 1) ≤ 2 ^ 10 := Nat.pow_le_pow_right (by decide) (by omega)
            have hll := longW_len w
            have hs0 : shortW w ≠ [] := fun q => by
              have h1 := (mem_shortW (w := w) (r := w.eraseIdx 0)).2 (isDel_iff.2 ⟨0, by omega, rfl⟩)
              rw [q] at h1; cases h1
            have hsl2 := shortW_len (turnW b w)
            have hll2 := longW_len (turnW b w)
            have hsp2 : 2 ^ ((turnW b w).length - 1) ≤ 2 ^ 10 := Nat.pow_le_pow_right (by decide) (by omega)
            refine KOps.move ?_
            refine KOps.call rfl (shortP_c) ?_
            rintro _ h139 ⟨v139, rfl, hS139⟩
            have hS0 : St _ _ (_ :: _) := St.trans hS hS139
            clear hS
            have hS := hS0
            clear hS0
            refine KOps.move ?_
            refine KOps.extract ?_
            refine KOps.extract ?_
            refine KOps.assign ?_
            refine KOps.assign ?_
            refine KOps.done ?_
            refine sqQ.normal ?_
            refine KA.sub (Sub.cons (t := 10) Look.eq (Sub.cons (t := 27) Look.eq (Sub.cons (t := 28) Look.eq (Sub.cons (t := 29) Look.eq (Sub.cons (t := 131) Look.eq (Sub.cons (t := 132) Look.eq (Sub.cons (t := 133) Look.eq (Sub.nil _)))))))) ?_
            refine KA.seq ?_
            refine KA.region rfl ?_
            refine KOps.move ?_
            refine KOps.move ?_
            refine KOps.call rfl (turn_c hp6 (hS.rd 2 rfl) (by omega)) ?_
            rintro _ hx ⟨rfl, hK⟩
            have hS0 : St _ _ _ := St.trans hS (St.ofK hK)
            clear hS
            have hS := hS0
            clear hS0
            simp only [List.nil_append] at hS
            refine KOps.call rfl (shortP_c) ?_
            rintro _ h146 ⟨v146, rfl, hS146⟩
            have hS0 : St _ _ (_ :: _) := St.trans hS hS146
            clear hS
            have hS := hS0
            clear hS0
            refine KOps.move ?_
            refine KOps.extract ?_
            refine KOps.extract ?_
            refine KOps.assign ?_
            refine KOps.assign ?_
            refine KOps.done ?_
            refine sqQ.normal ?_
            refine KA.sub (Sub.cons (t := 10) Look.eq (Sub.cons (t := 27) Look.eq (Sub.cons (t := 28) Look.eq (Sub.cons (t := 29) Look.eq (Sub.cons (t := 30) Look.eq (Sub.cons (t := 31) Look.eq (Sub.cons (t := 131) Look.eq (Sub.cons (t := 132) Look.eq (Sub.cons (t := 133) Look.eq (Sub.nil _)))))))))) ?_
            refine KA.seq ?_
            refine KA.region rfl ?_
            refine KOps.move ?_
            refine KOps.call rfl (longP_c) ?_
            rintro _ h151 ⟨v151, rfl, hS151⟩
            have hS0 : St _ _ (_ :: _) := St.trans hS hS151
            clear hS
            have hS := hS0
            clear hS0
            refine KOps.move ?_
            refine KOps.extract ?_
            refine KOps.extract ?_
            refine KOps.assign ?_
            refine KOps.assign ?_
            refine KOps.done ?_
            refine sqQ.normal ?_
            refine KA.sub (Sub.cons (t := 10) Look.eq (Sub.cons (t := 27) Look.eq (Sub.cons (t := 28) Look.eq (Sub.cons (t := 29) Look.eq (Sub.cons (t := 30) Look.eq (Sub.cons (t := 31) Look.eq (Sub.cons (t := 32) Look.eq (Sub.cons (t := 33) Look.eq (Sub.cons (t := 131) Look.eq (Sub.cons (t := 132) Look.eq (Sub.cons (t := 133) Look.eq (Sub.nil _)))))))))))) ?_
            refine KA.seq ?_
            refine KA.region rfl ?_
            refine KOps.move ?_
            refine KOps.move ?_
            refine KOps.call rfl (turn_c hp6 (hS.rd 4 rfl) (by omega)) ?_
            rintro _ hx ⟨rfl, hK⟩
            have hS0 : St _ _ _ := St.trans hS (St.ofK hK)
            clear hS
            have hS := hS0
            clear hS0
            simp only [List.nil_append] at hS
            refine KOps.call rfl (longP_c) ?_
            rintro _ h158 ⟨v158, rfl, hS158⟩
            have hS0 : St _ _ (_ :: _) := St.trans hS hS158
            clear hS
            have hS := hS0
            clear hS0
            refine KOps.move ?_
            refine KOps.extract ?_
            refine KOps.extract ?_
            refine KOps.assign ?_
            refine KOps.assign ?_
            refine KOps.done ?_
            refine sqQ.normal ?_
            refine KA.sub (Sub.cons (t := 10) Look.eq (Sub.cons (t := 28) Look.eq (Sub.cons (t := 29) Look.eq (Sub.cons (t := 30) Look.eq (Sub.cons (t := 31) Look.eq (Sub.cons (t := 32) Look.eq (Sub.cons (t := 33) Look.eq (Sub.cons (t := 34) Look.eq (Sub.cons (t := 35) Look.eq (Sub.cons (t := 131) Look.eq (Sub.cons (t := 132) Look.eq (Sub.cons (t := 133) Look.eq (Sub.nil _))))))))))))) ?_
            refine KA.seq ?_
            refine KA.seq ?_
            refine KA.region rfl ?_
            rw [shortS_wd hE1, shortS_wd hE2, longS_wd hE3, longS_wd hE4] at hS
            refine KOps.move ?_
            refine KOps.neqF (hE1) ?_
            refine KOps.move ?_
            refine KOps.guardYes (dj := 163) rfl rfl ?_
            refine KOps.move ?_
            refine KOps.guardYes (dj := 163) rfl rfl ?_
            refine KOps.neqF (hE2) ?_
            refine KOps.pickF ?_
            refine KOps.move ?_
            refine KOps.guardYes (dj := 167) rfl rfl ?_
            refine KOps.move ?_
            refine KOps.guardYes (dj := 167) rfl rfl ?_
            refine KOps.neqF (hE3) ?_
            refine KOps.pickF ?_
            refine KOps.move ?_
            refine KOps.guardYes (dj := 171) rfl rfl ?_
            refine KOps.move ?_
            refine KOps.guardYes (dj := 171) rfl rfl ?_
            refine KOps.neqF (hE4) ?_
            refine KOps.pickF ?_
            refine KOps.move ?_
            refine KOps.guardYes (dj := 175) rfl rfl ?_
            refine KOps.move ?_
            refine KOps.guardYes (dj := 175) rfl rfl ?_
            refine KOps.lenI (hS.rd 3 rfl) ?_
            refine KOps.guardYes (dj := 175) rfl rfl ?_
            refine KOps.move ?_
            refine KOps.guardYes (dj := 175) rfl rfl ?_
            refine KOps.lenI (hS.rd 2 rfl) ?_
            refine KOps.guardYes (dj := 175) rfl rfl ?_
            refine KOps.neqF (by rw [short_turn_len]) ?_
            refine KOps.pickF ?_
            refine KOps.move ?_
            refine KOps.guardYes (dj := 182) rfl rfl ?_
            refine KOps.move ?_
            refine KOps.guardYes (dj := 182) rfl rfl ?_
            refine KOps.lenI (hS.rd 1 rfl) ?_
            refine KOps.guardYes (dj := 182) rfl rfl ?_
            refine KOps.move ?_
            refine KOps.guardYes (dj := 182) rfl rfl ?_
            refine KOps.lenI (hS.rd 0 rfl) ?_
            refine KOps.guardYes (dj := 182) rfl rfl ?_
            refine KOps.neqF (by rw [longW_len, longW_len, turnW_len]) ?_
            refine KOps.pickF ?_
            refine KOps.done ?_
            refine sqQ.normal ?_
            refine KA.sub (Sub.cons (t := 10) Look.eq (Sub.cons (t := 28) Look.eq (Sub.cons (t := 30) Look.eq (Sub.cons (t := 32) Look.eq (Sub.cons (t := 34) Look.eq (Sub.cons (t := 131) Look.eq (Sub.cons (t := 132) Look.eq (Sub.cons (t := 133) Look.eq (Sub.cons (t := 164) Look.eq (Sub.cons (t := 165) Look.eq (Sub.cons (t := 168) Look.eq (Sub.cons (t := 169) Look.eq (Sub.cons (t := 172) Look.eq (Sub.cons (t := 173) Look.eq (Sub.cons (t := 176) Look.eq (Sub.cons (t := 177) Look.eq (Sub.cons (t := 178) Look.eq (Sub.cons (t := 179) Look.eq (Sub.cons (t := 180) Look.eq (Sub.cons (t := 183) Look.eq (Sub.cons (t := 184) Look.eq (Sub.cons (t := 185) Look.eq (Sub.cons (t := 186) Look.eq (Sub.cons (t := 187) Look.eq (Sub.cons (t := 188) Look.eq (Sub.nil _)))))))))))))))))))))))))) ?_
            refine KA.condF ?_
            refine KA.skip ?_
            refine sqQ.normal ?_
            refine KA.sub (Sub.cons (t := 10) Look.eq (Sub.cons (t := 28) Look.eq (Sub.cons (t := 30) Look.eq (Sub.cons (t := 32) Look.eq (Sub.cons (t := 34) Look.eq (Sub.cons (t := 131) Look.eq (Sub.cons (t := 132) Look.eq (Sub.cons (t := 133) Look.eq (Sub.cons (t := 164) Look.eq (Sub.cons (t := 165) Look.eq (Sub.cons (t := 168) Look.eq (Sub.cons (t := 169) Look.eq (Sub.cons (t := 172) Look.eq (Sub.cons (t := 173) Look.eq (Sub.cons (t := 176) Look.eq (Sub.cons (t := 177) Look.eq (Sub.cons (t := 178) Look.eq (Sub.cons (t := 179) Look.eq (Sub.cons (t := 180) Look.eq (Sub.cons (t := 183) Look.eq (Sub.cons (t := 184) Look.eq (Sub.cons (t := 185) Look.eq (Sub.cons (t := 186) Look.eq (Sub.cons (t := 187) Look.eq (Sub.nil _))))))))))))))))))))))))) ?_
            refine KA.seq ?_
            refine KA.region rfl ?_
            refine KOps.move ?_
            refine KOps.call rfl (cloneW_c (l := shortW w) (hS.rd 3 rfl) hs0 (by omega)) ?_
            rintro v190 h190 hS190
            have hS0 : St _ _ (_ :: _) := St.trans hS hS190
            clear hS
            have hS := hS0
            clear hS0
            refine KOps.move ?_
            refine KOps.append hS (fun _ => rfl) (i := 0) rfl (a := (shortW w).length) (wcs_len _) (hS.rd 2 rfl) (b := (longW w).length) (wcs_len _) (by simp [AV.one]) (by omega) ?_
            intro r192 h' hS
            simp only [List.set_cons_zero, List.set_cons_succ, Nat.zero_add] at hS
            have happ : wcs (shortW w) ++ wcs (longW w) = wcs (shortW w ++ longW w) := List.map_append.symm
            rw [happ] at hS
            refine KOps.lenI (hS.rd 0 rfl) ?_
            refine KOps.move ?_
            refine KOps.done ?_
            refine sqQ.normal ?_
            refine KA.sub (Sub.cons (t := 10) Look.eq (Sub.cons (t := 30) Look.eq (Sub.cons (t := 34) Look.eq (Sub.cons (t := 131) Look.eq (Sub.cons (t := 132) Look.eq (Sub.cons (t := 133) Look.eq (Sub.cons (t := 164) Look.eq (Sub.cons (t := 165) Look.eq (Sub.cons (t := 168) Look.eq (Sub.cons (t := 169) Look.eq (Sub.cons (t := 172) Look.eq (Sub.cons (t := 173) Look.eq (Sub.cons (t := 176) Look.eq (Sub.cons (t := 177) Look.eq (Sub.cons (t := 178) Look.eq (Sub.cons (t := 179) Look.eq (Sub.cons (t := 180) Look.eq (Sub.cons (t := 183) Look.eq (Sub.cons (t := 184) Look.eq (Sub.cons (t := 185) Look.eq (Sub.cons (t := 186) Look.eq (Sub.cons (t := 187) Look.eq (Sub.cons (t := 192) Look.eq (Sub.cons (t := 193) Look.eq (Sub.cons (t := 194) Look.eq (Sub.nil _)))))))))))))))))))))))))) ?_
            refine KA.block ?_
            -- live but not in the pattern: [164, 165, 168, 169, 172, 173, 176, 177, 178, 179, 180, 183, 184, 185, 186, 187]
            refine KA.loop (X := Nat) (fun q => [(10, .fn 46 [p6]), (30, v146), (34, v158), (131, va), (132, .int .i64 (l.length : Int)), (133, .int .i64 (j : Int)), (192, r192), (193, .int .i64 ((shortW w ++ longW w).length : Int)), (194, .int .i64 (q : Int))]) (fun q h' => q ≤ (shortW w ++ longW w).length ∧ St h h' [⟨r192, 1, wcs (shortW w ++ longW w), true⟩, ⟨v158, 1, wcs (longW (turnW b w)), true⟩, ⟨v146, 1, wcs (shortW (turnW b w)), true⟩, ⟨va, 1, wcs l, true⟩, ⟨p6, 0, [.bool b], true⟩]) (fun q => (shortW w ++ longW w).length - q) 0 (by repeat (first | exact Sub.nil _ | refine Sub.cons Look.eq ?_ | refine Sub.cons (Eq.trans Look.eq (congrArg (AV.int _) (by first | omega | (dsimp only; omega)))) ?_)) ?_ ?_
            · exact ⟨Nat.zero_le _, St.pick [0, 1, 3, 5, 6] (by decide) rfl hS⟩
            rintro q h5 ⟨hq, hS⟩
            have hqb : q + 1 ≤ 1037 := Nat.succ_le_succ (Nat.le_trans hq (xw_len (by rw [hwN]; exact hN8.2)))
            refine KA.seq ?_
            refine KA.region rfl ?_
            refine KOps.lss ?_
            refine KOps.done ?_
            refine sqQ.normal ?_
            refine KA.seq ?_
            refine KA.condD ?_ ?_
            · intro c195
              refine KA.skip ?_
              refine sqQ.normal ?_
              refine KA.sub (Sub.cons (t := 10) Look.eq (Sub.cons (t := 30) Look.eq (Sub.cons (t := 34) Look.eq (Sub.cons (t := 131) Look.eq (Sub.cons (t := 132) Look.eq (Sub.cons (t := 133) Look.eq (Sub.cons (t := 192) Look.eq (Sub.cons (t := 193) Look.eq (Sub.cons (t := 194) Look.eq (Sub.nil _)))))))))) ?_
              refine KA.seq ?_
              refine KA.block ?_
              refine KA.seq ?_
              refine KA.region rfl ?_
              refine KOps.indexIJ (hS.rd 0 rfl) (j := q) rfl (by first | omega | (simp; done) | (simp; omega)) ?_
              intro p196 hp196
              refine KOps.loadW hp196 (hS.rd 0 rfl) (by first | omega | (simp; done) | (simp; omega)) ?_
              refine KOps.assign ?_
              refine KOps.done ?_
              refine sqQ.normal ?_
              refine KA.sub (Sub.cons (t := 10) Look.eq (Sub.cons (t := 30) Look.eq (Sub.cons (t := 34) Look.eq (Sub.cons (t := 37) Look.eq (Sub.cons (t := 131) Look.eq (Sub.cons (t := 132) Look.eq (Sub.cons (t := 133) Look.eq (Sub.cons (t := 192) Look.eq (Sub.cons (t := 193) Look.eq (Sub.cons (t := 194) Look.eq (Sub.nil _))))))))))) ?_
              refine KA.seq ?_
              refine KA.region rfl ?_
              obtain ⟨s, hs⟩ : ∃ s, (shortW w ++ longW w).getD q [] = s := ⟨_, rfl⟩
              rw [hs]
              have hsm : s ∈ (shortW w ++ longW w) := by
                rw [← hs, List.getD_eq_getElem?_getD, List.getElem?_eq_getElem (by omega : q < (shortW w ++ longW w).length)]; exact List.getElem_mem _
              have hs10 : s.length ≤ 10 := by
                rcases List.mem_append.1 hsm with z | z
                · have := isDel_len (mem_shortW.1 z); omega
                · have := isDel_len (mem_longW.1 z); omega
              have hmem : turnW b s ∈ shortW (turnW b w) ∨ turnW b s ∈ longW (turnW b w) := (List.mem_append.1 hsm).imp short_turn_mem long_turn_mem
              refine KOps.move ?_
              refine KOps.lenW ?_
              refine KOps.gtr ?_
              rw [decide_eq_false (by omega)]
              refine KOps.move ?_
              refine KOps.guardYes (dj := 201) rfl rfl ?_
              refine KOps.move ?_
              refine KOps.guardYes (dj := 201) rfl rfl ?_
              refine KOps.move ?_
              refine KOps.guardYes (dj := 201) rfl rfl ?_
              refine KOps.move ?_
              refine KOps.guardYes (dj := 201) rfl rfl ?_
              refine KOps.call rfl (turn_c hp6 (hS.rd 4 rfl) (by omega)) ?_
              rintro _ hx ⟨rfl, hK⟩
              have hS0 : St _ _ _ := St.trans hS (St.ofK hK)
              clear hS
              have hS := hS0
              clear hS0
              simp only [List.nil_append] at hS
              refine KOps.guardYes (dj := 201) rfl rfl ?_
              refine KOps.call rfl (containsS_c (WRow.s (hS.rd 2 rfl)) (by rw [List.length_map]; omega)) ?_
              rintro _ _ ⟨rfl, rfl⟩
              rw [anyS_words]
              refine KOps.guardYes (dj := 201) rfl rfl ?_
              refine KOps.not ?_
              refine KOps.guardYes (dj := 201) rfl rfl ?_
              refine KOps.move ?_
              refine KOps.guardB (dj := 208) rfl rfl true false rfl ?_ ?_
              · intro g208
                have g208 := not_of_not_decide g208
                refine KOps.move ?_
                refine KOps.guardYes (dj := 208) rfl rfl ?_
                refine KOps.move ?_
                refine KOps.guardYes (dj := 208) rfl rfl ?_
                refine KOps.move ?_
                refine KOps.guardYes (dj := 208) rfl rfl ?_
                refine KOps.call rfl (turn_c hp6 (hS.rd 4 rfl) (by omega)) ?_
                rintro _ hx ⟨rfl, hK⟩
                have hS0 : St _ _ _ := St.trans hS (St.ofK hK)
                clear hS
                have hS := hS0
                clear hS0
                simp only [List.nil_append] at hS
                refine KOps.guardYes (dj := 208) rfl rfl ?_
                refine KOps.call rfl (containsS_c (WRow.s (hS.rd 1 rfl)) (by rw [List.length_map]; omega)) ?_
                rintro _ _ ⟨rfl, rfl⟩
                rw [anyS_words]
                refine KOps.guardYes (dj := 208) rfl rfl ?_
                refine KOps.not ?_
                refine KOps.guardYes (dj := 201) rfl rfl ?_
                refine KOps.pickT ?_
                refine KOps.pickF ?_
                refine KOps.done ?_
                refine sqQ.normal ?_
                refine KA.sub (Sub.cons (t := 10) Look.eq (Sub.cons (t := 30) Look.eq (Sub.cons (t := 34) Look.eq (Sub.cons (t := 131) Look.eq (Sub.cons (t := 132) Look.eq (Sub.cons (t := 133) Look.eq (Sub.cons (t := 192) Look.eq (Sub.cons (t := 193) Look.eq (Sub.cons (t := 194) Look.eq (Sub.cons (t := 202) Look.eq (Sub.cons (t := 203) Look.eq (Sub.cons (t := 204) Look.eq (Sub.cons (t := 205) Look.eq (Sub.cons (t := 206) Look.eq (Sub.cons (t := 207) Look.eq (Sub.cons (t := 208) Look.eq (Sub.cons (t := 209) Look.eq (Sub.cons (t := 210) Look.eq (Sub.cons (t := 211) Look.eq (Sub.cons (t := 212) Look.eq (Sub.cons (t := 213) Look.eq (Sub.cons (t := 214) Look.eq (Sub.cons (t := 215) Look.eq (Sub.cons (t := 216) Look.eq (Sub.nil _))))))))))))))))))))))))) ?_
                refine KA.condN ?_ ?_
                · intro c216
                  refine KA.seq ?_
                  refine KA.region rfl ?_
                  refine KOps.assign ?_
                  refine KOps.done ?_
                  refine sqQ.normal ?_
                  refine KA.sub (Sub.cons (t := 8) Look.eq (Sub.nil _)) ?_
                  refine KA.ret ?_
                  refine blQ.ret ?_
                  refine sqQ.ret ?_
                  refine lpQ.ret ?_
                  refine blQ.ret ?_
                  refine blQ.ret ?_
                  refine sqQ.ret ?_
                  refine lpQ.ret ?_
                  refine blQ.ret ?_
                  refine sqQ.ret ?_
                  refine fnQ.ret1 ?_
                  first
                   | exact rfl
                   | (exfalso; omega)
                   | (exfalso; rcases hmem with q | q <;> contradiction)
                · intro c216
                  refine KA.skip ?_
                  refine blQ.normal ?_
                  refine sqQ.normal ?_
                  refine KA.sub (Sub.cons (t := 10) Look.eq (Sub.cons (t := 30) Look.eq (Sub.cons (t := 34) Look.eq (Sub.cons (t := 131) Look.eq (Sub.cons (t := 132) Look.eq (Sub.cons (t := 133) Look.eq (Sub.cons (t := 192) Look.eq (Sub.cons (t := 193) Look.eq (Sub.cons (t := 194) Look.eq (Sub.cons (t := 202) Look.eq (Sub.cons (t := 203) Look.eq (Sub.cons (t := 204) Look.eq (Sub.cons (t := 205) Look.eq (Sub.cons (t := 206) Look.eq (Sub.cons (t := 207) Look.eq (Sub.cons (t := 208) Look.eq (Sub.cons (t := 209) Look.eq (Sub.cons (t := 210) Look.eq (Sub.cons (t := 211) Look.eq (Sub.cons (t := 212) Look.eq (Sub.cons (t := 213) Look.eq (Sub.cons (t := 214) Look.eq (Sub.cons (t := 215) Look.eq (Sub.nil _)))))))))))))))))))))))) ?_
                  refine KA.region rfl ?_
                  refine KOps.add (Int.le_trans (b := 0) (by decide) (Int.natCast_nonneg (q + 1))) (Int.le_trans (Int.ofNat_le.2 hqb) (by decide)) ?_
                  refine KOps.move ?_
                  refine KOps.done ?_
                  exact lpQ.normal (q + 1) (by repeat (first | exact Sub.nil _ | refine Sub.cons Look.eq ?_ | refine Sub.cons (Eq.trans Look.eq (congrArg (AV.int _) (by first | omega | (dsimp only; omega)))) ?_)) ⟨by omega, hS⟩ (by omega)
              · intro g208
                have g208 := of_not_decide g208
                refine KOps.guardNo (dj := 208) rfl rfl rfl ?_
                refine KOps.guardNo (dj := 208) rfl rfl rfl ?_
                refine KOps.guardNo (dj := 208) rfl rfl rfl ?_
                refine KOps.guardNo (dj := 208) rfl rfl rfl ?_
                refine KOps.guardNo (dj := 208) rfl rfl rfl ?_
                refine KOps.guardYes (dj := 201) rfl rfl ?_
                refine KOps.pickF ?_
                refine KOps.pickF ?_
                refine KOps.done ?_
                refine sqQ.normal ?_
                refine KA.sub (Sub.cons (t := 10) Look.eq (Sub.cons (t := 30) Look.eq (Sub.cons (t := 34) Look.eq (Sub.cons (t := 131) Look.eq (Sub.cons (t := 132) Look.eq (Sub.cons (t := 133) Look.eq (Sub.cons (t := 192) Look.eq (Sub.cons (t := 193) Look.eq (Sub.cons (t := 194) Look.eq (Sub.cons (t := 202) Look.eq (Sub.cons (t := 203) Look.eq (Sub.cons (t := 204) Look.eq (Sub.cons (t := 205) Look.eq (Sub.cons (t := 206) Look.eq (Sub.cons (t := 207) Look.eq (Sub.cons (t := 208) Look.eq (Sub.cons (t := 209) Look.eq (Sub.cons (t := 210) Look.eq (Sub.cons (t := 211) Look.eq (Sub.cons (t := 212) Look.eq (Sub.cons (t := 213) Look.eq (Sub.cons (t := 214) Look.eq (Sub.cons (t := 215) Look.eq (Sub.cons (t := 216) Look.eq (Sub.nil _))))))))))))))))))))))))) ?_
                refine KA.condF ?_
                refine KA.skip ?_
                refine blQ.normal ?_
                refine sqQ.normal ?_
                refine KA.sub (Sub.cons (t := 10) Look.eq (Sub.cons (t := 30) Look.eq (Sub.cons (t := 34) Look.eq (Sub.cons (t := 131) Look.eq (Sub.cons (t := 132) Look.eq (Sub.cons (t := 133) Look.eq (Sub.cons (t := 192) Look.eq (Sub.cons (t := 193) Look.eq (Sub.cons (t := 194) Look.eq (Sub.cons (t := 202) Look.eq (Sub.cons (t := 203) Look.eq (Sub.cons (t := 204) Look.eq (Sub.cons (t := 205) Look.eq (Sub.cons (t := 206) Look.eq (Sub.cons (t := 207) Look.eq (Sub.cons (t := 208) Look.eq (Sub.cons (t := 209) Look.eq (Sub.cons (t := 210) Look.eq (Sub.cons (t := 211) Look.eq (Sub.cons (t := 212) Look.eq (Sub.cons (t := 213) Look.eq (Sub.cons (t := 214) Look.eq (Sub.cons (t := 215) Look.eq (Sub.nil _)))))))))))))))))))))))) ?_
                refine KA.region rfl ?_
                refine KOps.add (Int.le_trans (b := 0) (by decide) (Int.natCast_nonneg (q + 1))) (Int.le_trans (Int.ofNat_le.2 hqb) (by decide)) ?_
                refine KOps.move ?_
                refine KOps.done ?_
                exact lpQ.normal (q + 1) (by repeat (first | exact Sub.nil _ | refine Sub.cons Look.eq ?_ | refine Sub.cons (Eq.trans Look.eq (congrArg (AV.int _) (by first | omega | (dsimp only; omega)))) ?_)) ⟨by omega, hS⟩ (by omega)
            · intro c195
              refine KA.exit ?_
              refine sqQ.exit ?_
              refine lpQ.exit ?_
              refine blQ.here ?_
              refine blQ.normal ?_
              refine sqQ.normal ?_
              refine KA.sub (Sub.cons (t := 10) Look.eq (Sub.cons (t := 131) Look.eq (Sub.cons (t := 132) Look.eq (Sub.cons (t := 133) Look.eq (Sub.nil _))))) ?_
              refine KA.region rfl ?_
              refine KOps.add (Int.le_trans (b := 0) (by decide) (Int.natCast_nonneg (j + 1))) (Int.le_trans (Int.ofNat_le.2 hjb) (by decide)) ?_
              refine KOps.move ?_
              refine KOps.done ?_
              exact lpQ.normal (j + 1) (by repeat (first | exact Sub.nil _ | refine Sub.cons Look.eq ?_ | refine Sub.cons (Eq.trans Look.eq (congrArg (AV.int _) (by first | omega | (dsimp only; omega)))) ?_)) ⟨by omega, St.pick [3, 4] (by decide) rfl hS⟩ (by omega)
          · intro c134
            refine KA.exit ?_
            refine sqQ.exit ?_
            refine lpQ.exit ?_
            refine blQ.here ?_
            refine sqQ.normal ?_
            refine KA.sub (Sub.nil _) ?_
            refine KA.seq ?_
            refine KA.region rfl ?_
            refine KOps.call rfl (works_c (hTab.ext hS.keeps)) ?_
            rintro _ hx ⟨rfl, hK⟩
            have hS0 : St _ _ _ := St.trans hS (St.ofK hK)
            clear hS
            have hS := hS0
            clear hS0
            simp only [List.nil_append] at hS
            refine KOps.assign ?_
            refine KOps.done ?_
            refine sqQ.normal ?_
            refine KA.sub (Sub.cons (t := 8) Look.eq (Sub.nil _)) ?_
            refine KA.ret ?_
            refine fnQ.ret1 ?_
            first
             | exact rfl
             | (exfalso; omega)
             | (exfalso; rcases hmem with q | q <;> contradiction)
      · intro g126
        have g126 := of_not_decide g126
        refine KOps.guardNo (dj := 126) rfl rfl rfl ?_
        refine KOps.guardYes (dj := 123) rfl rfl ?_
        refine KOps.pickF ?_
        refine KOps.pickF ?_
        refine KOps.done ?_
        refine sqQ.normal ?_
        refine KA.sub (Sub.cons (t := 10) Look.eq (Sub.cons (t := 11) Look.eq (Sub.cons (t := 130) Look.eq (Sub.nil _)))) ?_
        refine KA.condF ?_
        refine KA.skip ?_
        refine sqQ.normal ?_
        refine KA.sub (Sub.cons (t := 10) Look.eq (Sub.cons (t := 11) Look.eq (Sub.nil _))) ?_
        refine KA.seq ?_
        refine KA.seq ?_
        refine KA.region rfl ?_
        refine KOps.move ?_
        refine KOps.lenI (hS.rd 0 rfl) ?_
        refine KOps.move ?_
        refine KOps.done ?_
        refine sqQ.normal ?_
        refine KA.sub (Sub.cons (t := 10) Look.eq (Sub.cons (t := 131) Look.eq (Sub.cons (t := 132) Look.eq (Sub.cons (t := 133) Look.eq (Sub.nil _))))) ?_
        refine KA.block ?_
        refine KA.loop (X := Nat) (fun j => [(10, .fn 46 [p6]), (131, va), (132, .int .i64 (l.length : Int)), (133, .int .i64 (j : Int))]) (fun j h' => j ≤ l.length ∧ St h h' [⟨va, 1, wcs l, true⟩, ⟨p6, 0, [.bool b], true⟩]) (fun j => l.length - j) 0 (by repeat (first | exact Sub.nil _ | refine Sub.cons Look.eq ?_ | refine Sub.cons (Eq.trans Look.eq (congrArg (AV.int _) (by first | omega | (dsimp only; omega)))) ?_)) ?_ ?_
        · exact ⟨Nat.zero_le _, St.pick [0, 3] (by decide) rfl hS⟩
        rintro j h3 ⟨hj, hS⟩
        have hjb : j + 1 ≤ 13 := Nat.succ_le_succ (Nat.le_trans hj hl12)
        refine KA.seq ?_
        refine KA.region rfl ?_
        refine KOps.lss ?_
        refine KOps.done ?_
        refine sqQ.normal ?_
        refine KA.seq ?_
        refine KA.condD ?_ ?_
        · intro c134
          refine KA.skip ?_
          refine sqQ.normal ?_
          refine KA.sub (Sub.cons (t := 10) Look.eq (Sub.cons (t := 131) Look.eq (Sub.cons (t := 132) Look.eq (Sub.cons (t := 133) Look.eq (Sub.nil _))))) ?_
          refine KA.seq ?_
          refine KA.block ?_
          refine KA.seq ?_
          refine KA.region rfl ?_
          refine KOps.indexIJ (hS.rd 0 rfl) (j := j) rfl (by first | omega | (simp; done) | (simp; omega)) ?_
          intro p135 hp135
          refine KOps.loadW hp135 (hS.rd 0 rfl) (by first | omega | (simp; done) | (simp; omega)) ?_
          refine KOps.assign ?_
          refine KOps.done ?_
          refine sqQ.normal ?_
          refine KA.sub (Sub.cons (t := 10) Look.eq (Sub.cons (t := 27) Look.eq (Sub.cons (t := 131) Look.eq (Sub.cons (t := 132) Look.eq (Sub.cons (t := 133) Look.eq (Sub.nil _)))))) ?_
          refine KA.seq ?_
          refine KA.region rfl ?_
          have hjl : j < l.length := by omega
          obtain ⟨w, hw⟩ : ∃ w, l.getD j [] = w := ⟨_, rfl⟩
          rw [hw]
          have hwN : w.length = N := hlN w (by rw [← hw, List.getD_eq_getElem?_getD, List.getElem?_eq_getElem hjl]; exact List.getElem_mem _)
          have htN := turnW_len b w
          have hne : w ≠ [] := fun q => by rw [q] at hwN; simp at hwN; omega
          have hne2 : turnW b w ≠ [] := fun q => by rw [q] at htN; simp at htN; omega
          have hE1 : shortE (wd w) = 0 := by rw [shortE_wd (by omega), if_neg hne]
          have hE2 : shortE (wd (turnW b w)) = 0 := by rw [shortE_wd (by omega), if_neg hne2]
          have hE3 : longE (wd w) = 0 := by rw [longE_wd (by omega), if_neg (by omega)]
          have hE4 : longE (wd (turnW b w)) = 0 := by rw [longE_wd (by omega), if_neg (by omega)]
          have hsl := shortW_len w
          have hsp : 2 ^ (w.length - 1) ≤ 2 ^ 10 := Nat.pow_le_pow_right (by decide) (by omega)
          have hll := longW_len w
          have hs0 : shortW w ≠ [] := fun q => by
            have h1 := (mem_shortW (w := w) (r := w.eraseIdx 0)).2 (isDel_iff.2 ⟨0, by omega, rfl⟩)
            rw [q] at h1; cases h1
          have hsl2 := shortW_len (turnW b w)
          have hll2 := longW_len (turnW b w)
          have hsp2 : 2 ^ ((turnW b w).length - 1) ≤ 2 ^ 10 := Nat.pow_le_pow_right (by decide) (by omega)
          refine KOps.move ?_
          refine KOps.call rfl (shortP_c) ?_
          rintro _ h139 ⟨v139, rfl, hS139⟩
          have hS0 : St _ _ (_ :: _) := St.trans hS hS139
          clear hS
          have hS := hS0
          clear hS0
          refine KOps.move ?_
          refine KOps.extract ?_
          refine KOps.extract ?_
          refine KOps.assign ?_
          refine KOps.assign ?_
          refine KOps.done ?_
          refine sqQ.normal ?_
          refine KA.sub (Sub.cons (t := 10) Look.eq (Sub.cons (t := 27) Look.eq (Sub.cons (t := 28) Look.eq (Sub.cons (t := 29) Look.eq (Sub.cons (t := 131) Look.eq (Sub.cons (t := 132) Look.eq (Sub.cons (t := 133) Look.eq (Sub.nil _)))))))) ?_
          refine KA.seq ?_
          refine KA.region rfl ?_
          refine KOps.move ?_
          refine KOps.move ?_
          refine KOps.call rfl (turn_c hp6 (hS.rd 2 rfl) (by omega)) ?_
          rintro _ hx ⟨rfl, hK⟩
          have hS0 : St _ _ _ := St.trans hS (St.ofK hK)
          clear hS
          have hS := hS0
          clear hS0
          simp only [List.nil_append] at hS
          refine KOps.call rfl (shortP_c) ?_
          rintro _ h146 ⟨v146, rfl, hS146⟩
          have hS0 : St _ _ (_ :: _) := St.trans hS hS146
          clear hS
          have hS := hS0
          clear hS0
          refine KOps.move ?_
          refine KOps.extract ?_
          refine KOps.extract ?_
          refine KOps.assign ?_
          refine KOps.assign ?_
          refine KOps.done ?_
          refine sqQ.normal ?_
          refine KA.sub (Sub.cons (t := 10) Look.eq (Sub.cons (t := 27) Look.eq (Sub.cons (t := 28) Look.eq (Sub.cons (t := 29) Look.eq (Sub.cons (t := 30) Look.eq (Sub.cons (t := 31) Look.eq (Sub.cons (t := 131) Look.eq (Sub.cons (t := 132) Look.eq (Sub.cons (t := 133) Look.eq (Sub.nil _)))))))))) ?_
          refine KA.seq ?_
          refine KA.region rfl ?_
          refine KOps.move ?_
          refine KOps.call rfl (longP_c) ?_
          rintro _ h151 ⟨v151, rfl, hS151⟩
          have hS0 : St _ _ (_ :: _) := St.trans hS hS151
          clear hS
          have hS := hS0
          clear hS0
          refine KOps.move ?_
          refine KOps.extract ?_
          refine KOps.extract ?_
          refine KOps.assign ?_
          refine KOps.assign ?_
          refine KOps.done ?_
          refine sqQ.normal ?_
          refine KA.sub (Sub.cons (t := 10) Look.eq (Sub.cons (t := 27) Look.eq (Sub.cons (t := 28) Look.eq (Sub.cons (t := 29) Look.eq (Sub.cons (t := 30) Look.eq (Sub.cons (t := 31) Look.eq (Sub.cons (t := 32) Look.eq (Sub.cons (t := 33) Look.eq (Sub.cons (t := 131) Look.eq (Sub.cons (t := 132) Look.eq (Sub.cons (t := 133) Look.eq (Sub.nil _)))))))))))) ?_
          refine KA.seq ?_
          refine KA.region rfl ?_
          refine KOps.move ?_
          refine KOps.move ?_
          refine KOps.call rfl (turn_c hp6 (hS.rd 4 rfl) (by omega)) ?_
          rintro _ hx ⟨rfl, hK⟩
          have hS0 : St _ _ _ := St.trans hS (St.ofK hK)
          clear hS
          have hS := hS0
          clear hS0
          simp only [List.nil_append] at hS
          refine KOps.call rfl (longP_c) ?_
          rintro _ h158 ⟨v158, rfl, hS158⟩
          have hS0 : St _ _ (_ :: _) := St.trans hS hS158
          clear hS
          have hS := hS0
          clear hS0
          refine KOps.move ?_
          refine KOps.extract ?_
          refine KOps.extract ?_
          refine KOps.assign ?_
          refine KOps.assign ?_
          refine KOps.done ?_
          refine sqQ.normal ?_
          refine KA.sub (Sub.cons (t := 10) Look.eq (Sub.cons (t := 28) Look.eq (Sub.cons (t := 29) Look.eq (Sub.cons (t := 30) Look.eq (Sub.cons (t := 31) Look.eq (Sub.cons (t := 32) Look.eq (Sub.cons (t := 33) Look.eq (Sub.cons (t := 34) Look.eq (Sub.cons (t := 35) Look.eq (Sub.cons (t := 131) Look.eq (Sub.cons (t := 132) Look.eq (Sub.cons (t := 133) Look.eq (Sub.nil _))))))))))))) ?_
          refine KA.seq ?_
          refine KA.seq ?_
          refine KA.region rfl ?_
          rw [shortS_wd hE1, shortS_wd hE2, longS_wd hE3, longS_wd hE4] at hS
          refine KOps.move ?_
          refine KOps.neqF (hE1) ?_
          refine KOps.move ?_
          refine KOps.guardYes (dj := 163) rfl rfl ?_
          refine KOps.move ?_
          refine KOps.guardYes (dj := 163) rfl rfl ?_
          refine KOps.neqF (hE2) ?_
          refine KOps.pickF ?_
          refine KOps.move ?_
          refine KOps.guardYes (dj := 167) rfl rfl ?_
          refine KOps.move ?_
          refine KOps.guardYes (dj := 167) rfl rfl ?_
          refine KOps.neqF (hE3) ?_
          refine KOps.pickF ?_
          refine KOps.move ?_
          refine KOps.guardYes (dj := 171) rfl rfl ?_
          refine KOps.move ?_
          refine KOps.guardYes (dj := 171) rfl rfl ?_
          refine KOps.neqF (hE4) ?_
          refine KOps.pickF ?_
          refine KOps.move ?_
          refine KOps.guardYes (dj := 175) rfl rfl ?_
          refine KOps.move ?_
          refine KOps.guardYes (dj := 175) rfl rfl ?_
          refine KOps.lenI (hS.rd 3 rfl) ?_
          refine KOps.guardYes (dj := 175) rfl rfl ?_
          refine KOps.move ?_
          refine KOps.guardYes (dj := 175) rfl rfl ?_
          refine KOps.lenI (hS.rd 2 rfl) ?_
          refine KOps.guardYes (dj := 175) rfl rfl ?_
          refine KOps.neqF (by rw [short_turn_len]) ?_
          refine KOps.pickF ?_
          refine KOps.move ?_
          refine KOps.guardYes (dj := 182) rfl rfl ?_
          refine KOps.move ?_
          refine KOps.guardYes (dj := 182) rfl rfl ?_
          refine KOps.lenI (hS.rd 1 rfl) ?_
          refine KOps.guardYes (dj := 182) rfl rfl ?_
          refine KOps.move ?_
          refine KOps.guardYes (dj := 182) rfl rfl ?_
          refine KOps.lenI (hS.rd 0 rfl) ?_
          refine KOps.guardYes (dj := 182) rfl rfl ?_
          refine KOps.neqF (by rw [longW_len, longW_len, turnW_len]) ?_
          refine KOps.pickF ?_
          refine KOps.done ?_
          refine sqQ.normal ?_
          refine KA.sub (Sub.cons (t := 10) Look.eq (Sub.cons (t := 28) Look.eq (Sub.cons (t := 30) Look.eq (Sub.cons (t := 32) Look.eq (Sub.cons (t := 34) Look.eq (Sub.cons (t := 131) Look.eq (Sub.cons (t := 132) Look.eq (Sub.cons (t := 133) Look.eq (Sub.cons (t := 164) Look.eq (Sub.cons (t := 165) Look.eq (Sub.cons (t := 168) Look.eq (Sub.cons (t := 169) Look.eq (Sub.cons (t := 172) Look.eq (Sub.cons (t := 173) Look.eq (Sub.cons (t := 176) Look.eq (Sub.cons (t := 177) Look.eq (Sub.cons (t := 178) Look.eq (Sub.cons (t := 179) Look.eq (Sub.cons (t := 180) Look.eq (Sub.cons (t := 183) Look.eq (Sub.cons (t := 184) Look.eq (Sub.cons (t := 185) Look.eq (Sub.cons (t := 186) Look.eq (Sub.cons (t := 187) Look.eq (Sub.cons (t := 188) Look.eq (Sub.nil _)))))))))))))))))))))))))) ?_
          refine KA.condF ?_
          refine KA.skip ?_
          refine sqQ.normal ?_
          refine KA.sub (Sub.cons (t := 10) Look.eq (Sub.cons (t := 28) Look.eq (Sub.cons (t := 30) Look.eq (Sub.cons (t := 32) Look.eq (Sub.cons (t := 34) Look.eq (Sub.cons (t := 131) Look.eq (Sub.cons (t := 132) Look.eq (Sub.cons (t := 133) Look.eq (Sub.cons (t := 164) Look.eq (Sub.cons (t := 165) Look.eq (Sub.cons (t := 168) Look.eq (Sub.cons (t := 169) Look.eq (Sub.cons (t := 172) Look.eq (Sub.cons (t := 173) Look.eq (Sub.cons (t := 176) Look.eq (Sub.cons (t := 177) Look.eq (Sub.cons (t := 178) Look.eq (Sub.cons (t := 179) Look.eq (Sub.cons (t := 180) Look.eq (Sub.cons (t := 183) Look.eq (Sub.cons (t := 184) Look.eq (Sub.cons (t := 185) Look.eq (Sub.cons (t := 186) Look.eq (Sub.cons (t := 187) Look.eq (Sub.nil _))))))))))))))))))))))))) ?_
          refine KA.seq ?_
          refine KA.region rfl ?_
          refine KOps.move ?_
          refine KOps.call rfl (cloneW_c (l := shortW w) (hS.rd 3 rfl) hs0 (by omega)) ?_
          rintro v190 h190 hS190
          have hS0 : St _ _ (_ :: _) := St.trans hS hS190
          clear hS
          have hS := hS0
          clear hS0
          refine KOps.move ?_
          refine KOps.append hS (fun _ => rfl) (i := 0) rfl (a := (shortW w).length) (wcs_len _) (hS.rd 2 rfl) (b := (longW w).length) (wcs_len _) (by simp [AV.one]) (by omega) ?_
          intro r192 h' hS
          simp only [List.set_cons_zero, List.set_cons_succ, Nat.zero_add] at hS
          have happ : wcs (shortW w) ++ wcs (longW w) = wcs (shortW w ++ longW w) := List.map_append.symm
          rw [happ] at hS
          refine KOps.lenI (hS.rd 0 rfl) ?_
          refine KOps.move ?_
          refine KOps.done ?_
          refine sqQ.normal ?_
          refine KA.sub (Sub.cons (t := 10) Look.eq (Sub.cons (t := 30) Look.eq (Sub.cons (t := 34) Look.eq (Sub.cons (t := 131) Look.eq (Sub.cons (t := 132) Look.eq (Sub.cons (t := 133) Look.eq (Sub.cons (t := 164) Look.eq (Sub.cons (t := 165) Look.eq (Sub.cons (t := 168) Look.eq (Sub.cons (t := 169) Look.eq (Sub.cons (t := 172) Look.eq (Sub.cons (t := 173) Look.eq (Sub.cons (t := 176) Look.eq (Sub.cons (t := 177) Look.eq (Sub.cons (t := 178) Look.eq (Sub.cons (t := 179) Look.eq (Sub.cons (t := 180) Look.eq (Sub.cons (t := 183) Look.eq (Sub.cons (t := 184) Look.eq (Sub.cons (t := 185) Look.eq (Sub.cons (t := 186) Look.eq (Sub.cons (t := 187) Look.eq (Sub.cons (t := 192) Look.eq (Sub.cons (t := 193) Look.eq (Sub.cons (t := 194) Look.eq (Sub.nil _)))))))))))))))))))))))))) ?_
          refine KA.block ?_
          -- live but not in the pattern: [164, 165, 168, 169, 172, 173, 176, 177, 178, 179, 180, 183, 184, 185, 186, 187]
          refine KA.loop (X := Nat) (fun q => [(10, .fn 46 [p6]), (30, v146), (34, v158), (131, va), (132, .int .i64 (l.length : Int)), (133, .int .i64 (j : Int)), (192, r192), (193, .int .i64 ((shortW w ++ longW w).length : Int)), (194, .int .i64 (q : Int))]) (fun q h' => q ≤ (shortW w ++ longW w).length ∧ St h h' [⟨r192, 1, wcs (shortW w ++ longW w), true⟩, ⟨v158, 1, wcs (longW (turnW b w)), true⟩, ⟨v146, 1, wcs (shortW (turnW b w)), true⟩, ⟨va, 1, wcs l, true⟩, ⟨p6, 0, [.bool b], true⟩]) (fun q => (shortW w ++ longW w).length - q) 0 (by repeat (first | exact Sub.nil _ | refine Sub.cons Look.eq ?_ | refine Sub.cons (Eq.trans Look.eq (congrArg (AV.int _) (by first | omega | (dsimp only; omega)))) ?_)) ?_ ?_
          · exact ⟨Nat.zero_le _, St.pick [0, 1, 3, 5, 6] (by decide) rfl hS⟩
          rintro q h5 ⟨hq, hS⟩
          have hqb : q + 1 ≤ 1037 := Nat.succ_le_succ (Nat.le_trans hq (xw_len (by rw [hwN]; exact hN8.2)))
          refine KA.seq ?_
          refine KA.region rfl ?_
          refine KOps.lss ?_
          refine KOps.done ?_
          refine sqQ.normal ?_
          refine KA.seq ?_
          refine KA.condD ?_ ?_
          · intro c195
            refine KA.skip ?_
            refine sqQ.normal ?_
            refine KA.sub (Sub.cons (t := 10) Look.eq (Sub.cons (t := 30) Look.eq (Sub.cons (t := 34) Look.eq (Sub.cons (t := 131) Look.eq (Sub.cons (t := 132) Look.eq (Sub.cons (t := 133) Look.eq (Sub.cons (t := 192) Look.eq (Sub.cons (t := 193) Look.eq (Sub.cons (t := 194) Look.eq (Sub.nil _)))))))))) ?_
            refine KA.seq ?_
            refine KA.block ?_
            refine KA.seq ?_
            refine KA.region rfl ?_
            refine KOps.indexIJ (hS.rd 0 rfl) (j := q) rfl (by first | omega | (simp; done) | (simp; omega)) ?_
            intro p196 hp196
            refine KOps.loadW hp196 (hS.rd 0 rfl) (by first | omega | (simp; done) | (simp; omega)) ?_
            refine KOps.assign ?_
            refine KOps.done ?_
            refine sqQ.normal ?_
            refine KA.sub (Sub.cons (t := 10) Look.eq (Sub.cons (t := 30) Look.eq (Sub.cons (t := 34) Look.eq (Sub.cons (t := 37) Look.eq (Sub.cons (t := 131) Look.eq (Sub.cons (t := 132) Look.eq (Sub.cons (t := 133) Look.eq (Sub.cons (t := 192) Look.eq (Sub.cons (t := 193) Look.eq (Sub.cons (t := 194) Look.eq (Sub.nil _))))))))))) ?_
            refine KA.seq ?_
            refine KA.region rfl ?_
            obtain ⟨s, hs⟩ : ∃ s, (shortW w ++ longW w).getD q [] = s := ⟨_, rfl⟩
            rw [hs]
            have hsm : s ∈ (shortW w ++ longW w) := by
              rw [← hs, List.getD_eq_getElem?_getD, List.getElem?_eq_getElem (by omega : q < (shortW w ++ longW w).length)]; exact List.getElem_mem _
            have hs10 : s.length ≤ 10 := by
              rcases List.mem_append.1 hsm with z | z
              · have := isDel_len (mem_shortW.1 z); omega
              · have := isDel_len (mem_longW.1 z); omega
            have hmem : turnW b s ∈ shortW (turnW b w) ∨ turnW b s ∈ longW (turnW b w) := (List.mem_append.1 hsm).imp short_turn_mem long_turn_mem
            refine KOps.move ?_
            refine KOps.lenW ?_
            refine KOps.gtr ?_
            rw [decide_eq_false (by omega)]
            refine KOps.move ?_
            refine KOps.guardYes (dj := 201) rfl rfl ?_
            refine KOps.move ?_
            refine KOps.guardYes (dj := 201) rfl rfl ?_
            refine KOps.move ?_
            refine KOps.guardYes (dj := 201) rfl rfl ?_
            refine KOps.move ?_
            refine KOps.guardYes (dj := 201) rfl rfl ?_
            refine KOps.call rfl (turn_c hp6 (hS.rd 4 rfl) (by omega)) ?_
            rintro _ hx ⟨rfl, hK⟩
            have hS0 : St _ _ _ := St.trans hS (St.ofK hK)
            clear hS
            have hS := hS0
            clear hS0
            simp only [List.nil_append] at hS
            refine KOps.guardYes (dj := 201) rfl rfl ?_
            refine KOps.call rfl (containsS_c (WRow.s (hS.rd 2 rfl)) (by rw [List.length_map]; omega)) ?_
            rintro _ _ ⟨rfl, rfl⟩
            rw [anyS_words]
            refine KOps.guardYes (dj := 201) rfl rfl ?_
            refine KOps.not ?_
            refine KOps.guardYes (dj := 201) rfl rfl ?_
            refine KOps.move ?_
            refine KOps.guardB (dj := 208) rfl rfl true false rfl ?_ ?_
            · intro g208
              have g208 := not_of_not_decide g208
              refine KOps.move ?_
              refine KOps.guardYes (dj := 208) rfl rfl ?_
              refine KOps.move ?_
              refine KOps.guardYes (dj := 208) rfl rfl ?_
              refine KOps.move ?_
              refine KOps.guardYes (dj := 208) rfl rfl ?_
              refine KOps.call rfl (turn_c hp6 (hS.rd 4 rfl) (by omega)) ?_
              rintro _ hx ⟨rfl, hK⟩
              have hS0 : St _ _ _ := St.trans hS (St.ofK hK)
              clear hS
              have hS := hS0
              clear hS0
              simp only [List.nil_append] at hS
              refine KOps.guardYes (dj := 208) rfl rfl ?_
              refine KOps.call rfl (containsS_c (WRow.s (hS.rd 1 rfl)) (by rw [List.length_map]; omega)) ?_
              rintro _ _ ⟨rfl, rfl⟩
              rw [anyS_words]
              refine KOps.guardYes (dj := 208) rfl rfl ?_
              refine KOps.not ?_
              refine KOps.guardYes (dj := 201) rfl rfl ?_
              refine KOps.pickT ?_
              refine KOps.pickF ?_
              refine KOps.done ?_
              refine sqQ.normal ?_
              refine KA.sub (Sub.cons (t := 10) Look.eq (Sub.cons (t := 30) Look.eq (Sub.cons (t := 34) Look.eq (Sub.cons (t := 131) Look.eq (Sub.cons (t := 132) Look.eq (Sub.cons (t := 133) Look.eq (Sub.cons (t := 192) Look.eq (Sub.cons (t := 193) Look.eq (Sub.cons (t := 194) Look.eq (Sub.cons (t := 202) Look.eq (Sub.cons (t := 203) Look.eq (Sub.cons (t := 204) Look.eq (Sub.cons (t := 205) Look.eq (Sub.cons (t := 206) Look.eq (Sub.cons (t := 207) Look.eq (Sub.cons (t := 208) Look.eq (Sub.cons (t := 209) Look.eq (Sub.cons (t := 210) Look.eq (Sub.cons (t := 211) Look.eq (Sub.cons (t := 212) Look.eq (Sub.cons (t := 213) Look.eq (Sub.cons (t := 214) Look.eq (Sub.cons (t := 215) Look.eq (Sub.cons (t := 216) Look.eq (Sub.nil _))))))))))))))))))))))))) ?_
              refine KA.condN ?_ ?_
              · intro c216
                refine KA.seq ?_
                refine KA.region rfl ?_
                refine KOps.assign ?_
                refine KOps.done ?_
                refine sqQ.normal ?_
                refine KA.sub (Sub.cons (t := 8) Look.eq (Sub.nil _)) ?_
                refine KA.ret ?_
                refine blQ.ret ?_
                refine sqQ.ret ?_
                refine lpQ.ret ?_
                refine blQ.ret ?_
                refine blQ.ret ?_
                refine sqQ.ret ?_
                refine lpQ.ret ?_
                refine blQ.ret ?_
                refine sqQ.ret ?_
                refine fnQ.ret1 ?_
                first
                 | exact rfl
                 | (exfalso; omega)
                 | (exfalso; rcases hmem with q | q <;> contradiction)
              · intro c216
                refine KA.skip ?_
                refine blQ.normal ?_
                refine sqQ.normal ?_
                refine KA.sub (Sub.cons (t := 10) Look.eq (Sub.cons (t := 30) Look.eq (Sub.cons (t := 34) Look.eq (Sub.cons (t := 131) Look.eq (Sub.cons (t := 132) Look.eq (Sub.cons (t := 133) Look.eq (Sub.cons (t := 192) Look.eq (Sub.cons (t := 193) Look.eq (Sub.cons (t := 194) Look.eq (Sub.cons (t := 202) Look.eq (Sub.cons (t := 203) Look.eq (Sub.cons (t := 204) Look.eq (Sub.cons (t := 205) Look.eq (Sub.cons (t := 206) Look.eq (Sub.cons (t := 207) Look.eq (Sub.cons (t := 208) Look.eq (Sub.cons (t := 209) Look.eq (Sub.cons (t := 210) Look.eq (Sub.cons (t := 211) Look.eq (Sub.cons (t := 212) Look.eq (Sub.cons (t := 213) Look.eq (Sub.cons (t := 214) Look.eq (Sub.cons (t := 215) Look.eq (Sub.nil _)))))))))))))))))))))))) ?_
                refine KA.region rfl ?_
                refine KOps.add (Int.le_trans (b := 0) (by decide) (Int.natCast_nonneg (q + 1))) (Int.le_trans (Int.ofNat_le.2 hqb) (by decide)) ?_
                refine KOps.move ?_
                refine KOps.done ?_
                exact lpQ.normal (q + 1) (by repeat (first | exact Sub.nil _ | refine Sub.cons Look.eq ?_ | refine Sub.cons (Eq.trans Look.eq (congrArg (AV.int _) (by first | omega | (dsimp only; omega)))) ?_)) ⟨by omega, hS⟩ (by omega)
            · intro g208
              have g208 := of_not_decide g208
              refine KOps.guardNo (dj := 208) rfl rfl rfl ?_
              refine KOps.guardNo (dj := 208) rfl rfl rfl ?_
              refine KOps.guardNo (dj := 208) rfl rfl rfl ?_
              refine KOps.guardNo (dj := 208) rfl rfl rfl ?_
              refine KOps.guardNo (dj := 208) rfl rfl rfl ?_
              refine KOps.guardYes (dj := 201) rfl rfl ?_
              refine KOps.pickF ?_
              refine KOps.pickF ?_
              refine KOps.done ?_
              refine sqQ.normal ?_
              refine KA.sub (Sub.cons (t := 10) Look.eq (Sub.cons (t := 30) Look.eq (Sub.cons (t := 34) Look.eq (Sub.cons (t := 131) Look.eq (Sub.cons (t := 132) Look.eq (Sub.cons (t := 133) Look.eq (Sub.cons (t := 192) Look.eq (Sub.cons (t := 193) Look.eq (Sub.cons (t := 194) Look.eq (Sub.cons (t := 202) Look.eq (Sub.cons (t := 203) Look.eq (Sub.cons (t := 204) Look.eq (Sub.cons (t := 205) Look.eq (Sub.cons (t := 206) Look.eq (Sub.cons (t := 207) Look.eq (Sub.cons (t := 208) Look.eq (Sub.cons (t := 209) Look.eq (Sub.cons (t := 210) Look.eq (Sub.cons (t := 211) Look.eq (Sub.cons (t := 212) Look.eq (Sub.cons (t := 213) Look.eq (Sub.cons (t := 214) Look.eq (Sub.cons (t := 215) Look.eq (Sub.cons (t := 216) Look.eq (Sub.nil _))))))))))))))))))))))))) ?_
              refine KA.condF ?_
              refine KA.skip ?_
              refine blQ.normal ?_
              refine sqQ.normal ?_
              refine KA.sub (Sub.cons (t := 10) Look.eq (Sub.cons (t := 30) Look.eq (Sub.cons (t := 34) Look.eq (Sub.cons (t := 131) Look.eq (Sub.cons (t := 132) Look.eq (Sub.cons (t := 133) Look.eq (Sub.cons (t := 192) Look.eq (Sub.cons (t := 193) Look.eq (Sub.cons (t := 194) Look.eq (Sub.cons (t := 202) Look.eq (Sub.cons (t := 203) Look.eq (Sub.cons (t := 204) Look.eq (Sub.cons (t := 205) Look.eq (Sub.cons (t := 206) Look.eq (Sub.cons (t := 207) Look.eq (Sub.cons (t := 208) Look.eq (Sub.cons (t := 209) Look.eq (Sub.cons (t := 210) Look.eq (Sub.cons (t := 211) Look.eq (Sub.cons (t := 212) Look.eq (Sub.cons (t := 213) Look.eq (Sub.cons (t := 214) Look.eq (Sub.cons (t := 215) Look.eq (Sub.nil _)))))))))))))))))))))))) ?_
              refine KA.region rfl ?_
              refine KOps.add (Int.le_trans (b := 0) (by decide) (Int.natCast_nonneg (q + 1))) (Int.le_trans (Int.ofNat_le.2 hqb) (by decide)) ?_
              refine KOps.move ?_
              refine KOps.done ?_
              exact lpQ.normal (q + 1) (by repeat (first | exact Sub.nil _ | refine Sub.cons Look.eq ?_ | refine Sub.cons (Eq.trans Look.eq (congrArg (AV.int _) (by first | omega | (dsimp only; omega)))) ?_)) ⟨by omega, hS⟩ (by omega)
          · intro c195
            refine KA.exit ?_
            refine sqQ.exit ?_
            refine lpQ.exit ?_
            refine blQ.here ?_
            refine blQ.normal ?_
            refine sqQ.normal ?_
            refine KA.sub (Sub.cons (t := 10) Look.eq (Sub.cons (t := 131) Look.eq (Sub.cons (t := 132) Look.eq (Sub.cons (t := 133) Look.eq (Sub.nil _))))) ?_
            refine KA.region rfl ?_
            refine KOps.add (Int.le_trans (b := 0) (by decide) (Int.natCast_nonneg (j + 1))) (Int.le_trans (Int.ofNat_le.2 hjb) (by decide)) ?_
            refine KOps.move ?_
            refine KOps.done ?_
            exact lpQ.normal (j + 1) (by repeat (first | exact Sub.nil _ | refine Sub.cons Look.eq ?_ | refine Sub.cons (Eq.trans Look.eq (congrArg (AV.int _) (by first | omega | (dsimp only; omega)))) ?_)) ⟨by omega, St.pick [3, 4] (by decide) rfl hS⟩ (by omega)
        · intro c134
          refine KA.exit ?_
          refine sqQ.exit ?_
          refine lpQ.exit ?_
          refine blQ.here ?_
          refine sqQ.normal ?_
          refine KA.sub (Sub.nil _) ?_
          refine KA.seq ?_
          refine KA.region rfl ?_
          refine KOps.call rfl (works_c (hTab.ext hS.keeps)) ?_
          rintro _ hx ⟨rfl, hK⟩
          have hS0 : St _ _ _ := St.trans hS (St.ofK hK)
          clear hS
          have hS := hS0
          clear hS0
          simp only [List.nil_append] at hS
          refine KOps.assign ?_
          refine KOps.done ?_
          refine sqQ.normal ?_
          refine KA.sub (Sub.cons (t := 8) Look.eq (Sub.nil _)) ?_
          refine KA.ret ?_
          refine fnQ.ret1 ?_
          first
           | exact rfl
           | (exfalso; omega)
           | (exfalso; rcases hmem with q | q <;> contradiction)

theorem vrel_len {φ : Emb} {h : AHeap} {v : AV} {u : Value} {xs : List AV} (hv : VRel φ v u) (hr : Rd h v 1 xs) : xs.length ≤ 9223372036854775807 := by
  rcases hr with ⟨rfl, rfl⟩ | ⟨b, o, F, p, cs, hw, _, _, _⟩ | ⟨b, F, x, _, h0, _⟩
  · exact Nat.zero_le _
  · rcases hw with ⟨n, full, rfl, hl, _⟩ | ⟨h0, _⟩
    · cases hv with
      | slc _ _ _ _ _ a c hn hc hf hh =>
        have hm : maxLen ≤ 9223372036854775807 := by decide
        omega
    · cases h0
  · cases h0
theorem law_turned_i {h : AHeap} {v : AV} {xs : List Int} {n o : Int} {b : Bool} (hTab : Tab h) (hv : Rd h v 1 (xs.map (AV.int .u16))) (hxs : ∀ x ∈ xs, 0 ≤ x ∧ x ≤ 65535) (hlen : (xs.map (AV.int .u16)).length ≤ 9223372036854775807) (h0 : 0 ≤ n) (h1 : n ≤ 255) (h2 : 0 ≤ o) (h3 : o ≤ 255) : ACalls Go.Proofs.Tryd.prog 12 [v, .int .u8 n, .bool b, .int .u8 o] h (fun r _ => r = .bool true) := by
  obtain ⟨a, rfl⟩ : ∃ a : Nat, n = (a : Int) := ⟨n.toNat, by omega⟩
  obtain ⟨c, rfl⟩ : ∃ c : Nat, o = (c : Int) := ⟨o.toNat, by omega⟩
  rw [List.length_map] at hlen
  exact law_turned hTab hv hxs hlen (by omega) (by omega)
end Go.Am
