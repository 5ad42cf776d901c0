/-
  Tops: contracts: the first free square, a card put.
  Conditions: none.
-/
import Derived.Test.YtdfhmdhjeiipfaaKa
namespace Go.Am
theorem bit1N {b i : Nat} (h : ((b >>> i &&& 1 : Nat) : Int) = 1) : b.testBit i = true := by
  rw [and_one_bit] at h
  by_cases hb : b.testBit i = true
  · exact hb
  · rw [if_neg hb] at h; omega
theorem bit0N {b i : Nat} (h : ¬ ((b >>> i &&& 1 : Nat) : Int) = 1) : b.testBit i = false := by
  rw [and_one_bit] at h
  by_cases hb : b.testBit i = true
  · rw [if_pos hb] at h; omega
  · simpa using hb
theorem Sht.fz_set {s : Sht} {b j : Nat} (h : j < s.fz b) : b.testBit j = true := fzN_set b s.n 0 j (Nat.zero_le _) h
theorem Sht.fz_bit {s : Sht} {b : Nat} (hb : b < 2 ^ s.n) : b.testBit (s.fz b) = false := by
  rcases Nat.lt_or_eq_of_le (s.fz_le b) with h | h
  · exact fzN_not b s.n 0 (by unfold Sht.fz at h; omega)
  · rw [h]; exact Nat.testBit_lt_two_pow hb
theorem Sht.put_no {s : Sht} {b n : Nat} {t : Bool} (h : s.fits t n = false) : s.put b t n = none := by unfold Sht.put; rw [h]; rfl
theorem Sht.put_yes {s : Sht} {b n : Nat} {t : Bool} (h : s.fits t n = true) : s.put b t n = if b &&& s.blk t <<< n = 0 then some (b ||| s.blk t <<< n) else none := by unfold Sht.put; rw [if_pos h]; rfl
theorem Sht.fits_no1 {s : Sht} {n : Nat} {t : Bool} (h : s.r < n / s.c + s.high t) : s.fits t n = false := by
  unfold Sht.fits
  rw [decide_eq_false (by omega), Bool.false_and]
theorem Sht.fits_no2 {s : Sht} {n : Nat} {t : Bool} (h : s.c < n % s.c + s.broad t) : s.fits t n = false := by
  unfold Sht.fits
  rw [decide_eq_false (p := n % s.c + s.broad t ≤ s.c) (by omega), Bool.and_false]
theorem Sht.fits_yes {s : Sht} {n : Nat} {t : Bool} (h1 : n / s.c + s.high t ≤ s.r) (h2 : n % s.c + s.broad t ≤ s.c) : s.fits t n = true := by
  unfold Sht.fits
  rw [decide_eq_true h1, decide_eq_true h2]; rfl
theorem put_res {s : Sht} {b n : Nat} {t : Bool} (h : s.fits t n = true) : AV.tup [.int .u64 ((b ||| s.blk t <<< n : Nat) : Int), .bool (decide (((b &&& s.blk t <<< n : Nat) : Int) = 0))] = .tup [.int .u64 ((b ||| s.blk t <<< n : Nat) : Int), .bool (s.put b t n).isSome] := by
  rw [Sht.put_yes h]
  by_cases hz : b &&& s.blk t <<< n = 0
  · rw [if_pos hz, decide_eq_true (by omega)]; rfl
  · rw [if_neg hz, decide_eq_false (by omega)]; rfl
theorem put_val {s : Sht} {b n x : Nat} {t : Bool} (h : s.fits t n = true) (hx : s.put b t n = some x) : b ||| s.blk t <<< n = x := by
  rw [Sht.put_yes h] at hx
  split at hx
  · exact Option.some.inj hx
  · cases hx
theorem size_c {h : AHeap} {s : Sht} {t : Bool} : ACalls Go.Proofs.Try.prog 68 [.agg (shL s), .bool t] h (fun q h' => q = .tup [.int .i64 (s.high t : Int), .int .i64 (s.broad t : Int)] ∧ Keeps h h') := by
  refine KA.fn 15 [.tmp 4, .tmp 5] Go.Proofs.Try.func68 rfl (by decide) rfl rfl (Nat.le_of_ble_eq_true rfl) ?_
  have hS := St.refl h
  show KA _ 15 _ _ [(0, .agg (shL s)), (1, .bool t)] _
  refine KA.seq ?_
  refine KA.region rfl ?_
  refine KOps.boxAll hS (by first | rfl | (simp [AV.one]; done) | (simp [AV.one]; assumption) | (simp [AV.one, *]; done)) ?_
  intro p2 h' hp2 hS
  refine KOps.assign ?_
  refine KOps.assign ?_
  refine KOps.done ?_
  refine sqQ.normal ?_
  refine KA.sub (Sub.cons (t := 1) Look.eq (Sub.cons (t := 2) Look.eq (Sub.nil _))) ?_
  refine KA.seq ?_
  refine KA.seq ?_
  refine KA.region rfl ?_
  refine KOps.move ?_
  refine KOps.done ?_
  refine sqQ.normal ?_
  refine KA.sub (Sub.cons (t := 2) Look.eq (Sub.cons (t := 6) Look.eq (Sub.nil _))) ?_
  refine KA.condB ?_ ?_
  · intro c6
    subst c6
    refine KA.seq ?_
    refine KA.draw [] mixed rfl (by kernel_rfl) ?_
    refine KOps.fieldAddr hp2 ?_
    intro p7 hp7
    refine KOps.load hp7 (hS.rd 0 rfl) rfl ?_
    refine KOps.fieldAddr hp2 ?_
    intro p9 hp9
    refine KOps.load hp9 (hS.rd 0 rfl) rfl ?_
    refine KOps.assign ?_
    refine KOps.assign ?_
    refine KOps.done ?_
    refine sqQ.normal ?_
    refine KA.sub (Sub.cons (t := 4) Look.eq (Sub.cons (t := 5) Look.eq (Sub.nil _))) ?_
    refine KA.ret ?_
    refine sqQ.ret ?_
    refine fnQ.retN ?_
    exact ⟨rfl, hS.keeps⟩
  · intro c6
    have c6 : t = false := by simpa using c6
    subst c6
    refine KA.skip ?_
    refine sqQ.normal ?_
    refine KA.sub (Sub.cons (t := 2) Look.eq (Sub.nil _)) ?_
    refine KA.seq ?_
    refine KA.draw [] mixed rfl (by kernel_rfl) ?_
    refine KOps.fieldAddr hp2 ?_
    intro p11 hp11
    refine KOps.load hp11 (hS.rd 0 rfl) rfl ?_
    refine KOps.fieldAddr hp2 ?_
    intro p13 hp13
    refine KOps.load hp13 (hS.rd 0 rfl) rfl ?_
    refine KOps.assign ?_
    refine KOps.assign ?_
    refine KOps.done ?_
    refine sqQ.normal ?_
    refine KA.sub (Sub.cons (t := 4) Look.eq (Sub.cons (t := 5) Look.eq (Sub.nil _))) ?_
    refine KA.ret ?_
    refine fnQ.retN ?_
    exact ⟨rfl, hS.keeps⟩

theorem cutFirst_c {h : AHeap} {s : Sht} {b : Nat} (hs : s.Ok) (hb : b < 2 ^ s.n) : ACalls Go.Proofs.Try.prog 45 [.agg (tbL s), .int .u64 (b : Int)] h (fun q h' => q = .tup [.int .i64 ((s.fz b / s.c : Nat) : Int), .int .i64 ((s.fz b % s.c : Nat) : Int)] ∧ Keeps h h') := by
  refine KA.fn 24 [.tmp 4, .tmp 5] Go.Proofs.Try.func45 rfl (by decide) rfl rfl (Nat.le_of_ble_eq_true rfl) ?_
  have hS := St.refl h
  have hsn := hs.n
  have hsc := hs.c
  have hfz := s.fz_le b
  have hb36 := lt_topU64 (Sht.lt36 hs hb)
  show KA _ 24 _ _ [(0, .agg (tbL s)), (1, .int .u64 (b : Int))] _
  refine KA.seq ?_
  refine KA.region rfl ?_
  refine KOps.boxAll hS (by first | rfl | (simp [AV.one]; done) | (simp [AV.one]; assumption) | (simp [AV.one, *]; done)) ?_
  intro p2 h' hp2 hS
  refine KOps.assign ?_
  refine KOps.assign ?_
  refine KOps.done ?_
  refine sqQ.normal ?_
  refine KA.sub (Sub.cons (t := 1) Look.eq (Sub.cons (t := 2) Look.eq (Sub.nil _))) ?_
  refine KA.seq ?_
  refine KA.region rfl ?_
  refine KOps.assign ?_
  refine KOps.done ?_
  refine sqQ.normal ?_
  refine KA.seq ?_
  refine KA.block ?_
  refine KA.loop (X := Nat) (fun i => [(1, .int .u64 (b : Int)), (2, p2), (6, .int .i64 (i : Int))]) (fun i h' => i ≤ s.fz b ∧ St h h' [⟨p2, 0, tbL s, true⟩]) (fun i => s.fz b - i) 0 (by repeat (first | exact Sub.nil _ | refine Sub.cons Look.eq ?_ | refine Sub.cons (Eq.trans Look.eq (congrArg (AV.int _) (by first | omega | (dsimp only; omega)))) ?_)) ?_ ?_
  · exact ⟨Nat.zero_le _, hS⟩
  rintro i h2 ⟨hi, hS⟩
  refine KA.seq ?_
  refine KA.seq ?_
  refine KA.region rfl ?_
  refine KOps.move ?_
  refine KOps.move ?_
  refine KOps.shrN (b) (i) (by first | rfl | (simp; done) | omega) (by first | rfl | (simp; done) | omega) (by first | assumption | decide | omega | (simp only [topK, IntKind.bits]; omega)) ?_
  refine KOps.andN (b >>> i) (1) rfl rfl (by rw [Nat.shiftRight_eq_div_pow]; exact Nat.lt_of_le_of_lt (Nat.div_le_self ..) hb36) (by first | assumption | decide | omega | (simp only [topK, IntKind.bits]; omega)) ?_
  refine KOps.eql ?_
  refine KOps.done ?_
  refine sqQ.normal ?_
  refine KA.sub (Sub.cons (t := 1) Look.eq (Sub.cons (t := 2) Look.eq (Sub.cons (t := 6) Look.eq (Sub.cons (t := 11) Look.eq (Sub.nil _))))) ?_
  refine KA.condD ?_ ?_
  · intro c11
    refine KA.skip ?_
    refine sqQ.normal ?_
    refine KA.sub (Sub.cons (t := 1) Look.eq (Sub.cons (t := 2) Look.eq (Sub.cons (t := 6) Look.eq (Sub.nil _)))) ?_
    refine KA.block ?_
    refine KA.region rfl ?_
    refine KOps.move ?_
    refine KOps.add (by first | omega | (simp; omega)) (by first | omega | (simp; omega)) ?_
    refine KOps.assign ?_
    refine KOps.done ?_
    refine blQ.normal ?_
    have hne : i ≠ s.fz b := fun e => by
      have := Sht.fz_bit hb
      rw [← e, bit1N c11] at this
      cases this
    exact lpQ.normal (i + 1) (by repeat (first | exact Sub.nil _ | refine Sub.cons Look.eq ?_ | refine Sub.cons (Eq.trans Look.eq (congrArg (AV.int _) (by first | omega | (dsimp only; omega)))) ?_)) ⟨by omega, hS⟩ (by omega)
  · intro c11
    have he : i = s.fz b := by
      rcases Nat.lt_or_eq_of_le hi with q | q
      · have := Sht.fz_set q
        rw [bit0N c11] at this
        cases this
      · exact q
    subst he
    refine KA.exit ?_
    refine sqQ.exit ?_
    refine lpQ.exit ?_
    refine blQ.here ?_
    refine sqQ.normal ?_
    refine KA.sub (Sub.cons (t := 2) Look.eq (Sub.cons (t := 6) Look.eq (Sub.nil _))) ?_
    refine KA.seq ?_
    refine KA.draw [] mixed rfl (by kernel_rfl) ?_
    refine KOps.move ?_
    refine KOps.fieldAddr hp2 ?_
    intro p15 hp15
    refine KOps.fieldAddr hp15 ?_
    intro p16 hp16
    refine KOps.load hp16 (hS.rd 0 rfl) rfl ?_
    refine KOps.divN (s.fz b) s.c rfl rfl (by omega) (by omega) ?_
    refine KOps.move ?_
    refine KOps.fieldAddr hp2 ?_
    intro p20 hp20
    refine KOps.fieldAddr hp20 ?_
    intro p21 hp21
    refine KOps.load hp21 (hS.rd 0 rfl) rfl ?_
    refine KOps.modN (s.fz b) s.c rfl rfl (by omega) (by omega) ?_
    refine KOps.assign ?_
    refine KOps.assign ?_
    refine KOps.done ?_
    refine sqQ.normal ?_
    refine KA.sub (Sub.cons (t := 4) Look.eq (Sub.cons (t := 5) Look.eq (Sub.nil _))) ?_
    refine KA.ret ?_
    refine fnQ.retN ?_
    exact ⟨rfl, hS.keeps⟩

theorem cutPut_c {h : AHeap} {s : Sht} {b n row col : Nat} {t : Bool} (hs : s.Ok) (hb : b < 2 ^ s.n) (hn : n < s.n) (hrow : n / s.c = row) (hcol : n % s.c = col) : ACalls Go.Proofs.Try.prog 46 [.agg (tbL s), .int .u64 (b : Int), .agg (cdL row col t)] h (fun q h' => (∃ v : Nat, q = .tup [.int .u64 (v : Int), .bool (s.put b t n).isSome] ∧ ∀ x, s.put b t n = some x → v = x) ∧ Keeps h h') := by
  refine KA.fn 63 [.tmp 6, .tmp 7] Go.Proofs.Try.func46 rfl (by decide) rfl rfl (Nat.le_of_ble_eq_true rfl) ?_
  have hS := St.refl h
  have hsn := hs.n
  have hsc := hs.c
  have hsr := hs.r
  have hhi := hs.high t
  have hbr := hs.broad t
  have hb36 := lt_topU64 (Sht.lt36 hs hb)
  have hdm := Nat.div_add_mod n s.c
  have hml := Nat.mod_lt n (show 0 < s.c by omega)
  have hdl := divmod_lt (show 0 < s.c by omega) hn
  have hno1 : s.r < row + s.high t → s.fits t n = false := fun q => Sht.fits_no1 (by omega)
  have hno2 : s.c < col + s.broad t → s.fits t n = false := fun q => Sht.fits_no2 (by omega)
  have hyes : row + s.high t ≤ s.r → col + s.broad t ≤ s.c → s.fits t n = true := fun q r => Sht.fits_yes (by omega) (by omega)
  rw [hrow] at hdl
  rw [hrow, hcol] at hdm
  rw [hcol] at hml
  have hmul : (row : Int) * (s.c : Int) = ((s.c * row : Nat) : Int) := by rw [Int.natCast_mul, Int.mul_comm]
  have hcl := fun hf => lt_topU64 (Sht.lt36 hs (Sht.cover_lt hs (t := t) (n := n) hf))
  have hbl := fun t => lt_topU64 (Sht.blk_lt hs t)
  show KA _ 63 _ _ [(0, .agg (tbL s)), (1, .int .u64 (b : Int)), (2, .agg (cdL row col t))] _
  refine KA.seq ?_
  refine KA.region rfl ?_
  refine KOps.boxAll hS (by first | rfl | (simp [AV.one]; done) | (simp [AV.one]; assumption) | (simp [AV.one, *]; done)) ?_
  intro p3 h' hp3 hS
  refine KOps.boxAll hS (by first | rfl | (simp [AV.one]; done) | (simp [AV.one]; assumption) | (simp [AV.one, *]; done)) ?_
  intro p5 h' hp5 hS
  refine KOps.assign ?_
  refine KOps.assign ?_
  refine KOps.done ?_
  refine sqQ.normal ?_
  refine KA.sub (Sub.cons (t := 1) Look.eq (Sub.cons (t := 3) Look.eq (Sub.cons (t := 5) Look.eq (Sub.nil _)))) ?_
  refine KA.seq ?_
  refine KA.region rfl ?_
  refine KOps.fieldAddr hp3 ?_
  intro p12 hp12
  refine KOps.loadPart (z := 4) (ys := [_, _, _, _]) hp12 (hS.rd 1 rfl) (by decide) (by simp) rfl ?_
  refine KOps.fieldAddr hp5 ?_
  intro p14 hp14
  refine KOps.load hp14 (hS.rd 0 rfl) rfl ?_
  refine KOps.call rfl (size_c) ?_
  rintro _ hx ⟨rfl, hK⟩
  have hS0 : St _ _ _ := St.trans hS (St.ofK hK)
  clear hS
  have hS := hS0
  clear hS0
  simp only [List.nil_append] at hS
  refine KOps.move ?_
  refine KOps.extract ?_
  refine KOps.extract ?_
  refine KOps.assign ?_
  refine KOps.assign ?_
  refine KOps.done ?_
  refine sqQ.normal ?_
  refine KA.sub (Sub.cons (t := 1) Look.eq (Sub.cons (t := 3) Look.eq (Sub.cons (t := 5) Look.eq (Sub.cons (t := 8) Look.eq (Sub.cons (t := 9) Look.eq (Sub.nil _)))))) ?_
  refine KA.seq ?_
  refine KA.seq ?_
  refine KA.region rfl ?_
  refine KOps.fieldAddr hp5 ?_
  intro p19 hp19
  refine KOps.load hp19 (hS.rd 0 rfl) rfl ?_
  refine KOps.move ?_
  refine KOps.add (by first | omega | (simp; omega)) (by first | omega | (simp; omega)) ?_
  refine KOps.fieldAddr hp3 ?_
  intro p23 hp23
  refine KOps.fieldAddr hp23 ?_
  intro p24 hp24
  refine KOps.load hp24 (hS.rd 1 rfl) rfl ?_
  refine KOps.gtr ?_
  refine KOps.move ?_
  refine KOps.guardB (dj := 27) rfl rfl false true rfl ?_ ?_
  · intro g27
    have g27 := of_decide_eq_false g27
    refine KOps.fieldAddr hp5 ?_
    intro p28 hp28
    refine KOps.guardYes (dj := 27) rfl rfl ?_
    refine KOps.load hp28 (hS.rd 0 rfl) rfl ?_
    refine KOps.guardYes (dj := 27) rfl rfl ?_
    refine KOps.move ?_
    refine KOps.guardYes (dj := 27) rfl rfl ?_
    refine KOps.add (by first | omega | (simp; omega)) (by first | omega | (simp; omega)) ?_
    refine KOps.guardYes (dj := 27) rfl rfl ?_
    refine KOps.fieldAddr hp3 ?_
    intro p32 hp32
    refine KOps.guardYes (dj := 27) rfl rfl ?_
    refine KOps.fieldAddr hp32 ?_
    intro p33 hp33
    refine KOps.guardYes (dj := 27) rfl rfl ?_
    refine KOps.load hp33 (hS.rd 1 rfl) rfl ?_
    refine KOps.guardYes (dj := 27) rfl rfl ?_
    refine KOps.gtr ?_
    refine KOps.pickF ?_
    refine KOps.done ?_
    refine sqQ.normal ?_
    refine KA.sub (Sub.cons (t := 1) Look.eq (Sub.cons (t := 3) Look.eq (Sub.cons (t := 5) Look.eq (Sub.cons (t := 36) Look.eq (Sub.nil _))))) ?_
    refine KA.condD ?_ ?_
    · intro c36
      refine KA.seq ?_
      refine KA.region rfl ?_
      refine KOps.assign ?_
      refine KOps.assign ?_
      refine KOps.done ?_
      refine sqQ.normal ?_
      refine KA.sub (Sub.cons (t := 6) Look.eq (Sub.cons (t := 7) Look.eq (Sub.nil _))) ?_
      refine KA.ret ?_
      refine sqQ.ret ?_
      refine fnQ.retN ?_
      exact ⟨⟨0, by rw [Sht.put_no (hno2 (by omega))]; rfl, fun x hx => by rw [Sht.put_no (hno2 (by omega))] at hx; cases hx⟩, hS.keeps⟩
    · intro c36
      refine KA.skip ?_
      refine sqQ.normal ?_
      refine KA.sub (Sub.cons (t := 1) Look.eq (Sub.cons (t := 3) Look.eq (Sub.cons (t := 5) Look.eq (Sub.nil _)))) ?_
      refine KA.seq ?_
      refine KA.region rfl ?_
      refine KOps.fieldAddr hp3 ?_
      intro p37 hp37
      refine KOps.indexAt hp37 (j := 0) rfl (by decide) ?_
      intro p38 hp38
      refine KOps.load hp38 (hS.rd 1 rfl) rfl ?_
      refine KOps.assign ?_
      refine KOps.done ?_
      refine sqQ.normal ?_
      refine KA.sub (Sub.cons (t := 1) Look.eq (Sub.cons (t := 3) Look.eq (Sub.cons (t := 5) Look.eq (Sub.cons (t := 10) Look.eq (Sub.nil _))))) ?_
      refine KA.seq ?_
      refine KA.seq ?_
      refine KA.region rfl ?_
      refine KOps.fieldAddr hp5 ?_
      intro p40 hp40
      refine KOps.load hp40 (hS.rd 0 rfl) rfl ?_
      refine KOps.done ?_
      refine sqQ.normal ?_
      refine KA.sub (Sub.cons (t := 1) Look.eq (Sub.cons (t := 3) Look.eq (Sub.cons (t := 5) Look.eq (Sub.cons (t := 10) Look.eq (Sub.cons (t := 41) Look.eq (Sub.nil _)))))) ?_
      refine KA.condB ?_ ?_
      · intro c41
        subst c41
        refine KA.region rfl ?_
        refine KOps.fieldAddr hp3 ?_
        intro p42 hp42
        refine KOps.indexAt hp42 (j := 1) rfl (by decide) ?_
        intro p43 hp43
        refine KOps.load hp43 (hS.rd 1 rfl) rfl ?_
        refine KOps.assign ?_
        refine KOps.done ?_
        refine sqQ.normal ?_
        refine KA.sub (Sub.cons (t := 1) Look.eq (Sub.cons (t := 3) Look.eq (Sub.cons (t := 5) Look.eq (Sub.cons (t := 10) Look.eq (Sub.nil _))))) ?_
        refine KA.seq ?_
        refine KA.region rfl ?_
        refine KOps.move ?_
        refine KOps.fieldAddr hp5 ?_
        intro p46 hp46
        refine KOps.load hp46 (hS.rd 0 rfl) rfl ?_
        refine KOps.fieldAddr hp3 ?_
        intro p48 hp48
        refine KOps.fieldAddr hp48 ?_
        intro p49 hp49
        refine KOps.load hp49 (hS.rd 1 rfl) rfl ?_
        refine KOps.mul (by rw [hmul]; omega) (by rw [hmul]; omega) ?_
        rw [hmul]
        refine KOps.fieldAddr hp5 ?_
        intro p52 hp52
        refine KOps.load hp52 (hS.rd 0 rfl) rfl ?_
        refine KOps.add (by first | omega | (simp; omega)) (by first | omega | (simp; omega)) ?_
        refine KOps.shlN (s.blk _) (n) rfl (by omega) (by show n ≤ 64; omega) (hcl (hyes (by omega) (by omega))) ?_
        refine KOps.assign ?_
        refine KOps.done ?_
        refine sqQ.normal ?_
        refine KA.sub (Sub.cons (t := 1) Look.eq (Sub.cons (t := 10) Look.eq (Sub.nil _))) ?_
        refine KA.seq ?_
        refine KA.region rfl ?_
        refine KOps.move ?_
        refine KOps.move ?_
        refine KOps.orN (b) (s.blk _ <<< n) rfl rfl hb36 (hcl (hyes (by omega) (by omega))) ?_
        refine KOps.move ?_
        refine KOps.move ?_
        refine KOps.andN (b) (s.blk _ <<< n) rfl rfl hb36 (hcl (hyes (by omega) (by omega))) ?_
        refine KOps.eql ?_
        refine KOps.assign ?_
        refine KOps.assign ?_
        refine KOps.done ?_
        refine sqQ.normal ?_
        refine KA.sub (Sub.cons (t := 6) Look.eq (Sub.cons (t := 7) Look.eq (Sub.nil _))) ?_
        refine KA.ret ?_
        refine fnQ.retN ?_
        exact ⟨⟨_, put_res (hyes (by omega) (by omega)), fun x hx => put_val (hyes (by omega) (by omega)) hx⟩, hS.keeps⟩
      · intro c41
        have c41 : t = false := by simpa using c41
        subst c41
        refine KA.skip ?_
        refine sqQ.normal ?_
        refine KA.sub (Sub.cons (t := 1) Look.eq (Sub.cons (t := 3) Look.eq (Sub.cons (t := 5) Look.eq (Sub.cons (t := 10) Look.eq (Sub.nil _))))) ?_
        refine KA.seq ?_
        refine KA.region rfl ?_
        refine KOps.move ?_
        refine KOps.fieldAddr hp5 ?_
        intro p46 hp46
        refine KOps.load hp46 (hS.rd 0 rfl) rfl ?_
        refine KOps.fieldAddr hp3 ?_
        intro p48 hp48
        refine KOps.fieldAddr hp48 ?_
        intro p49 hp49
        refine KOps.load hp49 (hS.rd 1 rfl) rfl ?_
        refine KOps.mul (by rw [hmul]; omega) (by rw [hmul]; omega) ?_
        rw [hmul]
        refine KOps.fieldAddr hp5 ?_
        intro p52 hp52
        refine KOps.load hp52 (hS.rd 0 rfl) rfl ?_
        refine KOps.add (by first | omega | (simp; omega)) (by first | omega | (simp; omega)) ?_
        refine KOps.shlN (s.blk _) (n) rfl (by omega) (by show n ≤ 64; omega) (hcl (hyes (by omega) (by omega))) ?_
        refine KOps.assign ?_
        refine KOps.done ?_
        refine sqQ.normal ?_
        refine KA.sub (Sub.cons (t := 1) Look.eq (Sub.cons (t := 10) Look.eq (Sub.nil _))) ?_
        refine KA.seq ?_
        refine KA.region rfl ?_
        refine KOps.move ?_
        refine KOps.move ?_
        refine KOps.orN (b) (s.blk _ <<< n) rfl rfl hb36 (hcl (hyes (by omega) (by omega))) ?_
        refine KOps.move ?_
        refine KOps.move ?_
        refine KOps.andN (b) (s.blk _ <<< n) rfl rfl hb36 (hcl (hyes (by omega) (by omega))) ?_
        refine KOps.eql ?_
        refine KOps.assign ?_
        refine KOps.assign ?_
        refine KOps.done ?_
        refine sqQ.normal ?_
        refine KA.sub (Sub.cons (t := 6) Look.eq (Sub.cons (t := 7) Look.eq (Sub.nil _))) ?_
        refine KA.ret ?_
        refine fnQ.retN ?_
        exact ⟨⟨_, put_res (hyes (by omega) (by omega)), fun x hx => put_val (hyes (by omega) (by omega)) hx⟩, hS.keeps⟩
  · intro g27
    have g27 := of_decide_eq_true g27
    refine KOps.guardNo (dj := 27) rfl rfl rfl ?_
    refine KOps.guardNo (dj := 27) rfl rfl rfl ?_
    refine KOps.guardNo (dj := 27) rfl rfl rfl ?_
    refine KOps.guardNo (dj := 27) rfl rfl rfl ?_
    refine KOps.guardNo (dj := 27) rfl rfl rfl ?_
    refine KOps.guardNo (dj := 27) rfl rfl rfl ?_
    refine KOps.guardNo (dj := 27) rfl rfl rfl ?_
    refine KOps.pickT ?_
    refine KOps.done ?_
    refine sqQ.normal ?_
    refine KA.sub (Sub.cons (t := 1) Look.eq (Sub.cons (t := 3) Look.eq (Sub.cons (t := 5) Look.eq (Sub.cons (t := 36) Look.eq (Sub.nil _))))) ?_
    refine KA.condT ?_
    refine KA.seq ?_
    refine KA.region rfl ?_
    refine KOps.assign ?_
    refine KOps.assign ?_
    refine KOps.done ?_
    refine sqQ.normal ?_
    refine KA.sub (Sub.cons (t := 6) Look.eq (Sub.cons (t := 7) Look.eq (Sub.nil _))) ?_
    refine KA.ret ?_
    refine sqQ.ret ?_
    refine fnQ.retN ?_
    exact ⟨⟨0, by rw [Sht.put_no (hno1 (by omega))]; rfl, fun x hx => by rw [Sht.put_no (hno1 (by omega))] at hx; cases hx⟩, hS.keeps⟩

end Go.Am

namespace Go.Am
theorem St.front {h0 h : AHeap} {A F G : List Obj} (st : St h0 h (A ++ (F ++ G))) : St h0 h (F ++ (G ++ A)) := by
  have := st.rot
  rwa [List.append_assoc] at this
theorem St.back {h0 h : AHeap} {A F G : List Obj} (st : St h0 h (F ++ (G ++ A))) : St h0 h (A ++ (F ++ G)) := by
  rw [← List.append_assoc] at st
  exact st.rot

theorem next_c {h0 h : AHeap} {s : Sht} {b : Nat} {fa : FuncId} {caps : List AV} {F G : List Obj} {Inv : Nat → List Obj → Prop} (hs : s.Ok) (hb : b < 2 ^ s.n) (hlt : s.fz b < s.n)
    (hA : ∀ i, i < 2 → (i = 1 → s.l ≠ s.w) → ∀ x, s.put b (decide (i = 1)) (s.fz b) = some x → ∀ {h0 h : AHeap} {F G : List Obj}, Inv i F → St h0 h (F ++ G) → ACalls Go.Proofs.Try.prog fa ([.agg (cdL (s.fz b / s.c) (s.fz b % s.c) (decide (i = 1))), .int .u64 (x : Int)] ++ caps) h (fun q h' => ∃ c F', q = .bool c ∧ St h0 h' (F' ++ G) ∧ (c = true → Inv (i + 1) F') ∧ (c = false → Inv 2 F')))
    (hN : ∀ i, i < 2 → (i = 1 → s.l ≠ s.w) → s.put b (decide (i = 1)) (s.fz b) = none → ∀ F, Inv i F → Inv (i + 1) F) (hE : s.l = s.w → ∀ F, Inv 1 F → Inv 2 F) (hI : Inv 0 F) (hS : St h0 h (F ++ G)) : ACalls Go.Proofs.Try.prog 18 [.agg (tbL s), .int .u64 (b : Int), .fn fa caps] h (fun q h' => q = .tup [] ∧ ∃ F', Inv 2 F' ∧ St h0 h' (F' ++ G)) := by
  refine KA.fn 55 [] Go.Proofs.Try.func18 rfl (by decide) rfl rfl (Nat.le_of_ble_eq_true rfl) ?_
  show KA _ 55 _ _ [(0, .agg (tbL s)), (1, .int .u64 (b : Int)), (2, .fn fa caps)] _
  refine KA.seq ?_
  refine KA.region rfl ?_
  refine KOps.boxAll hS (by first | rfl | (simp [AV.one]; done) | (simp [AV.one]; assumption) | (simp [AV.one, *]; done)) ?_
  intro p3 h' hp3 hS
  refine KOps.done ?_
  refine sqQ.normal ?_
  refine KA.sub (Sub.cons (t := 1) Look.eq (Sub.cons (t := 2) Look.eq (Sub.cons (t := 3) Look.eq (Sub.nil _)))) ?_
  refine KA.seq ?_
  refine KA.region rfl ?_
  refine KOps.loadAll hS (i := 0) rfl hp3 (by rfl) (by decide) ?_
  refine KOps.move ?_
  refine KOps.call rfl (cutFirst_c hs hb) ?_
  rintro _ hx ⟨rfl, hK⟩
  have hS0 : St _ _ _ := St.trans hS (St.ofK hK)
  clear hS
  have hS := hS0
  clear hS0
  simp only [List.nil_append] at hS
  refine KOps.move ?_
  refine KOps.extract ?_
  refine KOps.extract ?_
  refine KOps.assign ?_
  refine KOps.assign ?_
  refine KOps.done ?_
  refine sqQ.normal ?_
  refine KA.sub (Sub.cons (t := 1) Look.eq (Sub.cons (t := 2) Look.eq (Sub.cons (t := 3) Look.eq (Sub.cons (t := 6) Look.eq (Sub.cons (t := 7) Look.eq (Sub.nil _)))))) ?_
  refine KA.seq ?_
  refine KA.region rfl ?_
  refine KOps.buildSlice hS rfl (by decide) rfl ?_
  intro v19 h' hS
  refine KOps.lenV (hS.rd 0 rfl) ?_
  refine KOps.move ?_
  refine KOps.done ?_
  refine sqQ.normal ?_
  refine KA.block ?_
  refine KA.loop (X := Nat × List Obj) (fun x => [(1, .int .u64 (b : Int)), (2, .fn fa caps), (3, p3), (6, .int .i64 ((s.fz b / s.c : Nat) : Int)), (7, .int .i64 ((s.fz b % s.c : Nat) : Int)), (19, v19), (20, .int .i64 2), (21, .int .i64 (x.1 : Int))]) (fun x h' => x.1 ≤ 2 ∧ Inv x.1 x.2 ∧ St h0 h' (⟨v19, 1, [.bool false, .bool true], true⟩ :: ⟨p3, 0, tbL s, true⟩ :: (x.2 ++ G))) (fun x => 2 - x.1) (0, F) (by repeat (first | exact Sub.nil _ | refine Sub.cons Look.eq ?_ | refine Sub.cons (Eq.trans Look.eq (congrArg (AV.int _) (by first | omega | (dsimp only; omega)))) ?_)) ?_ ?_
  · exact ⟨Nat.zero_le _, hI, hS⟩
  rintro ⟨i, F⟩ h2 ⟨hi, hInv, hS⟩
  dsimp only at hi hInv hS ⊢
  refine KA.seq ?_
  refine KA.region rfl ?_
  refine KOps.lss ?_
  refine KOps.done ?_
  refine sqQ.normal ?_
  refine KA.seq ?_
  refine KA.condD ?_ ?_
  · intro c22
    have hget : ([.bool false, .bool true] : List AV).getD i .bot = .bool (decide (i = 1)) := by
      rcases (show i = 0 ∨ i = 1 by omega) with rfl | rfl <;> rfl
    refine KA.skip ?_
    refine sqQ.normal ?_
    refine KA.sub (Sub.cons (t := 1) Look.eq (Sub.cons (t := 2) Look.eq (Sub.cons (t := 3) Look.eq (Sub.cons (t := 6) Look.eq (Sub.cons (t := 7) Look.eq (Sub.cons (t := 19) Look.eq (Sub.cons (t := 20) Look.eq (Sub.cons (t := 21) Look.eq (Sub.nil _))))))))) ?_
    refine KA.seq ?_
    refine KA.block ?_
    refine KA.seq ?_
    refine KA.region rfl ?_
    refine KOps.indexVJ (hS.rd 0 rfl) (j := i) rfl (by first | omega | (simp; done) | (simp; omega)) ?_
    intro p23 hp23
    refine KOps.loadV hp23 (hS.rd 0 rfl) (by first | omega | (simp; done) | (simp; omega)) ?_
    rw [hget]
    refine KOps.assign ?_
    refine KOps.done ?_
    refine sqQ.normal ?_
    refine KA.sub (Sub.cons (t := 1) Look.eq (Sub.cons (t := 2) Look.eq (Sub.cons (t := 3) Look.eq (Sub.cons (t := 6) Look.eq (Sub.cons (t := 7) Look.eq (Sub.cons (t := 9) Look.eq (Sub.cons (t := 19) Look.eq (Sub.cons (t := 20) Look.eq (Sub.cons (t := 21) Look.eq (Sub.nil _)))))))))) ?_
    refine KA.seq ?_
    refine KA.region rfl ?_
    refine KOps.move ?_
    refine KOps.move ?_
    refine KOps.move ?_
    refine KOps.buildG (zs := [.int .i64 0, .int .i64 0, .bool false]) (cs := [_, _, _]) (by kernel_rfl) (by rfl) (by kernel_rfl) (.cons (off := 0) (s := 1) (by kernel_rfl) (AV.cells_one (by first | rfl | assumption)) rfl (by decide) (.cons (off := 1) (s := 1) (by kernel_rfl) (AV.cells_one (by first | rfl | assumption)) rfl (by decide) (.cons (off := 2) (s := 1) (by kernel_rfl) (AV.cells_one (by first | rfl | assumption)) rfl (by decide) .nil))) (by rfl) ?_
    refine KOps.alloc hS ?_
    intro p10 h' hp10 hS
    refine KOps.storeAll hS rfl (i := 0) rfl hp10 (by first | rfl | (simp [AV.one]; done) | (simp [AV.one]; assumption) | (simp [AV.one, *]; done)) (by rfl) (by rfl) (by decide) ?_
    intro h' hS
    simp only [List.set_cons_zero, List.set_cons_succ, Nat.zero_add] at hS
    refine KOps.done ?_
    refine sqQ.normal ?_
    refine KA.sub (Sub.cons (t := 1) Look.eq (Sub.cons (t := 2) Look.eq (Sub.cons (t := 3) Look.eq (Sub.cons (t := 6) Look.eq (Sub.cons (t := 7) Look.eq (Sub.cons (t := 9) Look.eq (Sub.cons (t := 10) Look.eq (Sub.cons (t := 19) Look.eq (Sub.cons (t := 20) Look.eq (Sub.cons (t := 21) Look.eq (Sub.nil _))))))))))) ?_
    refine KA.seq ?_
    refine KA.seq ?_
    refine KA.region rfl ?_
    refine KOps.move ?_
    refine KOps.move ?_
    refine KOps.guardB (dj := 30) rfl rfl true false rfl ?_ ?_
    · intro g30
      refine KOps.fieldAddr hp3 ?_
      intro p31 hp31
      refine KOps.guardYes (dj := 30) rfl rfl ?_
      refine KOps.fieldAddr hp31 ?_
      intro p32 hp32
      refine KOps.guardYes (dj := 30) rfl rfl ?_
      refine KOps.load hp32 (hS.rd 2 rfl) rfl ?_
      refine KOps.guardYes (dj := 30) rfl rfl ?_
      refine KOps.fieldAddr hp3 ?_
      intro p34 hp34
      refine KOps.guardYes (dj := 30) rfl rfl ?_
      refine KOps.fieldAddr hp34 ?_
      intro p35 hp35
      refine KOps.guardYes (dj := 30) rfl rfl ?_
      refine KOps.load hp35 (hS.rd 2 rfl) rfl ?_
      refine KOps.guardYes (dj := 30) rfl rfl ?_
      refine KOps.eql ?_
      refine KOps.pickT ?_
      refine KOps.done ?_
      refine sqQ.normal ?_
      refine KA.sub (Sub.cons (t := 1) Look.eq (Sub.cons (t := 2) Look.eq (Sub.cons (t := 3) Look.eq (Sub.cons (t := 6) Look.eq (Sub.cons (t := 7) Look.eq (Sub.cons (t := 10) Look.eq (Sub.cons (t := 19) Look.eq (Sub.cons (t := 20) Look.eq (Sub.cons (t := 21) Look.eq (Sub.cons (t := 31) Look.eq (Sub.cons (t := 32) Look.eq (Sub.cons (t := 33) Look.eq (Sub.cons (t := 34) Look.eq (Sub.cons (t := 35) Look.eq (Sub.cons (t := 36) Look.eq (Sub.cons (t := 37) Look.eq (Sub.cons (t := 38) Look.eq (Sub.nil _)))))))))))))))))) ?_
      refine KA.condD ?_ ?_
      · intro c38
        refine KA.ret ?_
        refine sqQ.ret ?_
        refine blQ.ret ?_
        refine sqQ.ret ?_
        refine lpQ.ret ?_
        refine blQ.ret ?_
        refine fnQ.ret0 ?_
        have hi1 : i = 1 := of_decide_eq_true g30
        subst hi1
        exact ⟨rfl, F, hE (by omega) _ hInv, St.drop (A := [_, _, _]) hS⟩
      · intro c38
        refine KA.skip ?_
        refine sqQ.normal ?_
        refine KA.sub (Sub.cons (t := 1) Look.eq (Sub.cons (t := 2) Look.eq (Sub.cons (t := 3) Look.eq (Sub.cons (t := 6) Look.eq (Sub.cons (t := 7) Look.eq (Sub.cons (t := 10) Look.eq (Sub.cons (t := 19) Look.eq (Sub.cons (t := 20) Look.eq (Sub.cons (t := 21) Look.eq (Sub.cons (t := 31) Look.eq (Sub.cons (t := 32) Look.eq (Sub.cons (t := 33) Look.eq (Sub.cons (t := 34) Look.eq (Sub.cons (t := 35) Look.eq (Sub.cons (t := 36) Look.eq (Sub.cons (t := 37) Look.eq (Sub.nil _))))))))))))))))) ?_
        refine KA.seq ?_
        refine KA.region rfl ?_
        refine KOps.loadAll hS (i := 2) rfl hp3 (by rfl) (by decide) ?_
        refine KOps.move ?_
        refine KOps.loadAll hS (i := 0) rfl hp10 (by rfl) (by decide) ?_
        refine KOps.call rfl (cutPut_c hs hb hlt rfl rfl) ?_
        rintro _ hx ⟨⟨v, rfl, hv⟩, hK⟩
        have hS0 : St _ _ _ := St.trans hS (St.ofK hK)
        clear hS
        have hS := hS0
        clear hS0
        simp only [List.nil_append] at hS
        refine KOps.move ?_
        refine KOps.extract ?_
        refine KOps.extract ?_
        refine KOps.assign ?_
        refine KOps.assign ?_
        refine KOps.done ?_
        refine sqQ.normal ?_
        refine KA.sub (Sub.cons (t := 1) Look.eq (Sub.cons (t := 2) Look.eq (Sub.cons (t := 3) Look.eq (Sub.cons (t := 6) Look.eq (Sub.cons (t := 7) Look.eq (Sub.cons (t := 10) Look.eq (Sub.cons (t := 11) Look.eq (Sub.cons (t := 12) Look.eq (Sub.cons (t := 19) Look.eq (Sub.cons (t := 20) Look.eq (Sub.cons (t := 21) Look.eq (Sub.cons (t := 31) Look.eq (Sub.cons (t := 32) Look.eq (Sub.cons (t := 33) Look.eq (Sub.cons (t := 34) Look.eq (Sub.cons (t := 35) Look.eq (Sub.cons (t := 36) Look.eq (Sub.cons (t := 37) Look.eq (Sub.nil _))))))))))))))))))) ?_
        refine KA.seq ?_
        refine KA.region rfl ?_
        have hnone : (s.put b (decide (i = 1)) (s.fz b)).isSome = false → s.put b (decide (i = 1)) (s.fz b) = none := fun q => by
          cases hp : s.put b (decide (i = 1)) (s.fz b) with
          | none => rfl
          | some x => rw [hp] at q; cases q
        refine KOps.move ?_
        refine KOps.move ?_
        refine KOps.guardB (dj := 47) rfl rfl true false rfl ?_ ?_
        · intro g47
          obtain ⟨x, hpx⟩ := Option.isSome_iff_exists.1 g47
          obtain rfl := hv x hpx
          refine KOps.move ?_
          refine KOps.guardYes (dj := 47) rfl rfl ?_
          refine KOps.loadAll hS (i := 0) rfl hp10 (by rfl) (by decide) ?_
          refine KOps.guardYes (dj := 47) rfl rfl ?_
          refine KOps.move ?_
          refine KOps.guardYes (dj := 47) rfl rfl ?_
          refine KOps.call rfl (hA i (by omega) (fun q e => by first | exact c38 (by rw [e]) | exact absurd q (of_decide_eq_false g30)) _ hpx hInv (St.front (A := [_, _, _]) hS)) ?_
          rintro _ h9 ⟨cc, F2, rfl, hS9, hct, hcf⟩
          have hS0 := St.back (A := [_, _, _]) hS9
          clear hS
          have hS := hS0
          clear hS0
          simp only [List.cons_append, List.nil_append] at hS
          refine KOps.guardYes (dj := 47) rfl rfl ?_
          refine KOps.not ?_
          refine KOps.pickT ?_
          refine KOps.done ?_
          refine sqQ.normal ?_
          refine KA.sub (Sub.cons (t := 1) Look.eq (Sub.cons (t := 2) Look.eq (Sub.cons (t := 3) Look.eq (Sub.cons (t := 6) Look.eq (Sub.cons (t := 7) Look.eq (Sub.cons (t := 19) Look.eq (Sub.cons (t := 20) Look.eq (Sub.cons (t := 21) Look.eq (Sub.cons (t := 31) Look.eq (Sub.cons (t := 32) Look.eq (Sub.cons (t := 33) Look.eq (Sub.cons (t := 34) Look.eq (Sub.cons (t := 35) Look.eq (Sub.cons (t := 36) Look.eq (Sub.cons (t := 37) Look.eq (Sub.cons (t := 48) Look.eq (Sub.cons (t := 49) Look.eq (Sub.cons (t := 50) Look.eq (Sub.cons (t := 51) Look.eq (Sub.cons (t := 52) Look.eq (Sub.cons (t := 53) Look.eq (Sub.nil _)))))))))))))))))))))) ?_
          refine KA.condB ?_ ?_
          · intro c53
            refine KA.ret ?_
            refine blQ.ret ?_
            refine sqQ.ret ?_
            refine lpQ.ret ?_
            refine blQ.ret ?_
            refine fnQ.ret0 ?_
            exact ⟨rfl, F2, hcf (by simpa using c53), St.drop (A := [_, _, _]) hS⟩
          · intro c53
            refine KA.skip ?_
            refine blQ.normal ?_
            refine sqQ.normal ?_
            refine KA.sub (Sub.cons (t := 1) Look.eq (Sub.cons (t := 2) Look.eq (Sub.cons (t := 3) Look.eq (Sub.cons (t := 6) Look.eq (Sub.cons (t := 7) Look.eq (Sub.cons (t := 19) Look.eq (Sub.cons (t := 20) Look.eq (Sub.cons (t := 21) Look.eq (Sub.cons (t := 31) Look.eq (Sub.cons (t := 32) Look.eq (Sub.cons (t := 33) Look.eq (Sub.cons (t := 34) Look.eq (Sub.cons (t := 35) Look.eq (Sub.cons (t := 36) Look.eq (Sub.cons (t := 37) Look.eq (Sub.cons (t := 48) Look.eq (Sub.cons (t := 49) Look.eq (Sub.cons (t := 50) Look.eq (Sub.cons (t := 51) Look.eq (Sub.cons (t := 52) Look.eq (Sub.nil _))))))))))))))))))))) ?_
            refine KA.region rfl ?_
            refine KOps.add (by first | omega | (simp; omega)) (by first | omega | (simp; omega)) ?_
            refine KOps.move ?_
            refine KOps.done ?_
            exact lpQ.normal (i + 1, F2) (by repeat (first | exact Sub.nil _ | refine Sub.cons Look.eq ?_ | refine Sub.cons (Eq.trans Look.eq (congrArg (AV.int _) (by first | omega | (dsimp only; omega)))) ?_)) ⟨by dsimp only; omega, hct (by simpa using c53), St.tail hS⟩ (by dsimp only; omega)
        · intro g47
          refine KOps.guardNo (dj := 47) rfl rfl rfl ?_
          refine KOps.guardNo (dj := 47) rfl rfl rfl ?_
          refine KOps.guardNo (dj := 47) rfl rfl rfl ?_
          refine KOps.guardNo (dj := 47) rfl rfl rfl ?_
          refine KOps.pickF ?_
          refine KOps.done ?_
          refine sqQ.normal ?_
          refine KA.sub (Sub.cons (t := 1) Look.eq (Sub.cons (t := 2) Look.eq (Sub.cons (t := 3) Look.eq (Sub.cons (t := 6) Look.eq (Sub.cons (t := 7) Look.eq (Sub.cons (t := 19) Look.eq (Sub.cons (t := 20) Look.eq (Sub.cons (t := 21) Look.eq (Sub.cons (t := 31) Look.eq (Sub.cons (t := 32) Look.eq (Sub.cons (t := 33) Look.eq (Sub.cons (t := 34) Look.eq (Sub.cons (t := 35) Look.eq (Sub.cons (t := 36) Look.eq (Sub.cons (t := 37) Look.eq (Sub.cons (t := 48) Look.eq (Sub.cons (t := 49) Look.eq (Sub.cons (t := 50) Look.eq (Sub.cons (t := 51) Look.eq (Sub.cons (t := 52) Look.eq (Sub.cons (t := 53) Look.eq (Sub.nil _)))))))))))))))))))))) ?_
          refine KA.condF ?_
          refine KA.skip ?_
          refine blQ.normal ?_
          refine sqQ.normal ?_
          refine KA.sub (Sub.cons (t := 1) Look.eq (Sub.cons (t := 2) Look.eq (Sub.cons (t := 3) Look.eq (Sub.cons (t := 6) Look.eq (Sub.cons (t := 7) Look.eq (Sub.cons (t := 19) Look.eq (Sub.cons (t := 20) Look.eq (Sub.cons (t := 21) Look.eq (Sub.cons (t := 31) Look.eq (Sub.cons (t := 32) Look.eq (Sub.cons (t := 33) Look.eq (Sub.cons (t := 34) Look.eq (Sub.cons (t := 35) Look.eq (Sub.cons (t := 36) Look.eq (Sub.cons (t := 37) Look.eq (Sub.cons (t := 48) Look.eq (Sub.cons (t := 49) Look.eq (Sub.cons (t := 50) Look.eq (Sub.cons (t := 51) Look.eq (Sub.cons (t := 52) Look.eq (Sub.nil _))))))))))))))))))))) ?_
          refine KA.region rfl ?_
          refine KOps.add (by first | omega | (simp; omega)) (by first | omega | (simp; omega)) ?_
          refine KOps.move ?_
          refine KOps.done ?_
          exact lpQ.normal (i + 1, F) (by repeat (first | exact Sub.nil _ | refine Sub.cons Look.eq ?_ | refine Sub.cons (Eq.trans Look.eq (congrArg (AV.int _) (by first | omega | (dsimp only; omega)))) ?_)) ⟨by dsimp only; omega, hN i (by omega) (fun q e => by first | exact c38 (by rw [e]) | exact absurd q (of_decide_eq_false g30)) (hnone g47) _ hInv, St.tail hS⟩ (by dsimp only; omega)
    · intro g30
      refine KOps.guardNo (dj := 30) rfl rfl rfl ?_
      refine KOps.guardNo (dj := 30) rfl rfl rfl ?_
      refine KOps.guardNo (dj := 30) rfl rfl rfl ?_
      refine KOps.guardNo (dj := 30) rfl rfl rfl ?_
      refine KOps.guardNo (dj := 30) rfl rfl rfl ?_
      refine KOps.guardNo (dj := 30) rfl rfl rfl ?_
      refine KOps.pickF ?_
      refine KOps.done ?_
      refine sqQ.normal ?_
      refine KA.sub (Sub.cons (t := 1) Look.eq (Sub.cons (t := 2) Look.eq (Sub.cons (t := 3) Look.eq (Sub.cons (t := 6) Look.eq (Sub.cons (t := 7) Look.eq (Sub.cons (t := 10) Look.eq (Sub.cons (t := 19) Look.eq (Sub.cons (t := 20) Look.eq (Sub.cons (t := 21) Look.eq (Sub.cons (t := 31) Look.eq (Sub.cons (t := 32) Look.eq (Sub.cons (t := 33) Look.eq (Sub.cons (t := 34) Look.eq (Sub.cons (t := 35) Look.eq (Sub.cons (t := 36) Look.eq (Sub.cons (t := 37) Look.eq (Sub.cons (t := 38) Look.eq (Sub.nil _)))))))))))))))))) ?_
      refine KA.condF ?_
      refine KA.skip ?_
      refine sqQ.normal ?_
      refine KA.sub (Sub.cons (t := 1) Look.eq (Sub.cons (t := 2) Look.eq (Sub.cons (t := 3) Look.eq (Sub.cons (t := 6) Look.eq (Sub.cons (t := 7) Look.eq (Sub.cons (t := 10) Look.eq (Sub.cons (t := 19) Look.eq (Sub.cons (t := 20) Look.eq (Sub.cons (t := 21) Look.eq (Sub.cons (t := 31) Look.eq (Sub.cons (t := 32) Look.eq (Sub.cons (t := 33) Look.eq (Sub.cons (t := 34) Look.eq (Sub.cons (t := 35) Look.eq (Sub.cons (t := 36) Look.eq (Sub.cons (t := 37) Look.eq (Sub.nil _))))))))))))))))) ?_
      refine KA.seq ?_
      refine KA.region rfl ?_
      refine KOps.loadAll hS (i := 2) rfl hp3 (by rfl) (by decide) ?_
      refine KOps.move ?_
      refine KOps.loadAll hS (i := 0) rfl hp10 (by rfl) (by decide) ?_
      refine KOps.call rfl (cutPut_c hs hb hlt rfl rfl) ?_
      rintro _ hx ⟨⟨v, rfl, hv⟩, hK⟩
      have hS0 : St _ _ _ := St.trans hS (St.ofK hK)
      clear hS
      have hS := hS0
      clear hS0
      simp only [List.nil_append] at hS
      refine KOps.move ?_
      refine KOps.extract ?_
      refine KOps.extract ?_
      refine KOps.assign ?_
      refine KOps.assign ?_
      refine KOps.done ?_
      refine sqQ.normal ?_
      refine KA.sub (Sub.cons (t := 1) Look.eq (Sub.cons (t := 2) Look.eq (Sub.cons (t := 3) Look.eq (Sub.cons (t := 6) Look.eq (Sub.cons (t := 7) Look.eq (Sub.cons (t := 10) Look.eq (Sub.cons (t := 11) Look.eq (Sub.cons (t := 12) Look.eq (Sub.cons (t := 19) Look.eq (Sub.cons (t := 20) Look.eq (Sub.cons (t := 21) Look.eq (Sub.cons (t := 31) Look.eq (Sub.cons (t := 32) Look.eq (Sub.cons (t := 33) Look.eq (Sub.cons (t := 34) Look.eq (Sub.cons (t := 35) Look.eq (Sub.cons (t := 36) Look.eq (Sub.cons (t := 37) Look.eq (Sub.nil _))))))))))))))))))) ?_
      refine KA.seq ?_
      refine KA.region rfl ?_
      have hnone : (s.put b (decide (i = 1)) (s.fz b)).isSome = false → s.put b (decide (i = 1)) (s.fz b) = none := fun q => by
        cases hp : s.put b (decide (i = 1)) (s.fz b) with
        | none => rfl
        | some x => rw [hp] at q; cases q
      refine KOps.move ?_
      refine KOps.move ?_
      refine KOps.guardB (dj := 47) rfl rfl true false rfl ?_ ?_
      · intro g47
        obtain ⟨x, hpx⟩ := Option.isSome_iff_exists.1 g47
        obtain rfl := hv x hpx
        refine KOps.move ?_
        refine KOps.guardYes (dj := 47) rfl rfl ?_
        refine KOps.loadAll hS (i := 0) rfl hp10 (by rfl) (by decide) ?_
        refine KOps.guardYes (dj := 47) rfl rfl ?_
        refine KOps.move ?_
        refine KOps.guardYes (dj := 47) rfl rfl ?_
        refine KOps.call rfl (hA i (by omega) (fun q e => by first | exact c38 (by rw [e]) | exact absurd q (of_decide_eq_false g30)) _ hpx hInv (St.front (A := [_, _, _]) hS)) ?_
        rintro _ h9 ⟨cc, F2, rfl, hS9, hct, hcf⟩
        have hS0 := St.back (A := [_, _, _]) hS9
        clear hS
        have hS := hS0
        clear hS0
        simp only [List.cons_append, List.nil_append] at hS
        refine KOps.guardYes (dj := 47) rfl rfl ?_
        refine KOps.not ?_
        refine KOps.pickT ?_
        refine KOps.done ?_
        refine sqQ.normal ?_
        refine KA.sub (Sub.cons (t := 1) Look.eq (Sub.cons (t := 2) Look.eq (Sub.cons (t := 3) Look.eq (Sub.cons (t := 6) Look.eq (Sub.cons (t := 7) Look.eq (Sub.cons (t := 19) Look.eq (Sub.cons (t := 20) Look.eq (Sub.cons (t := 21) Look.eq (Sub.cons (t := 31) Look.eq (Sub.cons (t := 32) Look.eq (Sub.cons (t := 33) Look.eq (Sub.cons (t := 34) Look.eq (Sub.cons (t := 35) Look.eq (Sub.cons (t := 36) Look.eq (Sub.cons (t := 37) Look.eq (Sub.cons (t := 48) Look.eq (Sub.cons (t := 49) Look.eq (Sub.cons (t := 50) Look.eq (Sub.cons (t := 51) Look.eq (Sub.cons (t := 52) Look.eq (Sub.cons (t := 53) Look.eq (Sub.nil _)))))))))))))))))))))) ?_
        refine KA.condB ?_ ?_
        · intro c53
          refine KA.ret ?_
          refine blQ.ret ?_
          refine sqQ.ret ?_
          refine lpQ.ret ?_
          refine blQ.ret ?_
          refine fnQ.ret0 ?_
          exact ⟨rfl, F2, hcf (by simpa using c53), St.drop (A := [_, _, _]) hS⟩
        · intro c53
          refine KA.skip ?_
          refine blQ.normal ?_
          refine sqQ.normal ?_
          refine KA.sub (Sub.cons (t := 1) Look.eq (Sub.cons (t := 2) Look.eq (Sub.cons (t := 3) Look.eq (Sub.cons (t := 6) Look.eq (Sub.cons (t := 7) Look.eq (Sub.cons (t := 19) Look.eq (Sub.cons (t := 20) Look.eq (Sub.cons (t := 21) Look.eq (Sub.cons (t := 31) Look.eq (Sub.cons (t := 32) Look.eq (Sub.cons (t := 33) Look.eq (Sub.cons (t := 34) Look.eq (Sub.cons (t := 35) Look.eq (Sub.cons (t := 36) Look.eq (Sub.cons (t := 37) Look.eq (Sub.cons (t := 48) Look.eq (Sub.cons (t := 49) Look.eq (Sub.cons (t := 50) Look.eq (Sub.cons (t := 51) Look.eq (Sub.cons (t := 52) Look.eq (Sub.nil _))))))))))))))))))))) ?_
          refine KA.region rfl ?_
          refine KOps.add (by first | omega | (simp; omega)) (by first | omega | (simp; omega)) ?_
          refine KOps.move ?_
          refine KOps.done ?_
          exact lpQ.normal (i + 1, F2) (by repeat (first | exact Sub.nil _ | refine Sub.cons Look.eq ?_ | refine Sub.cons (Eq.trans Look.eq (congrArg (AV.int _) (by first | omega | (dsimp only; omega)))) ?_)) ⟨by dsimp only; omega, hct (by simpa using c53), St.tail hS⟩ (by dsimp only; omega)
      · intro g47
        refine KOps.guardNo (dj := 47) rfl rfl rfl ?_
        refine KOps.guardNo (dj := 47) rfl rfl rfl ?_
        refine KOps.guardNo (dj := 47) rfl rfl rfl ?_
        refine KOps.guardNo (dj := 47) rfl rfl rfl ?_
        refine KOps.pickF ?_
        refine KOps.done ?_
        refine sqQ.normal ?_
        refine KA.sub (Sub.cons (t := 1) Look.eq (Sub.cons (t := 2) Look.eq (Sub.cons (t := 3) Look.eq (Sub.cons (t := 6) Look.eq (Sub.cons (t := 7) Look.eq (Sub.cons (t := 19) Look.eq (Sub.cons (t := 20) Look.eq (Sub.cons (t := 21) Look.eq (Sub.cons (t := 31) Look.eq (Sub.cons (t := 32) Look.eq (Sub.cons (t := 33) Look.eq (Sub.cons (t := 34) Look.eq (Sub.cons (t := 35) Look.eq (Sub.cons (t := 36) Look.eq (Sub.cons (t := 37) Look.eq (Sub.cons (t := 48) Look.eq (Sub.cons (t := 49) Look.eq (Sub.cons (t := 50) Look.eq (Sub.cons (t := 51) Look.eq (Sub.cons (t := 52) Look.eq (Sub.cons (t := 53) Look.eq (Sub.nil _)))))))))))))))))))))) ?_
        refine KA.condF ?_
        refine KA.skip ?_
        refine blQ.normal ?_
        refine sqQ.normal ?_
        refine KA.sub (Sub.cons (t := 1) Look.eq (Sub.cons (t := 2) Look.eq (Sub.cons (t := 3) Look.eq (Sub.cons (t := 6) Look.eq (Sub.cons (t := 7) Look.eq (Sub.cons (t := 19) Look.eq (Sub.cons (t := 20) Look.eq (Sub.cons (t := 21) Look.eq (Sub.cons (t := 31) Look.eq (Sub.cons (t := 32) Look.eq (Sub.cons (t := 33) Look.eq (Sub.cons (t := 34) Look.eq (Sub.cons (t := 35) Look.eq (Sub.cons (t := 36) Look.eq (Sub.cons (t := 37) Look.eq (Sub.cons (t := 48) Look.eq (Sub.cons (t := 49) Look.eq (Sub.cons (t := 50) Look.eq (Sub.cons (t := 51) Look.eq (Sub.cons (t := 52) Look.eq (Sub.nil _))))))))))))))))))))) ?_
        refine KA.region rfl ?_
        refine KOps.add (by first | omega | (simp; omega)) (by first | omega | (simp; omega)) ?_
        refine KOps.move ?_
        refine KOps.done ?_
        exact lpQ.normal (i + 1, F) (by repeat (first | exact Sub.nil _ | refine Sub.cons Look.eq ?_ | refine Sub.cons (Eq.trans Look.eq (congrArg (AV.int _) (by first | omega | (dsimp only; omega)))) ?_)) ⟨by dsimp only; omega, hN i (by omega) (fun q e => by first | exact c38 (by rw [e]) | exact absurd q (of_decide_eq_false g30)) (hnone g47) _ hInv, St.tail hS⟩ (by dsimp only; omega)
  · intro c22
    refine KA.exit ?_
    refine sqQ.exit ?_
    refine lpQ.exit ?_
    refine blQ.here ?_
    refine fnQ.norm0 ?_
    have hi2 : i = 2 := by omega
    subst hi2
    exact ⟨rfl, F, hInv, St.drop (A := [_, _]) hS⟩

end Go.Am

namespace Go.Am
/-- What count does with a board. -/
def CntC (s : Sht) (x : Nat) : Prop := ∀ {h0 h : AHeap} {vm : AV} {L : List (Int × Nat)} {G : List Obj}, IsMp vm → OkL s.n s.cntS L → St h0 h (mapO vm (entL (AV.int .u64) ctA L) :: G) →
  ACalls Go.Proofs.Try.prog 20 [.agg (tbL s), .int .u64 (x : Int), .agg [vm]] h (fun q h' => ∃ L', OkL s.n s.cntS L' ∧ q = ctA (s.cntS x) ∧ St h0 h' (mapO vm (entL (AV.int .u64) ctA L') :: G))
/-- The number while cards are put on the first free square. -/
def Sht.ctI (s : Sht) (b : Nat) : Nat → Nat
  | 0 => 0
  | 1 => s.ct1 b false
  | _ => s.cntS b
theorem Sht.ct1_le (s : Sht) (b : Nat) (t : Bool) : s.ct1 b t ≤ 2 ^ 40 := by
  unfold Sht.ct1
  cases s.put b t (s.fz b) with
  | none => exact Nat.zero_le _
  | some x => exact s.cntS_le x
theorem Sht.ctI_le (s : Sht) (b i : Nat) : s.ctI b i ≤ 2 ^ 40 := by
  rcases i with _ | _ | i
  · exact Nat.zero_le _
  · exact s.ct1_le b false
  · exact s.cntS_le b
theorem Sht.ct1_some {s : Sht} {b x : Nat} {t : Bool} (h : s.put b t (s.fz b) = some x) : s.ct1 b t = s.cntS x := by unfold Sht.ct1; rw [h]; rfl
theorem Sht.ct1_none {s : Sht} {b : Nat} {t : Bool} (h : s.put b t (s.fz b) = none) : s.ct1 b t = 0 := by unfold Sht.ct1; rw [h]; rfl
section
variable {s : Sht} {b : Nat} (hs : s.Ok) (hb : b < 2 ^ s.n) (hf : b ≠ s.full)
include hs hb hf
theorem Sht.ctI_step {i x : Nat} (hi : i < 2) (hl : i = 1 → s.l ≠ s.w) (hx : s.put b (decide (i = 1)) (s.fz b) = some x) : s.ctI b (i + 1) = s.ctI b i + s.cntS x := by
  rcases (show i = 0 ∨ i = 1 by omega) with rfl | rfl
  · show s.ct1 b false = 0 + s.cntS x
    rw [Nat.zero_add]; exact Sht.ct1_some hx
  · show s.cntS b = s.ct1 b false + _
    rw [Sht.cntS_step hs hb hf, if_neg (hl rfl), Sht.ct1_some (t := true) hx]
theorem Sht.ctI_skip {i : Nat} (hi : i < 2) (hl : i = 1 → s.l ≠ s.w) (hx : s.put b (decide (i = 1)) (s.fz b) = none) : s.ctI b (i + 1) = s.ctI b i := by
  rcases (show i = 0 ∨ i = 1 by omega) with rfl | rfl
  · exact Sht.ct1_none hx
  · show s.cntS b = s.ct1 b false
    rw [Sht.cntS_step hs hb hf, if_neg (hl rfl), Sht.ct1_none (t := true) hx, Nat.add_zero]
theorem Sht.ctI_end (hl : s.l = s.w) : s.ctI b 2 = s.ctI b 1 := by
  show s.cntS b = s.ct1 b false
  rw [Sht.cntS_step hs hb hf, if_pos hl, Nat.add_zero]
end
def ctI (s : Sht) (b : Nat) (p0 p2 p4 vm : AV) (i : Nat) (F : List Obj) : Prop := ∃ L, OkL s.n s.cntS L ∧ F = [⟨p4, 0, [ctA (s.ctI b i)], true⟩, ⟨p0, 0, tbL s, true⟩, ⟨p2, 0, [vm], true⟩, mapO vm (entL (AV.int .u64) ctA L)]
theorem cnt1_c {h0 h : AHeap} {s : Sht} {x row col : Nat} {t : Bool} {p0 p2 p4 vm : AV} {o : Nat} {L : List (Int × Nat)} {G : List Obj} (hIH : CntC s x) (hp0 : AddrOf p0 p0 0 0) (hp2 : AddrOf p2 p2 0 0) (hp4 : AddrOf p4 p4 0 0) (hvm : IsMp vm) (hL : OkL s.n s.cntS L) (ho : o ≤ 2 ^ 40) (hS : St h0 h (⟨p4, 0, [ctA (o)], true⟩ :: ⟨p0, 0, tbL s, true⟩ :: ⟨p2, 0, [vm], true⟩ :: mapO vm (entL (AV.int .u64) ctA L) :: G)) : ACalls Go.Proofs.Try.prog 49 [.agg (cdL row col t), .int .u64 (x : Int), p4, p0, p2] h (fun q h' => q = .bool true ∧ ∃ L', OkL s.n s.cntS L' ∧ St h0 h' (⟨p4, 0, [ctA (o + s.cntS x)], true⟩ :: ⟨p0, 0, tbL s, true⟩ :: ⟨p2, 0, [vm], true⟩ :: mapO vm (entL (AV.int .u64) ctA L') :: G)) := by
  refine KA.fn 14 [.tmp 7] Go.Proofs.Try.func49 rfl (by decide) rfl rfl (Nat.le_of_ble_eq_true rfl) ?_
  have hle := s.cntS_le x
  have hvo : vm.one = true := by obtain ⟨b, rfl⟩ := hvm; rfl
  show KA _ 14 _ _ [(0, .agg (cdL row col t)), (1, .int .u64 (x : Int)), (2, p4), (3, p0), (4, p2)] _
  refine KA.seq ?_
  refine KA.region rfl ?_
  refine KOps.boxAll hS (by first | rfl | (simp [AV.one]; done) | (simp [AV.one]; assumption) | (simp [AV.one, *]; done)) ?_
  intro p5 h' hp5 hS
  refine KOps.assign ?_
  refine KOps.done ?_
  refine sqQ.normal ?_
  refine KA.sub (Sub.cons (t := 1) Look.eq (Sub.cons (t := 2) Look.eq (Sub.cons (t := 3) Look.eq (Sub.cons (t := 4) Look.eq (Sub.nil _))))) ?_
  refine KA.seq ?_
  refine KA.drawS (c := 4) (r := 0) (t := 3) (a := 2) (d := 8) [] mixed rfl rfl rfl (by kernel_rfl) rfl rfl rfl (by decide) (by decide) (by kernel_rfl) ?_
  refine KOps.loadBox hS (i := 1) rfl hp4 ?_
  refine KOps.loadAll hS (i := 2) rfl hp0 (by rfl) (by decide) ?_
  refine KOps.move ?_
  refine KOps.loadAll hS (i := 3) rfl hp2 (by rfl) (by decide) ?_
  refine KOps.call rfl (hIH hvm hL (St.pickF (A := [_, _, _, _, _]) (A' := [_, _, _, _, _]) 5 [4, 0, 1, 2, 3] rfl (by decide) (by decide) rfl hS)) ?_
  rintro _ h9 ⟨L2, hL2, rfl, hS9⟩
  have hS0 := (St.pickF (A := [_, _, _, _, _]) (A' := [_, _, _, _, _]) 5 [1, 2, 3, 4, 0] rfl (by decide) (by decide) rfl hS9)
  clear hS
  have hS := hS0
  clear hS0
  simp only [List.cons_append, List.nil_append] at hS
  refine KOps.doneS rfl rfl hp4 (hS.rd 1 rfl) rfl ?_
  refine KOps.add (by first | omega | (simp; omega)) (by first | omega | (simp; omega)) ?_
  refine KOps.storeBox hS rfl (i := 1) rfl hp4 (by first | rfl | assumption) ?_
  intro h' hS
  refine KOps.done ?_
  refine sqQ.normal ?_
  refine KA.sub (Sub.nil _) ?_
  refine KA.seq ?_
  refine KA.region rfl ?_
  refine KOps.assign ?_
  refine KOps.done ?_
  refine sqQ.normal ?_
  refine KA.ret ?_
  refine fnQ.ret1 ?_
  refine ⟨rfl, L2, hL2, St.cells (congrArg (fun z => [AV.int .i64 z]) (Int.natCast_add ..).symm) (St.drop (A := [_]) hS)⟩

theorem cnt2_c {h0 h : AHeap} {s : Sht} {b : Nat} {p0 p1 p2 vm : AV} {L : List (Int × Nat)} {G : List Obj} (hs : s.Ok) (hb : b < 2 ^ s.n) (hf : b ≠ s.full) (hIH : ∀ t x, s.put b t (s.fz b) = some x → CntC s x) (hp0 : AddrOf p0 p0 0 0) (hp1 : AddrOf p1 p1 0 0) (hp2 : AddrOf p2 p2 0 0) (hvm : IsMp vm) (hL : OkL s.n s.cntS L) (hS : St h0 h (⟨p0, 0, tbL s, true⟩ :: ⟨p1, 0, [.int .u64 (b : Int)], true⟩ :: ⟨p2, 0, [vm], true⟩ :: mapO vm (entL (AV.int .u64) ctA L) :: G)) : ACalls Go.Proofs.Try.prog 48 [p0, p1, p2] h (fun q h' => ∃ L', OkL s.n s.cntS L' ∧ q = ctA (s.cntS b) ∧ St h0 h' (⟨p0, 0, tbL s, true⟩ :: ⟨p1, 0, [.int .u64 (b : Int)], true⟩ :: ⟨p2, 0, [vm], true⟩ :: mapO vm (entL (AV.int .u64) ctA L') :: G)) := by
  refine KA.fn 10 [.tmp 3] Go.Proofs.Try.func48 rfl (by decide) rfl rfl (Nat.le_of_ble_eq_true rfl) ?_
  have hvo : vm.one = true := by obtain ⟨b, rfl⟩ := hvm; rfl
  show KA _ 10 _ _ [(0, p0), (1, p1), (2, p2)] _
  refine KA.seq ?_
  refine KA.region rfl ?_
  refine KOps.assign ?_
  refine KOps.done ?_
  refine sqQ.normal ?_
  refine KA.sub (Sub.cons (t := 0) Look.eq (Sub.cons (t := 1) Look.eq (Sub.cons (t := 2) Look.eq (Sub.nil _)))) ?_
  refine KA.seq ?_
  refine KA.region rfl ?_
  refine KOps.alloc hS ?_
  intro p4 h' hp4 hS
  refine KOps.storeBox hS rfl (i := 0) rfl hp4 (by first | rfl | assumption) ?_
  intro h' hS
  refine KOps.done ?_
  refine sqQ.normal ?_
  refine KA.seq ?_
  refine KA.region rfl ?_
  refine KOps.loadAll hS (i := 1) rfl hp0 (by rfl) (by decide) ?_
  refine KOps.loadBox hS (i := 2) rfl hp1 ?_
  refine KOps.makeFunc ?_
  refine KOps.call rfl (next_c (fa := 49) (caps := [p4, p0, p2]) (Inv := ctI s b p0 p2 p4 vm) (F := [_, _, _, _]) hs hb (Sht.fz_lt hb hf)
      (fun i hi hl x hx {h0 h F G} => by
        rintro ⟨L, hL, rfl⟩ hS
        refine ACalls.mono (cnt1_c (hIH _ _ hx) hp0 hp2 hp4 hvm hL (s.ctI_le b i) hS) ?_
        rintro q h' ⟨rfl, L', hL', hS'⟩
        exact ⟨true, _, rfl, hS', fun _ => ⟨L', hL', by rw [Sht.ctI_step hs hb hf hi hl hx]⟩, fun e => by cases e⟩)
      (fun i hi hl hx F => by
        rintro ⟨L, hL, rfl⟩
        exact ⟨L, hL, by rw [Sht.ctI_skip hs hb hf hi hl hx]⟩)
      (fun hl F => by
        rintro ⟨L, hL, rfl⟩
        exact ⟨L, hL, by rw [Sht.ctI_end hs hb hf hl]⟩) ⟨L, hL, rfl⟩ (St.pickF (A := [_, _, _, _, _]) (A' := [_, _, _, _, _]) 5 [0, 1, 3, 4, 2] rfl (by decide) (by decide) rfl hS)) ?_
  rintro _ h9 ⟨rfl, F9, ⟨L2, hL2, rfl⟩, hS9⟩
  have hS0 := (St.pickF (A := [_, _, _, _, _]) (A' := [_, _, _, _, _]) 5 [0, 1, 4, 2, 3] rfl (by decide) (by decide) rfl hS9)
  clear hS
  have hS := hS0
  clear hS0
  simp only [List.cons_append, List.nil_append] at hS
  refine KOps.done ?_
  refine sqQ.normal ?_
  refine KA.sub (Sub.cons (t := 4) Look.eq (Sub.nil _)) ?_
  refine KA.seq ?_
  refine KA.region rfl ?_
  refine KOps.loadBox hS (i := 0) rfl hp4 ?_
  refine KOps.assign ?_
  refine KOps.done ?_
  refine sqQ.normal ?_
  refine KA.sub (Sub.cons (t := 3) Look.eq (Sub.nil _)) ?_
  refine KA.ret ?_
  refine fnQ.ret1 ?_
  exact ⟨L2, hL2, rfl, St.drop (A := [_]) hS⟩

theorem cntAsk_c {h0 h : AHeap} {s : Sht} {b : Nat} {p0 p1 p2 vm : AV} {L : List (Int × Nat)} {G : List Obj} (hs : s.Ok) (hb : b < 2 ^ s.n) (hf : b ≠ s.full) (hIH : ∀ t x, s.put b t (s.fz b) = some x → CntC s x) (hp0 : AddrOf p0 p0 0 0) (hp1 : AddrOf p1 p1 0 0) (hp2 : AddrOf p2 p2 0 0) (hvm : IsMp vm) (hL : OkL s.n s.cntS L) (hS : St h0 h (⟨p0, 0, tbL s, true⟩ :: ⟨p1, 0, [.int .u64 (b : Int)], true⟩ :: ⟨p2, 0, [vm], true⟩ :: mapO vm (entL (AV.int .u64) ctA L) :: G)) : ACalls Go.Proofs.Try.prog 47 [.agg [vm], .int .u64 (b : Int), .fn 48 [p0, p1, p2]] h (fun q h' => ∃ L', OkL s.n s.cntS L' ∧ q = ctA (s.cntS b) ∧ St h0 h' (⟨p0, 0, tbL s, true⟩ :: ⟨p1, 0, [.int .u64 (b : Int)], true⟩ :: ⟨p2, 0, [vm], true⟩ :: mapO vm (entL (AV.int .u64) ctA L') :: G)) := by
  refine KA.fn 26 [.tmp 6] Go.Proofs.Try.func47 rfl (by decide) rfl rfl (Nat.le_of_ble_eq_true rfl) ?_
  have hvo : vm.one = true := by obtain ⟨b, rfl⟩ := hvm; rfl
  show KA _ 26 _ _ [(0, .agg [vm]), (1, .int .u64 (b : Int)), (2, .fn 48 [p0, p1, p2])] _
  refine KA.seq ?_
  refine KA.region rfl ?_
  refine KOps.boxAll hS (by first | rfl | (simp [AV.one]; done) | (simp [AV.one]; assumption) | (simp [AV.one, *]; done)) ?_
  intro p3 h' hp3 hS
  refine KOps.assign ?_
  refine KOps.done ?_
  refine sqQ.normal ?_
  refine KA.sub (Sub.cons (t := 1) Look.eq (Sub.cons (t := 2) Look.eq (Sub.cons (t := 3) Look.eq (Sub.nil _)))) ?_
  refine KA.seq ?_
  refine KA.seq ?_
  refine KA.region rfl ?_
  refine KOps.fieldAddr hp3 ?_
  intro p11 hp11
  refine KOps.load hp11 (hS.rd 0 rfl) rfl ?_
  refine KOps.move ?_
  refine KOps.lookupD2 (kf := AV.int .u64) (vf := ctA) (w := 0) EvK.eq (St.rdM hS 4 rfl hvm) rfl rfl ?_
  refine KOps.move ?_
  refine KOps.extract ?_
  refine KOps.extract ?_
  refine KOps.assign ?_
  refine KOps.assign ?_
  refine KOps.done ?_
  refine sqQ.normal ?_
  refine KA.sub (Sub.cons (t := 1) Look.eq (Sub.cons (t := 2) Look.eq (Sub.cons (t := 3) Look.eq (Sub.cons (t := 7) Look.eq (Sub.cons (t := 8) Look.eq (Sub.nil _)))))) ?_
  refine KA.seq ?_
  refine KA.region rfl ?_
  refine KOps.move ?_
  refine KOps.done ?_
  refine sqQ.normal ?_
  refine KA.sub (Sub.cons (t := 1) Look.eq (Sub.cons (t := 2) Look.eq (Sub.cons (t := 3) Look.eq (Sub.cons (t := 7) Look.eq (Sub.cons (t := 17) Look.eq (Sub.nil _)))))) ?_
  refine KA.condB ?_ ?_
  · intro c17
    refine KA.seq ?_
    refine KA.region rfl ?_
    refine KOps.move ?_
    refine KOps.assign ?_
    refine KOps.done ?_
    refine sqQ.normal ?_
    refine KA.sub (Sub.cons (t := 6) Look.eq (Sub.nil _)) ?_
    refine KA.ret ?_
    refine sqQ.ret ?_
    refine fnQ.ret1 ?_
    obtain ⟨v, hv⟩ := Option.isSome_iff_exists.1 c17
    rw [hv]
    exact ⟨L, hL, by rw [Option.getD_some, hL b v hb hv], St.drop (A := [_]) hS⟩
  · intro c17
    refine KA.skip ?_
    refine sqQ.normal ?_
    refine KA.sub (Sub.cons (t := 1) Look.eq (Sub.cons (t := 2) Look.eq (Sub.cons (t := 3) Look.eq (Sub.nil _)))) ?_
    refine KA.seq ?_
    refine KA.region rfl ?_
    refine KOps.move ?_
    refine KOps.call rfl (cnt2_c hs hb hf hIH hp0 hp1 hp2 hvm hL (St.pickF (A := [_, _, _, _, _]) (A' := [_, _, _, _, _]) 5 [1, 2, 3, 4, 0] rfl (by decide) (by decide) rfl hS)) ?_
    rintro _ h9 ⟨L2, hL2, rfl, hS9⟩
    have hS0 := (St.pickF (A := [_, _, _, _, _]) (A' := [_, _, _, _, _]) 5 [4, 0, 1, 2, 3] rfl (by decide) (by decide) rfl hS9)
    clear hS
    have hS := hS0
    clear hS0
    simp only [List.cons_append, List.nil_append] at hS
    refine KOps.assign ?_
    refine KOps.done ?_
    refine sqQ.normal ?_
    refine KA.sub (Sub.cons (t := 1) Look.eq (Sub.cons (t := 3) Look.eq (Sub.cons (t := 9) Look.eq (Sub.nil _)))) ?_
    refine KA.seq ?_
    refine KA.region rfl ?_
    refine KOps.fieldAddr hp3 ?_
    intro p21 hp21
    refine KOps.load hp21 (hS.rd 0 rfl) rfl ?_
    refine KOps.move ?_
    refine KOps.move ?_
    refine KOps.mapPutK (kf := AV.int .u64) (vf := ctA) (i := 4) (b := s.cntS b) EvK.eq rfl hS hvm rfl rfl ?_
    intro h' hS
    simp only [List.set_cons_zero, List.set_cons_succ, Nat.zero_add] at hS
    refine KOps.done ?_
    refine sqQ.normal ?_
    refine KA.sub (Sub.cons (t := 9) Look.eq (Sub.nil _)) ?_
    refine KA.seq ?_
    refine KA.region rfl ?_
    refine KOps.move ?_
    refine KOps.assign ?_
    refine KOps.done ?_
    refine sqQ.normal ?_
    refine KA.sub (Sub.cons (t := 6) Look.eq (Sub.nil _)) ?_
    refine KA.ret ?_
    refine fnQ.ret1 ?_
    exact ⟨_, hL2.put b, rfl, St.drop (A := [_]) hS⟩

theorem cntN_c {h0 h : AHeap} {s : Sht} {b : Nat} {vm : AV} {L : List (Int × Nat)} {G : List Obj} (hs : s.Ok) (hb : b < 2 ^ s.n) (hIH : ∀ t x, s.fz b < s.n → s.put b t (s.fz b) = some x → CntC s x) (hvm : IsMp vm) (hL : OkL s.n s.cntS L) (hS : St h0 h (mapO vm (entL (AV.int .u64) ctA L) :: G)) : ACalls Go.Proofs.Try.prog 20 [.agg (tbL s), .int .u64 (b : Int), .agg [vm]] h (fun q h' => ∃ L', OkL s.n s.cntS L' ∧ q = ctA (s.cntS b) ∧ St h0 h' (mapO vm (entL (AV.int .u64) ctA L') :: G)) := by
  refine KA.fn 15 [.tmp 6] Go.Proofs.Try.func20 rfl (by decide) rfl rfl (Nat.le_of_ble_eq_true rfl) ?_
  have hvo : vm.one = true := by obtain ⟨b, rfl⟩ := hvm; rfl
  show KA _ 15 _ _ [(0, .agg (tbL s)), (1, .int .u64 (b : Int)), (2, .agg [vm])] _
  refine KA.seq ?_
  refine KA.region rfl ?_
  refine KOps.boxAll hS (by first | rfl | (simp [AV.one]; done) | (simp [AV.one]; assumption) | (simp [AV.one, *]; done)) ?_
  intro p3 h' hp3 hS
  refine KOps.box hS (l := [_]) rfl ?_
  intro p4 h' hp4 hS
  refine KOps.boxAll hS (by first | rfl | (simp [AV.one]; done) | (simp [AV.one]; assumption) | (simp [AV.one, *]; done)) ?_
  intro p5 h' hp5 hS
  refine KOps.assign ?_
  refine KOps.done ?_
  refine sqQ.normal ?_
  refine KA.sub (Sub.cons (t := 3) Look.eq (Sub.cons (t := 4) Look.eq (Sub.cons (t := 5) Look.eq (Sub.nil _)))) ?_
  refine KA.seq ?_
  refine KA.seq ?_
  refine KA.region rfl ?_
  refine KOps.loadBox hS (i := 1) rfl hp4 ?_
  refine KOps.fieldAddr hp3 ?_
  intro p8 hp8
  refine KOps.load hp8 (hS.rd 2 rfl) rfl ?_
  refine KOps.eql ?_
  refine KOps.done ?_
  refine sqQ.normal ?_
  refine KA.sub (Sub.cons (t := 3) Look.eq (Sub.cons (t := 4) Look.eq (Sub.cons (t := 5) Look.eq (Sub.cons (t := 10) Look.eq (Sub.nil _))))) ?_
  refine KA.condD ?_ ?_
  · intro c10
    have hbf : b = s.full := by omega
    subst hbf
    refine KA.seq ?_
    refine KA.region rfl ?_
    refine KOps.assign ?_
    refine KOps.done ?_
    refine sqQ.normal ?_
    refine KA.sub (Sub.cons (t := 6) Look.eq (Sub.nil _)) ?_
    refine KA.ret ?_
    refine sqQ.ret ?_
    refine fnQ.ret1 ?_
    exact ⟨L, hL, by rw [Sht.cntS_full]; rfl, St.drop (A := [_, _, _]) hS⟩
  · intro c10
    have hf : b ≠ s.full := fun e => c10 (by rw [e])
    refine KA.skip ?_
    refine sqQ.normal ?_
    refine KA.sub (Sub.cons (t := 3) Look.eq (Sub.cons (t := 4) Look.eq (Sub.cons (t := 5) Look.eq (Sub.nil _)))) ?_
    refine KA.seq ?_
    refine KA.region rfl ?_
    refine KOps.loadAll hS (i := 0) rfl hp5 (by rfl) (by decide) ?_
    refine KOps.loadBox hS (i := 1) rfl hp4 ?_
    refine KOps.makeFunc ?_
    refine KOps.call rfl (cntAsk_c hs hb hf (fun t x hx => hIH t x (Sht.fz_lt hb hf) hx) hp3 hp4 hp5 hvm hL (St.pickF (A := [_, _, _, _]) (A' := [_, _, _, _]) 4 [2, 1, 0, 3] rfl (by decide) (by decide) rfl hS)) ?_
    rintro _ h9 ⟨L2, hL2, rfl, hS9⟩
    have hS0 := (St.pickF (A := [_, _, _, _]) (A' := [_, _, _, _]) 4 [2, 1, 0, 3] rfl (by decide) (by decide) rfl hS9)
    clear hS
    have hS := hS0
    clear hS0
    simp only [List.cons_append, List.nil_append] at hS
    refine KOps.assign ?_
    refine KOps.done ?_
    refine sqQ.normal ?_
    refine KA.sub (Sub.cons (t := 6) Look.eq (Sub.nil _)) ?_
    refine KA.ret ?_
    refine fnQ.ret1 ?_
    exact ⟨L2, hL2, rfl, St.drop (A := [_, _, _]) hS⟩

theorem cnt_c {s : Sht} (hs : s.Ok) : ∀ (d b : Nat), b < 2 ^ s.n → s.n - s.fz b = d → CntC s b := by
  intro d
  induction d using Nat.strongRecOn with
  | _ d ih =>
    intro b hb hd h0 h vm L G hvm hL hS
    refine cntN_c hs hb (fun t x hlt hx => ?_) hvm hL hS
    obtain ⟨h1, h2⟩ := Sht.put_fz hs hb hlt hx
    exact ih (s.n - s.fz x) (by omega) x h1 rfl
end Go.Am

namespace Go.Am
theorem fnC.retC1 {P : Program} {n a m i b : Nat} {t : TypeId} {K : KF} {h0 h : AHeap} {R : AV → AHeap → Prop} {p v : AV} {xs : List AV} {tip : Bool} {objs : List Obj} (st : St h0 h objs) (hk : objs[i]? = some ⟨p, 0, xs, tip⟩) (ha : AddrOf p p 0 0) [hb : Eqb (Nat.ble n a) false] [hl : Look K a p] [hb2 : Eqb (Nat.ble n b) false] [hl2 : Look K b v] [ht : AgT P t m] (hx : xs.length = m) (hm : 0 < m) (hR : R (.tup [.agg xs, v]) h) : fnC P n [.cell a t, .tmp b] R .ret K h := by
  have hld := Rd.loadAgg (P := P) (t := t) (st.rd i hk) ha hm (by dsimp only; omega)
  refine ⟨.inr rfl, [.agg xs, v], ?_, hR⟩
  simp only [resKH, hb.eq, cond_false, hl.eq, hb2.eq, hl2.eq]
  rw [hld, List.drop_zero, List.take_of_length_le (by dsimp only; omega)]
  rfl
section
variable {P : Program} {n : Nat} {ops : Array Oper} {ex : List Nat} {Q : KF → AHeap → Prop} {k : Nat} {os : List Oper} {K : KF} {h : AHeap} {d : Nat} {ty : TypeId} {pos : String} {after : Array Edge}
theorem KOps.subN {t t' : TypeId} {x y : Operand} {kd : IntKind} {a b : Int} (i j : Nat) [hx : EvK h.globs n K x (.int kd a)] [hy : EvK h.globs n K y (.int kd b)] (ha : a = (i : Int)) (hb : b = (j : Int)) (hle : j ≤ i) (hi : i < topK kd) (hk : KOps P n ops ex Q (k + 1) os ((d, .int kd ((i - j : Nat) : Int)) :: K) h) :
    KOps P n ops ex Q k (⟨some d, .binOp .sub t x y t', ty, pos, after, none⟩ :: os) K h := by
  subst ha hb
  refine KOps.int (.inr (.inr rfl)) ?_ hk
  simp only [aint]
  rw [show (i : Int) - (j : Int) = ((i - j : Nat) : Int) by omega, wrapN (Nat.lt_of_le_of_lt (Nat.sub_le ..) hi)]
theorem KOps.addN {t t' : TypeId} {x y : Operand} {kd : IntKind} {a b : Int} (i j : Nat) [hx : EvK h.globs n K x (.int kd a)] [hy : EvK h.globs n K y (.int kd b)] (ha : a = (i : Int)) (hb : b = (j : Int)) (hi : i + j < topK kd) (hk : KOps P n ops ex Q (k + 1) os ((d, .int kd ((i + j : Nat) : Int)) :: K) h) :
    KOps P n ops ex Q k (⟨some d, .binOp .add t x y t', ty, pos, after, none⟩ :: os) K h := by
  subst ha hb
  refine KOps.int (.inr (.inr rfl)) ?_ hk
  simp only [aint]
  rw [show (i : Int) + (j : Int) = ((i + j : Nat) : Int) by omega, wrapN hi]
theorem KOps.mulN {t t' : TypeId} {x y : Operand} {kd : IntKind} {a b : Int} (i j : Nat) [hx : EvK h.globs n K x (.int kd a)] [hy : EvK h.globs n K y (.int kd b)] (ha : a = (i : Int)) (hb : b = (j : Int)) (hi : i * j < topK kd) (hk : KOps P n ops ex Q (k + 1) os ((d, .int kd ((i * j : Nat) : Int)) :: K) h) :
    KOps P n ops ex Q k (⟨some d, .binOp .mul t x y t', ty, pos, after, none⟩ :: os) K h := by
  subst ha hb
  refine KOps.int (.inr (.inr rfl)) ?_ hk
  simp only [aint]
  rw [show (i : Int) * (j : Int) = ((i * j : Nat) : Int) from (Int.natCast_mul ..).symm, wrapN hi]
end
end Go.Am

namespace Go.Am
theorem blk_shl {w c i : Nat} (hw : w ≤ 6) (hc : c ≤ 6) (hi : i < 6) : blkN w c i <<< c < topK .u64 := by
  rw [Nat.shiftLeft_eq]
  have h1 := blkN_lt w c i
  have h2 : (i - 1) * c ≤ 5 * 6 := Nat.mul_le_mul (by omega) hc
  have h3 : 2 ^ ((i - 1) * c + w) ≤ 2 ^ 36 := Nat.pow_le_pow_right (by decide) (by omega)
  have h4 : 2 ^ c ≤ 2 ^ 6 := Nat.pow_le_pow_right (by decide) hc
  calc blkN w c i * 2 ^ c ≤ 2 ^ 36 * 2 ^ 6 := Nat.mul_le_mul (by omega) h4
    _ < topK .u64 := by decide
theorem pow_ones {w : Nat} (hw : w ≤ 36) : 1 <<< w < topK .u64 := by
  rw [Nat.one_shiftLeft]
  have h4 : 2 ^ w ≤ 2 ^ 36 := Nat.pow_le_pow_right (by decide) hw
  exact Nat.lt_of_le_of_lt h4 (by decide)
theorem pow_ones' {w : Nat} (hw : w ≤ 36) : 2 ^ w - 1 < topK .u64 := by
  have := pow_ones hw
  rw [Nat.one_shiftLeft] at this
  have := Nat.two_pow_pos w
  omega
theorem cutCheck_c {h : AHeap} {s : Sht} (hs : s.Ok) : ACalls Go.Proofs.Try.prog 40 [.agg (shL s)] h (fun q h' => q = .int .i64 0 ∧ Keeps h h') := by
  refine KA.fn 29 [.tmp 2] Go.Proofs.Try.func40 rfl (by decide) rfl rfl (Nat.le_of_ble_eq_true rfl) ?_
  have hS := St.refl h
  have hsr := hs.r
  have hsc := hs.c
  have hsl := hs.l
  have hsw := hs.w
  show KA _ 29 _ _ [(0, .agg (shL s))] _
  refine KA.seq ?_
  refine KA.region rfl ?_
  refine KOps.boxAll hS (by first | rfl | (simp [AV.one]; done) | (simp [AV.one]; assumption) | (simp [AV.one, *]; done)) ?_
  intro p1 h' hp1 hS
  refine KOps.assign ?_
  refine KOps.done ?_
  refine sqQ.normal ?_
  refine KA.sub (Sub.cons (t := 1) Look.eq (Sub.nil _)) ?_
  refine KA.seq ?_
  refine KA.seq ?_
  refine KA.draw [] mixed rfl (by kernel_rfl) ?_
  refine KOps.fieldAddr hp1 ?_
  intro p5 hp5
  refine KOps.load hp5 (hS.rd 0 rfl) rfl ?_
  refine KOps.fieldAddr hp1 ?_
  intro p7 hp7
  refine KOps.load hp7 (hS.rd 0 rfl) rfl ?_
  refine KOps.fieldAddr hp1 ?_
  intro p9 hp9
  refine KOps.load hp9 (hS.rd 0 rfl) rfl ?_
  refine KOps.fieldAddr hp1 ?_
  intro p11 hp11
  refine KOps.load hp11 (hS.rd 0 rfl) rfl ?_
  refine KOps.min4 ?_
  refine KOps.fieldAddr hp1 ?_
  intro p14 hp14
  refine KOps.load hp14 (hS.rd 0 rfl) rfl ?_
  refine KOps.fieldAddr hp1 ?_
  intro p16 hp16
  refine KOps.load hp16 (hS.rd 0 rfl) rfl ?_
  refine KOps.fieldAddr hp1 ?_
  intro p18 hp18
  refine KOps.load hp18 (hS.rd 0 rfl) rfl ?_
  refine KOps.fieldAddr hp1 ?_
  intro p20 hp20
  refine KOps.load hp20 (hS.rd 0 rfl) rfl ?_
  refine KOps.max4 ?_
  refine KOps.assign ?_
  refine KOps.assign ?_
  refine KOps.done ?_
  refine sqQ.normal ?_
  refine KA.sub (Sub.cons (t := 3) Look.eq (Sub.cons (t := 4) Look.eq (Sub.nil _))) ?_
  refine KA.seq ?_
  refine KA.region rfl ?_
  refine KOps.move ?_
  refine KOps.lss ?_
  refine KOps.move ?_
  refine KOps.guardB (dj := 25) rfl rfl false true rfl ?_ ?_
  · intro g25
    have g25 := of_decide_eq_false g25
    refine KOps.move ?_
    refine KOps.guardYes (dj := 25) rfl rfl ?_
    refine KOps.gtr ?_
    refine KOps.pickF ?_
    refine KOps.done ?_
    refine sqQ.normal ?_
    refine KA.sub (Sub.cons (t := 28) Look.eq (Sub.nil _)) ?_
    refine KA.condD ?_ ?_
    · intro c28
      exfalso
      omega
    · intro c28
      refine KA.skip ?_
      refine sqQ.normal ?_
      refine KA.sub (Sub.nil _) ?_
      refine KA.seq ?_
      refine KA.region rfl ?_
      refine KOps.assign ?_
      refine KOps.done ?_
      refine sqQ.normal ?_
      refine KA.ret ?_
      refine fnQ.ret1 ?_
      exact ⟨rfl, hS.keeps⟩
  · intro g25
    have g25 := of_decide_eq_true g25
    exfalso
    omega

theorem block_c {h : AHeap} {hh w c : Nat} (hhh : hh ≤ 6) (hw : w ≤ 6) (hc : c ≤ 6) : ACalls Go.Proofs.Try.prog 41 [.int .i64 (hh : Int), .int .i64 (w : Int), .int .i64 (c : Int)] h (fun q h' => q = .int .u64 (blkN w c hh : Int) ∧ h = h') := by
  refine KA.fn 22 [.tmp 6] Go.Proofs.Try.func41 rfl (by decide) rfl rfl (Nat.le_of_ble_eq_true rfl) ?_
  show KA _ 22 _ _ [(0, .int .i64 (hh : Int)), (1, .int .i64 (w : Int)), (2, .int .i64 (c : Int))] _
  refine KA.seq ?_
  refine KA.region rfl ?_
  refine KOps.assign ?_
  refine KOps.done ?_
  refine sqQ.normal ?_
  refine KA.sub (Sub.cons (t := 0) Look.eq (Sub.cons (t := 1) Look.eq (Sub.cons (t := 2) Look.eq (Sub.nil _)))) ?_
  refine KA.seq ?_
  refine KA.draw [] mixed rfl (by kernel_rfl) ?_
  refine KOps.move ?_
  refine KOps.shlN (1) (w) rfl rfl (by show w ≤ 64; omega) (pow_ones (by omega)) ?_
  refine KOps.subN (1 <<< w) (1) rfl rfl (by rw [Nat.one_shiftLeft]; exact Nat.two_pow_pos w) (pow_ones (by omega)) ?_
  rw [Nat.one_shiftLeft]
  refine KOps.assign ?_
  refine KOps.assign ?_
  refine KOps.done ?_
  refine sqQ.normal ?_
  refine KA.sub (Sub.cons (t := 0) Look.eq (Sub.cons (t := 2) Look.eq (Sub.cons (t := 7) Look.eq (Sub.cons (t := 8) Look.eq (Sub.nil _))))) ?_
  refine KA.seq ?_
  refine KA.seq ?_
  refine KA.region rfl ?_
  refine KOps.move ?_
  refine KOps.move ?_
  refine KOps.done ?_
  refine sqQ.normal ?_
  refine KA.sub (Sub.cons (t := 2) Look.eq (Sub.cons (t := 7) Look.eq (Sub.cons (t := 8) Look.eq (Sub.cons (t := 12) Look.eq (Sub.cons (t := 13) Look.eq (Sub.nil _)))))) ?_
  refine KA.block ?_
  refine KA.loop (X := Nat) (fun i => [(2, .int .i64 (c : Int)), (7, .int .u64 (blkN w c i : Int)), (8, .int .u64 ((2 ^ w - 1 : Nat) : Int)), (12, .int .i64 (hh : Int)), (13, .int .i64 (i : Int))]) (fun i h' => i ≤ hh ∧ h = h') (fun i => hh - i) 0 (by repeat (first | exact Sub.nil _ | refine Sub.cons Look.eq ?_ | refine Sub.cons (Eq.trans Look.eq (congrArg (AV.int _) (by first | omega | (dsimp only; omega)))) ?_)) ?_ ?_
  · exact ⟨Nat.zero_le _, rfl⟩
  rintro i h2 ⟨hi, rfl⟩
  refine KA.seq ?_
  refine KA.region rfl ?_
  refine KOps.lss ?_
  refine KOps.done ?_
  refine sqQ.normal ?_
  refine KA.seq ?_
  refine KA.condD ?_ ?_
  · intro c14
    refine KA.skip ?_
    refine sqQ.normal ?_
    refine KA.sub (Sub.cons (t := 2) Look.eq (Sub.cons (t := 7) Look.eq (Sub.cons (t := 8) Look.eq (Sub.cons (t := 12) Look.eq (Sub.cons (t := 13) Look.eq (Sub.nil _)))))) ?_
    refine KA.seq ?_
    refine KA.block ?_
    refine KA.region rfl ?_
    refine KOps.move ?_
    refine KOps.move ?_
    refine KOps.shlN (blkN w c i) (c) rfl rfl (by show c ≤ 64; omega) (blk_shl hw hc (by omega)) ?_
    refine KOps.move ?_
    refine KOps.orN (blkN w c i <<< c) (2 ^ w - 1) rfl rfl (blk_shl hw hc (by omega)) (pow_ones' (by omega)) ?_
    refine KOps.assign ?_
    refine KOps.done ?_
    refine blQ.normal ?_
    refine sqQ.normal ?_
    refine KA.sub (Sub.cons (t := 2) Look.eq (Sub.cons (t := 7) Look.eq (Sub.cons (t := 8) Look.eq (Sub.cons (t := 12) Look.eq (Sub.cons (t := 13) Look.eq (Sub.nil _)))))) ?_
    refine KA.region rfl ?_
    refine KOps.add (by first | omega | (simp; omega)) (by first | omega | (simp; omega)) ?_
    refine KOps.move ?_
    refine KOps.done ?_
    exact lpQ.normal (i + 1) (by repeat (first | exact Sub.nil _ | refine Sub.cons Look.eq ?_ | refine Sub.cons (Eq.trans Look.eq (congrArg (AV.int _) (by first | omega | (dsimp only; omega)))) ?_)) ⟨by omega, rfl⟩ (by omega)
  · intro c14
    refine KA.exit ?_
    refine sqQ.exit ?_
    refine lpQ.exit ?_
    refine blQ.here ?_
    refine sqQ.normal ?_
    refine KA.sub (Sub.cons (t := 7) Look.eq (Sub.nil _)) ?_
    refine KA.seq ?_
    refine KA.region rfl ?_
    refine KOps.move ?_
    refine KOps.assign ?_
    refine KOps.done ?_
    refine sqQ.normal ?_
    refine KA.sub (Sub.cons (t := 6) Look.eq (Sub.nil _)) ?_
    refine KA.ret ?_
    refine fnQ.ret1 ?_
    obtain rfl : i = hh := by omega
    exact ⟨rfl, rfl⟩

theorem opened_c {h : AHeap} {s : Sht} (hs : s.Ok) : ACalls Go.Proofs.Try.prog 16 [.agg (shL s)] h (fun q h' => q = .tup [.agg (tbL s), .int .i64 0] ∧ Keeps h h') := by
  refine KA.fnH 35 [.cell 2 61, .tmp 3] Go.Proofs.Try.func16 rfl (by decide) rfl rfl (Nat.le_of_ble_eq_true rfl) ?_
  have hS := St.refl h
  have hsr := hs.r
  have hsc := hs.c
  have hsl := hs.l
  have hsw := hs.w
  have hsn := hs.n
  show KA _ 35 _ _ [(0, .agg (shL s))] _
  refine KA.seq ?_
  refine KA.region rfl ?_
  refine KOps.boxAll hS (by first | rfl | (simp [AV.one]; done) | (simp [AV.one]; assumption) | (simp [AV.one, *]; done)) ?_
  intro p1 h' hp1 hS
  refine KOps.alloc hS ?_
  intro p2 h' hp2 hS
  refine KOps.assign ?_
  refine KOps.done ?_
  refine sqQ.normal ?_
  refine KA.sub (Sub.cons (t := 1) Look.eq (Sub.cons (t := 2) Look.eq (Sub.nil _))) ?_
  refine KA.seq ?_
  refine KA.seq ?_
  refine KA.region rfl ?_
  refine KOps.loadAll hS (i := 1) rfl hp1 (by rfl) (by decide) ?_
  refine KOps.call rfl (cutCheck_c hs) ?_
  rintro _ hx ⟨rfl, hK⟩
  have hS0 : St _ _ _ := St.trans hS (St.ofK hK)
  clear hS
  have hS := hS0
  clear hS0
  simp only [List.nil_append] at hS
  refine KOps.assign ?_
  refine KOps.done ?_
  refine sqQ.normal ?_
  refine KA.sub (Sub.cons (t := 1) Look.eq (Sub.cons (t := 2) Look.eq (Sub.cons (t := 4) Look.eq (Sub.nil _)))) ?_
  refine KA.seq ?_
  refine KA.region rfl ?_
  refine KOps.move ?_
  refine KOps.neq ?_
  refine KOps.done ?_
  refine sqQ.normal ?_
  refine KA.sub (Sub.cons (t := 1) Look.eq (Sub.cons (t := 2) Look.eq (Sub.cons (t := 4) Look.eq (Sub.cons (t := 8) Look.eq (Sub.nil _))))) ?_
  refine KA.condN ?_ ?_
  · intro c8
    exact absurd rfl c8
  · intro c8
    refine KA.skip ?_
    refine sqQ.normal ?_
    refine KA.sub (Sub.cons (t := 1) Look.eq (Sub.cons (t := 2) Look.eq (Sub.nil _))) ?_
    refine KA.seq ?_
    refine KA.draw [7, 14] mixed rfl (by kernel_rfl) ?_
    refine KOps.loadAll hS (i := 1) rfl hp1 (by rfl) (by decide) ?_
    refine KOps.fieldAddr hp1 ?_
    intro p12 hp12
    refine KOps.load hp12 (hS.rd 1 rfl) rfl ?_
    refine KOps.fieldAddr hp1 ?_
    intro p14 hp14
    refine KOps.load hp14 (hS.rd 1 rfl) rfl ?_
    refine KOps.fieldAddr hp1 ?_
    intro p16 hp16
    refine KOps.load hp16 (hS.rd 1 rfl) rfl ?_
    refine KOps.callK (by rintro _ _ ⟨_, rfl⟩; exact Keeps.refl _) (block_c (by omega) (by omega) (by omega)) ?_
    rintro _ _ ⟨rfl, rfl⟩
    refine KOps.fieldAddr hp1 ?_
    intro p19 hp19
    refine KOps.load hp19 (hS.rd 1 rfl) rfl ?_
    refine KOps.fieldAddr hp1 ?_
    intro p21 hp21
    refine KOps.load hp21 (hS.rd 1 rfl) rfl ?_
    refine KOps.fieldAddr hp1 ?_
    intro p23 hp23
    refine KOps.load hp23 (hS.rd 1 rfl) rfl ?_
    refine KOps.callK (by rintro _ _ ⟨_, rfl⟩; exact Keeps.refl _) (block_c (by omega) (by omega) (by omega)) ?_
    rintro _ _ ⟨rfl, rfl⟩
    refine KOps.buildG (zs := [.int .u64 0, .int .u64 0]) (cs := [_, _]) (by kernel_rfl) (by rfl) (by kernel_rfl) (.cons (off := 0) (s := 1) (by kernel_rfl) (AV.cells_one (by first | rfl | assumption)) rfl (by decide) (.cons (off := 1) (s := 1) (by kernel_rfl) (AV.cells_one (by first | rfl | assumption)) rfl (by decide) .nil)) (by rfl) ?_
    refine KOps.fieldAddr hp1 ?_
    intro p27 hp27
    refine KOps.load hp27 (hS.rd 1 rfl) rfl ?_
    refine KOps.fieldAddr hp1 ?_
    intro p29 hp29
    refine KOps.load hp29 (hS.rd 1 rfl) rfl ?_
    refine KOps.mulN (s.r) (s.c) rfl rfl (Nat.lt_of_le_of_lt hsn.2 (by decide)) ?_
    refine KOps.shlN (1) (s.n) rfl rfl (by show s.n ≤ 64; omega) (pow_ones (by omega)) ?_
    refine KOps.subN (1 <<< s.n) (1) rfl rfl (by rw [Nat.one_shiftLeft]; exact Nat.two_pow_pos _) (pow_ones (by omega)) ?_
    rw [Nat.one_shiftLeft]
    refine KOps.buildG (zs := [.int .i64 0, .int .i64 0, .int .i64 0, .int .i64 0, .int .u64 0, .int .u64 0, .int .u64 0]) (cs := [_, _, _, _, _, _, _]) (by kernel_rfl) (by rfl) (by kernel_rfl) (.cons (off := 0) (s := 4) (by kernel_rfl) (cells_agg (by first | rfl | (simp [AV.one]; done) | (simp [AV.one, *]; done))) rfl (by decide) (.cons (off := 4) (s := 2) (by kernel_rfl) (cells_agg (by first | rfl | (simp [AV.one]; done) | (simp [AV.one, *]; done))) rfl (by decide) (.cons (off := 6) (s := 1) (by kernel_rfl) (AV.cells_one (by first | rfl | assumption)) rfl (by decide) .nil))) (by rfl) ?_
    refine KOps.storeAll hS rfl (i := 0) rfl hp2 (by first | rfl | (simp [AV.one]; done) | (simp [AV.one]; assumption) | (simp [AV.one, *]; done)) (by rfl) (by rfl) (by decide) ?_
    intro h' hS
    simp only [List.set_cons_zero, List.set_cons_succ, Nat.zero_add] at hS
    refine KOps.assign ?_
    refine KOps.done ?_
    refine sqQ.normal ?_
    refine KA.sub (Sub.cons (t := 2) Look.eq (Sub.cons (t := 3) Look.eq (Sub.nil _))) ?_
    refine KA.ret ?_
    refine fnC.retC1 hS (i := 0) rfl hp2 (by rfl) (by simp) ?_
    exact ⟨rfl, hS.keeps⟩

theorem ways_c {h : AHeap} {s : Sht} (hs : s.Ok) : ACalls Go.Proofs.Try.prog 50 [.agg (tbL s)] h (fun q h' => q = ctA (s.cntS 0) ∧ Keeps h h') := by
  refine KA.fn 7 [.tmp 2] Go.Proofs.Try.func50 rfl (by decide) rfl rfl (Nat.le_of_ble_eq_true rfl) ?_
  have hS := St.refl h
  show KA _ 7 _ _ [(0, .agg (tbL s))] _
  refine KA.seq ?_
  refine KA.region rfl ?_
  refine KOps.boxAll hS (by first | rfl | (simp [AV.one]; done) | (simp [AV.one]; assumption) | (simp [AV.one, *]; done)) ?_
  intro p1 h' hp1 hS
  refine KOps.assign ?_
  refine KOps.done ?_
  refine sqQ.normal ?_
  refine KA.sub (Sub.cons (t := 1) Look.eq (Sub.nil _)) ?_
  refine KA.seq ?_
  refine KA.region rfl ?_
  refine KOps.loadAll hS (i := 0) rfl hp1 (by rfl) (by decide) ?_
  refine KOps.makeMap hS rfl ?_
  intro v4 h' hv4 hS
  have hv4o : v4.one = true := by obtain ⟨_, rfl⟩ := hv4; rfl
  refine KOps.buildG (zs := [.nilm]) (cs := [_]) (by kernel_rfl) (by rfl) (by kernel_rfl) (.cons (off := 0) (s := 1) (by kernel_rfl) (AV.cells_one (by first | rfl | assumption)) rfl (by decide) .nil) (by rfl) ?_
  refine KOps.call rfl (cnt_c hs _ 0 (Nat.two_pow_pos _) rfl hv4 OkL.nil hS) ?_
  rintro _ h9 ⟨L2, hL2, rfl, hS9⟩
  have hS0 := hS9
  clear hS
  have hS := hS0
  clear hS0
  refine KOps.assign ?_
  refine KOps.done ?_
  refine sqQ.normal ?_
  refine KA.sub (Sub.cons (t := 2) Look.eq (Sub.nil _)) ?_
  refine KA.ret ?_
  refine fnQ.ret1 ?_
  exact ⟨rfl, hS.keeps⟩

theorem cutCount_c {h : AHeap} {s : Sht} (hs : s.Ok) : ACalls Go.Proofs.Try.prog 21 [.agg (shL s)] h (fun q h' => q = .tup [ctA (s.cntS 0), .int .i64 0] ∧ Keeps h h') := by
  refine KA.fn 16 [.tmp 2, .tmp 3] Go.Proofs.Try.func21 rfl (by decide) rfl rfl (Nat.le_of_ble_eq_true rfl) ?_
  have hS := St.refl h
  show KA _ 16 _ _ [(0, .agg (shL s))] _
  refine KA.seq ?_
  refine KA.region rfl ?_
  refine KOps.boxAll hS (by first | rfl | (simp [AV.one]; done) | (simp [AV.one]; assumption) | (simp [AV.one, *]; done)) ?_
  intro p1 h' hp1 hS
  refine KOps.assign ?_
  refine KOps.assign ?_
  refine KOps.done ?_
  refine sqQ.normal ?_
  refine KA.sub (Sub.cons (t := 1) Look.eq (Sub.nil _)) ?_
  refine KA.seq ?_
  refine KA.region rfl ?_
  refine KOps.loadAll hS (i := 0) rfl hp1 (by rfl) (by decide) ?_
  refine KOps.call rfl (opened_c hs) ?_
  rintro _ hx ⟨rfl, hK⟩
  have hS0 : St _ _ _ := St.trans hS (St.ofK hK)
  clear hS
  have hS := hS0
  clear hS0
  simp only [List.nil_append] at hS
  refine KOps.move ?_
  refine KOps.extract ?_
  refine KOps.extract ?_
  refine KOps.alloc hS ?_
  intro p4 h' hp4 hS
  refine KOps.storeAll hS rfl (i := 0) rfl hp4 (by first | rfl | (simp [AV.one]; done) | (simp [AV.one]; assumption) | (simp [AV.one, *]; done)) (by rfl) (by rfl) (by decide) ?_
  intro h' hS
  simp only [List.set_cons_zero, List.set_cons_succ, Nat.zero_add] at hS
  refine KOps.assign ?_
  refine KOps.done ?_
  refine sqQ.normal ?_
  refine KA.sub (Sub.cons (t := 4) Look.eq (Sub.cons (t := 5) Look.eq (Sub.nil _))) ?_
  refine KA.seq ?_
  refine KA.seq ?_
  refine KA.region rfl ?_
  refine KOps.move ?_
  refine KOps.neq ?_
  refine KOps.done ?_
  refine sqQ.normal ?_
  refine KA.sub (Sub.cons (t := 4) Look.eq (Sub.cons (t := 5) Look.eq (Sub.cons (t := 12) Look.eq (Sub.nil _)))) ?_
  refine KA.condN ?_ ?_
  · intro c12
    exact absurd rfl c12
  · intro c12
    refine KA.skip ?_
    refine sqQ.normal ?_
    refine KA.sub (Sub.cons (t := 4) Look.eq (Sub.nil _)) ?_
    refine KA.seq ?_
    refine KA.region rfl ?_
    refine KOps.loadAll hS (i := 0) rfl hp4 (by rfl) (by decide) ?_
    refine KOps.call rfl (ways_c hs) ?_
    rintro _ hx ⟨rfl, hK⟩
    have hS0 : St _ _ _ := St.trans hS (St.ofK hK)
    clear hS
    have hS := hS0
    clear hS0
    simp only [List.nil_append] at hS
    refine KOps.assign ?_
    refine KOps.assign ?_
    refine KOps.done ?_
    refine sqQ.normal ?_
    refine KA.sub (Sub.cons (t := 2) Look.eq (Sub.cons (t := 3) Look.eq (Sub.nil _))) ?_
    refine KA.ret ?_
    refine fnQ.retN ?_
    exact ⟨rfl, hS.keeps⟩

end Go.Am

namespace Go.Am
theorem same_no {a b : List Int} {i : Nat} (hi : i < a.length) (h : ¬ a.getD i 0 = b.getD i 0) : decide (a = b) = false := decide_eq_false fun e => h (by rw [e])
theorem same_yes {a b : List Int} (hl : a.length = b.length) (h : ∀ j, j < a.length → a.getD j 0 = b.getD j 0) : decide (a = b) = true := decide_eq_true (extJ hl fun i => by
  by_cases hi : i < a.length
  · exact h i hi
  · rw [List.getD_eq_getElem?_getD, List.getD_eq_getElem?_getD, List.getElem?_eq_none (by omega), List.getElem?_eq_none (by omega)])
def wT : List W := [⟨0, 1, 5, 9⟩, ⟨1, 2, 0, 7⟩, ⟨2, 0, 4, 6⟩]
theorem agrWT : agreeE 3 wT = 0 := by decide +kernel

theorem list_c {h : AHeap} {v : AV} : ACalls Go.Proofs.Try.prog 10 [v] h (fun q h' => q = v ∧ h = h') := by
  refine KA.fn 4 [.tmp 2] Go.Proofs.Try.func10 rfl (by decide) rfl rfl (Nat.le_of_ble_eq_true rfl) ?_
  show KA _ 4 _ _ [(0, v)] _
  refine KA.seq ?_
  refine KA.region rfl ?_
  refine KOps.assign ?_
  refine KOps.done ?_
  refine sqQ.normal ?_
  refine KA.sub (Sub.cons (t := 0) Look.eq (Sub.nil _)) ?_
  refine KA.seq ?_
  refine KA.region rfl ?_
  refine KOps.move ?_
  refine KOps.assign ?_
  refine KOps.done ?_
  refine sqQ.normal ?_
  refine KA.sub (Sub.cons (t := 2) Look.eq (Sub.nil _)) ?_
  refine KA.ret ?_
  refine fnQ.ret1 ?_
  exact ⟨rfl, rfl⟩

theorem same_c {h : AHeap} {v u : AV} {a b : List Int} (hv : Row h v a) (hu : Row h u b) (hla : a.length ≤ 1000000) : ACalls Go.Proofs.Try.prog 14 [v, u] h (fun q h' => q = .bool (decide (a = b)) ∧ h = h') := by
  refine KA.fn 26 [.tmp 4] Go.Proofs.Try.func14 rfl (by decide) rfl rfl (Nat.le_of_ble_eq_true rfl) ?_
  show KA _ 26 _ _ [(0, v), (1, u)] _
  refine KA.seq ?_
  refine KA.region rfl ?_
  refine KOps.assign ?_
  refine KOps.done ?_
  refine sqQ.normal ?_
  refine KA.sub (Sub.cons (t := 0) Look.eq (Sub.cons (t := 1) Look.eq (Sub.nil _))) ?_
  refine KA.seq ?_
  refine KA.seq ?_
  refine KA.region rfl ?_
  refine KOps.move ?_
  refine KOps.lenI hv ?_
  refine KOps.move ?_
  refine KOps.lenI hu ?_
  refine KOps.neq ?_
  refine KOps.done ?_
  refine sqQ.normal ?_
  refine KA.sub (Sub.cons (t := 0) Look.eq (Sub.cons (t := 1) Look.eq (Sub.cons (t := 10) Look.eq (Sub.nil _)))) ?_
  refine KA.condN ?_ ?_
  · intro c10
    refine KA.seq ?_
    refine KA.region rfl ?_
    refine KOps.assign ?_
    refine KOps.done ?_
    refine sqQ.normal ?_
    refine KA.sub (Sub.cons (t := 4) Look.eq (Sub.nil _)) ?_
    refine KA.ret ?_
    refine sqQ.ret ?_
    refine fnQ.ret1 ?_
    refine ⟨congrArg AV.bool (decide_eq_false fun e => ?_).symm, rfl⟩
    subst e
    omega
  · intro c10
    have hlab : a.length = b.length := by omega
    refine KA.skip ?_
    refine sqQ.normal ?_
    refine KA.sub (Sub.cons (t := 0) Look.eq (Sub.cons (t := 1) Look.eq (Sub.nil _))) ?_
    refine KA.seq ?_
    refine KA.seq ?_
    refine KA.region rfl ?_
    refine KOps.move ?_
    refine KOps.lenI hv ?_
    refine KOps.move ?_
    refine KOps.done ?_
    refine sqQ.normal ?_
    refine KA.sub (Sub.cons (t := 0) Look.eq (Sub.cons (t := 1) Look.eq (Sub.cons (t := 12) Look.eq (Sub.cons (t := 13) Look.eq (Sub.nil _))))) ?_
    refine KA.block ?_
    refine KA.loop (X := Nat) (fun i => [(0, v), (1, u), (12, .int .i64 (a.length : Int)), (13, .int .i64 (i : Int))]) (fun i h' => h = h' ∧ i ≤ a.length ∧ ∀ j, j < i → a.getD j 0 = b.getD j 0) (fun i => a.length - i) 0 (by repeat (first | exact Sub.nil _ | refine Sub.cons Look.eq ?_ | refine Sub.cons (Eq.trans Look.eq (congrArg (AV.int _) (by first | omega | (dsimp only; omega)))) ?_)) ?_ ?_
    · exact ⟨rfl, Nat.zero_le _, fun j hj => by omega⟩
    rintro i _ ⟨rfl, hi, hj⟩
    refine KA.seq ?_
    refine KA.region rfl ?_
    refine KOps.lss ?_
    refine KOps.done ?_
    refine sqQ.normal ?_
    refine KA.seq ?_
    refine KA.condD ?_ ?_
    · intro c14
      refine KA.skip ?_
      refine sqQ.normal ?_
      refine KA.sub (Sub.cons (t := 0) Look.eq (Sub.cons (t := 1) Look.eq (Sub.cons (t := 12) Look.eq (Sub.cons (t := 13) Look.eq (Sub.nil _))))) ?_
      refine KA.seq ?_
      refine KA.block ?_
      refine KA.seq ?_
      refine KA.region rfl ?_
      refine KOps.move ?_
      refine KOps.assign ?_
      refine KOps.done ?_
      refine sqQ.normal ?_
      refine KA.sub (Sub.cons (t := 0) Look.eq (Sub.cons (t := 1) Look.eq (Sub.cons (t := 5) Look.eq (Sub.cons (t := 12) Look.eq (Sub.cons (t := 13) Look.eq (Sub.nil _)))))) ?_
      refine KA.seq ?_
      refine KA.draw [] mixed rfl (by kernel_rfl) ?_
      refine KOps.move ?_
      refine KOps.move ?_
      refine KOps.indexIJ hv (j := i) rfl (by first | omega | (simp; done) | (simp; omega)) ?_
      intro p18 hp18
      refine KOps.loadI hp18 hv (by first | omega | (simp; done) | (simp; omega)) ?_
      refine KOps.move ?_
      refine KOps.move ?_
      refine KOps.indexIJ hu (j := i) rfl (by first | omega | (simp; done) | (simp; omega)) ?_
      intro p22 hp22
      refine KOps.loadI hp22 hu (by first | omega | (simp; done) | (simp; omega)) ?_
      refine KOps.neq ?_
      refine KOps.done ?_
      refine sqQ.normal ?_
      refine KA.sub (Sub.cons (t := 0) Look.eq (Sub.cons (t := 1) Look.eq (Sub.cons (t := 12) Look.eq (Sub.cons (t := 13) Look.eq (Sub.cons (t := 24) Look.eq (Sub.nil _)))))) ?_
      refine KA.condN ?_ ?_
      · intro c24
        refine KA.seq ?_
        refine KA.region rfl ?_
        refine KOps.assign ?_
        refine KOps.done ?_
        refine sqQ.normal ?_
        refine KA.sub (Sub.cons (t := 4) Look.eq (Sub.nil _)) ?_
        refine KA.ret ?_
        refine blQ.ret ?_
        refine sqQ.ret ?_
        refine lpQ.ret ?_
        refine blQ.ret ?_
        refine sqQ.ret ?_
        refine fnQ.ret1 ?_
        exact ⟨congrArg AV.bool (same_no (i := i) (by omega) (by omega)).symm, rfl⟩
      · intro c24
        refine KA.skip ?_
        refine blQ.normal ?_
        refine sqQ.normal ?_
        refine KA.sub (Sub.cons (t := 0) Look.eq (Sub.cons (t := 1) Look.eq (Sub.cons (t := 12) Look.eq (Sub.cons (t := 13) Look.eq (Sub.nil _))))) ?_
        refine KA.region rfl ?_
        refine KOps.add (by first | omega | (simp; omega)) (by first | omega | (simp; omega)) ?_
        refine KOps.move ?_
        refine KOps.done ?_
        refine lpQ.normal (i + 1) (by repeat (first | exact Sub.nil _ | refine Sub.cons Look.eq ?_ | refine Sub.cons (Eq.trans Look.eq (congrArg (AV.int _) (by first | omega | (dsimp only; omega)))) ?_)) ⟨rfl, by omega, ?_⟩ (by omega)
        intro j hj2
        rcases Nat.lt_succ_iff_lt_or_eq.1 hj2 with h3 | rfl
        · exact hj j h3
        · omega
    · intro c14
      refine KA.exit ?_
      refine sqQ.exit ?_
      refine lpQ.exit ?_
      refine blQ.here ?_
      refine sqQ.normal ?_
      refine KA.sub (Sub.nil _) ?_
      refine KA.seq ?_
      refine KA.region rfl ?_
      refine KOps.assign ?_
      refine KOps.done ?_
      refine sqQ.normal ?_
      refine KA.ret ?_
      refine fnQ.ret1 ?_
      exact ⟨congrArg AV.bool (same_yes (by omega) (fun j h3 => hj j (by omega))).symm, rfl⟩

end Go.Am

namespace Go.Am

/-- The value with other block numbers; what lies in the first blocks is forgotten. -/
def AV.shm (m d : Nat) : Nat → AV → AV
  | _, .ptr b o => if b < m then .bot else .ptr (d + (b - m)) o
  | _, .slc b o n s f => if b < m then .bot else .slc (d + (b - m)) o n s f
  | _, .nilp => .nilp
  | _, .nils => .nils
  | _, .nilm => .nilm
  | _, .nilf => .nilf
  | _, .bool b => .bool b
  | _, .int k n => .int k n
  | _, .str s => .str s
  | n + 1, .fn f l => .fn f (l.map (AV.shm m d n))
  | n + 1, .agg l => .agg (l.map (AV.shm m d n))
  | n + 1, .tup l => .tup (l.map (AV.shm m d n))
  | _, _ => .bot

theorem AV.shm_rel {φ φ' : Emb} {m d : Nat} (hφ : ∀ b p, m ≤ b → φ b = some p → φ' (d + (b - m)) = some p) : ∀ (n : Nat) (x : AV) (v : Value), VRel φ x v → VRel φ' (AV.shm m d n x) v := by
  have hl : ∀ (n : Nat), (∀ (x : AV) (v : Value), VRel φ x v → VRel φ' (AV.shm m d n x) v) → ∀ (l : List AV) (cs : List Value), (∀ (j : Nat) (x : AV) (y : Value), l[j]? = some x → cs[j]? = some y → VRel φ x y) → ∀ (j : Nat) (x : AV) (y : Value), (l.map (AV.shm m d n))[j]? = some x → cs[j]? = some y → VRel φ' x y := by
    intro n ih l cs h j x y hx hy
    rw [List.getElem?_map, Option.map_eq_some_iff] at hx
    obtain ⟨q, hq, rfl⟩ := hx
    exact ih q y (h j q y hq hy)
  have hp : ∀ (b o k i z : Nat), φ b = some (k, i, z) → VRel φ' (if b < m then .bot else .ptr (d + (b - m)) o) (.pointer (some ⟨k, i + o, none⟩)) := by
    intro b o k i z h
    split
    · exact .bot _
    · exact .ptr _ _ _ _ _ (hφ _ _ (by omega) h)
  have hs : ∀ (b o n s : Nat) (full : Bool) (a : Addr) (c : Nat), n ≤ c → c ≤ maxLen → (full = true → c = n) → (c = 0 ∨ ∃ k i z, φ b = some (k, i, z) ∧ a = ⟨k, i + o, none⟩ ∧ i + o + c * s ≤ z) → VRel φ' (if b < m then .bot else .slc (d + (b - m)) o n s full) (.slice (some a) n c) := by
    intro b o n s full a c hn hc hf hadr
    split
    · exact .bot _
    · refine .slc _ _ _ _ _ _ _ hn hc hf ?_
      rcases hadr with h | ⟨k, i, z, h1, h2, h3⟩
      · exact .inl h
      · exact .inr ⟨k, i, z, hφ _ _ (by omega) h1, h2, h3⟩
  intro n
  induction n with
  | zero =>
    intro x v h
    cases h <;> simp only [AV.shm] <;> first
      | exact .bot _ | exact .bool _ | exact .int _ _ | exact .str _ | exact .nilp | exact .nils | exact .nilm | exact .nilf
      | exact hp _ _ _ _ _ (by assumption)
      | skip
    rename_i a c hn hc hf hadr
    exact hs _ _ _ _ _ _ _ hn hc hf hadr
  | succ n ih =>
    intro x v h
    cases h <;> simp only [AV.shm] <;> first
      | exact .bot _ | exact .bool _ | exact .int _ _ | exact .str _ | exact .nilp | exact .nils | exact .nilm | exact .nilf
      | exact hp _ _ _ _ _ (by assumption)
      | skip
    · rename_i a c hn hc hf hadr
      exact hs _ _ _ _ _ _ _ hn hc hf hadr
    · rename_i hl' hh
      exact .fn _ _ _ (by simpa using hl') (hl n ih _ _ hh)
    · rename_i hl' hh
      exact .agg _ _ (by simpa using hl') (hl n ih _ _ hh)
    · rename_i hl' hh
      exact .tup _ _ (by simpa using hl') (hl n ih _ _ hh)

/-- A block, only to be read. -/
def frozBm (h1 : AHeap) (m d : Nat) (i : Nat) : Blk → Blk
  | .cells _ _ cs => if h1.valid i then .cells none 0 (cs.map (AV.shm m d 4)) else .cells none 0 []
  | .obj _ _ => .cells none 0 []
def AHeap.frozm (h : AHeap) (m : Nat) (h1 : AHeap) : AHeap := ⟨h.blks ++ (h1.blks.mapIdx (frozBm h1 m h.next)).drop m, h.fams, h.globs⟩

theorem frozm_next (h : AHeap) (m : Nat) (h1 : AHeap) : (h.frozm m h1).next = h.next + (h1.next - m) := by simp [AHeap.frozm, AHeap.next]
theorem frozm_old (h : AHeap) (m : Nat) (h1 : AHeap) {b : Nat} (hb : b < h.next) : (h.frozm m h1).get b = h.get b := List.getElem?_append_left hb
theorem frozm_new (h : AHeap) (m : Nat) (h1 : AHeap) (b : Nat) : (h.frozm m h1).get (h.next + b) = (h1.get (m + b)).map (frozBm h1 m h.next (m + b)) := by
  simp only [AHeap.frozm, AHeap.get, AHeap.next]
  rw [List.getElem?_append_right (by omega), Nat.add_sub_cancel_left, List.getElem?_drop, List.getElem?_mapIdx]
theorem frozm_keeps (h : AHeap) (m : Nat) (h1 : AHeap) : Keeps h (h.frozm m h1) := ⟨by rw [frozm_next]; omega, Nat.le_refl _, rfl, fun b hb => frozm_old h m h1 hb, fun _ _ => rfl⟩
theorem frozm_ro {h : AHeap} {m : Nat} {h1 : AHeap} {b : Nat} {B : Blk} (hb : h.next ≤ b) (hB : (h.frozm m h1).get b = some B) : ∃ cs, B = .cells none 0 cs := by
  obtain ⟨q, rfl⟩ : ∃ q, b = h.next + q := ⟨b - h.next, by omega⟩
  rw [frozm_new, Option.map_eq_some_iff] at hB
  obtain ⟨C, _, rfl⟩ := hB
  unfold frozBm
  split
  · split
    · exact ⟨_, rfl⟩
    · exact ⟨_, rfl⟩
  · exact ⟨_, rfl⟩

theorem Ev.over {P : Program} {f : FuncId} {args args' : List AV} {r : AV} {hA h1 : AHeap} (he : Ev P f args' hA r h1) (hro : ∀ b B, hA.get b = some B → ∃ p cs, B = .cells none p cs) (h : AHeap)
    (hrel : ∀ φ w cs, HRel φ h w → VRels φ args cs → ∃ φA, (∀ b, hA.next ≤ b → φA b = none) ∧ HRel φA hA w ∧ VRels φA args' cs) : Ev P f args h (AV.shm hA.next h.next 4 r) (h.frozm hA.next h1) := by
  obtain ⟨hrun, hgrow, hev⟩ := he
  have hm : hA.next ≤ h1.next := hgrow.next
  generalize hmm : hA.next = m at *
  refine ⟨hrun, ⟨(frozm_keeps h m h1).next, Nat.le_refl _, rfl, fun b hb => by rw [frozm_old h m h1 hb]⟩, ?_⟩
  intro φ w cs hfr rr ha
  obtain ⟨φA, hfA, hrA, hvA⟩ := hrel φ w cs rr ha
  refine (hev φA w cs (fun b h1 _ => hfA b (by omega)) hrA hvA).mono ?_
  rintro e w' ⟨v, φ', rfl, t, r', hv⟩
  have hk : ∀ k, k < w.heap.size → w'.heap[k]? = w.heap[k]? := fun k hk => t.frame k hk (by
    rintro ⟨b, i, z, hb, ⟨F, p, cs, hm⟩ | ⟨F, x, hm⟩⟩
    · obtain ⟨_, _, h2⟩ := hro _ _ hm; cases h2
    · obtain ⟨_, _, h2⟩ := hro _ _ hm; cases h2)
  have himg : ∀ b k i z, m ≤ b → φ' b = some (k, i, z) → w.heap.size ≤ k := by
    intro b k i z hmb hb
    rcases t.img b k i z (hfA b hmb) hb with h2 | ⟨_, _, _, _, _, _, h2, h3⟩
    · exact h2
    · obtain ⟨_, _, h4⟩ := hro _ _ h3; cases h4
  have hdom : ∀ b p, m ≤ b → φ' b = some p → b < h1.next := fun b p hmb hb => (t.new b p (hfA b hmb) hb).2
  let ψ : Emb := fun b => if h.next ≤ b ∧ b < h.next + (h1.next - m) then φ' (m + (b - h.next)) else φ b
  have hψ : ∀ b p, ψ b = some p → (h.next ≤ b ∧ φ' (m + (b - h.next)) = some p) ∨ (¬ (h.next ≤ b ∧ b < h.next + (h1.next - m)) ∧ φ b = some p) := by
    intro b p hb
    by_cases hc : h.next ≤ b ∧ b < h.next + (h1.next - m)
    · simp only [ψ, if_pos hc] at hb; exact .inl ⟨hc.1, hb⟩
    · simp only [ψ, if_neg hc] at hb; exact .inr ⟨hc, hb⟩
  have hnew : ∀ b p, m ≤ b → φ' b = some p → ψ (h.next + (b - m)) = some p := by
    intro b p hmb hb
    have := hdom b p hmb hb
    simp only [ψ]
    rw [if_pos ⟨by omega, by omega⟩, Nat.add_sub_cancel_left, show m + (b - m) = b by omega]; exact hb
  have hle : φ.le ψ := by
    intro b p hb
    have : ¬ (h.next ≤ b ∧ b < h.next + (h1.next - m)) := by
      rintro ⟨c1, c2⟩
      have := hfr b c1 (by rw [frozm_next]; exact c2)
      rw [hb] at this; cases this
    simp only [ψ, if_neg this]; exact hb
  have hold : ∀ b B, ¬ (h.next ≤ b ∧ b < h.next + (h1.next - m)) → (h.frozm m h1).get b = some B → b < h.next ∧ h.get b = some B := by
    intro b B hc hB
    have h2 := AHeap.get_lt hB
    rw [frozm_next] at h2
    have h3 : b < h.next := by omega
    rw [frozm_old h m h1 h3] at hB
    exact ⟨h3, hB⟩
  have hfm : ∀ b F p cs', (h.frozm m h1).get b = some (.cells (some F) p cs') → b < h.next ∧ h.get b = some (.cells (some F) p cs') := by
    intro b F p cs' hB
    by_cases hb : b < h.next
    · rw [frozm_old h m h1 hb] at hB; exact ⟨hb, hB⟩
    · obtain ⟨_, h2⟩ := frozm_ro (by omega) hB
      cases h2
  have hom : ∀ b F x, (h.frozm m h1).get b = some (.obj F x) → b < h.next ∧ h.get b = some (.obj F x) := by
    intro b F x hB
    by_cases hb : b < h.next
    · rw [frozm_old h m h1 hb] at hB; exact ⟨hb, hB⟩
    · obtain ⟨_, h2⟩ := frozm_ro (by omega) hB
      cases h2
  have hψold : ∀ b p, b < h.next → ψ b = some p → φ b = some p := by
    intro b p hb h2
    rcases hψ b p h2 with ⟨h3, _⟩ | ⟨_, h3⟩
    · omega
    · exact h3
  refine ⟨v, ψ, rfl, ⟨hle, ?_, ?_, ?_, fun k hk' _ => hk k hk', t.os, t.tape, t.output, t.size⟩, ?_, AV.shm_rel hnew 4 r v hv⟩
  · intro b h2 h3
    rw [frozm_next] at h3
    obtain ⟨p, hp⟩ := t.dom (m + (b - h.next)) (by omega) (by omega)
    refine ⟨p, ?_⟩
    have := hnew _ _ (by omega) hp
    rwa [show h.next + (m + (b - h.next) - m) = b by omega] at this
  · intro b p h2 h3
    rw [frozm_next]
    rcases hψ b p h3 with ⟨h4, h5⟩ | ⟨_, h4⟩
    · have := hdom _ _ (by omega) h5; omega
    · rw [h2] at h4; cases h4
  · intro b k i z h2 h3
    rcases hψ b _ h3 with ⟨h4, h5⟩ | ⟨_, h4⟩
    · exact .inl (himg _ _ _ _ (by omega) h5)
    · rw [h2] at h4; cases h4
  refine ⟨?_, ?_, ?_, ?_, ?_, ?_, ?_, ?_⟩
  · intro g hg
    obtain ⟨z, hz⟩ := rr.glob g hg
    exact ⟨z, hle _ _ hz⟩
  · intro b k i z hb
    rcases hψ b _ hb with ⟨_, h5⟩ | ⟨_, h4⟩
    · exact r'.lt _ _ _ _ h5
    · exact Nat.lt_of_lt_of_le (rr.lt b k i z h4) t.size
  · intro b k i z B hb hB hvd
    by_cases hlt : b < h.next
    · have hb' := hψold b _ hlt hb
      rw [frozm_old h m h1 hlt] at hB
      refine ((rr.blk b k i z B hb' hB ?_).world (hk k (rr.lt b k i z hb'))).mono hle
      unfold AHeap.valid at hvd ⊢
      rw [frozm_old h m h1 hlt] at hvd
      exact hvd
    · obtain ⟨q, rfl⟩ : ∃ q, b = h.next + q := ⟨b - h.next, by omega⟩
      rw [frozm_new, Option.map_eq_some_iff] at hB
      obtain ⟨C, hC, rfl⟩ := hB
      have hbq : φ' (m + q) = some (k, i, z) := by
        rcases hψ _ _ hb with ⟨_, h5⟩ | ⟨h4, _⟩
        · rwa [Nat.add_sub_cancel_left] at h5
        · exact absurd ⟨by omega, by have := AHeap.get_lt hC; omega⟩ h4
      cases C with
      | obj F x => exact ⟨by intro j x hx; simp at hx, fun h0 => absurd h0 (by decide)⟩
      | cells F p cs' =>
        simp only [frozBm]
        split
        · rename_i hval
          have hBR := r'.blk (m + q) k i z _ hbq hC hval
          refine ⟨?_, fun h0 => absurd h0 (by decide)⟩
          intro j x hx
          rw [List.getElem?_map, Option.map_eq_some_iff] at hx
          obtain ⟨y, hy, rfl⟩ := hx
          obtain ⟨u, hu, hru⟩ := hBR.cell hy
          exact ⟨u, hu, AV.shm_rel hnew 4 y u hru⟩
        · exact ⟨by intro j x hx; simp at hx, fun h0 => absurd h0 (by decide)⟩
  · intro b k i z F p cs' hb hB
    obtain ⟨hlt, hB'⟩ := hfm b F p cs' hB
    have hb' := hψold b _ hlt hb
    obtain ⟨c, e, h2, h3⟩ := rr.arr b k i z F p cs' hb' hB'
    exact ⟨c, e, h2.old (hk k (rr.lt b k i z hb')), h3⟩
  · intro b b' k i i' z z' F F' p p' c1 c2 hb hb' hB hB'
    obtain ⟨hlt, hB⟩ := hfm b F p c1 hB
    obtain ⟨hlt', hB'⟩ := hfm b' F' p' c2 hB'
    exact rr.one b b' k i i' z z' F F' p p' c1 c2 (hψold b _ hlt hb) (hψold b' _ hlt' hb') hB hB'
  · intro b b' k i i' z z' F p p' c1 c2 hb hb' hB hB'
    obtain ⟨hlt, hB⟩ := hfm b F p c1 hB
    have hb1 := hψold b _ hlt hb
    have hk1 := rr.lt b k i z hb1
    rcases hψ b' _ hb' with ⟨_, h5⟩ | ⟨h4, h5⟩
    · have := himg _ _ _ _ (by omega) h5; omega
    · obtain ⟨_, hB2⟩ := hold b' _ h4 hB'
      exact rr.sep b b' k i i' z z' F p p' c1 c2 hb1 h5 hB hB2
  · intro b b' k i i' z z' F x B hb hb' hB hB'
    obtain ⟨hlt, hB⟩ := hom b F x hB
    have hb1 := hψold b _ hlt hb
    have hk1 := rr.lt b k i z hb1
    rcases hψ b' _ hb' with ⟨_, h5⟩ | ⟨h4, h5⟩
    · have := himg _ _ _ _ (by omega) h5; omega
    · obtain ⟨_, hB2⟩ := hold b' _ h4 hB'
      exact rr.map b b' k i i' z z' F x B hb1 h5 hB hB2
  · intro b F p cs' hB
    obtain ⟨hlt, hB'⟩ := hfm b F p cs' hB
    exact rr.ext b F p cs' hB'

end Go.Am

namespace Go.Am

/-- A row of the arguments: its value, the cells of an element, its cells, and these as the kernel's run has them. -/
structure ArgB where
  v : AV
  s : Nat
  xs : List AV
  ys : List AV

/-- Values without addresses, compared. -/
def AV.isP : Nat → AV → AV → Bool
  | _, .bool a, .bool b => a == b
  | _, .int k a, .int k' b => decide (k = k') && decide (a = b)
  | _, .str a, .str b => decide (a = b)
  | _, .nils, .nils => true
  | n + 1, .tup l, .tup l' => decide (l.length = l'.length) && (l.zip l').all fun p => AV.isP n p.1 p.2
  | n + 1, .agg l, .agg l' => decide (l.length = l'.length) && (l.zip l').all fun p => AV.isP n p.1 p.2
  | _, _, _ => false
theorem isPs_eq {f : AV → AV → Bool} (hf : ∀ x y, f x y = true → x = y) : ∀ l l' : List AV, l.length = l'.length → ((l.zip l').all fun p => f p.1 p.2) = true → l = l' := by
  intro l
  induction l with
  | nil => intro l' h _; cases l' with
    | nil => rfl
    | cons _ _ => cases h
  | cons a l ih => intro l' h h2; cases l' with
    | nil => cases h
    | cons b l' =>
      rw [List.zip_cons_cons, List.all_cons, Bool.and_eq_true] at h2
      have e : a = b := hf _ _ h2.1
      rw [e, ih l' (Nat.succ.inj h) h2.2]
theorem AV.isP_eq : ∀ (n : Nat) (x y : AV), AV.isP n x y = true → x = y := by
  intro n
  induction n with
  | zero =>
    intro x y h
    unfold AV.isP at h
    split at h
    · rw [beq_iff_eq] at h; rw [h]
    · rw [Bool.and_eq_true, decide_eq_true_iff, decide_eq_true_iff] at h; rw [h.1, h.2]
    · rw [decide_eq_true_iff] at h; rw [h]
    · rfl
    · rename_i e; cases e
    · rename_i e; cases e
    · cases h
  | succ n ih =>
    intro x y h
    unfold AV.isP at h
    split at h
    · rw [beq_iff_eq] at h; rw [h]
    · rw [Bool.and_eq_true, decide_eq_true_iff, decide_eq_true_iff] at h; rw [h.1, h.2]
    · rw [decide_eq_true_iff] at h; rw [h]
    · rfl
    · rename_i e
      cases e
      rw [Bool.and_eq_true, decide_eq_true_iff] at h
      rw [isPs_eq ih _ _ h.1 h.2]
    · rename_i e
      cases e
      rw [Bool.and_eq_true, decide_eq_true_iff] at h
      rw [isPs_eq ih _ _ h.1 h.2]
    · cases h
end Go.Am
