/-
  Layer 08: contracts: bits that are counted, the lowest one; how many words can be safe.
  Conditions: none.
-/
import Derived.Test.YtfoiccnlcheklaaDoorWp
import Derived.Test.YtfoiccnlcheklaaDoorAmN
import Derived.Test.YtfoiccnlcheklaaDoorCa
import Derived.Test.YtfoiccnlcheklaaDoorRows
import Derived.MakeChecks
import Derived.Test.YtfoiccnlcheklaaDoorCe
namespace Go.Am
abbrev popS : ByteArray := ⟨(([0, 1, 1, 2, 1, 2, 2, 3, 1, 2, 2, 3, 2, 3, 3, 4, 1, 2, 2, 3, 2, 3, 3, 4, 2, 3, 3, 4, 3, 4, 4, 5, 1, 2, 2, 3, 2, 3, 3, 4, 2, 3, 3, 4, 3, 4, 4, 5, 2, 3, 3, 4, 3, 4, 4, 5, 3, 4, 4,
  5, 4, 5, 5, 6].append [1, 2, 2, 3, 2, 3, 3, 4, 2, 3, 3, 4, 3, 4, 4, 5, 2, 3, 3, 4, 3, 4, 4, 5, 3, 4, 4, 5, 4, 5, 5, 6, 2, 3, 3, 4, 3, 4, 4, 5, 3, 4, 4, 5, 4, 5, 5, 6, 3, 4, 4, 5,
  4, 5, 5, 6, 4, 5, 5, 6, 5, 6, 6, 7]).append ([1, 2, 2, 3, 2, 3, 3, 4, 2, 3, 3, 4, 3, 4, 4, 5, 2, 3, 3, 4, 3, 4, 4, 5, 3, 4, 4, 5, 4, 5, 5, 6, 2, 3, 3, 4, 3, 4, 4, 5, 3, 4, 4, 5, 4,
  5, 5, 6, 3, 4, 4, 5, 4, 5, 5, 6, 4, 5, 5, 6, 5, 6, 6, 7].append [2, 3, 3, 4, 3, 4, 4, 5, 3, 4, 4, 5, 4, 5, 5, 6, 3, 4, 4, 5, 4, 5, 5, 6, 4, 5, 5, 6, 5, 6, 6, 7, 3, 4, 4, 5, 4, 5,
  5, 6, 4, 5, 5, 6, 5, 6, 6, 7, 4, 5, 5, 6, 5, 6, 6, 7, 5, 6, 6, 7, 6, 7, 7, 8])).toArray⟩
theorem popS_size : popS.size = 256 := by kernel_rfl
theorem pop_val : ∀ y : Nat, y < 256 → ((popS.get! y).toNat : Int) = (cnt8 y : Int) := by decide +kernel
theorem cnt8_le (y : Nat) : cnt8 y ≤ 8 := Nat.le_trans (List.length_filter_le ..) (by rw [List.length_range]; exact Nat.le_refl _)
theorem shr24 (x : Nat) : (x : Int).fdiv (2 ^ Min.min (24 : Int).toNat (IntKind.bits .u32)) = ((x >>> 24 : Nat) : Int) := shrU x 24 .u32 (by decide)
theorem shr16 (x : Nat) : (x : Int).fdiv (2 ^ Min.min (16 : Int).toNat (IntKind.bits .u32)) = ((x >>> 16 : Nat) : Int) := shrU x 16 .u32 (by decide)
theorem shr8 (x : Nat) : (x : Int).fdiv (2 ^ Min.min (8 : Int).toNat (IntKind.bits .u32)) = ((x >>> 8 : Nat) : Int) := shrU x 8 .u32 (by decide)
theorem shr_lt {x : Nat} (k : Nat) (hx : x < 4294967296) : x >>> k < 4294967296 := by
  rw [Nat.shiftRight_eq_div_pow]
  exact Nat.lt_of_le_of_lt (Nat.div_le_self ..) hx
theorem and255 {x : Nat} (hx : x < 4294967296) : Go.bits .and .u32 (x : Int) 255 = ((x &&& 255 : Nat) : Int) := andU (y := 255) hx (by decide)
theorem and255_lt (x : Nat) : x &&& 255 < 256 := Nat.and_lt_two_pow (n := 8) x (by decide)
theorem top_byte {x : Nat} (hx : x < 4294967296) : x >>> 24 < 256 ∧ x >>> 24 &&& 255 = x >>> 24 := by
  have h1 : x >>> 24 < 256 := by rw [Nat.shiftRight_eq_div_pow]; omega
  exact ⟨h1, by rw [show 255 = 2 ^ 8 - 1 from rfl, Nat.and_two_pow_sub_one_eq_mod]; exact Nat.mod_eq_of_lt h1⟩
/-- The table of the lowest bits. -/
def tzL : List Nat := [0, 1, 28, 2, 29, 14, 24, 3, 30, 22, 20, 15, 25, 17, 4, 8, 31, 27, 13, 23, 21, 19, 16, 7, 26, 12, 18, 6, 11, 5, 10, 9]
def tzC : List AV := tzL.map fun (v : Nat) => .int .u8 (v : Int)
def Tab (h : AHeap) : Prop := h.globs.contains 0 = true ∧ Rd h (.ptr 0 0) 0 tzC
theorem Tab.ext {h h' : AHeap} (z : Tab h) (k : Keeps h h') : Tab h' := ⟨by rw [k.globs]; exact z.1, Rd.ext k z.2⟩
theorem Tab.ev {h : AHeap} (z : Tab h) (n : Nat) (K : KF) : EvK h.globs n K (.global 0) (.ptr 0 0) := ⟨by simp only [evalK]; rw [if_pos z.1]⟩
theorem addr0 : AddrOf (.ptr 0 0) (.ptr 0 0) 0 0 := ⟨0, 0, .inr ⟨rfl, rfl⟩, rfl⟩
def tzJ (t : Nat) : Nat := (2 ^ t * 125613361 % 4294967296) >>> 27
theorem tz_idx : ∀ t : Nat, t < 32 → (IntKind.u32.wrap (((2 ^ t : Nat) : Int) * 125613361)).fdiv (2 ^ Min.min (27 : Int).toNat (IntKind.bits .u32)) = (tzJ t : Int) ∧ tzJ t < 32 ∧ tzC[tzJ t]? = some (.int .u8 (t : Int)) := by
  intro t ht
  refine ⟨?_, ?_, ?_⟩
  · revert t; decide +kernel
  · revert t; decide +kernel
  · have : ∀ t : Nat, t < 32 → tzL[tzJ t]? = some t := by decide +kernel
    rw [tzC, List.getElem?_map, this t ht]; rfl
theorem negU {x : Nat} (h0 : 0 < x) (hx : x < 4294967296) : IntKind.u32.wrap (0 - (x : Int)) = ((4294967296 - x : Nat) : Int) := by
  unfold IntKind.wrap
  simp only [IntKind.bits, IntKind.signed, Bool.false_and]
  have e1 : (2 : Int) ^ 32 = 4294967296 := by decide
  rw [e1]
  simp
  omega
theorem shl32 : ∀ t : Nat, t < 32 → IntKind.u32.wrap (1 * 2 ^ Min.min (t : Int).toNat (IntKind.bits .u32)) = ((2 ^ t : Nat) : Int) := by decide +kernel
theorem shlU64 : ∀ t : Nat, t < 6 → IntKind.u64.wrap (1 * 2 ^ Min.min (t : Int).toNat (IntKind.bits .u64)) = ((2 ^ t : Nat) : Int) := by decide +kernel
theorem full32 : ∀ t : Nat, t < 6 → IntKind.u32.wrap (IntKind.u32.wrap (1 * 2 ^ Min.min ((2 ^ t : Nat) : Int).toNat (IntKind.bits .u32)) - 1) = ((2 ^ 2 ^ t - 1 : Nat) : Int) := by decide +kernel
theorem bits_full : ∀ t : Nat, t < 6 → bitsL (2 ^ 2 ^ t - 1) = List.range (2 ^ t) := by decide +kernel
theorem two_lt {t : Nat} (h : t < 32) : 2 ^ t < 4294967296 := Nat.pow_lt_pow_right (n := 32) (by decide) h
theorem full_lt {t : Nat} (h : t < 6) : 2 ^ 2 ^ t - 1 < 4294967296 := by
  have : ∀ t : Nat, t < 6 → 2 ^ 2 ^ t - 1 < 4294967296 := by decide +kernel
  exact this t h
/-- The table of safe words while it is filled. -/
def TInv (n : Nat) (T : List Nat) (a b : Nat) : Prop := T.length = 32 ∧ (∀ v ∈ T, v < 4294967296) ∧ ∀ i j, (T.getD i 0).testBit j = (decide (j < 2 ^ n ∧ (i < a ∨ i = a ∧ j < b)) && safeN n i j)
theorem TInv.zero (n : Nat) : TInv n (List.replicate 32 0) 0 0 := by
  refine ⟨List.length_replicate, fun v hv => by rw [List.eq_of_mem_replicate hv]; decide, fun i j => ?_⟩
  rw [List.getD_eq_getElem?_getD, List.getElem?_replicate, decide_eq_false (by omega), Bool.false_and]
  split <;> exact Nat.zero_testBit j
theorem TInv.row {n : Nat} {T : List Nat} {a : Nat} (h : TInv n T a (2 ^ n)) : TInv n T (a + 1) 0 := by
  refine ⟨h.1, h.2.1, fun i j => ?_⟩
  rw [h.2.2 i j]
  congr 1
  exact decide_eq_decide.2 (by omega)
theorem TInv.no {n : Nat} {T : List Nat} {a b : Nat} (h : TInv n T a b) (hs : safeN n a b = false) : TInv n T a (b + 1) := by
  refine ⟨h.1, h.2.1, fun i j => ?_⟩
  rw [h.2.2 i j]
  by_cases he : i = a ∧ j = b
  · rw [he.1, he.2, hs, Bool.and_false, Bool.and_false]
  · congr 1
    exact decide_eq_decide.2 (by omega)
theorem TInv.yes {n : Nat} {T : List Nat} {a b : Nat} (h : TInv n T a b) (ha : a < 32) (hb : b < 2 ^ n) (hb32 : b < 32) (hs : safeN n a b = true) : TInv n (T.set a (T.getD a 0 ||| 2 ^ b)) a (b + 1) := by
  have hla : a < T.length := by rw [h.1]; exact ha
  refine ⟨by rw [List.length_set]; exact h.1, fun v hv => ?_, fun i j => ?_⟩
  · rcases List.mem_or_eq_of_mem_set hv with hv | rfl
    · exact h.2.1 v hv
    · refine Nat.or_lt_two_pow (n := 32) ?_ (two_lt hb32)
      rw [List.getD_eq_getElem?_getD, List.getElem?_eq_getElem hla]
      exact h.2.1 _ (List.getElem_mem hla)
  · rw [List.getD_eq_getElem?_getD, List.getElem?_set]
    by_cases hi : a = i
    · subst hi
      rw [if_pos rfl, if_pos hla, Option.getD_some, Nat.testBit_or, h.2.2 a j, Nat.testBit_two_pow]
      by_cases hj : b = j
      · subst hj
        rw [hs, decide_eq_true rfl, decide_eq_true (show b < 2 ^ n ∧ (a < a ∨ a = a ∧ b < b + 1) by omega), Bool.or_true]; rfl
      · rw [decide_eq_false hj, Bool.or_false]
        congr 1
        exact decide_eq_decide.2 (by omega)
    · rw [if_neg hi, ← List.getD_eq_getElem?_getD, h.2.2 i j]
      congr 1
      exact decide_eq_decide.2 (by omega)
abbrev uV (v : Nat) : AV := .int .u32 (v : Int)
def mostE (n : Int) : Int := if 1 ≤ n ∧ n ≤ 5 then 0 else 1
def mostV (n : Int) : Nat := if 1 ≤ n ∧ n ≤ 5 then mostN n.toNat else 0
theorem mostE_nat {n : Nat} (h : 1 ≤ n ∧ n ≤ 5) : mostE (n : Int) = 0 ∧ mostV (n : Int) = mostN n := ⟨if_pos (by omega), by rw [mostV, if_pos (by omega)]; rfl⟩
theorem mostE_bad {n : Int} (h : ¬ (1 ≤ n ∧ n ≤ 5)) : mostE n = 1 ∧ mostV n = 0 := ⟨if_neg h, if_neg h⟩
section
variable {P : Program} {n : Nat} {ops : Array Oper} {ex : List Nat} {Q : KF → AHeap → Prop} {k : Nat} {os : List Oper} {K : KF} {h h0 : AHeap} {d : Nat} {ty : TypeId} {pos : String} {after : Array Edge} {objs : List Obj}
theorem KOps.negK {t : TypeId} {x : Operand} {kd : IntKind} {a : Int} [hx : EvK h.globs n K x (.int kd a)] (hk : KOps P n ops ex Q (k + 1) os ((d, .int kd (kd.wrap (0 - a))) :: K) h) : KOps P n ops ex Q k (⟨some d, .unOp .neg t x, ty, pos, after, none⟩ :: os) K h :=
  KOps.pure rfl (by simp only [apure, hx.eq, aun]) hk
/-- A number of an array of numbers of 32 bits. -/
theorem KOps.loadU32 {x : Operand} {p q : AV} {t : TypeId} {j i : Nat} {l : List Nat} {tip : Bool} [hx : EvK h.globs n K x q] [ht : ScT P t] (st : St h0 h objs) (hk' : objs[i]? = some ⟨p, 0, l.map uV, tip⟩) (ha : AddrOf q p 0 j) (hj : j < l.length) (hk : KOps P n ops ex Q (k + 1) os ((d, .int .u32 ((l.getD j 0 : Nat) : Int)) :: K) h) :
    KOps P n ops ex Q k (⟨some d, .load t x, ty, pos, after, none⟩ :: os) K h :=
  KOps.load ha (st.rd i hk') (by simp [List.getElem?_map, List.getElem?_eq_getElem hj, List.getD_eq_getElem?_getD]) hk
theorem KOps.storeU32 {t : TypeId} {x y : Operand} {p q : AV} {i j c : Nat} {l : List Nat} {tip : Bool} [hx : EvK h.globs n K x q] [hy : EvK h.globs n K y (.int .u32 (c : Int))] [ht : ScT P t] (st : St h0 h objs) (hex : ex.contains k = false) (hk' : objs[i]? = some ⟨p, 0, l.map uV, tip⟩) (ha : AddrOf q p 0 j) (hj : j < l.length)
    (hk : ∀ h', St h0 h' (objs.set i ⟨p, 0, (l.set j c).map uV, tip⟩) → KOps P n ops ex Q (k + 1) os K h') : KOps P n ops ex Q k (⟨none, .store t x y, ty, pos, after, none⟩ :: os) K h := by
  refine KOps.store st hex hk' ha rfl (by simpa using hj) ?_
  intro h' hS
  refine hk h' ?_
  have e : (l.map uV).set j (.int .u32 (c : Int)) = (l.set j c).map uV := by rw [List.map_set]
  simp only [e] at hS
  exact hS
end
theorem ones_c {h : AHeap} {x : Nat} (hx : x < 4294967296) : ACalls Go.Proofs.Tryd.prog 66 [.int .u32 (x : Int)] h (fun q h' => q = .int .i64 ((bitsL x).length : Int) ∧ h = h') := by
  refine KA.fn 21 [.tmp 2] Go.Proofs.Tryd.func66 rfl (by decide) rfl rfl (Nat.le_of_ble_eq_true rfl) ?_
  have ht := top_byte hx
  have h1 := cnt8_le (x >>> 24)
  have h2 := cnt8_le (x >>> 16 &&& 255)
  have h3 := cnt8_le (x >>> 8 &&& 255)
  have h4 := cnt8_le (x &&& 255)
  have hb := bitsL_len x
  rw [ht.2] at hb
  show KA _ 21 _ _ [(0, .int .u32 (x : Int))] _
  refine KA.seq ?_
  refine KA.region rfl ?_
  refine KOps.assign ?_
  refine KOps.done ?_
  refine sqQ.normal ?_
  refine KA.sub (Sub.cons (t := 0) Look.eq (Sub.nil _)) ?_
  refine KA.seq ?_
  refine KA.draw [] mixed rfl (by kernel_rfl) ?_
  refine KOps.move ?_
  refine KOps.shr (by omega) ?_
  rw [shr24]
  refine KOps.sAt (s := popS) (j := x >>> 24) rfl (by rw [popS_size]; exact ht.1) ?_
  rw [pop_val _ (ht.1)]
  refine KOps.move ?_
  refine KOps.shr (by omega) ?_
  rw [shr16]
  refine KOps.bits (by simp) ?_
  rw [and255 (shr_lt 16 hx)]
  refine KOps.sAt (s := popS) (j := x >>> 16 &&& 255) rfl (by rw [popS_size]; exact and255_lt _) ?_
  rw [pop_val _ (and255_lt _)]
  refine KOps.addK (by rw [IntKind.wrap_u8]; omega) ?_
  refine KOps.move ?_
  refine KOps.shr (by omega) ?_
  rw [shr8]
  refine KOps.bits (by simp) ?_
  rw [and255 (shr_lt 8 hx)]
  refine KOps.sAt (s := popS) (j := x >>> 8 &&& 255) rfl (by rw [popS_size]; exact and255_lt _) ?_
  rw [pop_val _ (and255_lt _)]
  refine KOps.addK (by rw [IntKind.wrap_u8]; omega) ?_
  refine KOps.move ?_
  refine KOps.bits (by simp) ?_
  rw [and255 (hx)]
  refine KOps.sAt (s := popS) (j := x &&& 255) rfl (by rw [popS_size]; exact and255_lt _) ?_
  rw [pop_val _ (and255_lt _)]
  refine KOps.addK (by rw [IntKind.wrap_u8]; omega) ?_
  refine KOps.convU (by omega) (by omega) ?_
  refine KOps.assign ?_
  refine KOps.done ?_
  refine sqQ.normal ?_
  refine KA.sub (Sub.cons (t := 2) Look.eq (Sub.nil _)) ?_
  refine KA.ret ?_
  refine fnQ.ret1 ?_
  exact ⟨congrArg (AV.int .i64) (by omega), rfl⟩

theorem tz_c {h : AHeap} {x t : Nat} {l : List Nat} (hT : Tab h) (hx : x < 4294967296) (hb : bitsL x = t :: l) : ACalls Go.Proofs.Tryd.prog 67 [.int .u32 (x : Int)] h (fun q h' => q = .int .i64 (t : Int) ∧ h = h') := by
  refine KA.fn 14 [.tmp 2] Go.Proofs.Tryd.func67 rfl (by decide) rfl rfl (Nat.le_of_ble_eq_true rfl) ?_
  have ht := (bitsL_head hb).1
  have hx0 : 0 < x := by
    rcases Nat.eq_zero_or_pos x with e | e
    · rw [e, bitsL_zero] at hb; cases hb
    · exact e
  have hj := tz_idx t ht
  haveI hzi := hT.ev
  show KA _ 14 _ _ [(0, .int .u32 (x : Int))] _
  refine KA.seq ?_
  refine KA.region rfl ?_
  refine KOps.assign ?_
  refine KOps.done ?_
  refine sqQ.normal ?_
  refine KA.sub (Sub.cons (t := 0) Look.eq (Sub.nil _)) ?_
  refine KA.seq ?_
  refine KA.seq ?_
  refine KA.region rfl ?_
  refine KOps.move ?_
  refine KOps.eql ?_
  refine KOps.done ?_
  refine sqQ.normal ?_
  refine KA.sub (Sub.cons (t := 0) Look.eq (Sub.cons (t := 4) Look.eq (Sub.nil _))) ?_
  refine KA.condD ?_ ?_
  · intro c4
    exact absurd c4 (by omega)
  · intro c4
    refine KA.skip ?_
    refine sqQ.normal ?_
    refine KA.sub (Sub.cons (t := 0) Look.eq (Sub.nil _)) ?_
    refine KA.seq ?_
    refine KA.region rfl ?_
    refine KOps.move ?_
    refine KOps.move ?_
    refine KOps.negK ?_
    rw [negU hx0 hx]
    refine KOps.bits (by simp) ?_
    rw [andU hx (by omega), low_bit hx hb]
    refine KOps.int (v := .int .u32 (IntKind.u32.wrap (((2 ^ t : Nat) : Int) * 125613361))) (.inr (.inr rfl)) rfl ?_
    refine KOps.shr (by omega) ?_
    rw [hj.1]
    refine KOps.indexA addr0 (j := tzJ t) rfl hj.2.1 ?_
    intro p11 hp11
    refine KOps.load hp11 hT.2 hj.2.2 ?_
    refine KOps.convU (by omega) (by omega) ?_
    refine KOps.assign ?_
    refine KOps.done ?_
    refine sqQ.normal ?_
    refine KA.sub (Sub.cons (t := 2) Look.eq (Sub.nil _)) ?_
    refine KA.ret ?_
    refine fnQ.ret1 ?_
    exact ⟨rfl, rfl⟩

theorem choose_c {h0 : AHeap} {p2 p3 p4 : AV} {T : List Nat} (hp2 : AddrOf p2 p2 0 0) (hp3 : AddrOf p3 p3 0 0) (hp4 : AddrOf p4 p4 0 0) (hT : T.length = 32) (hTv : ∀ v ∈ T, v < 4294967296) (hTab : Tab h0) (d : Nat) : ∀ {h : AHeap} {x n b : Nat}, (bitsL x).length = d → x < 4294967296 → n + d ≤ 64 → b ≤ 64 → St h0 h [⟨p2, 0, [.int .i64 ((b : Nat) : Int)], true⟩, ⟨p3, 0, [.fn 65 [p2, p3, p4]], true⟩, ⟨p4, 0, T.map uV, true⟩] →
    ACalls Go.Proofs.Tryd.prog 65 [.int .u32 (x : Int), .int .i64 (n : Int), p2, p3, p4] h (fun _ h' => St h0 h' [⟨p2, 0, [.int .i64 ((max b (n + misL (fun i j => (T.getD i 0).testBit j) (bitsL x)) : Nat) : Int)], true⟩, ⟨p3, 0, [.fn 65 [p2, p3, p4]], true⟩, ⟨p4, 0, T.map uV, true⟩]) := by
  induction d using Nat.strongRecOn
  rename_i d ih
  intro h x n b hd hx hn hb hS
  have hml := misL_le (fun i j => (T.getD i 0).testBit j) (bitsL x)
  refine KA.fn 36 [] Go.Proofs.Tryd.func65 rfl (by decide) rfl rfl (Nat.le_of_ble_eq_true rfl) ?_
  show KA _ 36 _ _ [(0, .int .u32 (x : Int)), (1, .int .i64 (n : Int)), (2, p2), (3, p3), (4, p4)] _
  refine KA.seq ?_
  refine KA.region rfl ?_
  refine KOps.loadBox hS (i := 0) rfl hp2 ?_
  refine KOps.move ?_
  refine KOps.max ?_
  refine KOps.storeBox hS rfl (i := 0) rfl hp2 (by first | rfl | assumption) ?_
  intro h' hS
  simp only [List.set_cons_zero, List.set_cons_succ, Nat.zero_add] at hS
  rw [show (Max.max (b : Int) (n : Int)) = ((max b n : Nat) : Int) by omega] at hS
  refine KOps.done ?_
  refine sqQ.normal ?_
  refine KA.sub (Sub.cons (t := 0) Look.eq (Sub.cons (t := 1) Look.eq (Sub.cons (t := 2) Look.eq (Sub.cons (t := 3) Look.eq (Sub.cons (t := 4) Look.eq (Sub.nil _)))))) ?_
  refine KA.block ?_
  refine KA.loop (X := Nat × Nat) (fun x_ => [(0, .int .u32 (x_.1 : Int)), (1, .int .i64 (n : Int)), (2, p2), (3, p3), (4, p4)]) (fun x_ h' => x_.1 < 4294967296 ∧ (bitsL x_.1).length ≤ d ∧ n ≤ x_.2 ∧ max x_.2 (n + misL (fun i j => (T.getD i 0).testBit j) (bitsL x_.1)) = max b (n + misL (fun i j => (T.getD i 0).testBit j) (bitsL x)) ∧ St h0 h' [⟨p2, 0, [.int .i64 ((x_.2 : Nat) : Int)], true⟩, ⟨p3, 0, [.fn 65 [p2, p3, p4]], true⟩, ⟨p4, 0, T.map uV, true⟩]) (fun x_ => (bitsL x_.1).length) (x, max b n) (by repeat (first | exact Sub.nil _ | refine Sub.cons Look.eq ?_ | refine Sub.cons (Eq.trans Look.eq (congrArg (AV.int _) (by first | omega | (dsimp only; omega)))) ?_)) ?_ ?_
  · exact ⟨hx, by dsimp only; omega, by dsimp only; omega, by dsimp only; omega, hS⟩
  rintro ⟨y, b1⟩ h5 ⟨hy, hyl, hnb, hme, hS⟩
  dsimp only at hy hyl hnb hme hS ⊢
  have hml2 := misL_le (fun i j => (T.getD i 0).testBit j) (bitsL y)
  have hz := hTab.ext hS.keeps
  refine KA.seq ?_
  refine KA.seq ?_
  refine KA.draw [5] mixed rfl (by kernel_rfl) ?_
  refine KOps.move ?_
  refine KOps.neq ?_
  refine KOps.move ?_
  refine KOps.guardB (dj := 13) rfl rfl true false rfl ?_ ?_
  · intro g13
    have g13 := not_of_not_decide g13
    refine KOps.move ?_
    refine KOps.guardYes (dj := 13) rfl rfl ?_
    refine KOps.move ?_
    refine KOps.guardYes (dj := 13) rfl rfl ?_
    refine KOps.callK (by intro _ _ hr; exact hr.2 ▸ Keeps.refl _) (ones_c (by omega)) ?_
    rintro _ _ ⟨rfl, rfl⟩
    refine KOps.guardYes (dj := 13) rfl rfl ?_
    refine KOps.add (by first | omega | (simp; omega)) (by first | omega | (simp; omega)) ?_
    refine KOps.guardYes (dj := 13) rfl rfl ?_
    refine KOps.loadBox hS (i := 0) rfl hp2 ?_
    refine KOps.guardYes (dj := 13) rfl rfl ?_
    refine KOps.gtr ?_
    refine KOps.pickT ?_
    refine KOps.done ?_
    refine sqQ.normal ?_
    refine KA.sub (Sub.cons (t := 0) Look.eq (Sub.cons (t := 1) Look.eq (Sub.cons (t := 2) Look.eq (Sub.cons (t := 3) Look.eq (Sub.cons (t := 4) Look.eq (Sub.cons (t := 14) Look.eq (Sub.cons (t := 15) Look.eq (Sub.cons (t := 16) Look.eq (Sub.cons (t := 17) Look.eq (Sub.cons (t := 18) Look.eq (Sub.cons (t := 19) Look.eq (Sub.cons (t := 20) Look.eq (Sub.nil _))))))))))))) ?_
    refine KA.condD ?_ ?_
    · intro c20
      obtain ⟨t, l, hbt⟩ : ∃ t l, bitsL y = t :: l := by
        cases hq : bitsL y with
        | nil => exact absurd (bitsL_nil hy hq) (by omega)
        | cons t l => exact ⟨t, l, rfl⟩
      have hbc := bitsL_clear hbt
      have ht := (bitsL_head hbt).1
      have htp := two_lt ht
      have hy1 : y &&& (2 ^ 32 - (2 ^ t + 1)) < 4294967296 := Nat.lt_of_le_of_lt Nat.and_le_left hy
      have hTt : T.getD t 0 < 4294967296 := by
        rw [List.getD_eq_getElem?_getD, List.getElem?_eq_getElem (by omega : t < T.length)]
        exact hTv _ (List.getElem_mem _)
      have hy2 : (y &&& (2 ^ 32 - (2 ^ t + 1))) &&& T.getD t 0 < 4294967296 := Nat.and_lt_two_pow (n := 32) _ hTt
      have hb2 : bitsL ((y &&& (2 ^ 32 - (2 ^ t + 1))) &&& T.getD t 0) = l.filter ((fun i j => (T.getD i 0).testBit j) t) := by rw [bitsL_and, hbc]
      have hfl := List.length_filter_le ((fun i j => (T.getD i 0).testBit j) t) l
      have hyl2 : l.length + 1 ≤ d := by rw [hbt, List.length_cons] at hyl; exact hyl
      refine KA.skip ?_
      refine sqQ.normal ?_
      refine KA.sub (Sub.cons (t := 0) Look.eq (Sub.cons (t := 1) Look.eq (Sub.cons (t := 2) Look.eq (Sub.cons (t := 3) Look.eq (Sub.cons (t := 4) Look.eq (Sub.cons (t := 14) Look.eq (Sub.cons (t := 15) Look.eq (Sub.cons (t := 16) Look.eq (Sub.cons (t := 17) Look.eq (Sub.cons (t := 18) Look.eq (Sub.cons (t := 19) Look.eq (Sub.nil _)))))))))))) ?_
      refine KA.block ?_
      refine KA.seq ?_
      refine KA.region rfl ?_
      refine KOps.move ?_
      refine KOps.call rfl (tz_c hz hy hbt) ?_
      rintro _ _ ⟨rfl, rfl⟩
      refine KOps.assign ?_
      refine KOps.done ?_
      refine sqQ.normal ?_
      refine KA.sub (Sub.cons (t := 0) Look.eq (Sub.cons (t := 1) Look.eq (Sub.cons (t := 2) Look.eq (Sub.cons (t := 3) Look.eq (Sub.cons (t := 4) Look.eq (Sub.cons (t := 7) Look.eq (Sub.cons (t := 14) Look.eq (Sub.cons (t := 15) Look.eq (Sub.cons (t := 16) Look.eq (Sub.cons (t := 17) Look.eq (Sub.cons (t := 18) Look.eq (Sub.cons (t := 19) Look.eq (Sub.nil _))))))))))))) ?_
      refine KA.seq ?_
      refine KA.region rfl ?_
      refine KOps.move ?_
      refine KOps.move ?_
      refine KOps.shl (by omega) ?_
      rw [shl32 t ht]
      refine KOps.bits (by simp) ?_
      rw [andNotU hy htp]
      refine KOps.assign ?_
      refine KOps.done ?_
      refine sqQ.normal ?_
      refine KA.sub (Sub.cons (t := 0) Look.eq (Sub.cons (t := 1) Look.eq (Sub.cons (t := 2) Look.eq (Sub.cons (t := 3) Look.eq (Sub.cons (t := 4) Look.eq (Sub.cons (t := 7) Look.eq (Sub.cons (t := 14) Look.eq (Sub.cons (t := 15) Look.eq (Sub.cons (t := 16) Look.eq (Sub.cons (t := 17) Look.eq (Sub.cons (t := 18) Look.eq (Sub.cons (t := 19) Look.eq (Sub.nil _))))))))))))) ?_
      refine KA.draw [] mixed rfl (by kernel_rfl) ?_
      refine KOps.loadBox hS (i := 1) rfl hp3 ?_
      refine KOps.move ?_
      refine KOps.move ?_
      refine KOps.indexA hp4 (j := t) rfl ht ?_
      intro p30 hp30
      refine KOps.loadU32 hS (i := 2) rfl hp30 (by omega) ?_
      refine KOps.bits (by simp) ?_
      rw [andU hy1 hTt]
      refine KOps.move ?_
      refine KOps.add (by first | omega | (simp; omega)) (by first | omega | (simp; omega)) ?_
      refine KOps.call rfl (ih (l.filter ((fun i j => (T.getD i 0).testBit j) t)).length (by omega) (x := (y &&& (2 ^ 32 - (2 ^ t + 1))) &&& T.getD t 0) (n := n + 1) (b := b1) (by rw [hb2]) hy2 (by omega) (by omega) hS) ?_
      rintro _ h9 hS9
      clear hS
      have hS := hS9
      rw [hb2] at hS
      refine KOps.done ?_
      refine blQ.normal ?_
      exact lpQ.normal (y &&& (2 ^ 32 - (2 ^ t + 1)), _) (by repeat (first | exact Sub.nil _ | refine Sub.cons Look.eq ?_ | refine Sub.cons (Eq.trans Look.eq (congrArg (AV.int _) (by first | omega | (dsimp only; omega)))) ?_)) ⟨hy1, by rw [hbc]; rw [hbt, List.length_cons] at hyl; omega, by dsimp only; omega, by rw [hbc, ← hme, hbt, misL_cons]; dsimp only; omega, hS⟩ (by rw [hbc, hbt, List.length_cons]; omega)
    · intro c20
      refine KA.exit ?_
      refine sqQ.exit ?_
      refine lpQ.exit ?_
      refine blQ.here ?_
      refine fnQ.norm0 ?_
      first
       | (rw [← hme, show max b1 (n + misL (fun i j => (T.getD i 0).testBit j) (bitsL y)) = b1 by omega]; exact hS)
       | (have hy0 : y = 0 := by omega
          subst hy0
          rw [bitsL_zero, misL_nil] at hme
          rw [← hme, show max b1 (n + 0) = b1 by omega]; exact hS)
  · intro g13
    have g13 := of_not_decide g13
    refine KOps.guardNo (dj := 13) rfl rfl rfl ?_
    refine KOps.guardNo (dj := 13) rfl rfl rfl ?_
    refine KOps.guardNo (dj := 13) rfl rfl rfl ?_
    refine KOps.guardNo (dj := 13) rfl rfl rfl ?_
    refine KOps.guardNo (dj := 13) rfl rfl rfl ?_
    refine KOps.pickF ?_
    refine KOps.done ?_
    refine sqQ.normal ?_
    refine KA.sub (Sub.cons (t := 0) Look.eq (Sub.cons (t := 1) Look.eq (Sub.cons (t := 2) Look.eq (Sub.cons (t := 3) Look.eq (Sub.cons (t := 4) Look.eq (Sub.cons (t := 14) Look.eq (Sub.cons (t := 15) Look.eq (Sub.cons (t := 16) Look.eq (Sub.cons (t := 17) Look.eq (Sub.cons (t := 18) Look.eq (Sub.cons (t := 19) Look.eq (Sub.cons (t := 20) Look.eq (Sub.nil _))))))))))))) ?_
    refine KA.condF ?_
    refine KA.exit ?_
    refine sqQ.exit ?_
    refine lpQ.exit ?_
    refine blQ.here ?_
    refine fnQ.norm0 ?_
    first
     | (rw [← hme, show max b1 (n + misL (fun i j => (T.getD i 0).testBit j) (bitsL y)) = b1 by omega]; exact hS)
     | (have hy0 : y = 0 := by omega
        subst hy0
        rw [bitsL_zero, misL_nil] at hme
        rw [← hme, show max b1 (n + 0) = b1 by omega]; exact hS)

theorem mostP_c {h : AHeap} {n : Int} (hTab : Tab h) : ACalls Go.Proofs.Tryd.prog 35 [.int .i64 n] h (fun q h' => q = .tup [.int .i64 ((mostV n : Nat) : Int), .int .i64 (mostE n)] ∧ Keeps h h') := by
  refine KA.fn 63 [.tmp 2, .tmp 3] Go.Proofs.Tryd.func35 rfl (by decide) rfl rfl (Nat.le_of_ble_eq_true rfl) ?_
  have hS := St.refl h
  show KA _ 63 _ _ [(0, .int .i64 n)] _
  refine KA.seq ?_
  refine KA.region rfl ?_
  refine KOps.assign ?_
  refine KOps.assign ?_
  refine KOps.done ?_
  refine sqQ.normal ?_
  refine KA.sub (Sub.cons (t := 0) Look.eq (Sub.nil _)) ?_
  refine KA.seq ?_
  refine KA.seq ?_
  refine KA.region rfl ?_
  refine KOps.move ?_
  refine KOps.lss ?_
  refine KOps.move ?_
  refine KOps.guardB (dj := 13) rfl rfl false true rfl ?_ ?_
  · intro g13
    have g13 := of_decide_eq_false g13
    refine KOps.move ?_
    refine KOps.guardYes (dj := 13) rfl rfl ?_
    refine KOps.gtr ?_
    refine KOps.pickF ?_
    refine KOps.done ?_
    refine sqQ.normal ?_
    refine KA.sub (Sub.cons (t := 0) Look.eq (Sub.cons (t := 16) Look.eq (Sub.nil _))) ?_
    refine KA.condD ?_ ?_
    · intro c16
      refine KA.seq ?_
      refine KA.region rfl ?_
      refine KOps.assign ?_
      refine KOps.assign ?_
      refine KOps.done ?_
      refine sqQ.normal ?_
      refine KA.sub (Sub.cons (t := 2) Look.eq (Sub.cons (t := 3) Look.eq (Sub.nil _))) ?_
      refine KA.ret ?_
      refine sqQ.ret ?_
      refine fnQ.retN ?_
      exact ⟨by rw [(mostE_bad (n := n) (by omega)).1, (mostE_bad (n := n) (by omega)).2]; rfl, hS.keeps⟩
    · intro c16
      obtain ⟨m, rfl⟩ : ∃ m : Nat, n = (m : Int) := ⟨n.toNat, by omega⟩
      have hm : 1 ≤ m ∧ m ≤ 5 := by omega
      have hpw : 2 ^ m ≤ 2 ^ 5 := Nat.pow_le_pow_right (by decide) hm.2
      refine KA.skip ?_
      refine sqQ.normal ?_
      refine KA.sub (Sub.cons (t := 0) Look.eq (Sub.nil _)) ?_
      refine KA.seq ?_
      refine KA.region rfl ?_
      refine KOps.alloc hS ?_
      intro p4 h2 hp4 hS
      have hS : St h h2 [⟨p4, 0, (List.replicate 32 0).map uV, true⟩] := hS
      refine KOps.done ?_
      refine sqQ.normal ?_
      refine KA.seq ?_
      refine KA.seq ?_
      refine KA.region rfl ?_
      refine KOps.move ?_
      refine KOps.shl (by omega) ?_
      rw [shl64 m (by omega)]
      refine KOps.move ?_
      refine KOps.done ?_
      refine sqQ.normal ?_
      refine KA.sub (Sub.cons (t := 0) Look.eq (Sub.cons (t := 4) Look.eq (Sub.cons (t := 18) Look.eq (Sub.cons (t := 19) Look.eq (Sub.nil _))))) ?_
      refine KA.block ?_
      refine KA.loop (X := Nat × List Nat) (fun x => [(0, .int .i64 (m : Int)), (4, p4), (18, .int .i64 ((2 ^ m : Nat) : Int)), (19, .int .i64 (x.1 : Int))]) (fun x h' => x.1 ≤ 2 ^ m ∧ TInv m x.2 x.1 0 ∧ St h h' [⟨p4, 0, x.2.map uV, true⟩]) (fun x => 2 ^ m - x.1) (0, List.replicate 32 0) (by repeat (first | exact Sub.nil _ | refine Sub.cons Look.eq ?_ | refine Sub.cons (Eq.trans Look.eq (congrArg (AV.int _) (by first | omega | (dsimp only; omega)))) ?_)) ?_ ?_
      · exact ⟨Nat.zero_le _, TInv.zero m, hS⟩
      rintro ⟨a, T⟩ h3 ⟨ha, hT, hS⟩
      dsimp only at ha hT hS ⊢
      refine KA.seq ?_
      refine KA.region rfl ?_
      refine KOps.lss ?_
      refine KOps.done ?_
      refine sqQ.normal ?_
      refine KA.seq ?_
      refine KA.condD ?_ ?_
      · intro c20
        refine KA.skip ?_
        refine sqQ.normal ?_
        refine KA.sub (Sub.cons (t := 0) Look.eq (Sub.cons (t := 4) Look.eq (Sub.cons (t := 18) Look.eq (Sub.cons (t := 19) Look.eq (Sub.nil _))))) ?_
        refine KA.seq ?_
        refine KA.block ?_
        refine KA.seq ?_
        refine KA.region rfl ?_
        refine KOps.move ?_
        refine KOps.assign ?_
        refine KOps.done ?_
        refine sqQ.normal ?_
        refine KA.sub (Sub.cons (t := 0) Look.eq (Sub.cons (t := 4) Look.eq (Sub.cons (t := 5) Look.eq (Sub.cons (t := 18) Look.eq (Sub.cons (t := 19) Look.eq (Sub.nil _)))))) ?_
        refine KA.seq ?_
        refine KA.region rfl ?_
        refine KOps.move ?_
        refine KOps.shl (by omega) ?_
        rw [shl64 m (by omega)]
        refine KOps.move ?_
        refine KOps.done ?_
        refine sqQ.normal ?_
        refine KA.sub (Sub.cons (t := 0) Look.eq (Sub.cons (t := 4) Look.eq (Sub.cons (t := 5) Look.eq (Sub.cons (t := 18) Look.eq (Sub.cons (t := 19) Look.eq (Sub.cons (t := 23) Look.eq (Sub.cons (t := 24) Look.eq (Sub.nil _)))))))) ?_
        refine KA.block ?_
        refine KA.loop (X := Nat × List Nat) (fun x => [(0, .int .i64 (m : Int)), (4, p4), (5, .int .i64 (a : Int)), (18, .int .i64 ((2 ^ m : Nat) : Int)), (19, .int .i64 (a : Int)), (23, .int .i64 ((2 ^ m : Nat) : Int)), (24, .int .i64 (x.1 : Int))]) (fun x h' => x.1 ≤ 2 ^ m ∧ TInv m x.2 a x.1 ∧ St h h' [⟨p4, 0, x.2.map uV, true⟩]) (fun x => 2 ^ m - x.1) (0, T) (by repeat (first | exact Sub.nil _ | refine Sub.cons Look.eq ?_ | refine Sub.cons (Eq.trans Look.eq (congrArg (AV.int _) (by first | omega | (dsimp only; omega)))) ?_)) ?_ ?_
        · exact ⟨Nat.zero_le _, hT, hS⟩
        rintro ⟨b, T⟩ h4 ⟨hb, hT, hS⟩
        dsimp only at hb hT hS ⊢
        refine KA.seq ?_
        refine KA.region rfl ?_
        refine KOps.lss ?_
        refine KOps.done ?_
        refine sqQ.normal ?_
        refine KA.seq ?_
        refine KA.condD ?_ ?_
        · intro c25
          refine KA.skip ?_
          refine sqQ.normal ?_
          refine KA.sub (Sub.cons (t := 0) Look.eq (Sub.cons (t := 4) Look.eq (Sub.cons (t := 5) Look.eq (Sub.cons (t := 18) Look.eq (Sub.cons (t := 19) Look.eq (Sub.cons (t := 23) Look.eq (Sub.cons (t := 24) Look.eq (Sub.nil _)))))))) ?_
          refine KA.seq ?_
          refine KA.block ?_
          refine KA.seq ?_
          refine KA.region rfl ?_
          refine KOps.move ?_
          refine KOps.assign ?_
          refine KOps.done ?_
          refine sqQ.normal ?_
          refine KA.sub (Sub.cons (t := 0) Look.eq (Sub.cons (t := 4) Look.eq (Sub.cons (t := 5) Look.eq (Sub.cons (t := 6) Look.eq (Sub.cons (t := 18) Look.eq (Sub.cons (t := 19) Look.eq (Sub.cons (t := 23) Look.eq (Sub.cons (t := 24) Look.eq (Sub.nil _))))))))) ?_
          refine KA.seq ?_
          refine KA.region rfl ?_
          have hba := bitsW_len m a
          have hbb := bitsW_len m b
          refine KOps.move ?_
          refine KOps.move ?_
          refine KOps.call rfl (written_c (x := a) (n := m) (by omega) (by omega)) ?_
          rintro _ _ ⟨rfl, rfl⟩
          refine KOps.call rfl (less_w (by omega)) ?_
          rintro v31 h31 hS31
          have hS0 : St _ _ (_ :: _) := St.trans hS hS31
          clear hS
          have hS := hS0
          clear hS0
          refine KOps.move ?_
          refine KOps.move ?_
          refine KOps.call rfl (written_c (x := b) (n := m) (by omega) (by omega)) ?_
          rintro _ _ ⟨rfl, rfl⟩
          refine KOps.call rfl (less_w (by omega)) ?_
          rintro v35 h35 hS35
          have hS0 : St _ _ (_ :: _) := St.trans hS hS35
          clear hS
          have hS := hS0
          clear hS0
          refine KOps.call rfl (sharedW_c (hS.rd 1 rfl) (hS.rd 0 rfl) (by omega) (by omega)) ?_
          rintro _ _ ⟨rfl, rfl⟩
          refine KOps.move ?_
          refine KOps.extract ?_
          refine KOps.extract ?_
          refine KOps.assign ?_
          refine KOps.assign ?_
          refine KOps.done ?_
          refine sqQ.normal ?_
          refine KA.sub (Sub.cons (t := 0) Look.eq (Sub.cons (t := 4) Look.eq (Sub.cons (t := 5) Look.eq (Sub.cons (t := 6) Look.eq (Sub.cons (t := 8) Look.eq (Sub.cons (t := 18) Look.eq (Sub.cons (t := 19) Look.eq (Sub.cons (t := 23) Look.eq (Sub.cons (t := 24) Look.eq (Sub.nil _)))))))))) ?_
          refine KA.seq ?_
          refine KA.region rfl ?_
          refine KOps.move ?_
          refine KOps.move ?_
          refine KOps.neq ?_
          refine KOps.move ?_
          refine KOps.guardB (dj := 42) rfl rfl true false rfl ?_ ?_
          · intro g42
            have g42 := not_of_not_decide g42
            refine KOps.move ?_
            refine KOps.guardYes (dj := 42) rfl rfl ?_
            refine KOps.not ?_
            refine KOps.pickT ?_
            refine KOps.done ?_
            refine sqQ.normal ?_
            refine KA.sub (Sub.cons (t := 0) Look.eq (Sub.cons (t := 4) Look.eq (Sub.cons (t := 5) Look.eq (Sub.cons (t := 6) Look.eq (Sub.cons (t := 18) Look.eq (Sub.cons (t := 19) Look.eq (Sub.cons (t := 23) Look.eq (Sub.cons (t := 24) Look.eq (Sub.cons (t := 43) Look.eq (Sub.cons (t := 44) Look.eq (Sub.cons (t := 45) Look.eq (Sub.nil _)))))))))))) ?_
            refine KA.condB ?_ ?_
            · intro c45
              refine KA.draw [] mixed rfl (by kernel_rfl) ?_
              have hsf : safeN m a b = true := by
                unfold safeN clashW
                rw [decide_eq_false (by omega), c45]; rfl
              have hTa : T.getD a 0 < 4294967296 := by
                rw [List.getD_eq_getElem?_getD, List.getElem?_eq_getElem (by rw [hT.1]; omega : a < T.length)]
                exact hT.2.1 _ (List.getElem_mem _)
              have hl32 := hT.1
              refine KOps.move ?_
              refine KOps.indexA hp4 (j := a) rfl (by omega) ?_
              intro p47 hp47
              refine KOps.loadU32 hS (i := 2) rfl hp47 (by omega) ?_
              refine KOps.move ?_
              refine KOps.shl (by omega) ?_
              rw [shl32 b (by omega)]
              refine KOps.bits (by simp) ?_
              rw [orU hTa (two_lt (by omega))]
              refine KOps.indexA hp4 (j := a) rfl (by omega) ?_
              intro p52 hp52
              refine KOps.storeU32 hS rfl (i := 2) rfl hp52 (by omega) ?_
              intro h' hS
              simp only [List.set_cons_zero, List.set_cons_succ, Nat.zero_add] at hS
              refine KOps.done ?_
              refine blQ.normal ?_
              refine sqQ.normal ?_
              refine KA.sub (Sub.cons (t := 0) Look.eq (Sub.cons (t := 4) Look.eq (Sub.cons (t := 5) Look.eq (Sub.cons (t := 18) Look.eq (Sub.cons (t := 19) Look.eq (Sub.cons (t := 23) Look.eq (Sub.cons (t := 24) Look.eq (Sub.cons (t := 43) Look.eq (Sub.cons (t := 44) Look.eq (Sub.nil _)))))))))) ?_
              refine KA.region rfl ?_
              refine KOps.add (by first | omega | (simp; omega)) (by first | omega | (simp; omega)) ?_
              refine KOps.move ?_
              refine KOps.done ?_
              exact lpQ.normal (b + 1, _) (by repeat (first | exact Sub.nil _ | refine Sub.cons Look.eq ?_ | refine Sub.cons (Eq.trans Look.eq (congrArg (AV.int _) (by first | omega | (dsimp only; omega)))) ?_)) ⟨by dsimp only; omega, hT.yes (by omega) (by omega) (by omega) hsf, St.pick [2] (by decide) rfl hS⟩ (by dsimp only; omega)
            · intro c45
              refine KA.skip ?_
              refine blQ.normal ?_
              refine sqQ.normal ?_
              refine KA.sub (Sub.cons (t := 0) Look.eq (Sub.cons (t := 4) Look.eq (Sub.cons (t := 5) Look.eq (Sub.cons (t := 18) Look.eq (Sub.cons (t := 19) Look.eq (Sub.cons (t := 23) Look.eq (Sub.cons (t := 24) Look.eq (Sub.cons (t := 43) Look.eq (Sub.cons (t := 44) Look.eq (Sub.nil _)))))))))) ?_
              refine KA.region rfl ?_
              refine KOps.add (by first | omega | (simp; omega)) (by first | omega | (simp; omega)) ?_
              refine KOps.move ?_
              refine KOps.done ?_
              exact lpQ.normal (b + 1, T) (by repeat (first | exact Sub.nil _ | refine Sub.cons Look.eq ?_ | refine Sub.cons (Eq.trans Look.eq (congrArg (AV.int _) (by first | omega | (dsimp only; omega)))) ?_)) ⟨by dsimp only; omega, hT.no (by unfold safeN clashW; rw [c45, Bool.and_false]), St.pick [2] (by decide) rfl hS⟩ (by dsimp only; omega)
          · intro g42
            have g42 := of_not_decide g42
            refine KOps.guardNo (dj := 42) rfl rfl rfl ?_
            refine KOps.pickF ?_
            refine KOps.done ?_
            refine sqQ.normal ?_
            refine KA.sub (Sub.cons (t := 0) Look.eq (Sub.cons (t := 4) Look.eq (Sub.cons (t := 5) Look.eq (Sub.cons (t := 6) Look.eq (Sub.cons (t := 18) Look.eq (Sub.cons (t := 19) Look.eq (Sub.cons (t := 23) Look.eq (Sub.cons (t := 24) Look.eq (Sub.cons (t := 43) Look.eq (Sub.cons (t := 44) Look.eq (Sub.cons (t := 45) Look.eq (Sub.nil _)))))))))))) ?_
            refine KA.condF ?_
            refine KA.skip ?_
            refine blQ.normal ?_
            refine sqQ.normal ?_
            refine KA.sub (Sub.cons (t := 0) Look.eq (Sub.cons (t := 4) Look.eq (Sub.cons (t := 5) Look.eq (Sub.cons (t := 18) Look.eq (Sub.cons (t := 19) Look.eq (Sub.cons (t := 23) Look.eq (Sub.cons (t := 24) Look.eq (Sub.cons (t := 43) Look.eq (Sub.cons (t := 44) Look.eq (Sub.nil _)))))))))) ?_
            refine KA.region rfl ?_
            refine KOps.add (by first | omega | (simp; omega)) (by first | omega | (simp; omega)) ?_
            refine KOps.move ?_
            refine KOps.done ?_
            exact lpQ.normal (b + 1, T) (by repeat (first | exact Sub.nil _ | refine Sub.cons Look.eq ?_ | refine Sub.cons (Eq.trans Look.eq (congrArg (AV.int _) (by first | omega | (dsimp only; omega)))) ?_)) ⟨by dsimp only; omega, hT.no (by unfold safeN; rw [decide_eq_true (by omega)]; rfl), St.pick [2] (by decide) rfl hS⟩ (by dsimp only; omega)
        · intro c25
          refine KA.exit ?_
          refine sqQ.exit ?_
          refine lpQ.exit ?_
          refine blQ.here ?_
          refine blQ.normal ?_
          refine sqQ.normal ?_
          refine KA.sub (Sub.cons (t := 0) Look.eq (Sub.cons (t := 4) Look.eq (Sub.cons (t := 18) Look.eq (Sub.cons (t := 19) Look.eq (Sub.nil _))))) ?_
          refine KA.region rfl ?_
          refine KOps.add (by first | omega | (simp; omega)) (by first | omega | (simp; omega)) ?_
          refine KOps.move ?_
          refine KOps.done ?_
          have hbe : b = 2 ^ m := by omega
          subst hbe
          exact lpQ.normal (a + 1, T) (by repeat (first | exact Sub.nil _ | refine Sub.cons Look.eq ?_ | refine Sub.cons (Eq.trans Look.eq (congrArg (AV.int _) (by first | omega | (dsimp only; omega)))) ?_)) ⟨by dsimp only; omega, hT.row, hS⟩ (by dsimp only; omega)
      · intro c20
        refine KA.exit ?_
        refine sqQ.exit ?_
        refine lpQ.exit ?_
        refine blQ.here ?_
        refine sqQ.normal ?_
        refine KA.sub (Sub.cons (t := 0) Look.eq (Sub.cons (t := 4) Look.eq (Sub.nil _))) ?_
        refine KA.seq ?_
        refine KA.region rfl ?_
        refine KOps.alloc hS ?_
        intro p9 h' hp9 hS
        refine KOps.storeBox hS rfl (i := 0) rfl hp9 (by first | rfl | assumption) ?_
        intro h' hS
        refine KOps.done ?_
        refine sqQ.normal ?_
        refine KA.seq ?_
        refine KA.region rfl ?_
        refine KOps.alloc hS ?_
        intro p10 h' hp10 hS
        refine KOps.done ?_
        refine sqQ.normal ?_
        refine KA.seq ?_
        refine KA.region rfl ?_
        refine KOps.makeFunc ?_
        refine KOps.storeBox hS rfl (i := 0) rfl hp10 (by first | rfl | assumption) ?_
        intro h' hS
        refine KOps.done ?_
        refine sqQ.normal ?_
        refine KA.sub (Sub.cons (t := 0) Look.eq (Sub.cons (t := 9) Look.eq (Sub.cons (t := 10) Look.eq (Sub.nil _)))) ?_
        refine KA.seq ?_
        refine KA.draw [] mixed rfl (by kernel_rfl) ?_
        refine KOps.loadBox hS (i := 0) rfl hp10 ?_
        refine KOps.move ?_
        refine KOps.shl (by omega) ?_
        rw [shlU64 m (by omega)]
        refine KOps.shl (by omega) ?_
        refine KOps.int (v := .int .u32 (IntKind.u32.wrap (IntKind.u32.wrap (1 * 2 ^ Min.min ((2 ^ m : Nat) : Int).toNat (IntKind.bits .u32)) - 1))) (.inr (.inr rfl)) rfl ?_
        rw [full32 m (by omega)]
        refine KOps.call rfl (choose_c hp9 hp10 hp4 hT.1 hT.2.1 hTab _ (x := 2 ^ 2 ^ m - 1) (n := 0) (b := 0) rfl (full_lt (by omega)) (by rw [bits_full m (by omega), List.length_range]; omega) (by omega) (St.pick [1, 0, 2] (by decide) rfl hS)) ?_
        rintro _ h9 hS9
        clear hS
        have hS := hS9
        rw [bits_full m (by omega)] at hS
        refine KOps.done ?_
        refine sqQ.normal ?_
        refine KA.sub (Sub.cons (t := 9) Look.eq (Sub.nil _)) ?_
        refine KA.seq ?_
        refine KA.region rfl ?_
        refine KOps.loadBox hS (i := 0) rfl hp9 ?_
        refine KOps.assign ?_
        refine KOps.assign ?_
        refine KOps.done ?_
        refine sqQ.normal ?_
        refine KA.sub (Sub.cons (t := 2) Look.eq (Sub.cons (t := 3) Look.eq (Sub.nil _))) ?_
        refine KA.ret ?_
        refine fnQ.retN ?_
        have hcg : misL (fun i j => (T.getD i 0).testBit j) (List.range (2 ^ m)) = mostN m := misL_congr (fun x hx y hy => by
          have hx := List.mem_range.1 hx
          have hy := List.mem_range.1 hy
          rw [hT.2.2 x y, decide_eq_true (by omega)]; rfl)
        exact ⟨by rw [(mostE_nat hm).1, (mostE_nat hm).2, ← hcg]; congr 3; omega, hS.keeps⟩
  · intro g13
    have g13 := of_decide_eq_true g13
    refine KOps.guardNo (dj := 13) rfl rfl rfl ?_
    refine KOps.pickT ?_
    refine KOps.done ?_
    refine sqQ.normal ?_
    refine KA.sub (Sub.cons (t := 0) Look.eq (Sub.cons (t := 16) Look.eq (Sub.nil _))) ?_
    refine KA.condT ?_
    refine KA.seq ?_
    refine KA.region rfl ?_
    refine KOps.assign ?_
    refine KOps.assign ?_
    refine KOps.done ?_
    refine sqQ.normal ?_
    refine KA.sub (Sub.cons (t := 2) Look.eq (Sub.cons (t := 3) Look.eq (Sub.nil _))) ?_
    refine KA.ret ?_
    refine sqQ.ret ?_
    refine fnQ.retN ?_
    exact ⟨by rw [(mostE_bad (n := n) (by omega)).1, (mostE_bad (n := n) (by omega)).2]; rfl, hS.keeps⟩

end Go.Am

namespace Go.Am
/-- A struct of two parts. -/
def EPair {X Y : Type} (s0 : Nat) (E0 : AHeap → List AV → X → Prop) (E1 : AHeap → List AV → Y → Prop) (h : AHeap) (avs : List AV) (p : X × Y) : Prop := E0 h (avs.take s0) p.1 ∧ E1 h (avs.drop s0) p.2
theorem VRels.split {φ : Emb} {a b : List AV} {cs : List Value} {s : Nat} (h1 : VRels φ a (cs.take s)) (h2 : VRels φ b (cs.drop s)) (hs : s ≤ cs.length) : VRels φ (a ++ b) cs ∧ (a ++ b).take s = a ∧ (a ++ b).drop s = b := by
  have ha : a.length = s := by rw [h1.1, List.length_take]; omega
  have h3 := VRels.append h1 h2
  rw [List.take_append_drop] at h3
  exact ⟨h3, by rw [← ha, List.take_left], by rw [← ha, List.drop_left]⟩
theorem IC.pair {H : Type} {enc : TypeId × Value → H} {P : Program} {t : TypeId} {f0 f1 : Field} {s0 s1 : Nat} {X Y : Type} {E0 : AHeap → List AV → X → Prop} {E1 : AHeap → List AV → Y → Prop} (ht : P.underlying t = some (.struct #[f0, f1])) (hc : P.cellsOf t = s0 + s1) (h0 : f0.offset = 0) (h1 : f1.offset = s0) (hc0 : P.cellsOf f0.type = s0) (hc1 : P.cellsOf f1.type = s1) (i0 : IC enc P f0.type E0) (i1 : IC enc P f1.type E1) : IC enc P t (EPair s0 E0 E1) := by
  refine ⟨?_, fun h h' avs x k hE => ⟨i0.mono _ _ _ _ k hE.1, i1.mono _ _ _ _ k hE.2⟩⟩
  intro W φ h im fuel cs y hy
  obtain ⟨xs, m, rfl, rfl, hl, hxl, hx⟩ := DataW.trod_struct ht hy
  rw [hc] at hl
  have hxl : xs.length = 2 := hxl
  have e0 := hx 0 f0 rfl
  have e1 := hx 1 f1 rfl
  rw [h0, hc0, List.drop_zero, List.getElem?_eq_getElem (by omega)] at e0
  rw [h1, hc1, List.take_of_length_le (by rw [List.length_drop]; omega), List.getElem?_eq_getElem (by omega)] at e1
  obtain ⟨φ1, hp1, a, x, im1, le1, k1, hv1, hE1⟩ := i0.imp W φ h im m _ _ e0
  obtain ⟨φ2, hp2, b, z, im2, le2, k2, hv2, hE2⟩ := i1.imp W φ1 hp1 im1 m _ _ e1
  obtain ⟨q1, q2, q3⟩ := VRels.split (hv1.mono le2) hv2 (by omega)
  exact ⟨φ2, hp2, a ++ b, (x, z), im2, Emb.le_trans le1 le2, k1.trans k2, q1, by rw [q2]; exact i0.mono _ _ _ _ k2 hE1, by rw [q3]; exact hE2⟩
/-- A table, as the first package-level variable. -/
theorem Imp.table {W : World} {cs : List AV} (hcell : ∀ (j : Nat) (x : AV), cs[j]? = some x → ∃ v, W.cell? ⟨0, j, none⟩ = some v ∧ ∀ φ, VRel φ x v) (h0 : 0 < W.heap.size) : ∃ φ h, Imp W φ h ∧ h.globs.contains 0 = true ∧ Rd h (.ptr 0 0) 0 cs := by
  obtain ⟨im, _⟩ := (Imp.empty W).push cs (some (0, 0, cs.length)) (by
    intro k i z hq
    cases hq
    refine ⟨h0, fun j x hx => ?_⟩
    obtain ⟨v, h1, h2⟩ := hcell j x hx
    exact ⟨v, by rw [Nat.zero_add]; exact h1, h2 _⟩)
  refine ⟨_, ⟨(h00.push (.cells none 0 cs)).blks, (h00.push (.cells none 0 cs)).fams, [0]⟩, ⟨⟨?_, im.rel.lt, im.rel.blk, im.rel.arr, im.rel.one, im.rel.sep, im.rel.map, im.rel.ext⟩, im.ro, im.out⟩, rfl, .inr (.inl ⟨0, 0, none, 0, cs, .inr ⟨rfl, rfl⟩, rfl, rfl, by rw [List.drop_zero, List.take_length]⟩)⟩
  intro g hg
  have hg : g = 0 := by simpa using hg
  subst hg
  exact ⟨cs.length, rfl⟩
end Go.Am

namespace Go.Am
open Go.ChangeShapes Go.WideShapes
def laidL : List (String × DataW Unit) := [("math/bits.deBruijn32tab", Go.Proofs.YtfoiccnlcheklaaDoor.Rows.laid_math_bits_deBruijn32tab)]
def litI : DataW Unit → Option Int
  | .lit (.int .u8 n) => some n
  | _ => none
def aggL : DataW Unit → List (DataW Unit)
  | .agg l => l
  | _ => []
theorem laid_lits : (aggL Go.Proofs.YtfoiccnlcheklaaDoor.Rows.laid_math_bits_deBruijn32tab).map litI = tzL.map fun (v : Nat) => some (v : Int) := by kernel_rfl
theorem sizes_laid {W : World} (h : laidMetH Go.Proofs.Tryd.prog laidL W) : ∃ φ hp, Imp W φ hp ∧ Tab hp := by
  rw [MakeChecks.laidMetH_plain _ _ _ (by kernel_rfl)] at h
  obtain ⟨ps, ⟨g0, t0, cs0, f0, p0, q0, hg0, ht0, hv0, hd0, _, _⟩, _, _⟩ := h
  obtain rfl := Option.some.inj ((show Go.Proofs.Tryd.prog.globalNamed "math/bits.deBruijn32tab" = some 0 by kernel_rfl).symm.trans hg0)
  obtain rfl := Option.some.inj ((show (Go.Proofs.Tryd.prog.globals[0]?).map (·.type) = some 100 by kernel_rfl).symm.trans ht0)
  obtain ⟨xs, m, rfl, hx1, hl, hxl, hx⟩ := DataW.trod_array Go.Proofs.Tryd.underlying100 hd0
  have c1 : Go.Proofs.Tryd.prog.cellsOf 5 = 1 := by kernel_rfl
  have c2 : Go.Proofs.Tryd.prog.cellsOf 100 = 32 := by kernel_rfl
  rw [c2] at hl
  have hd := (Prod.mk.inj hx1).1
  have hxs : xs.map (fun x => litI x.1) = tzL.map fun (v : Nat) => some (v : Int) := by
    rw [← laid_lits, hd]
    show _ = (xs.map (·.1)).map litI
    rw [List.map_map]; rfl
  have key : ∀ i, i < 32 → cs0.toList[i]? = some (.int .u8 ((tzL.getD i 0 : Nat) : Int)) := by
    intro i hi
    have h2 := hx i hi
    rw [c1, Nat.mul_one, List.getElem?_eq_getElem (by omega)] at h2
    obtain ⟨c, h3, h4, _⟩ := DataW.trod_int Go.Proofs.Tryd.underlying5 h2
    have h5 : ((cs0.toList.drop i).take 1)[0]? = some (.int .u8 c) := by rw [h3]; rfl
    have h6 : cs0.toList[i]? = some (.int .u8 c) := by simpa [List.getElem?_take, List.getElem?_drop] using h5
    have h7 := congrArg (fun l => l[i]?) hxs
    have hti : i < tzL.length := hi
    simp only [List.getElem?_map, List.getElem?_eq_getElem (show i < xs.length by omega), List.getElem?_eq_getElem hti, Option.map_some, Option.some.injEq] at h7
    rw [h4] at h7
    have h8 : c = ((tzL.getD i 0 : Nat) : Int) := by
      rw [List.getD_eq_getElem?_getD, List.getElem?_eq_getElem hti]
      simpa [litI] using h7
    rw [h6, h8]
  have hcell : ∀ i, i < 32 → W.cell? ⟨0, i, none⟩ = some (.int .u8 ((tzL.getD i 0 : Nat) : Int)) := by
    intro i hi
    rw [World.var?_cell hg0 hv0 i, ← Array.getElem?_toList]
    exact key i hi
  obtain ⟨φ, hp, im, h1, h2⟩ := Imp.table (W := W) (cs := tzC) (by
    intro j x hj
    have hj32 : j < 32 := (List.getElem?_eq_some_iff.1 hj).1
    have hjl : j < tzL.length := hj32
    rw [tzC, List.getElem?_map, List.getElem?_eq_getElem hjl] at hj
    cases hj
    refine ⟨_, hcell j hj32, fun φ => ?_⟩
    rw [List.getD_eq_getElem?_getD, List.getElem?_eq_getElem hjl]
    exact .int _ _) (by
    have h3 := hcell 0 (by decide)
    unfold World.cell? at h3
    split at h3
    · rename_i hc
      exact (Array.getElem?_eq_some_iff.1 hc).1
    · cases h3)
  exact ⟨φ, hp, im, h1, h2⟩
end Go.Am

namespace Go.Am
def anyS (ss : List ByteArray) (s : ByteArray) : Bool := ss.any fun x => s.toList == x.toList
theorem toList_eq {a b : ByteArray} : (a.toList == b.toList) = true ↔ a = b := by
  rw [beq_iff_eq, ByteArray.toList_eq, ByteArray.toList_eq]
  exact ⟨ba_ext, fun h => by rw [h]⟩
theorem anyS_iff {ss : List ByteArray} {s : ByteArray} : anyS ss s = true ↔ s ∈ ss := by
  unfold anyS
  rw [List.any_eq_true]
  constructor
  · rintro ⟨x, hx, he⟩; rw [toList_eq.1 he]; exact hx
  · intro h; exact ⟨s, h, toList_eq.2 rfl⟩
theorem anyS_take {ss : List ByteArray} {s : ByteArray} {i : Nat} (hi : i ≤ ss.length) : anyS (ss.take i) s = true ↔ ∃ j, j < i ∧ sAtL ss j = s := by
  rw [anyS_iff, List.mem_iff_getElem]
  constructor
  · rintro ⟨j, hj, he⟩
    rw [List.length_take] at hj
    refine ⟨j, by omega, ?_⟩
    rw [List.getElem_take] at he
    rw [sAtL, List.getD_eq_getElem?_getD, List.getElem?_eq_getElem (by omega)]; exact he
  · rintro ⟨j, hj, he⟩
    refine ⟨j, by rw [List.length_take]; omega, ?_⟩
    rw [List.getElem_take]
    rw [sAtL, List.getD_eq_getElem?_getD, List.getElem?_eq_getElem (by omega)] at he
    exact he
/-- A table of rows of words that is owned. -/
abbrev tabW (vo : AV) (vs : List AV) (ps : List (List (List Bool))) : List Obj := ⟨vo, 1, vs, true⟩ :: List.zipWith (fun v p => (⟨v, 1, wcs p, true⟩ : Obj)) vs ps
theorem St.rowTW {h0 h : AHeap} {vo : AV} {vs : List AV} {ps : List (List (List Bool))} (st : St h0 h (tabW vo vs ps)) (hl : vs.length = ps.length) {k : Nat} (hk : k < ps.length) : WRow h (vs.getD k .bot) (ps.getD k []) := by
  refine St.rd st (k + 1) (o := ⟨vs.getD k .bot, 1, wcs (ps.getD k []), true⟩) ?_
  rw [List.getElem?_cons_succ, List.getElem?_zipWith, List.getElem?_eq_getElem (by omega : k < vs.length), List.getElem?_eq_getElem hk, List.getD_eq_getElem?_getD, List.getD_eq_getElem?_getD, List.getElem?_eq_getElem (by omega : k < vs.length), List.getElem?_eq_getElem hk]
  rfl
section
variable {P : Program} {n : Nat} {ops : Array Oper} {ex : List Nat} {Q : KF → AHeap → Prop} {k : Nat} {os : List Oper} {K : KF} {h h0 : AHeap} {d : Nat} {ty : TypeId} {pos : String} {after : Array Edge} {objs : List Obj}
/-- A row behind the rows of a table. -/
theorem KOps.appendTW {t e : TypeId} {x y : Operand} {vo u w : AV} {vs : List AV} {p : List (List Bool)} {ps : List (List (List Bool))} {zs : List AV} {tip' : Bool} [hx : EvK h.globs n K x vo] [hy : EvK h.globs n K y u] [ht : SlT P t e 1 zs] (st : St h0 h (⟨u, 1, [w], tip'⟩ :: ⟨w, 1, wcs p, true⟩ :: tabW vo vs ps)) (hl : vs.length = ps.length) (hw : w.one = true) (hsz : vs.length + 1 ≤ 4294967296)
    (hk : ∀ r h', r.one = true → St h0 h' (tabW r (vs ++ [w]) (ps ++ [p])) → KOps P n ops ex Q (k + 1) os ((d, r) :: K) h') :
    KOps P n ops ex Q k (⟨some d, .call { callee := .builtin .append, args := #[x, y], argTypes := #[t, t] }, ty, pos, after, none⟩ :: os) K h := by
  refine KOps.append (e := e) (zs := zs) (s := 1) (i := 2) (a := vs.length) (b := 1) (xs := vs) (ys := [w]) (tip := true) st (fun _ => rfl) rfl (by simp) (st.rd 0 rfl) rfl (by simpa using hw) hsz ?_
  intro r h' hS
  simp only [List.set_cons_zero, List.set_cons_succ] at hS
  have h2 : r.one = true := St.one hS (k := 2) rfl
  have h3 := St.tail hS
  refine hk r h' h2 (St.perm ?_ h3)
  rw [tabW, List.zipWith_append hl]
  exact (List.Perm.swap _ _ _).trans (List.Perm.cons _ (List.perm_append_comm (l₁ := [_]) (l₂ := _)))
end
theorem rowPart {α : Type} {f : α → AV} {h : AHeap} {v r : AV} {l : List α} {lo hi : Nat} (hr : Rd h v 1 (l.map f)) (hp : PartOf r v 1 lo hi) (hlo : lo ≤ hi) : Rd h r 1 (((l.drop lo).take (hi - lo)).map f) := by
  have := Rd.part hr hp hlo
  rwa [Nat.mul_one, Nat.mul_one, ← List.map_drop, ← List.map_take] at this
theorem sAtL_is (ss : List ByteArray) (i : Nat) : ss.getD i ByteArray.empty = sAtL ss i := rfl
theorem indexS_c {h : AHeap} {v : AV} {ss : List ByteArray} {s : ByteArray} (hv : SRow h v ss) (hl : ss.length ≤ 4096) : ACalls Go.Proofs.Tryd.prog 69 [v, .str s] h (fun q h' => (∃ r : Int, q = .int .i64 r ∧ decide (0 ≤ r) = anyS ss s) ∧ h = h') := by
  refine KA.fn 19 [.tmp 4] Go.Proofs.Tryd.func69 rfl (by decide) rfl rfl (Nat.le_of_ble_eq_true rfl) ?_
  show KA _ 19 _ _ [(0, v), (1, .str s)] _
  refine KA.seq ?_
  refine KA.region rfl ?_
  refine KOps.assign ?_
  refine KOps.done ?_
  refine sqQ.normal ?_
  refine KA.sub (Sub.cons (t := 0) Look.eq (Sub.cons (t := 1) Look.eq (Sub.nil _))) ?_
  refine KA.seq ?_
  refine KA.seq ?_
  refine KA.region rfl ?_
  refine KOps.move ?_
  refine KOps.lenI hv ?_
  refine KOps.move ?_
  refine KOps.done ?_
  refine sqQ.normal ?_
  refine KA.sub (Sub.cons (t := 0) Look.eq (Sub.cons (t := 1) Look.eq (Sub.cons (t := 7) Look.eq (Sub.cons (t := 8) Look.eq (Sub.nil _))))) ?_
  refine KA.block ?_
  refine KA.loop (X := Nat) (fun i => [(0, v), (1, .str s), (7, .int .i64 (ss.length : Int)), (8, .int .i64 (i : Int))]) (fun i h' => i ≤ ss.length ∧ (∀ j, j < i → sAtL ss j ≠ s) ∧ h = h') (fun i => ss.length - i) 0 (by repeat (first | exact Sub.nil _ | refine Sub.cons Look.eq ?_ | refine Sub.cons (Eq.trans Look.eq (congrArg (AV.int _) (by first | omega | (dsimp only; omega)))) ?_)) ?_ ?_
  · exact ⟨Nat.zero_le _, fun j hj => absurd hj (Nat.not_lt_zero _), rfl⟩
  rintro i h2 ⟨hi, hno, rfl⟩
  refine KA.seq ?_
  refine KA.region rfl ?_
  refine KOps.lss ?_
  refine KOps.done ?_
  refine sqQ.normal ?_
  refine KA.seq ?_
  refine KA.condD ?_ ?_
  · intro c9
    refine KA.skip ?_
    refine sqQ.normal ?_
    refine KA.sub (Sub.cons (t := 0) Look.eq (Sub.cons (t := 1) Look.eq (Sub.cons (t := 7) Look.eq (Sub.cons (t := 8) Look.eq (Sub.nil _))))) ?_
    refine KA.seq ?_
    refine KA.block ?_
    refine KA.seq ?_
    refine KA.region rfl ?_
    refine KOps.move ?_
    refine KOps.assign ?_
    refine KOps.done ?_
    refine sqQ.normal ?_
    refine KA.sub (Sub.cons (t := 0) Look.eq (Sub.cons (t := 1) Look.eq (Sub.cons (t := 5) Look.eq (Sub.cons (t := 7) Look.eq (Sub.cons (t := 8) Look.eq (Sub.nil _)))))) ?_
    refine KA.seq ?_
    refine KA.region rfl ?_
    refine KOps.move ?_
    refine KOps.move ?_
    refine KOps.move ?_
    refine KOps.indexIJ hv (j := i) rfl (by first | omega | (simp; done) | (simp; omega)) ?_
    intro p14 hp14
    refine KOps.loadS hp14 hv (by first | omega | (simp; done) | (simp; omega)) ?_
    refine KOps.sEql ?_
    refine KOps.done ?_
    refine sqQ.normal ?_
    refine KA.sub (Sub.cons (t := 0) Look.eq (Sub.cons (t := 1) Look.eq (Sub.cons (t := 5) Look.eq (Sub.cons (t := 7) Look.eq (Sub.cons (t := 8) Look.eq (Sub.cons (t := 16) Look.eq (Sub.nil _))))))) ?_
    refine KA.condB ?_ ?_
    · intro c16
      refine KA.seq ?_
      refine KA.region rfl ?_
      refine KOps.move ?_
      refine KOps.assign ?_
      refine KOps.done ?_
      refine sqQ.normal ?_
      refine KA.sub (Sub.cons (t := 4) Look.eq (Sub.nil _)) ?_
      refine KA.ret ?_
      refine blQ.ret ?_
      refine sqQ.ret ?_
      refine lpQ.ret ?_
      refine blQ.ret ?_
      refine sqQ.ret ?_
      refine fnQ.ret1 ?_
      have hf := (anyS_take (ss := ss) (s := s) (Nat.le_refl _)).2 ⟨i, by omega, (toList_eq.1 c16).symm⟩
      rw [List.take_length] at hf
      exact ⟨⟨_, rfl, by rw [hf]; exact decide_eq_true (by omega)⟩, rfl⟩
    · intro c16
      refine KA.skip ?_
      refine blQ.normal ?_
      refine sqQ.normal ?_
      refine KA.sub (Sub.cons (t := 0) Look.eq (Sub.cons (t := 1) Look.eq (Sub.cons (t := 7) Look.eq (Sub.cons (t := 8) Look.eq (Sub.nil _))))) ?_
      refine KA.region rfl ?_
      refine KOps.add (by first | omega | (simp; omega)) (by first | omega | (simp; omega)) ?_
      refine KOps.move ?_
      refine KOps.done ?_
      exact lpQ.normal (i + 1) (by repeat (first | exact Sub.nil _ | refine Sub.cons Look.eq ?_ | refine Sub.cons (Eq.trans Look.eq (congrArg (AV.int _) (by first | omega | (dsimp only; omega)))) ?_)) ⟨by omega, fun j hj => by
        rcases Nat.lt_succ_iff_lt_or_eq.1 hj with h | rfl
        · exact hno j h
        · exact fun e => absurd (toList_eq.2 e.symm) (by rw [sAtL, c16]; decide), rfl⟩ (by omega)
  · intro c9
    refine KA.exit ?_
    refine sqQ.exit ?_
    refine lpQ.exit ?_
    refine blQ.here ?_
    refine sqQ.normal ?_
    refine KA.sub (Sub.nil _) ?_
    refine KA.seq ?_
    refine KA.region rfl ?_
    refine KOps.assign ?_
    refine KOps.done ?_
    refine sqQ.normal ?_
    refine KA.ret ?_
    refine fnQ.ret1 ?_
    refine ⟨⟨_, rfl, ?_⟩, rfl⟩
    cases hf : anyS ss s with
    | false => rfl
    | true =>
      rw [← List.take_length (l := ss)] at hf
      obtain ⟨j, hj, he⟩ := (anyS_take (Nat.le_refl _)).1 hf
      exact absurd he (hno j (by omega))

theorem containsS_c {h : AHeap} {v : AV} {ss : List ByteArray} {s : ByteArray} (hv : SRow h v ss) (hl : ss.length ≤ 4096) : ACalls Go.Proofs.Tryd.prog 39 [v, .str s] h (fun q h' => q = .bool (anyS ss s) ∧ h = h') := by
  refine KA.fn 9 [.tmp 4] Go.Proofs.Tryd.func39 rfl (by decide) rfl rfl (Nat.le_of_ble_eq_true rfl) ?_
  show KA _ 9 _ _ [(0, v), (1, .str s)] _
  refine KA.seq ?_
  refine KA.region rfl ?_
  refine KOps.assign ?_
  refine KOps.done ?_
  refine sqQ.normal ?_
  refine KA.sub (Sub.cons (t := 0) Look.eq (Sub.cons (t := 1) Look.eq (Sub.nil _))) ?_
  refine KA.seq ?_
  refine KA.region rfl ?_
  refine KOps.move ?_
  refine KOps.move ?_
  refine KOps.call rfl (indexS_c hv (by omega)) ?_
  rintro _ _ ⟨⟨r, rfl, hr⟩, rfl⟩
  refine KOps.geq ?_
  refine KOps.assign ?_
  refine KOps.done ?_
  refine sqQ.normal ?_
  refine KA.sub (Sub.cons (t := 4) Look.eq (Sub.nil _)) ?_
  refine KA.ret ?_
  refine fnQ.ret1 ?_
  exact ⟨congrArg AV.bool hr, rfl⟩

end Go.Am

namespace Go.Am
theorem take_map {ss : List ByteArray} {i : Nat} (h : i < ss.length) (f : ByteArray → List (List Bool)) : (ss.take (i + 1)).map f = (ss.take i).map f ++ [f (sAtL ss i)] := by
  rw [List.take_add_one, List.getElem?_eq_getElem h, List.map_append, sAtL, List.getD_eq_getElem?_getD, List.getElem?_eq_getElem h]
  rfl
theorem map_at {ss : List ByteArray} {i : Nat} (h : i < ss.length) (f : ByteArray → List (List Bool)) : (ss.map f).getD i [] = f (sAtL ss i) := by
  rw [List.getD_eq_getElem?_getD, List.getElem?_map, List.getElem?_eq_getElem h, sAtL, List.getD_eq_getElem?_getD, List.getElem?_eq_getElem h]
  rfl
theorem safeP_c {h : AHeap} {v : AV} {ss : List ByteArray} (hv : SRow h v ss) (hlen : ss.length ≤ 4096) : ACalls Go.Proofs.Tryd.prog 31 [v] h (fun q h' => q = safeV ss ∧ Keeps h h') := by
  refine KA.fn 82 [.tmp 2, .tmp 3, .tmp 4] Go.Proofs.Tryd.func31 rfl (by decide) rfl rfl (Nat.le_of_ble_eq_true rfl) ?_
  have hS := St.refl h
  show KA _ 82 _ _ [(0, v)] _
  refine KA.seq ?_
  refine KA.region rfl ?_
  refine KOps.assign ?_
  refine KOps.assign ?_
  refine KOps.assign ?_
  refine KOps.done ?_
  refine sqQ.normal ?_
  refine KA.sub (Sub.cons (t := 0) Look.eq (Sub.nil _)) ?_
  refine KA.seq ?_
  refine KA.seq ?_
  refine KA.region rfl ?_
  refine KOps.move ?_
  refine KOps.lenI (Rd.ext hS.keeps hv) ?_
  refine KOps.gtr ?_
  refine KOps.done ?_
  refine sqQ.normal ?_
  refine KA.sub (Sub.cons (t := 0) Look.eq (Sub.cons (t := 15) Look.eq (Sub.nil _))) ?_
  refine KA.condD ?_ ?_
  · intro c15
    refine KA.seq ?_
    refine KA.region rfl ?_
    refine KOps.assign ?_
    refine KOps.assign ?_
    refine KOps.assign ?_
    refine KOps.done ?_
    refine sqQ.normal ?_
    refine KA.sub (Sub.cons (t := 2) Look.eq (Sub.cons (t := 3) Look.eq (Sub.cons (t := 4) Look.eq (Sub.nil _)))) ?_
    refine KA.ret ?_
    refine sqQ.ret ?_
    refine fnQ.retN ?_
    exact ⟨by rw [safe_long (by omega)], hS.keeps⟩
  · intro c15
    refine KA.skip ?_
    refine sqQ.normal ?_
    refine KA.sub (Sub.cons (t := 0) Look.eq (Sub.nil _)) ?_
    refine KA.seq ?_
    refine KA.region rfl ?_
    refine KOps.assign ?_
    refine KOps.done ?_
    refine sqQ.normal ?_
    refine KA.seq ?_
    refine KA.seq ?_
    refine KA.region rfl ?_
    refine KOps.move ?_
    refine KOps.lenI (Rd.ext hS.keeps hv) ?_
    refine KOps.move ?_
    refine KOps.done ?_
    refine sqQ.normal ?_
    refine KA.block ?_
    refine KA.loop (X := Nat × AV × List AV) (fun x => [(0, v), (5, x.2.1), (16, v), (17, .int .i64 (ss.length : Int)), (18, .int .i64 (x.1 : Int))]) (fun x h' => x.1 ≤ ss.length ∧ errTo ss x.1 = 0 ∧ x.2.2.length = x.1 ∧ St h h' (tabW x.2.1 x.2.2 ((ss.take x.1).map fun s => shortW (ofS s)))) (fun x => ss.length - x.1) (0, .nils, []) (by repeat (first | exact Sub.nil _ | refine Sub.cons Look.eq ?_ | refine Sub.cons (Eq.trans Look.eq (congrArg (AV.int _) (by first | omega | (dsimp only; omega)))) ?_)) ?_ ?_
    · exact ⟨Nat.zero_le _, rfl, rfl, hS.nil 1⟩
    rintro ⟨i, vo, vs⟩ h3 ⟨hi, he0, hvl, hS⟩
    dsimp only at hi he0 hvl hS ⊢
    refine KA.seq ?_
    refine KA.region rfl ?_
    refine KOps.lss ?_
    refine KOps.done ?_
    refine sqQ.normal ?_
    refine KA.seq ?_
    refine KA.condD ?_ ?_
    · intro c19
      refine KA.skip ?_
      refine sqQ.normal ?_
      refine KA.sub (Sub.cons (t := 0) Look.eq (Sub.cons (t := 5) Look.eq (Sub.cons (t := 16) Look.eq (Sub.cons (t := 17) Look.eq (Sub.cons (t := 18) Look.eq (Sub.nil _)))))) ?_
      refine KA.seq ?_
      refine KA.block ?_
      refine KA.seq ?_
      refine KA.region rfl ?_
      have hlt : i < ss.length := by omega
      refine KOps.move ?_
      refine KOps.indexIJ (Rd.ext hS.keeps hv) (j := i) rfl (by first | omega | (simp; done) | (simp; omega)) ?_
      intro p21 hp21
      refine KOps.loadS hp21 (Rd.ext hS.keeps hv) (by first | omega | (simp; done) | (simp; omega)) ?_
      rw [sAtL_is]
      refine KOps.assign ?_
      refine KOps.assign ?_
      refine KOps.done ?_
      refine sqQ.normal ?_
      refine KA.sub (Sub.cons (t := 0) Look.eq (Sub.cons (t := 5) Look.eq (Sub.cons (t := 6) Look.eq (Sub.cons (t := 7) Look.eq (Sub.cons (t := 16) Look.eq (Sub.cons (t := 17) Look.eq (Sub.cons (t := 18) Look.eq (Sub.nil _)))))))) ?_
      refine KA.seq ?_
      refine KA.region rfl ?_
      refine KOps.move ?_
      refine KOps.call rfl (checkF_c) ?_
      rintro _ _ ⟨rfl, rfl⟩
      refine KOps.assign ?_
      refine KOps.done ?_
      refine sqQ.normal ?_
      refine KA.sub (Sub.cons (t := 0) Look.eq (Sub.cons (t := 5) Look.eq (Sub.cons (t := 6) Look.eq (Sub.cons (t := 7) Look.eq (Sub.cons (t := 8) Look.eq (Sub.cons (t := 16) Look.eq (Sub.cons (t := 17) Look.eq (Sub.cons (t := 18) Look.eq (Sub.nil _))))))))) ?_
      refine KA.seq ?_
      refine KA.block ?_
      refine KA.seq ?_
      refine KA.region rfl ?_
      refine KOps.move ?_
      refine KOps.neq ?_
      refine KOps.assign ?_
      refine KOps.done ?_
      refine sqQ.normal ?_
      refine KA.sub (Sub.cons (t := 0) Look.eq (Sub.cons (t := 5) Look.eq (Sub.cons (t := 6) Look.eq (Sub.cons (t := 7) Look.eq (Sub.cons (t := 8) Look.eq (Sub.cons (t := 16) Look.eq (Sub.cons (t := 17) Look.eq (Sub.cons (t := 18) Look.eq (Sub.cons (t := 25) Look.eq (Sub.nil _)))))))))) ?_
      refine KA.condN ?_ ?_
      · intro c25
        refine KA.seq ?_
        refine KA.region rfl ?_
        refine KOps.move ?_
        refine KOps.assign ?_
        refine KOps.assign ?_
        refine KOps.assign ?_
        refine KOps.done ?_
        refine sqQ.normal ?_
        refine KA.sub (Sub.cons (t := 2) Look.eq (Sub.cons (t := 3) Look.eq (Sub.cons (t := 4) Look.eq (Sub.nil _)))) ?_
        refine KA.ret ?_
        refine blQ.ret ?_
        refine sqQ.ret ?_
        refine blQ.ret ?_
        refine sqQ.ret ?_
        refine lpQ.ret ?_
        refine blQ.ret ?_
        refine sqQ.ret ?_
        refine fnQ.retN ?_
        have hit : itemE ss i = chkS (sAtL ss i) := item_chk c25
        exact ⟨by rw [safe_err (by omega) (errTo_stop he0 hlt hit (by first | decide | assumption)) (by first | decide | assumption)], hS.keeps⟩
      · intro c25
        obtain ⟨l, hsl, hl⟩ := chk_zero c25
        have hsz : (sAtL ss i).size = l.length := by rw [hsl, wd_size]
        have hof : ofS (sAtL ss i) = l := by rw [hsl, ofS_wd]
        rw [hsl]
        refine KA.seq ?_
        refine KA.region rfl ?_
        refine KOps.move ?_
        refine KOps.lenW ?_
        refine KOps.move ?_
        refine KOps.indexIJ (Rd.ext hS.keeps hv) (j := 0) rfl (by first | omega | (simp; done) | (simp; omega)) ?_
        intro p33 hp33
        refine KOps.loadS hp33 (Rd.ext hS.keeps hv) (by first | omega | (simp; done) | (simp; omega)) ?_
        rw [sAtL_is]
        refine KOps.lenStr ?_
        refine KOps.neq ?_
        refine KOps.move ?_
        refine KOps.guardB (dj := 37) rfl rfl false true rfl ?_ ?_
        · intro g37
          have g37 := of_not_decide g37
          refine KOps.move ?_
          refine KOps.guardYes (dj := 37) rfl rfl ?_
          refine KOps.wEql ?_
          refine KOps.pickF ?_
          refine KOps.assign ?_
          refine KOps.done ?_
          refine sqQ.normal ?_
          refine KA.sub (Sub.cons (t := 0) Look.eq (Sub.cons (t := 5) Look.eq (Sub.cons (t := 6) Look.eq (Sub.cons (t := 7) Look.eq (Sub.cons (t := 16) Look.eq (Sub.cons (t := 17) Look.eq (Sub.cons (t := 18) Look.eq (Sub.cons (t := 29) Look.eq (Sub.cons (t := 38) Look.eq (Sub.cons (t := 39) Look.eq (Sub.nil _))))))))))) ?_
          refine KA.condD ?_ ?_
          · intro c29
            have hl9 : l.length = 0 := by rw [c29]; rfl
            refine KA.seq ?_
            refine KA.region rfl ?_
            refine KOps.assign ?_
            refine KOps.assign ?_
            refine KOps.assign ?_
            refine KOps.done ?_
            refine sqQ.normal ?_
            refine KA.sub (Sub.cons (t := 2) Look.eq (Sub.cons (t := 3) Look.eq (Sub.cons (t := 4) Look.eq (Sub.nil _)))) ?_
            refine KA.ret ?_
            refine blQ.ret ?_
            refine sqQ.ret ?_
            refine blQ.ret ?_
            refine sqQ.ret ?_
            refine lpQ.ret ?_
            refine blQ.ret ?_
            refine sqQ.ret ?_
            refine fnQ.retN ?_
            have hit : itemE ss i = 5 := item_5 c25 (fun q => by omega)
            exact ⟨by rw [safe_err (by omega) (errTo_stop he0 hlt hit (by first | decide | assumption)) (by first | decide | assumption)], hS.keeps⟩
          · intro c29
            have hl0 : 0 < l.length := List.length_pos_iff.2 (by assumption)
            refine KA.seq ?_
            refine KA.region rfl ?_
            refine KOps.move ?_
            refine KOps.move ?_
            refine KOps.sliceHi (Rd.ext hS.keeps hv) (m := ss.length) (by simp) (by omega) (by omega) ?_
            intro v44 hv44
            have hv44 := rowPart (Rd.ext hS.keeps hv) hv44 (Nat.zero_le _)
            rw [List.drop_zero, Nat.sub_zero, Int.toNat_natCast] at hv44
            refine KOps.move ?_
            refine KOps.call rfl (containsS_c hv44 (by rw [List.length_take]; omega)) ?_
            rintro _ _ ⟨rfl, rfl⟩
            refine KOps.assign ?_
            refine KOps.done ?_
            refine sqQ.normal ?_
            refine KA.sub (Sub.cons (t := 0) Look.eq (Sub.cons (t := 5) Look.eq (Sub.cons (t := 7) Look.eq (Sub.cons (t := 16) Look.eq (Sub.cons (t := 17) Look.eq (Sub.cons (t := 18) Look.eq (Sub.cons (t := 38) Look.eq (Sub.cons (t := 39) Look.eq (Sub.cons (t := 41) Look.eq (Sub.nil _)))))))))) ?_
            refine KA.condB ?_ ?_
            · intro c41
              refine KA.seq ?_
              refine KA.region rfl ?_
              refine KOps.assign ?_
              refine KOps.assign ?_
              refine KOps.assign ?_
              refine KOps.done ?_
              refine sqQ.normal ?_
              refine KA.sub (Sub.cons (t := 2) Look.eq (Sub.cons (t := 3) Look.eq (Sub.cons (t := 4) Look.eq (Sub.nil _)))) ?_
              refine KA.ret ?_
              refine blQ.ret ?_
              refine sqQ.ret ?_
              refine blQ.ret ?_
              refine sqQ.ret ?_
              refine lpQ.ret ?_
              refine blQ.ret ?_
              refine sqQ.ret ?_
              refine fnQ.retN ?_
              have hit : itemE ss i = 6 := item_6 c25 ⟨by omega, by omega⟩ ((anyS_take (Nat.le_of_lt hlt)).1 (by rw [hsl]; exact c41))
              exact ⟨by rw [safe_err (by omega) (errTo_stop he0 hlt hit (by first | decide | assumption)) (by first | decide | assumption)], hS.keeps⟩
            · intro c41
              refine KA.skip ?_
              refine blQ.normal ?_
              refine sqQ.normal ?_
              refine KA.sub (Sub.cons (t := 0) Look.eq (Sub.cons (t := 5) Look.eq (Sub.cons (t := 7) Look.eq (Sub.cons (t := 16) Look.eq (Sub.cons (t := 17) Look.eq (Sub.cons (t := 18) Look.eq (Sub.cons (t := 38) Look.eq (Sub.cons (t := 39) Look.eq (Sub.nil _))))))))) ?_
              refine KA.region rfl ?_
              have hct : anyS (ss.take i) (wd l) = anyS (ss.take i) (sAtL ss i) := by rw [hsl]
              refine KOps.move ?_
              refine KOps.move ?_
              refine KOps.call rfl (less_w (by omega)) ?_
              rintro v49 h49 hS49
              have hS0 : St _ _ (_ :: _) := St.trans hS hS49
              clear hS
              have hS := hS0
              clear hS0
              have hr49 : v49.one = true := St.one hS (k := 0) rfl
              refine KOps.buildSlice hS rfl (by decide) (by simpa using hr49) ?_
              intro v50 h' hS
              refine KOps.appendTW hS (by rw [List.length_map, List.length_take]; omega) hr49 (by omega) ?_
              intro r51 h' hr51 hS
              refine KOps.assign ?_
              refine KOps.done ?_
              refine blQ.normal ?_
              refine sqQ.normal ?_
              refine KA.sub (Sub.cons (t := 0) Look.eq (Sub.cons (t := 5) Look.eq (Sub.cons (t := 16) Look.eq (Sub.cons (t := 17) Look.eq (Sub.cons (t := 18) Look.eq (Sub.cons (t := 38) Look.eq (Sub.cons (t := 39) Look.eq (Sub.nil _)))))))) ?_
              refine KA.region rfl ?_
              refine KOps.add (by first | omega | (simp; omega)) (by first | omega | (simp; omega)) ?_
              refine KOps.move ?_
              refine KOps.done ?_
              have hit : itemE ss i = 0 := item_0 c25 ⟨by omega, by omega⟩ (fun q => by rw [hct] at c41; exact absurd ((anyS_take (Nat.le_of_lt hlt)).2 q) (by rw [c41]; decide))
              rw [← hof, ← take_map hlt (fun s => shortW (ofS s))] at hS
              exact lpQ.normal (i + 1, _, _) (by repeat (first | exact Sub.nil _ | refine Sub.cons Look.eq ?_ | refine Sub.cons (Eq.trans Look.eq (congrArg (AV.int _) (by first | omega | (dsimp only; omega)))) ?_)) ⟨by dsimp only; omega, by dsimp only; rw [errTo, if_pos he0, hit], by rw [List.length_append, hvl]; rfl, hS⟩ (by dsimp only; omega)
        · intro g37
          have g37 := not_of_not_decide g37
          refine KOps.guardNo (dj := 37) rfl rfl rfl ?_
          refine KOps.pickT ?_
          refine KOps.assign ?_
          refine KOps.done ?_
          refine sqQ.normal ?_
          refine KA.sub (Sub.cons (t := 0) Look.eq (Sub.cons (t := 5) Look.eq (Sub.cons (t := 6) Look.eq (Sub.cons (t := 7) Look.eq (Sub.cons (t := 16) Look.eq (Sub.cons (t := 17) Look.eq (Sub.cons (t := 18) Look.eq (Sub.cons (t := 29) Look.eq (Sub.cons (t := 38) Look.eq (Sub.cons (t := 39) Look.eq (Sub.nil _))))))))))) ?_
          refine KA.condT ?_
          refine KA.seq ?_
          refine KA.region rfl ?_
          refine KOps.assign ?_
          refine KOps.assign ?_
          refine KOps.assign ?_
          refine KOps.done ?_
          refine sqQ.normal ?_
          refine KA.sub (Sub.cons (t := 2) Look.eq (Sub.cons (t := 3) Look.eq (Sub.cons (t := 4) Look.eq (Sub.nil _)))) ?_
          refine KA.ret ?_
          refine blQ.ret ?_
          refine sqQ.ret ?_
          refine blQ.ret ?_
          refine sqQ.ret ?_
          refine lpQ.ret ?_
          refine blQ.ret ?_
          refine sqQ.ret ?_
          refine fnQ.retN ?_
          have hit : itemE ss i = 5 := item_5 c25 (fun q => by omega)
          exact ⟨by rw [safe_err (by omega) (errTo_stop he0 hlt hit (by first | decide | assumption)) (by first | decide | assumption)], hS.keeps⟩
    · intro c19
      refine KA.exit ?_
      refine sqQ.exit ?_
      refine lpQ.exit ?_
      refine blQ.here ?_
      refine sqQ.normal ?_
      refine KA.sub (Sub.cons (t := 5) Look.eq (Sub.nil _)) ?_
      refine KA.seq ?_
      refine KA.seq ?_
      refine KA.region rfl ?_
      have hie : i = ss.length := by omega
      subst hie
      rw [List.take_length] at hS
      have heA := he0
      refine KOps.move ?_
      refine KOps.lenV (hS.rd 0 rfl) ?_
      rw [hvl]
      refine KOps.move ?_
      refine KOps.done ?_
      refine sqQ.normal ?_
      refine KA.sub (Sub.cons (t := 5) Look.eq (Sub.cons (t := 54) Look.eq (Sub.cons (t := 55) Look.eq (Sub.nil _)))) ?_
      refine KA.block ?_
      refine KA.loop (X := Nat) (fun i => [(5, vo), (54, .int .i64 (ss.length : Int)), (55, .int .i64 (i : Int))]) (fun i h' => i ≤ ss.length ∧ (∀ a b, a < b → b < ss.length → a < i → clS ss a b = false) ∧ St h h' (tabW vo vs (ss.map fun s => shortW (ofS s)))) (fun i => ss.length - i) 0 (by repeat (first | exact Sub.nil _ | refine Sub.cons Look.eq ?_ | refine Sub.cons (Eq.trans Look.eq (congrArg (AV.int _) (by first | omega | (dsimp only; omega)))) ?_)) ?_ ?_
      · exact ⟨Nat.zero_le _, fun a b _ _ h => absurd h (Nat.not_lt_zero _), hS⟩
      rintro i h4 ⟨hi, hA, hS⟩
      refine KA.seq ?_
      refine KA.region rfl ?_
      refine KOps.lss ?_
      refine KOps.done ?_
      refine sqQ.normal ?_
      refine KA.seq ?_
      refine KA.condD ?_ ?_
      · intro c56
        refine KA.skip ?_
        refine sqQ.normal ?_
        refine KA.sub (Sub.cons (t := 5) Look.eq (Sub.cons (t := 54) Look.eq (Sub.cons (t := 55) Look.eq (Sub.nil _)))) ?_
        refine KA.seq ?_
        refine KA.block ?_
        refine KA.seq ?_
        refine KA.region rfl ?_
        refine KOps.move ?_
        refine KOps.assign ?_
        refine KOps.done ?_
        refine sqQ.normal ?_
        refine KA.sub (Sub.cons (t := 5) Look.eq (Sub.cons (t := 9) Look.eq (Sub.cons (t := 54) Look.eq (Sub.cons (t := 55) Look.eq (Sub.nil _))))) ?_
        refine KA.seq ?_
        refine KA.region rfl ?_
        refine KOps.move ?_
        refine KOps.add (by first | omega | (simp; omega)) (by first | omega | (simp; omega)) ?_
        refine KOps.assign ?_
        refine KOps.done ?_
        refine sqQ.normal ?_
        refine KA.sub (Sub.cons (t := 5) Look.eq (Sub.cons (t := 9) Look.eq (Sub.cons (t := 10) Look.eq (Sub.cons (t := 54) Look.eq (Sub.cons (t := 55) Look.eq (Sub.nil _)))))) ?_
        refine KA.block ?_
        refine KA.loop (X := Nat) (fun k => [(5, vo), (9, .int .i64 (i : Int)), (54, .int .i64 (ss.length : Int)), (55, .int .i64 (i : Int)), (10, .int .i64 (k : Int))]) (fun k h' => i < k ∧ k ≤ ss.length ∧ (∀ b, i < b → b < k → clS ss i b = false) ∧ St h h' (tabW vo vs (ss.map fun s => shortW (ofS s)))) (fun k => ss.length - k) (i + 1) (by repeat (first | exact Sub.nil _ | refine Sub.cons Look.eq ?_ | refine Sub.cons (Eq.trans Look.eq (congrArg (AV.int _) (by first | omega | (dsimp only; omega)))) ?_)) ?_ ?_
        · exact ⟨Nat.lt_succ_self _, by omega, fun b h1 h2 => absurd h1 (by omega), hS⟩
        rintro k h5 ⟨hik, hk, hB, hS⟩
        refine KA.seq ?_
        refine KA.seq ?_
        refine KA.region rfl ?_
        refine KOps.move ?_
        refine KOps.move ?_
        refine KOps.lenV (hS.rd 0 rfl) ?_
        rw [hvl]
        refine KOps.lss ?_
        refine KOps.done ?_
        refine sqQ.normal ?_
        refine KA.sub (Sub.cons (t := 5) Look.eq (Sub.cons (t := 9) Look.eq (Sub.cons (t := 10) Look.eq (Sub.cons (t := 54) Look.eq (Sub.cons (t := 55) Look.eq (Sub.cons (t := 63) Look.eq (Sub.nil _))))))) ?_
        refine KA.condD ?_ ?_
        · intro c63
          refine KA.skip ?_
          refine sqQ.normal ?_
          refine KA.sub (Sub.cons (t := 5) Look.eq (Sub.cons (t := 9) Look.eq (Sub.cons (t := 10) Look.eq (Sub.cons (t := 54) Look.eq (Sub.cons (t := 55) Look.eq (Sub.nil _)))))) ?_
          refine KA.seq ?_
          refine KA.block ?_
          refine KA.seq ?_
          refine KA.draw [] mixed rfl (by kernel_rfl) ?_
          have hwi := word_at heA (i := i) (by omega)
          have hwk := word_at heA (i := k) (by omega)
          have hll : (ss.map fun s => shortW (ofS s)).length = ss.length := List.length_map ..
          have hri := St.rowTW hS (by omega) (k := i) (by omega)
          have hrk := St.rowTW hS (by omega) (k := k) (by omega)
          rw [map_at (by omega) (fun s => shortW (ofS s))] at hri hrk
          refine KOps.move ?_
          refine KOps.move ?_
          refine KOps.indexVJ (hS.rd 0 rfl) (j := i) rfl (show i < vs.length by omega) ?_
          intro p69 hp69
          refine KOps.loadV hp69 (hS.rd 0 rfl) (show i < vs.length by omega) ?_
          refine KOps.move ?_
          refine KOps.move ?_
          refine KOps.indexVJ (hS.rd 0 rfl) (j := k) rfl (show k < vs.length by omega) ?_
          intro p73 hp73
          refine KOps.loadV hp73 (hS.rd 0 rfl) (show k < vs.length by omega) ?_
          refine KOps.call rfl (sharedW_c hri hrk (by omega) (by omega)) ?_
          rintro _ _ ⟨rfl, rfl⟩
          refine KOps.move ?_
          refine KOps.extract ?_
          refine KOps.extract ?_
          refine KOps.assign ?_
          refine KOps.assign ?_
          refine KOps.done ?_
          refine sqQ.normal ?_
          refine KA.sub (Sub.cons (t := 5) Look.eq (Sub.cons (t := 9) Look.eq (Sub.cons (t := 10) Look.eq (Sub.cons (t := 12) Look.eq (Sub.cons (t := 54) Look.eq (Sub.cons (t := 55) Look.eq (Sub.nil _))))))) ?_
          refine KA.seq ?_
          refine KA.region rfl ?_
          refine KOps.move ?_
          refine KOps.done ?_
          refine sqQ.normal ?_
          refine KA.sub (Sub.cons (t := 5) Look.eq (Sub.cons (t := 9) Look.eq (Sub.cons (t := 10) Look.eq (Sub.cons (t := 54) Look.eq (Sub.cons (t := 55) Look.eq (Sub.cons (t := 78) Look.eq (Sub.nil _))))))) ?_
          refine KA.condB ?_ ?_
          · intro c78
            refine KA.seq ?_
            refine KA.region rfl ?_
            refine KOps.move ?_
            refine KOps.move ?_
            refine KOps.assign ?_
            refine KOps.assign ?_
            refine KOps.assign ?_
            refine KOps.done ?_
            refine sqQ.normal ?_
            refine KA.sub (Sub.cons (t := 2) Look.eq (Sub.cons (t := 3) Look.eq (Sub.cons (t := 4) Look.eq (Sub.nil _)))) ?_
            refine KA.ret ?_
            refine blQ.ret ?_
            refine sqQ.ret ?_
            refine lpQ.ret ?_
            refine blQ.ret ?_
            refine blQ.ret ?_
            refine sqQ.ret ?_
            refine lpQ.ret ?_
            refine blQ.ret ?_
            refine sqQ.ret ?_
            refine fnQ.retN ?_
            exact ⟨by rw [safe_clash (i := i) (k := k) (by omega) heA ⟨hik, by omega, by unfold clS clashW; exact c78, fun a b h1 h2 h3 => by
              rcases h3 with h3 | ⟨h3, h4⟩
              · exact hA a b h1 h2 h3
              · have h3 : a = i := h3
                subst h3
                exact hB b h1 h4⟩], hS.keeps⟩
          · intro c78
            refine KA.skip ?_
            refine blQ.normal ?_
            refine sqQ.normal ?_
            refine KA.sub (Sub.cons (t := 5) Look.eq (Sub.cons (t := 9) Look.eq (Sub.cons (t := 10) Look.eq (Sub.cons (t := 54) Look.eq (Sub.cons (t := 55) Look.eq (Sub.nil _)))))) ?_
            refine KA.region rfl ?_
            refine KOps.move ?_
            refine KOps.add (by first | omega | (simp; omega)) (by first | omega | (simp; omega)) ?_
            refine KOps.assign ?_
            refine KOps.done ?_
            exact lpQ.normal (k + 1) (by repeat (first | exact Sub.nil _ | refine Sub.cons Look.eq ?_ | refine Sub.cons (Eq.trans Look.eq (congrArg (AV.int _) (by first | omega | (dsimp only; omega)))) ?_)) ⟨by omega, by omega, fun b h1 h2 => by
              rcases Nat.lt_succ_iff_lt_or_eq.1 h2 with h | rfl
              · exact hB b h1 h
              · unfold clS clashW; exact c78, hS⟩ (by omega)
        · intro c63
          refine KA.exit ?_
          refine sqQ.exit ?_
          refine lpQ.exit ?_
          refine blQ.here ?_
          refine blQ.normal ?_
          refine sqQ.normal ?_
          refine KA.sub (Sub.cons (t := 5) Look.eq (Sub.cons (t := 54) Look.eq (Sub.cons (t := 55) Look.eq (Sub.nil _)))) ?_
          refine KA.region rfl ?_
          refine KOps.add (by first | omega | (simp; omega)) (by first | omega | (simp; omega)) ?_
          refine KOps.move ?_
          refine KOps.done ?_
          exact lpQ.normal (i + 1) (by repeat (first | exact Sub.nil _ | refine Sub.cons Look.eq ?_ | refine Sub.cons (Eq.trans Look.eq (congrArg (AV.int _) (by first | omega | (dsimp only; omega)))) ?_)) ⟨by omega, fun a b h1 h2 h3 => by
            rcases Nat.lt_succ_iff_lt_or_eq.1 h3 with h | rfl
            · exact hA a b h1 h2 h
            · exact hB b h1 (by omega), hS⟩ (by omega)
      · intro c56
        refine KA.exit ?_
        refine sqQ.exit ?_
        refine lpQ.exit ?_
        refine blQ.here ?_
        refine sqQ.normal ?_
        refine KA.sub (Sub.nil _) ?_
        refine KA.seq ?_
        refine KA.region rfl ?_
        refine KOps.assign ?_
        refine KOps.assign ?_
        refine KOps.assign ?_
        refine KOps.done ?_
        refine sqQ.normal ?_
        refine KA.ret ?_
        refine fnQ.retN ?_
        exact ⟨by rw [safe_none (by omega) heA (fun a b h1 h2 => hA a b h1 h2 (by omega))], hS.keeps⟩

end Go.Am

namespace Go.Am
theorem classP_c {h : AHeap} {s : ByteArray} : ACalls Go.Proofs.Tryd.prog 14 [.str s] h (fun q h' => q = .tup [.int .i64 ((wtS s : Nat) : Int), .int .i64 ((clsS s : Nat) : Int), .int .i64 (chkS s)] ∧ h = h') := by
  refine KA.fn 20 [.tmp 2, .tmp 3, .tmp 4] Go.Proofs.Tryd.func14 rfl (by decide) rfl rfl (Nat.le_of_ble_eq_true rfl) ?_
  show KA _ 20 _ _ [(0, .str s)] _
  refine KA.seq ?_
  refine KA.region rfl ?_
  refine KOps.assign ?_
  refine KOps.assign ?_
  refine KOps.assign ?_
  refine KOps.done ?_
  refine sqQ.normal ?_
  refine KA.sub (Sub.cons (t := 0) Look.eq (Sub.nil _)) ?_
  refine KA.seq ?_
  refine KA.seq ?_
  refine KA.region rfl ?_
  refine KOps.move ?_
  refine KOps.call rfl (checkF_c) ?_
  rintro _ _ ⟨rfl, rfl⟩
  refine KOps.assign ?_
  refine KOps.done ?_
  refine sqQ.normal ?_
  refine KA.sub (Sub.cons (t := 0) Look.eq (Sub.cons (t := 5) Look.eq (Sub.nil _))) ?_
  refine KA.seq ?_
  refine KA.region rfl ?_
  refine KOps.move ?_
  refine KOps.neq ?_
  refine KOps.done ?_
  refine sqQ.normal ?_
  refine KA.sub (Sub.cons (t := 0) Look.eq (Sub.cons (t := 5) Look.eq (Sub.cons (t := 10) Look.eq (Sub.nil _)))) ?_
  refine KA.condN ?_ ?_
  · intro c10
    refine KA.seq ?_
    refine KA.region rfl ?_
    refine KOps.move ?_
    refine KOps.assign ?_
    refine KOps.assign ?_
    refine KOps.assign ?_
    refine KOps.done ?_
    refine sqQ.normal ?_
    refine KA.sub (Sub.cons (t := 2) Look.eq (Sub.cons (t := 3) Look.eq (Sub.cons (t := 4) Look.eq (Sub.nil _)))) ?_
    refine KA.ret ?_
    refine sqQ.ret ?_
    refine fnQ.retN ?_
    exact ⟨by rw [wtS_bad c10, clsS_bad c10]; rfl, rfl⟩
  · intro c10
    obtain ⟨l, rfl, hl⟩ := chk_zero c10
    have hsm := wtTo_small l (k := l.length) (by omega)
    refine KA.skip ?_
    refine sqQ.normal ?_
    refine KA.sub (Sub.cons (t := 0) Look.eq (Sub.nil _)) ?_
    refine KA.seq ?_
    refine KA.region rfl ?_
    refine KOps.move ?_
    refine KOps.call rfl (heavyF_c (by omega)) ?_
    rintro _ _ ⟨rfl, rfl⟩
    refine KOps.assign ?_
    refine KOps.done ?_
    refine sqQ.normal ?_
    refine KA.sub (Sub.cons (t := 0) Look.eq (Sub.cons (t := 6) Look.eq (Sub.nil _))) ?_
    refine KA.seq ?_
    refine KA.draw [] mixed rfl (by kernel_rfl) ?_
    refine KOps.move ?_
    refine KOps.move ?_
    refine KOps.move ?_
    refine KOps.lenW ?_
    refine KOps.add (by first | omega | (simp; omega)) (by first | omega | (simp; omega)) ?_
    refine KOps.remN (i := wtTo l l.length) (j := l.length + 1) (by first | rfl | omega | (simp; done)) (by first | rfl | omega | (simp; omega)) (by omega) (by omega) ?_
    refine KOps.assign ?_
    refine KOps.assign ?_
    refine KOps.assign ?_
    refine KOps.done ?_
    refine sqQ.normal ?_
    refine KA.sub (Sub.cons (t := 2) Look.eq (Sub.cons (t := 3) Look.eq (Sub.cons (t := 4) Look.eq (Sub.nil _)))) ?_
    refine KA.ret ?_
    refine fnQ.retN ?_
    exact ⟨by rw [wtS_wd hl, clsS_wd hl, chk_wd hl]; rfl, rfl⟩

theorem shortP_c {h : AHeap} {s : ByteArray} : ACalls Go.Proofs.Tryd.prog 16 [.str s] h (fun q h' => ∃ v, q = .tup [v, .int .i64 (shortE s)] ∧ St h h' [⟨v, 1, wcs (shortS s), true⟩]) := by
  refine KA.fn 16 [.tmp 2, .tmp 3] Go.Proofs.Tryd.func16 rfl (by decide) rfl rfl (Nat.le_of_ble_eq_true rfl) ?_
  have hS := St.refl h
  show KA _ 16 _ _ [(0, .str s)] _
  refine KA.seq ?_
  refine KA.region rfl ?_
  refine KOps.assign ?_
  refine KOps.assign ?_
  refine KOps.done ?_
  refine sqQ.normal ?_
  refine KA.sub (Sub.cons (t := 0) Look.eq (Sub.nil _)) ?_
  refine KA.seq ?_
  refine KA.seq ?_
  refine KA.region rfl ?_
  refine KOps.move ?_
  refine KOps.call rfl (checkF_c) ?_
  rintro _ _ ⟨rfl, rfl⟩
  refine KOps.assign ?_
  refine KOps.done ?_
  refine sqQ.normal ?_
  refine KA.sub (Sub.cons (t := 0) Look.eq (Sub.cons (t := 4) Look.eq (Sub.nil _))) ?_
  refine KA.block ?_
  refine KA.seq ?_
  refine KA.region rfl ?_
  refine KOps.move ?_
  refine KOps.neq ?_
  refine KOps.assign ?_
  refine KOps.done ?_
  refine sqQ.normal ?_
  refine KA.sub (Sub.cons (t := 0) Look.eq (Sub.cons (t := 4) Look.eq (Sub.cons (t := 7) Look.eq (Sub.nil _)))) ?_
  refine KA.condN ?_ ?_
  · intro c7
    refine KA.seq ?_
    refine KA.region rfl ?_
    refine KOps.move ?_
    refine KOps.assign ?_
    refine KOps.assign ?_
    refine KOps.done ?_
    refine sqQ.normal ?_
    refine KA.sub (Sub.cons (t := 2) Look.eq (Sub.cons (t := 3) Look.eq (Sub.nil _))) ?_
    refine KA.ret ?_
    refine blQ.ret ?_
    refine sqQ.ret ?_
    refine fnQ.retN ?_
    refine ⟨_, by rw [shortE_bad c7], ?_⟩
    rw [shortS_bad (by rw [shortE_bad c7]; exact c7)]
    exact St.pick [0] (by decide) rfl (hS.nil 1)
  · intro c7
    obtain ⟨l, rfl, hl⟩ := chk_zero c7
    have hE := shortE_wd hl
    refine KA.seq ?_
    refine KA.region rfl ?_
    refine KOps.move ?_
    refine KOps.wEql ?_
    refine KOps.assign ?_
    refine KOps.done ?_
    refine sqQ.normal ?_
    refine KA.sub (Sub.cons (t := 0) Look.eq (Sub.cons (t := 11) Look.eq (Sub.nil _))) ?_
    refine KA.condD ?_ ?_
    · intro c11
      rw [if_pos c11] at hE
      refine KA.seq ?_
      refine KA.region rfl ?_
      refine KOps.assign ?_
      refine KOps.assign ?_
      refine KOps.done ?_
      refine sqQ.normal ?_
      refine KA.sub (Sub.cons (t := 2) Look.eq (Sub.cons (t := 3) Look.eq (Sub.nil _))) ?_
      refine KA.ret ?_
      refine blQ.ret ?_
      refine sqQ.ret ?_
      refine fnQ.retN ?_
      refine ⟨_, by rw [hE], ?_⟩
      rw [shortS_bad (by rw [hE]; decide)]
      exact St.pick [0] (by decide) rfl (hS.nil 1)
    · intro c11
      rw [if_neg c11] at hE
      refine KA.skip ?_
      refine blQ.normal ?_
      refine sqQ.normal ?_
      refine KA.sub (Sub.cons (t := 0) Look.eq (Sub.nil _)) ?_
      refine KA.seq ?_
      refine KA.region rfl ?_
      refine KOps.move ?_
      refine KOps.call rfl (less_w (by omega)) ?_
      rintro v15 h15 hS15
      have hS0 : St _ _ (_ :: _) := St.trans hS hS15
      clear hS
      have hS := hS0
      clear hS0
      refine KOps.assign ?_
      refine KOps.assign ?_
      refine KOps.done ?_
      refine sqQ.normal ?_
      refine KA.sub (Sub.cons (t := 2) Look.eq (Sub.cons (t := 3) Look.eq (Sub.nil _))) ?_
      refine KA.ret ?_
      refine fnQ.retN ?_
      refine ⟨_, by rw [hE], ?_⟩
      rw [shortS_wd hE]
      exact hS

theorem longP_c {h : AHeap} {s : ByteArray} : ACalls Go.Proofs.Tryd.prog 18 [.str s] h (fun q h' => ∃ v, q = .tup [v, .int .i64 (longE s)] ∧ St h h' [⟨v, 1, wcs (longS s), true⟩]) := by
  refine KA.fn 17 [.tmp 2, .tmp 3] Go.Proofs.Tryd.func18 rfl (by decide) rfl rfl (Nat.le_of_ble_eq_true rfl) ?_
  have hS := St.refl h
  show KA _ 17 _ _ [(0, .str s)] _
  refine KA.seq ?_
  refine KA.region rfl ?_
  refine KOps.assign ?_
  refine KOps.assign ?_
  refine KOps.done ?_
  refine sqQ.normal ?_
  refine KA.sub (Sub.cons (t := 0) Look.eq (Sub.nil _)) ?_
  refine KA.seq ?_
  refine KA.seq ?_
  refine KA.region rfl ?_
  refine KOps.move ?_
  refine KOps.call rfl (checkF_c) ?_
  rintro _ _ ⟨rfl, rfl⟩
  refine KOps.assign ?_
  refine KOps.done ?_
  refine sqQ.normal ?_
  refine KA.sub (Sub.cons (t := 0) Look.eq (Sub.cons (t := 4) Look.eq (Sub.nil _))) ?_
  refine KA.block ?_
  refine KA.seq ?_
  refine KA.region rfl ?_
  refine KOps.move ?_
  refine KOps.neq ?_
  refine KOps.assign ?_
  refine KOps.done ?_
  refine sqQ.normal ?_
  refine KA.sub (Sub.cons (t := 0) Look.eq (Sub.cons (t := 4) Look.eq (Sub.cons (t := 7) Look.eq (Sub.nil _)))) ?_
  refine KA.condN ?_ ?_
  · intro c7
    refine KA.seq ?_
    refine KA.region rfl ?_
    refine KOps.move ?_
    refine KOps.assign ?_
    refine KOps.assign ?_
    refine KOps.done ?_
    refine sqQ.normal ?_
    refine KA.sub (Sub.cons (t := 2) Look.eq (Sub.cons (t := 3) Look.eq (Sub.nil _))) ?_
    refine KA.ret ?_
    refine blQ.ret ?_
    refine sqQ.ret ?_
    refine fnQ.retN ?_
    refine ⟨_, by rw [longE_bad c7], ?_⟩
    rw [longS_bad (by rw [longE_bad c7]; exact c7)]
    exact St.pick [0] (by decide) rfl (hS.nil 1)
  · intro c7
    obtain ⟨l, rfl, hl⟩ := chk_zero c7
    have hE := longE_wd hl
    refine KA.seq ?_
    refine KA.region rfl ?_
    refine KOps.move ?_
    refine KOps.lenW ?_
    refine KOps.eql ?_
    refine KOps.assign ?_
    refine KOps.done ?_
    refine sqQ.normal ?_
    refine KA.sub (Sub.cons (t := 0) Look.eq (Sub.cons (t := 11) Look.eq (Sub.nil _))) ?_
    refine KA.condD ?_ ?_
    · intro c11
      rw [if_pos (by omega)] at hE
      refine KA.seq ?_
      refine KA.region rfl ?_
      refine KOps.assign ?_
      refine KOps.assign ?_
      refine KOps.done ?_
      refine sqQ.normal ?_
      refine KA.sub (Sub.cons (t := 2) Look.eq (Sub.cons (t := 3) Look.eq (Sub.nil _))) ?_
      refine KA.ret ?_
      refine blQ.ret ?_
      refine sqQ.ret ?_
      refine fnQ.retN ?_
      refine ⟨_, by rw [hE], ?_⟩
      rw [longS_bad (by rw [hE]; decide)]
      exact St.pick [0] (by decide) rfl (hS.nil 1)
    · intro c11
      rw [if_neg (by omega)] at hE
      refine KA.skip ?_
      refine blQ.normal ?_
      refine sqQ.normal ?_
      refine KA.sub (Sub.cons (t := 0) Look.eq (Sub.nil _)) ?_
      refine KA.seq ?_
      refine KA.region rfl ?_
      refine KOps.move ?_
      refine KOps.call rfl (more_w (by omega)) ?_
      rintro v16 h16 hS16
      have hS0 : St _ _ (_ :: _) := St.trans hS hS16
      clear hS
      have hS := hS0
      clear hS0
      refine KOps.assign ?_
      refine KOps.assign ?_
      refine KOps.done ?_
      refine sqQ.normal ?_
      refine KA.sub (Sub.cons (t := 2) Look.eq (Sub.cons (t := 3) Look.eq (Sub.nil _))) ?_
      refine KA.ret ?_
      refine fnQ.retN ?_
      refine ⟨_, by rw [hE], ?_⟩
      rw [longS_wd hE]
      exact hS

end Go.Am

namespace Go.Am
instance instK0 (globs : List Nat) (n : Nat) (K : KF) : EvK globs n K (.const (.string ⟨#[48, 48]⟩)) (.str (wd [false, false])) := ⟨rfl⟩
instance instK1 (globs : List Nat) (n : Nat) (K : KF) : EvK globs n K (.const (.string ⟨#[48, 48, 48, 48]⟩)) (.str (wd [false, false, false, false])) := ⟨rfl⟩
instance instK2 (globs : List Nat) (n : Nat) (K : KF) : EvK globs n K (.const (.string ⟨#[48, 48, 49]⟩)) (.str (wd [false, false, true])) := ⟨rfl⟩
instance instK3 (globs : List Nat) (n : Nat) (K : KF) : EvK globs n K (.const (.string ⟨#[48, 48, 49, 49]⟩)) (.str (wd [false, false, true, true])) := ⟨rfl⟩
instance instK4 (globs : List Nat) (n : Nat) (K : KF) : EvK globs n K (.const (.string ⟨#[48, 49]⟩)) (.str (wd [false, true])) := ⟨rfl⟩
instance instK5 (globs : List Nat) (n : Nat) (K : KF) : EvK globs n K (.const (.string ⟨#[48, 49, 48]⟩)) (.str (wd [false, true, false])) := ⟨rfl⟩
instance instK6 (globs : List Nat) (n : Nat) (K : KF) : EvK globs n K (.const (.string ⟨#[48, 49, 49]⟩)) (.str (wd [false, true, true])) := ⟨rfl⟩
instance instK7 (globs : List Nat) (n : Nat) (K : KF) : EvK globs n K (.const (.string ⟨#[48, 49, 49, 48]⟩)) (.str (wd [false, true, true, false])) := ⟨rfl⟩
instance instK8 (globs : List Nat) (n : Nat) (K : KF) : EvK globs n K (.const (.string ⟨#[49, 48, 48, 49]⟩)) (.str (wd [true, false, false, true])) := ⟨rfl⟩
instance instK9 (globs : List Nat) (n : Nat) (K : KF) : EvK globs n K (.const (.string ⟨#[49, 48, 49]⟩)) (.str (wd [true, false, true])) := ⟨rfl⟩
instance instK10 (globs : List Nat) (n : Nat) (K : KF) : EvK globs n K (.const (.string ⟨#[49, 49]⟩)) (.str (wd [true, true])) := ⟨rfl⟩
instance instK11 (globs : List Nat) (n : Nat) (K : KF) : EvK globs n K (.const (.string ⟨#[49, 49, 48]⟩)) (.str (wd [true, true, false])) := ⟨rfl⟩
instance instK12 (globs : List Nat) (n : Nat) (K : KF) : EvK globs n K (.const (.string ⟨#[49, 49, 49, 49]⟩)) (.str (wd [true, true, true, true])) := ⟨rfl⟩
section
variable {P : Program} {n : Nat} {ops : Array Oper} {ex : List Nat} {Q : KF → AHeap → Prop} {k : Nat} {os : List Oper} {K : KF} {h : AHeap} {d : Nat} {ty : TypeId} {pos : String} {after : Array Edge}
theorem KOps.eqlY {t t' : TypeId} {x y : Operand} {kd : IntKind} {a b : Int} [hx : EvK h.globs n K x (.int kd a)] [hy : EvK h.globs n K y (.int kd b)] (he : a = b) (hk : KOps P n ops ex Q (k + 1) os ((d, .bool true) :: K) h) : KOps P n ops ex Q k (⟨some d, .binOp .eql t x y t', ty, pos, after, none⟩ :: os) K h := by
  refine KOps.eql ?_
  rw [decide_eq_true he]
  exact hk
theorem KOps.wEqlY {t t' : TypeId} {x y : Operand} {a b : List Bool} [hx : EvK h.globs n K x (.str (wd a))] [hy : EvK h.globs n K y (.str (wd b))] (he : a = b) (hk : KOps P n ops ex Q (k + 1) os ((d, .bool true) :: K) h) : KOps P n ops ex Q k (⟨some d, .binOp .eql t x y t', ty, pos, after, none⟩ :: os) K h := by
  refine KOps.wEql ?_
  rw [decide_eq_true he]
  exact hk
end
theorem same_t {h : AHeap} {va vb : AV} {l m : List (List Bool)} (ha : WRow h va l) (hb : WRow h vb m) (hn : l.length ≤ 1000000) (he : l = m) : ACalls Go.Proofs.Tryd.prog 20 [va, vb] h (fun q h' => q = .bool true ∧ h = h') := by
  have := same_c ha hb hn
  rwa [decide_eq_true he] at this
theorem sizePF_c {h : AHeap} {n k : Int} : ACalls Go.Proofs.Tryd.prog 25 [.int .i64 n, .int .i64 k] h (fun q h' => q = .tup [.int .i64 ((codeS n k).length : Int), .int .i64 (codeE n k)] ∧ h = h') := ACalls.free sizeP_c rfl rfl h
theorem restPF_c {h : AHeap} {n k : Int} {s : ByteArray} : ACalls Go.Proofs.Tryd.prog 29 [.int .i64 n, .int .i64 k, .str s] h (fun q h' => q = .tup [.str (wd (restS n k s)), .int .i64 (restE n k s)] ∧ h = h') := ACalls.free restP_c rfl rfl h
theorem comPF_c {h : AHeap} {a b : ByteArray} : ACalls Go.Proofs.Tryd.prog 33 [.str a, .str b] h (fun q h' => q = .tup [.str (wd (comS a b)), .int .i64 (comE a b)] ∧ h = h') := ACalls.free comP_c rfl rfl h
theorem k_wt : wtS (wd [false, true, true, false]) = 5 := by rw [wtS_wd (by decide)]; decide
theorem k_cls : clsS (wd [false, true, true, false]) = 0 := by rw [clsS_wd (by decide)]; decide
theorem k_chk : chkS (wd [false, true, true, false]) = 0 := chk_wd (by decide)
theorem k_se : shortE (wd [false, true, true, false]) = 0 := by rw [shortE_wd (by decide)]; decide
theorem k_s : shortS (wd [false, true, true, false]) = [[false, true, false], [false, true, true], [true, true, false]] := by rw [shortS_wd k_se]; decide +kernel
theorem k_le : longE (wd [false, true]) = 0 := by rw [longE_wd (by decide)]; decide
theorem k_l : longS (wd [false, true]) = [[false, false, true], [false, true, false], [false, true, true], [true, false, true]] := by rw [longS_wd k_le]; decide +kernel
theorem k_c : codeS 4 0 = [[false, false, false, false], [false, true, true, false], [true, false, false, true], [true, true, true, true]] := (codeS_nat (a := 4) (b := 0) (by decide) (by decide)).trans (by decide +kernel)
theorem k_n : ((codeS 10 0).length : Int) = 94 := by
  have h : codeS 10 0 = codeW 10 0 := codeS_nat (a := 10) (b := 0) (by decide) (by decide)
  rw [h, codeW_len]
  decide +kernel
theorem k_ask : askE 3 (wd [false, true, true, false]) = 0 := askE_0 k_chk (by decide) (by rw [wd_size]; decide)
theorem k_cut : cutS 3 (wd [false, true, true, false]) = [[false, true, false], [false, true, true], [true, true, false]] := (cutS_wd (a := 3) k_ask).trans (by decide +kernel)
theorem k_ask2 : askE 4 (wd [false, true, false]) = 0 := askE_0 (chk_wd (by decide)) (by decide) (by rw [wd_size]; decide)
theorem k_rest : restE 4 0 (wd [false, true, false]) = 0 ∧ restS 4 0 (wd [false, true, false]) = [false, true, true, false] := rest_some (a := 4) (b := 0) k_ask2 (by decide) (by decide +kernel)
theorem k_rest5 : restE 4 0 (wd [true, true]) = 5 := by
  have h : askE 4 (wd [true, true]) = 5 := askE_5 (chk_wd (by decide)) (by decide) (by rw [wd_size]; decide)
  rw [restE_bad (by rw [h]; decide), h]
theorem com2_of {l m : List Bool} (hl : l.length ≤ 10) (hm : m.length ≤ 10) (h1 : l.length = m.length) (h2 : l ≠ []) (h3 : l ≠ m) : comE2 (wd l) (wd m) = 0 := by
  have h0 : comE1 (wd l) (wd m) = 0 := by rw [comE1_wd hl hm, if_pos ⟨h1, h2⟩]
  rw [comE2_wd h0, if_neg h3]
theorem k_com : comE (wd [false, true, true, false]) (wd [false, false, true, true]) = 0 ∧ comS (wd [false, true, true, false]) (wd [false, false, true, true]) = [false, true, true] := com_some (com2_of (by decide) (by decide) (by decide) (by decide) (by decide)) (by decide +kernel)
theorem k_com12 : comE (wd [false, true, true, false]) (wd [true, false, false, true]) = 12 := (com_none (com2_of (by decide) (by decide) (by decide) (by decide) (by decide)) (by decide +kernel)).1
/-- Words of one length that are different have no error. -/
theorem errTo_words {ws : List (List Bool)} {m : Nat} (hm : 0 < m ∧ m ≤ 10) (hl : ∀ w ∈ ws, w.length = m) (hn : ws.Nodup) : errTo (ws.map wd) (ws.map wd).length = 0 := by
  have hget : ∀ i, (hi : i < ws.length) → sAtL (ws.map wd) i = wd ws[i] := fun i hi => by
    rw [sAtL, List.getD_eq_getElem?_getD, List.getElem?_map, List.getElem?_eq_getElem hi]; rfl
  have key : ∀ n, n ≤ ws.length → errTo (ws.map wd) n = 0 := by
    intro n
    induction n with
    | zero => intro _; rfl
    | succ n ih =>
      intro hle
      rw [errTo, if_pos (ih (by omega))]
      have h1 := hl _ (List.getElem_mem (show n < ws.length by omega))
      have h0 := hl _ (List.getElem_mem (show 0 < ws.length by omega))
      refine item_0 (by rw [hget n (by omega)]; exact chk_wd (by omega)) (by rw [hget n (by omega), hget 0 (by omega), wd_size, wd_size]; omega) ?_
      rintro ⟨j, hj, he⟩
      rw [hget n (by omega), hget j (by omega)] at he
      exact absurd (List.pairwise_iff_getElem.1 hn j n (by omega) (by omega) hj) (fun q => q (wd_inj he))
  rw [List.length_map]
  exact key _ (Nat.le_refl _)
theorem clS_words {ws : List (List Bool)} {i k : Nat} (hi : i < ws.length) (hk : k < ws.length) : clS (ws.map wd) i k = clashW (ws.getD i []) (ws.getD k []) := by
  unfold clS sAtL
  rw [List.getD_eq_getElem?_getD, List.getD_eq_getElem?_getD, List.getElem?_map, List.getElem?_map, List.getElem?_eq_getElem hi, List.getElem?_eq_getElem hk, List.getD_eq_getElem?_getD, List.getD_eq_getElem?_getD, List.getElem?_eq_getElem hi, List.getElem?_eq_getElem hk]
  simp only [Option.map_some, Option.getD_some, ofS_wd]
theorem k_safe : safeV [wd [false, false], wd [true, true], wd [false, true]] = .tup [.int .i64 0, .int .i64 2, .int .i64 13] := by
  have he := errTo_words (ws := [[false, false], [true, true], [false, true]]) (m := 2) (by decide) (by decide) (by decide)
  refine safe_clash (ss := [[false, false], [true, true], [false, true]].map wd) (i := 0) (k := 2) (by decide) he ⟨by decide, by decide, ?_, fun a b h1 h2 h3 => ?_⟩
  · rw [clS_words (by decide) (by decide)]; decide +kernel
  · have h2 : b < 3 := h2
    have h3 : a < 0 ∨ a = 0 ∧ b < 2 := h3
    obtain ⟨rfl, rfl⟩ : a = 0 ∧ b = 1 := by omega
    rw [clS_words (by decide) (by decide)]; decide +kernel
theorem k_most : mostE 5 = 0 ∧ mostV 5 = 6 := by
  have h := mostE_nat (n := 5) (by decide)
  exact ⟨h.1, h.2.trans most_nums.2.2.2.2⟩
set_option synthInstance.maxSize 1000
set_option synthInstance.maxHeartbeats 400000
theorem works_c {h : AHeap} (hTab : Tab h) : ACalls Go.Proofs.Tryd.prog 13 [] h (fun q h' => q = .bool true ∧ Keeps h h') := by
  refine KA.fn 181 [.tmp 0] Go.Proofs.Tryd.func13 rfl (by decide) rfl rfl (Nat.le_of_ble_eq_true rfl) ?_
  have hS := St.refl h
  show KA _ 181 _ _ [] _
  refine KA.seq ?_
  refine KA.region rfl ?_
  refine KOps.assign ?_
  refine KOps.done ?_
  refine sqQ.normal ?_
  refine KA.sub (Sub.nil _) ?_
  refine KA.seq ?_
  refine KA.region rfl ?_
  refine KOps.call rfl (classP_c) ?_
  rintro _ _ ⟨rfl, rfl⟩
  refine KOps.move ?_
  refine KOps.extract ?_
  refine KOps.extract ?_
  refine KOps.extract ?_
  refine KOps.assign ?_
  refine KOps.assign ?_
  refine KOps.assign ?_
  refine KOps.done ?_
  refine sqQ.normal ?_
  refine KA.sub (Sub.cons (t := 1) Look.eq (Sub.cons (t := 2) Look.eq (Sub.cons (t := 3) Look.eq (Sub.nil _)))) ?_
  refine KA.seq ?_
  refine KA.region rfl ?_
  refine KOps.call rfl (shortP_c) ?_
  rintro _ h33 ⟨v33, rfl, hS33⟩
  have hS0 : St _ _ (_ :: _) := St.trans hS hS33
  clear hS
  have hS := hS0
  clear hS0
  refine KOps.move ?_
  refine KOps.extract ?_
  refine KOps.extract ?_
  refine KOps.assign ?_
  refine KOps.assign ?_
  refine KOps.done ?_
  refine sqQ.normal ?_
  refine KA.sub (Sub.cons (t := 1) Look.eq (Sub.cons (t := 2) Look.eq (Sub.cons (t := 3) Look.eq (Sub.cons (t := 4) Look.eq (Sub.cons (t := 5) Look.eq (Sub.nil _)))))) ?_
  refine KA.seq ?_
  refine KA.region rfl ?_
  refine KOps.call rfl (longP_c) ?_
  rintro _ h37 ⟨v37, rfl, hS37⟩
  have hS0 : St _ _ (_ :: _) := St.trans hS hS37
  clear hS
  have hS := hS0
  clear hS0
  refine KOps.move ?_
  refine KOps.extract ?_
  refine KOps.extract ?_
  refine KOps.assign ?_
  refine KOps.assign ?_
  refine KOps.done ?_
  refine sqQ.normal ?_
  refine KA.sub (Sub.cons (t := 1) Look.eq (Sub.cons (t := 2) Look.eq (Sub.cons (t := 3) Look.eq (Sub.cons (t := 4) Look.eq (Sub.cons (t := 5) Look.eq (Sub.cons (t := 6) Look.eq (Sub.cons (t := 7) Look.eq (Sub.nil _)))))))) ?_
  refine KA.seq ?_
  refine KA.region rfl ?_
  refine KOps.call rfl (codeP_c) ?_
  rintro _ h41 ⟨v41, rfl, hS41⟩
  have hS0 : St _ _ (_ :: _) := St.trans hS hS41
  clear hS
  have hS := hS0
  clear hS0
  refine KOps.move ?_
  refine KOps.extract ?_
  refine KOps.extract ?_
  refine KOps.assign ?_
  refine KOps.assign ?_
  refine KOps.done ?_
  refine sqQ.normal ?_
  refine KA.sub (Sub.cons (t := 1) Look.eq (Sub.cons (t := 2) Look.eq (Sub.cons (t := 3) Look.eq (Sub.cons (t := 4) Look.eq (Sub.cons (t := 5) Look.eq (Sub.cons (t := 6) Look.eq (Sub.cons (t := 7) Look.eq (Sub.cons (t := 8) Look.eq (Sub.cons (t := 9) Look.eq (Sub.nil _)))))))))) ?_
  refine KA.seq ?_
  refine KA.region rfl ?_
  refine KOps.call rfl (sizePF_c) ?_
  rintro _ _ ⟨rfl, rfl⟩
  refine KOps.move ?_
  refine KOps.extract ?_
  refine KOps.extract ?_
  refine KOps.assign ?_
  refine KOps.assign ?_
  refine KOps.done ?_
  refine sqQ.normal ?_
  refine KA.sub (Sub.cons (t := 1) Look.eq (Sub.cons (t := 2) Look.eq (Sub.cons (t := 3) Look.eq (Sub.cons (t := 4) Look.eq (Sub.cons (t := 5) Look.eq (Sub.cons (t := 6) Look.eq (Sub.cons (t := 7) Look.eq (Sub.cons (t := 8) Look.eq (Sub.cons (t := 9) Look.eq (Sub.cons (t := 10) Look.eq (Sub.cons (t := 11) Look.eq (Sub.nil _)))))))))))) ?_
  refine KA.seq ?_
  refine KA.region rfl ?_
  refine KOps.call rfl (cutP_c) ?_
  rintro _ h49 ⟨v49, rfl, hS49⟩
  have hS0 : St _ _ (_ :: _) := St.trans hS hS49
  clear hS
  have hS := hS0
  clear hS0
  refine KOps.move ?_
  refine KOps.extract ?_
  refine KOps.extract ?_
  refine KOps.assign ?_
  refine KOps.assign ?_
  refine KOps.done ?_
  refine sqQ.normal ?_
  refine KA.sub (Sub.cons (t := 1) Look.eq (Sub.cons (t := 2) Look.eq (Sub.cons (t := 3) Look.eq (Sub.cons (t := 4) Look.eq (Sub.cons (t := 5) Look.eq (Sub.cons (t := 6) Look.eq (Sub.cons (t := 7) Look.eq (Sub.cons (t := 8) Look.eq (Sub.cons (t := 9) Look.eq (Sub.cons (t := 10) Look.eq (Sub.cons (t := 11) Look.eq (Sub.cons (t := 12) Look.eq (Sub.cons (t := 13) Look.eq (Sub.nil _)))))))))))))) ?_
  refine KA.seq ?_
  refine KA.region rfl ?_
  refine KOps.call rfl (restPF_c) ?_
  rintro _ _ ⟨rfl, rfl⟩
  refine KOps.move ?_
  refine KOps.extract ?_
  refine KOps.extract ?_
  refine KOps.assign ?_
  refine KOps.assign ?_
  refine KOps.done ?_
  refine sqQ.normal ?_
  refine KA.sub (Sub.cons (t := 1) Look.eq (Sub.cons (t := 2) Look.eq (Sub.cons (t := 3) Look.eq (Sub.cons (t := 4) Look.eq (Sub.cons (t := 5) Look.eq (Sub.cons (t := 6) Look.eq (Sub.cons (t := 7) Look.eq (Sub.cons (t := 8) Look.eq (Sub.cons (t := 9) Look.eq (Sub.cons (t := 10) Look.eq (Sub.cons (t := 11) Look.eq (Sub.cons (t := 12) Look.eq (Sub.cons (t := 13) Look.eq (Sub.cons (t := 14) Look.eq (Sub.cons (t := 15) Look.eq (Sub.nil _)))))))))))))))) ?_
  refine KA.seq ?_
  refine KA.region rfl ?_
  refine KOps.call rfl (comPF_c) ?_
  rintro _ _ ⟨rfl, rfl⟩
  refine KOps.move ?_
  refine KOps.extract ?_
  refine KOps.extract ?_
  refine KOps.assign ?_
  refine KOps.assign ?_
  refine KOps.done ?_
  refine sqQ.normal ?_
  refine KA.sub (Sub.cons (t := 1) Look.eq (Sub.cons (t := 2) Look.eq (Sub.cons (t := 3) Look.eq (Sub.cons (t := 4) Look.eq (Sub.cons (t := 5) Look.eq (Sub.cons (t := 6) Look.eq (Sub.cons (t := 7) Look.eq (Sub.cons (t := 8) Look.eq (Sub.cons (t := 9) Look.eq (Sub.cons (t := 10) Look.eq (Sub.cons (t := 11) Look.eq (Sub.cons (t := 12) Look.eq (Sub.cons (t := 13) Look.eq (Sub.cons (t := 14) Look.eq (Sub.cons (t := 15) Look.eq (Sub.cons (t := 16) Look.eq (Sub.cons (t := 17) Look.eq (Sub.nil _)))))))))))))))))) ?_
  refine KA.seq ?_
  refine KA.region rfl ?_
  refine KOps.buildSlice hS rfl (by decide) rfl ?_
  intro v61 h' hS
  refine KOps.call rfl (list_c) ?_
  rintro _ _ ⟨rfl, rfl⟩
  refine KOps.call rfl (safeP_c (ss := [wd [false, false], wd [true, true], wd [false, true]]) (hS.rd 0 rfl) (by decide)) ?_
  rintro _ hx ⟨rfl, hK⟩
  have hS0 : St _ _ _ := St.trans hS (St.ofK hK)
  clear hS
  have hS := hS0
  clear hS0
  simp only [List.nil_append] at hS
  rw [k_safe]
  refine KOps.move ?_
  refine KOps.extract ?_
  refine KOps.extract ?_
  refine KOps.extract ?_
  refine KOps.assign ?_
  refine KOps.assign ?_
  refine KOps.assign ?_
  refine KOps.done ?_
  refine sqQ.normal ?_
  refine KA.sub (Sub.cons (t := 1) Look.eq (Sub.cons (t := 2) Look.eq (Sub.cons (t := 3) Look.eq (Sub.cons (t := 4) Look.eq (Sub.cons (t := 5) Look.eq (Sub.cons (t := 6) Look.eq (Sub.cons (t := 7) Look.eq (Sub.cons (t := 8) Look.eq (Sub.cons (t := 9) Look.eq (Sub.cons (t := 10) Look.eq (Sub.cons (t := 11) Look.eq (Sub.cons (t := 12) Look.eq (Sub.cons (t := 13) Look.eq (Sub.cons (t := 14) Look.eq (Sub.cons (t := 15) Look.eq (Sub.cons (t := 16) Look.eq (Sub.cons (t := 17) Look.eq (Sub.cons (t := 18) Look.eq (Sub.cons (t := 19) Look.eq (Sub.cons (t := 20) Look.eq (Sub.nil _))))))))))))))))))))) ?_
  refine KA.seq ?_
  refine KA.region rfl ?_
  refine KOps.call rfl (mostP_c (hTab.ext hS.keeps)) ?_
  rintro _ hx ⟨rfl, hK⟩
  have hS0 : St _ _ _ := St.trans hS (St.ofK hK)
  clear hS
  have hS := hS0
  clear hS0
  simp only [List.nil_append] at hS
  refine KOps.move ?_
  refine KOps.extract ?_
  refine KOps.extract ?_
  refine KOps.assign ?_
  refine KOps.assign ?_
  refine KOps.done ?_
  refine sqQ.normal ?_
  refine KA.sub (Sub.cons (t := 1) Look.eq (Sub.cons (t := 2) Look.eq (Sub.cons (t := 3) Look.eq (Sub.cons (t := 4) Look.eq (Sub.cons (t := 5) Look.eq (Sub.cons (t := 6) Look.eq (Sub.cons (t := 7) Look.eq (Sub.cons (t := 8) Look.eq (Sub.cons (t := 9) Look.eq (Sub.cons (t := 10) Look.eq (Sub.cons (t := 11) Look.eq (Sub.cons (t := 12) Look.eq (Sub.cons (t := 13) Look.eq (Sub.cons (t := 14) Look.eq (Sub.cons (t := 15) Look.eq (Sub.cons (t := 16) Look.eq (Sub.cons (t := 17) Look.eq (Sub.cons (t := 18) Look.eq (Sub.cons (t := 19) Look.eq (Sub.cons (t := 20) Look.eq (Sub.cons (t := 21) Look.eq (Sub.cons (t := 22) Look.eq (Sub.nil _))))))))))))))))))))))) ?_
  refine KA.seq ?_
  refine KA.region rfl ?_
  refine KOps.call rfl (comPF_c) ?_
  rintro _ _ ⟨rfl, rfl⟩
  refine KOps.move ?_
  refine KOps.extract ?_
  refine KOps.extract ?_
  refine KOps.assign ?_
  refine KOps.assign ?_
  refine KOps.done ?_
  refine sqQ.normal ?_
  refine KA.sub (Sub.cons (t := 1) Look.eq (Sub.cons (t := 2) Look.eq (Sub.cons (t := 3) Look.eq (Sub.cons (t := 4) Look.eq (Sub.cons (t := 5) Look.eq (Sub.cons (t := 6) Look.eq (Sub.cons (t := 7) Look.eq (Sub.cons (t := 8) Look.eq (Sub.cons (t := 9) Look.eq (Sub.cons (t := 10) Look.eq (Sub.cons (t := 11) Look.eq (Sub.cons (t := 12) Look.eq (Sub.cons (t := 13) Look.eq (Sub.cons (t := 14) Look.eq (Sub.cons (t := 15) Look.eq (Sub.cons (t := 16) Look.eq (Sub.cons (t := 17) Look.eq (Sub.cons (t := 18) Look.eq (Sub.cons (t := 19) Look.eq (Sub.cons (t := 20) Look.eq (Sub.cons (t := 21) Look.eq (Sub.cons (t := 22) Look.eq (Sub.cons (t := 24) Look.eq (Sub.nil _)))))))))))))))))))))))) ?_
  refine KA.seq ?_
  refine KA.region rfl ?_
  refine KOps.call rfl (restPF_c) ?_
  rintro _ _ ⟨rfl, rfl⟩
  refine KOps.move ?_
  refine KOps.extract ?_
  refine KOps.extract ?_
  refine KOps.assign ?_
  refine KOps.assign ?_
  refine KOps.done ?_
  refine sqQ.normal ?_
  refine KA.sub (Sub.cons (t := 1) Look.eq (Sub.cons (t := 2) Look.eq (Sub.cons (t := 3) Look.eq (Sub.cons (t := 4) Look.eq (Sub.cons (t := 5) Look.eq (Sub.cons (t := 6) Look.eq (Sub.cons (t := 7) Look.eq (Sub.cons (t := 8) Look.eq (Sub.cons (t := 9) Look.eq (Sub.cons (t := 10) Look.eq (Sub.cons (t := 11) Look.eq (Sub.cons (t := 12) Look.eq (Sub.cons (t := 13) Look.eq (Sub.cons (t := 14) Look.eq (Sub.cons (t := 15) Look.eq (Sub.cons (t := 16) Look.eq (Sub.cons (t := 17) Look.eq (Sub.cons (t := 18) Look.eq (Sub.cons (t := 19) Look.eq (Sub.cons (t := 20) Look.eq (Sub.cons (t := 21) Look.eq (Sub.cons (t := 22) Look.eq (Sub.cons (t := 24) Look.eq (Sub.cons (t := 26) Look.eq (Sub.nil _))))))))))))))))))))))))) ?_
  refine KA.seq ?_
  refine KA.region rfl ?_
  refine KOps.move ?_
  refine KOps.eqlY (k_chk) ?_
  refine KOps.move ?_
  refine KOps.guardYes (dj := 81) rfl rfl ?_
  refine KOps.move ?_
  refine KOps.guardYes (dj := 81) rfl rfl ?_
  refine KOps.eqlY (k_se) ?_
  refine KOps.pickT ?_
  refine KOps.move ?_
  refine KOps.guardYes (dj := 85) rfl rfl ?_
  refine KOps.move ?_
  refine KOps.guardYes (dj := 85) rfl rfl ?_
  refine KOps.eqlY (k_le) ?_
  refine KOps.pickT ?_
  refine KOps.move ?_
  refine KOps.guardYes (dj := 89) rfl rfl ?_
  refine KOps.move ?_
  refine KOps.guardYes (dj := 89) rfl rfl ?_
  refine KOps.eqlY (codeE_nat (a := 4) (b := 0) (by decide) (by decide)) ?_
  refine KOps.pickT ?_
  refine KOps.move ?_
  refine KOps.guardYes (dj := 93) rfl rfl ?_
  refine KOps.move ?_
  refine KOps.guardYes (dj := 93) rfl rfl ?_
  refine KOps.eqlY (codeE_nat (a := 10) (b := 0) (by decide) (by decide)) ?_
  refine KOps.pickT ?_
  refine KOps.move ?_
  refine KOps.guardYes (dj := 97) rfl rfl ?_
  refine KOps.move ?_
  refine KOps.guardYes (dj := 97) rfl rfl ?_
  refine KOps.eqlY (k_ask) ?_
  refine KOps.pickT ?_
  refine KOps.move ?_
  refine KOps.guardYes (dj := 101) rfl rfl ?_
  refine KOps.move ?_
  refine KOps.guardYes (dj := 101) rfl rfl ?_
  refine KOps.eqlY (k_rest.1) ?_
  refine KOps.pickT ?_
  refine KOps.move ?_
  refine KOps.guardYes (dj := 105) rfl rfl ?_
  refine KOps.move ?_
  refine KOps.guardYes (dj := 105) rfl rfl ?_
  refine KOps.eqlY (k_com.1) ?_
  refine KOps.pickT ?_
  refine KOps.move ?_
  refine KOps.guardYes (dj := 109) rfl rfl ?_
  refine KOps.move ?_
  refine KOps.guardYes (dj := 109) rfl rfl ?_
  refine KOps.eqlY (rfl) ?_
  refine KOps.pickT ?_
  refine KOps.move ?_
  refine KOps.guardYes (dj := 113) rfl rfl ?_
  refine KOps.move ?_
  refine KOps.guardYes (dj := 113) rfl rfl ?_
  refine KOps.eqlY (k_most.1) ?_
  refine KOps.pickT ?_
  refine KOps.move ?_
  refine KOps.guardYes (dj := 117) rfl rfl ?_
  refine KOps.move ?_
  refine KOps.guardYes (dj := 117) rfl rfl ?_
  refine KOps.eqlY (k_com12) ?_
  refine KOps.pickT ?_
  refine KOps.move ?_
  refine KOps.guardYes (dj := 121) rfl rfl ?_
  refine KOps.move ?_
  refine KOps.guardYes (dj := 121) rfl rfl ?_
  refine KOps.eqlY (k_rest5) ?_
  refine KOps.pickT ?_
  refine KOps.move ?_
  refine KOps.guardYes (dj := 125) rfl rfl ?_
  refine KOps.move ?_
  refine KOps.guardYes (dj := 125) rfl rfl ?_
  refine KOps.eqlY (by rw [k_wt]; rfl) ?_
  refine KOps.pickT ?_
  refine KOps.move ?_
  refine KOps.guardYes (dj := 129) rfl rfl ?_
  refine KOps.move ?_
  refine KOps.guardYes (dj := 129) rfl rfl ?_
  refine KOps.eqlY (by rw [k_cls]; rfl) ?_
  refine KOps.pickT ?_
  refine KOps.move ?_
  refine KOps.guardYes (dj := 133) rfl rfl ?_
  refine KOps.move ?_
  refine KOps.guardYes (dj := 133) rfl rfl ?_
  refine KOps.buildSlice hS rfl (by decide) rfl ?_
  intro v135 h' hS
  refine KOps.guardYes (dj := 133) rfl rfl ?_
  refine KOps.call rfl (list_c) ?_
  rintro _ _ ⟨rfl, rfl⟩
  refine KOps.guardYes (dj := 133) rfl rfl ?_
  refine KOps.call rfl (same_t (l := (shortS (wd [false, true, true, false]))) (m := [[false, true, false], [false, true, true], [true, true, false]]) (hS.rd 5 rfl) (hS.rd 0 rfl) (by rw [k_s]; decide) k_s) ?_
  rintro _ _ ⟨rfl, rfl⟩
  refine KOps.pickT ?_
  refine KOps.move ?_
  refine KOps.guardYes (dj := 139) rfl rfl ?_
  refine KOps.move ?_
  refine KOps.guardYes (dj := 139) rfl rfl ?_
  refine KOps.buildSlice hS rfl (by decide) rfl ?_
  intro v141 h' hS
  refine KOps.guardYes (dj := 139) rfl rfl ?_
  refine KOps.call rfl (list_c) ?_
  rintro _ _ ⟨rfl, rfl⟩
  refine KOps.guardYes (dj := 139) rfl rfl ?_
  refine KOps.call rfl (same_t (l := (longS (wd [false, true]))) (m := [[false, false, true], [false, true, false], [false, true, true], [true, false, true]]) (hS.rd 5 rfl) (hS.rd 0 rfl) (by rw [k_l]; decide) k_l) ?_
  rintro _ _ ⟨rfl, rfl⟩
  refine KOps.pickT ?_
  refine KOps.move ?_
  refine KOps.guardYes (dj := 145) rfl rfl ?_
  refine KOps.move ?_
  refine KOps.guardYes (dj := 145) rfl rfl ?_
  refine KOps.buildSlice hS rfl (by decide) rfl ?_
  intro v147 h' hS
  refine KOps.guardYes (dj := 145) rfl rfl ?_
  refine KOps.call rfl (list_c) ?_
  rintro _ _ ⟨rfl, rfl⟩
  refine KOps.guardYes (dj := 145) rfl rfl ?_
  refine KOps.call rfl (same_t (l := (codeS 4 0)) (m := [[false, false, false, false], [false, true, true, false], [true, false, false, true], [true, true, true, true]]) (hS.rd 5 rfl) (hS.rd 0 rfl) (by rw [k_c]; decide) k_c) ?_
  rintro _ _ ⟨rfl, rfl⟩
  refine KOps.pickT ?_
  refine KOps.move ?_
  refine KOps.guardYes (dj := 151) rfl rfl ?_
  refine KOps.move ?_
  refine KOps.guardYes (dj := 151) rfl rfl ?_
  refine KOps.eqlY (k_n) ?_
  refine KOps.pickT ?_
  refine KOps.move ?_
  refine KOps.guardYes (dj := 155) rfl rfl ?_
  refine KOps.move ?_
  refine KOps.guardYes (dj := 155) rfl rfl ?_
  refine KOps.buildSlice hS rfl (by decide) rfl ?_
  intro v157 h' hS
  refine KOps.guardYes (dj := 155) rfl rfl ?_
  refine KOps.call rfl (list_c) ?_
  rintro _ _ ⟨rfl, rfl⟩
  refine KOps.guardYes (dj := 155) rfl rfl ?_
  refine KOps.call rfl (same_t (l := (cutS 3 (wd [false, true, true, false]))) (m := [[false, true, false], [false, true, true], [true, true, false]]) (hS.rd 5 rfl) (hS.rd 0 rfl) (by rw [k_cut]; decide) k_cut) ?_
  rintro _ _ ⟨rfl, rfl⟩
  refine KOps.pickT ?_
  refine KOps.move ?_
  refine KOps.guardYes (dj := 161) rfl rfl ?_
  refine KOps.move ?_
  refine KOps.guardYes (dj := 161) rfl rfl ?_
  refine KOps.wEqlY k_rest.2 ?_
  refine KOps.pickT ?_
  refine KOps.move ?_
  refine KOps.guardYes (dj := 165) rfl rfl ?_
  refine KOps.move ?_
  refine KOps.guardYes (dj := 165) rfl rfl ?_
  refine KOps.wEqlY k_com.2 ?_
  refine KOps.pickT ?_
  refine KOps.move ?_
  refine KOps.guardYes (dj := 169) rfl rfl ?_
  refine KOps.move ?_
  refine KOps.guardYes (dj := 169) rfl rfl ?_
  refine KOps.eqlY (rfl) ?_
  refine KOps.pickT ?_
  refine KOps.move ?_
  refine KOps.guardYes (dj := 173) rfl rfl ?_
  refine KOps.move ?_
  refine KOps.guardYes (dj := 173) rfl rfl ?_
  refine KOps.eqlY (rfl) ?_
  refine KOps.pickT ?_
  refine KOps.move ?_
  refine KOps.guardYes (dj := 177) rfl rfl ?_
  refine KOps.move ?_
  refine KOps.guardYes (dj := 177) rfl rfl ?_
  refine KOps.eqlY (by rw [k_most.2]; rfl) ?_
  refine KOps.pickT ?_
  refine KOps.assign ?_
  refine KOps.done ?_
  refine sqQ.normal ?_
  refine KA.sub (Sub.cons (t := 0) Look.eq (Sub.nil _)) ?_
  refine KA.ret ?_
  refine fnQ.ret1 ?_
  exact ⟨rfl, hS.keeps⟩

end Go.Am
