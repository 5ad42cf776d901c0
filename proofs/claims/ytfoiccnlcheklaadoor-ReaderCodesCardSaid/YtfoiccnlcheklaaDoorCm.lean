/-
  Layer 08: contracts: the examples that each law ends with.
  Conditions: none.
-/
import Derived.Test.YtfoiccnlcheklaaDoorCd
namespace Go.Am
instance instK0 (globs : List Nat) (n : Nat) (K : KF) : EvK globs n K (.const (.string ⟨#[48, 48]⟩)) (.str (wd [false, false])) := ⟨rfl⟩
instance instK1 (globs : List Nat) (n : Nat) (K : KF) : EvK globs n K (.const (.string ⟨#[48, 48, 48, 48]⟩)) (.str (wd [false, false, false, false])) := ⟨rfl⟩
instance instK2 (globs : List Nat) (n : Nat) (K : KF) : EvK globs n K (.const (.string ⟨#[48, 48, 49]⟩)) (.str (wd [false, false, true])) := ⟨rfl⟩
instance instK3 (globs : List Nat) (n : Nat) (K : KF) : EvK globs n K (.const (.string ⟨#[48, 48, 49, 49]⟩)) (.str (wd [false, false, true, true])) := ⟨rfl⟩
instance instK4 (globs : List Nat) (n : Nat) (K : KF) : EvK globs n K (.const (.string ⟨#[48, 49]⟩)) (.str (wd [false, true])) := ⟨rfl⟩
instance instK5 (globs : List Nat) (n : Nat) (K : KF) : EvK globs n K (.const (.string ⟨#[48, 49, 48]⟩)) (.str (wd [false, true, false])) := ⟨rfl⟩
instance instK6 (globs : List Nat) (n : Nat) (K : KF) : EvK globs n K (.const (.string ⟨#[48, 49, 49]⟩)) (.str (wd [false, true, true])) := ⟨rfl⟩
instance instK7 (globs : List Nat) (n : Nat) (K : KF) : EvK globs n K (.const (.string ⟨#[48, 49, 49, 48]⟩)) (.str (wd [false, true, true, false])) := ⟨rfl⟩
instance instK8 (globs : List Nat) (n : Nat) (K : KF) : EvK globs n K (.const (.string ⟨#[49, 48, 48, 49]⟩)) (.str (wd [true, false, false, true])) := ⟨rfl⟩
instance instK9 (globs : List Nat) (n : Nat) (K : KF) : EvK globs n K (.const (.string ⟨#[49, 48, 49]⟩)) (.str (wd [true, false, true])) := ⟨rfl⟩
instance instK10 (globs : List Nat) (n : Nat) (K : KF) : EvK globs n K (.const (.string ⟨#[49, 49]⟩)) (.str (wd [true, true])) := ⟨rfl⟩
instance instK11 (globs : List Nat) (n : Nat) (K : KF) : EvK globs n K (.const (.string ⟨#[49, 49, 48]⟩)) (.str (wd [true, true, false])) := ⟨rfl⟩
instance instK12 (globs : List Nat) (n : Nat) (K : KF) : EvK globs n K (.const (.string ⟨#[49, 49, 49, 49]⟩)) (.str (wd [true, true, true, true])) := ⟨rfl⟩
section
variable {P : Program} {n : Nat} {ops : Array Oper} {ex : List Nat} {Q : KF → AHeap → Prop} {k : Nat} {os : List Oper} {K : KF} {h : AHeap} {d : Nat} {ty : TypeId} {pos : String} {after : Array Edge}
theorem KOps.eqlY {t t' : TypeId} {x y : Operand} {kd : IntKind} {a b : Int} [hx : EvK h.globs n K x (.int kd a)] [hy : EvK h.globs n K y (.int kd b)] (he : a = b) (hk : KOps P n ops ex Q (k + 1) os ((d, .bool true) :: K) h) : KOps P n ops ex Q k (⟨some d, .binOp .eql t x y t', ty, pos, after, none⟩ :: os) K h := by
  refine KOps.eql ?_
  rw [decide_eq_true he]
  exact hk
theorem KOps.wEqlY {t t' : TypeId} {x y : Operand} {a b : List Bool} [hx : EvK h.globs n K x (.str (wd a))] [hy : EvK h.globs n K y (.str (wd b))] (he : a = b) (hk : KOps P n ops ex Q (k + 1) os ((d, .bool true) :: K) h) : KOps P n ops ex Q k (⟨some d, .binOp .eql t x y t', ty, pos, after, none⟩ :: os) K h := by
  refine KOps.wEql ?_
  rw [decide_eq_true he]
  exact hk
end
theorem same_t {h : AHeap} {va vb : AV} {l m : List (List Bool)} (ha : WRow h va l) (hb : WRow h vb m) (hn : l.length ≤ 1000000) (he : l = m) : ACalls Go.Proofs.Tryd.prog 20 [va, vb] h (fun q h' => q = .bool true ∧ h = h') := by
  have := same_c ha hb hn
  rwa [decide_eq_true he] at this
theorem sizePF_c {h : AHeap} {n k : Int} : ACalls Go.Proofs.Tryd.prog 25 [.int .i64 n, .int .i64 k] h (fun q h' => q = .tup [.int .i64 ((codeS n k).length : Int), .int .i64 (codeE n k)] ∧ h = h') := ACalls.free sizeP_c rfl rfl h
theorem sizeRF_c {h : AHeap} {n k : Int} : ACalls Go.Proofs.Tryd.prog 26 [.int .i64 n, .int .i64 k] h (fun q h' => q = .tup [.int .i64 ((codeS n k).length : Int), .int .i64 (codeE n k)] ∧ h = h') := ACalls.free sizeR_c rfl rfl h
theorem restPF_c {h : AHeap} {n k : Int} {s : ByteArray} : ACalls Go.Proofs.Tryd.prog 29 [.int .i64 n, .int .i64 k, .str s] h (fun q h' => q = .tup [.str (wd (restS n k s)), .int .i64 (restE n k s)] ∧ h = h') := ACalls.free restP_c rfl rfl h
theorem restRF_c {h : AHeap} {n k : Int} {s : ByteArray} : ACalls Go.Proofs.Tryd.prog 30 [.int .i64 n, .int .i64 k, .str s] h (fun q h' => q = .tup [.str (wd (restS n k s)), .int .i64 (restE n k s)] ∧ h = h') := ACalls.free restR_c rfl rfl h
theorem comPF_c {h : AHeap} {a b : ByteArray} : ACalls Go.Proofs.Tryd.prog 33 [.str a, .str b] h (fun q h' => q = .tup [.str (wd (comS a b)), .int .i64 (comE a b)] ∧ h = h') := ACalls.free comP_c rfl rfl h
theorem k_wt : wtS (wd [false, true, true, false]) = 5 := by rw [wtS_wd (by decide)]; decide
theorem k_cls : clsS (wd [false, true, true, false]) = 0 := by rw [clsS_wd (by decide)]; decide
theorem k_chk : chkS (wd [false, true, true, false]) = 0 := chk_wd (by decide)
theorem k_se : shortE (wd [false, true, true, false]) = 0 := by rw [shortE_wd (by decide)]; decide
theorem k_s : shortS (wd [false, true, true, false]) = [[false, true, false], [false, true, true], [true, true, false]] := by rw [shortS_wd k_se]; decide +kernel
theorem k_le : longE (wd [false, true]) = 0 := by rw [longE_wd (by decide)]; decide
theorem k_l : longS (wd [false, true]) = [[false, false, true], [false, true, false], [false, true, true], [true, false, true]] := by rw [longS_wd k_le]; decide +kernel
theorem k_c : codeS 4 0 = [[false, false, false, false], [false, true, true, false], [true, false, false, true], [true, true, true, true]] := (codeS_nat (a := 4) (b := 0) (by decide) (by decide)).trans (by decide +kernel)
theorem k_n : ((codeS 10 0).length : Int) = 94 := by
  have h : codeS 10 0 = codeW 10 0 := codeS_nat (a := 10) (b := 0) (by decide) (by decide)
  rw [h, codeW_len]
  decide +kernel
theorem k_ask : askE 3 (wd [false, true, true, false]) = 0 := askE_0 k_chk (by decide) (by rw [wd_size]; decide)
theorem k_cut : cutS 3 (wd [false, true, true, false]) = [[false, true, false], [false, true, true], [true, true, false]] := (cutS_wd (a := 3) k_ask).trans (by decide +kernel)
theorem k_ask2 : askE 4 (wd [false, true, false]) = 0 := askE_0 (chk_wd (by decide)) (by decide) (by rw [wd_size]; decide)
theorem k_rest : restE 4 0 (wd [false, true, false]) = 0 ∧ restS 4 0 (wd [false, true, false]) = [false, true, true, false] := rest_some (a := 4) (b := 0) k_ask2 (by decide) (by decide +kernel)
theorem k_rest5 : restE 4 0 (wd [true, true]) = 5 := by
  have h : askE 4 (wd [true, true]) = 5 := askE_5 (chk_wd (by decide)) (by decide) (by rw [wd_size]; decide)
  rw [restE_bad (by rw [h]; decide), h]
theorem com2_of {l m : List Bool} (hl : l.length ≤ 10) (hm : m.length ≤ 10) (h1 : l.length = m.length) (h2 : l ≠ []) (h3 : l ≠ m) : comE2 (wd l) (wd m) = 0 := by
  have h0 : comE1 (wd l) (wd m) = 0 := by rw [comE1_wd hl hm, if_pos ⟨h1, h2⟩]
  rw [comE2_wd h0, if_neg h3]
theorem k_com : comE (wd [false, true, true, false]) (wd [false, false, true, true]) = 0 ∧ comS (wd [false, true, true, false]) (wd [false, false, true, true]) = [false, true, true] := com_some (com2_of (by decide) (by decide) (by decide) (by decide) (by decide)) (by decide +kernel)
theorem k_com12 : comE (wd [false, true, true, false]) (wd [true, false, false, true]) = 12 := (com_none (com2_of (by decide) (by decide) (by decide) (by decide) (by decide)) (by decide +kernel)).1
/-- Words of one length that are different have no error. -/
theorem errTo_words {ws : List (List Bool)} {m : Nat} (hm : 0 < m ∧ m ≤ 10) (hl : ∀ w ∈ ws, w.length = m) (hn : ws.Nodup) : errTo (ws.map wd) (ws.map wd).length = 0 := by
  have hget : ∀ i, (hi : i < ws.length) → sAtL (ws.map wd) i = wd ws[i] := fun i hi => by
    rw [sAtL, List.getD_eq_getElem?_getD, List.getElem?_map, List.getElem?_eq_getElem hi]; rfl
  have key : ∀ n, n ≤ ws.length → errTo (ws.map wd) n = 0 := by
    intro n
    induction n with
    | zero => intro _; rfl
    | succ n ih =>
      intro hle
      rw [errTo, if_pos (ih (by omega))]
      have h1 := hl _ (List.getElem_mem (show n < ws.length by omega))
      have h0 := hl _ (List.getElem_mem (show 0 < ws.length by omega))
      refine item_0 (by rw [hget n (by omega)]; exact chk_wd (by omega)) (by rw [hget n (by omega), hget 0 (by omega), wd_size, wd_size]; omega) ?_
      rintro ⟨j, hj, he⟩
      rw [hget n (by omega), hget j (by omega)] at he
      exact absurd (List.pairwise_iff_getElem.1 hn j n (by omega) (by omega) hj) (fun q => q (wd_inj he))
  rw [List.length_map]
  exact key _ (Nat.le_refl _)
theorem clS_words {ws : List (List Bool)} {i k : Nat} (hi : i < ws.length) (hk : k < ws.length) : clS (ws.map wd) i k = clashW (ws.getD i []) (ws.getD k []) := by
  unfold clS sAtL
  rw [List.getD_eq_getElem?_getD, List.getD_eq_getElem?_getD, List.getElem?_map, List.getElem?_map, List.getElem?_eq_getElem hi, List.getElem?_eq_getElem hk, List.getD_eq_getElem?_getD, List.getD_eq_getElem?_getD, List.getElem?_eq_getElem hi, List.getElem?_eq_getElem hk]
  simp only [Option.map_some, Option.getD_some, ofS_wd]
theorem k_safe : safeV [wd [false, false], wd [true, true], wd [false, true]] = .tup [.int .i64 0, .int .i64 2, .int .i64 13] := by
  have he := errTo_words (ws := [[false, false], [true, true], [false, true]]) (m := 2) (by decide) (by decide) (by decide)
  refine safe_clash (ss := [[false, false], [true, true], [false, true]].map wd) (i := 0) (k := 2) (by decide) he ⟨by decide, by decide, ?_, fun a b h1 h2 h3 => ?_⟩
  · rw [clS_words (by decide) (by decide)]; decide +kernel
  · have h2 : b < 3 := h2
    have h3 : a < 0 ∨ a = 0 ∧ b < 2 := h3
    obtain ⟨rfl, rfl⟩ : a = 0 ∧ b = 1 := by omega
    rw [clS_words (by decide) (by decide)]; decide +kernel
theorem k_most : mostE 5 = 0 ∧ mostV 5 = 6 := by
  have h := mostE_nat (n := 5) (by decide)
  exact ⟨h.1, h.2.trans most_nums.2.2.2.2⟩
set_option synthInstance.maxSize 1000
set_option synthInstance.maxHeartbeats 400000
theorem works_c {h : AHeap} (hTab : Tab h) : ACalls Go.Proofs.Tryd.prog 13 [] h (fun q h' => q = .bool true ∧ Keeps h h') := by
  refine KA.fn 181 [.tmp 0] Go.Proofs.Tryd.func13 rfl (by decide) rfl rfl (Nat.le_of_ble_eq_true rfl) ?_
  have hS := St.refl h
  show KA _ 181 _ _ [] _
  refine KA.seq ?_
  refine KA.region rfl ?_
  refine KOps.assign ?_
  refine KOps.done ?_
  refine sqQ.normal ?_
  refine KA.sub (Sub.nil _) ?_
  refine KA.seq ?_
  refine KA.region rfl ?_
  refine KOps.call rfl (classP_c) ?_
  rintro _ _ ⟨rfl, rfl⟩
  refine KOps.move ?_
  refine KOps.extract ?_
  refine KOps.extract ?_
  refine KOps.extract ?_
  refine KOps.assign ?_
  refine KOps.assign ?_
  refine KOps.assign ?_
  refine KOps.done ?_
  refine sqQ.normal ?_
  refine KA.sub (Sub.cons (t := 1) Look.eq (Sub.cons (t := 2) Look.eq (Sub.cons (t := 3) Look.eq (Sub.nil _)))) ?_
  refine KA.seq ?_
  refine KA.region rfl ?_
  refine KOps.call rfl (shortP_c) ?_
  rintro _ h33 ⟨v33, rfl, hS33⟩
  have hS0 : St _ _ (_ :: _) := St.trans hS hS33
  clear hS
  have hS := hS0
  clear hS0
  refine KOps.move ?_
  refine KOps.extract ?_
  refine KOps.extract ?_
  refine KOps.assign ?_
  refine KOps.assign ?_
  refine KOps.done ?_
  refine sqQ.normal ?_
  refine KA.sub (Sub.cons (t := 1) Look.eq (Sub.cons (t := 2) Look.eq (Sub.cons (t := 3) Look.eq (Sub.cons (t := 4) Look.eq (Sub.cons (t := 5) Look.eq (Sub.nil _)))))) ?_
  refine KA.seq ?_
  refine KA.region rfl ?_
  refine KOps.call rfl (longP_c) ?_
  rintro _ h37 ⟨v37, rfl, hS37⟩
  have hS0 : St _ _ (_ :: _) := St.trans hS hS37
  clear hS
  have hS := hS0
  clear hS0
  refine KOps.move ?_
  refine KOps.extract ?_
  refine KOps.extract ?_
  refine KOps.assign ?_
  refine KOps.assign ?_
  refine KOps.done ?_
  refine sqQ.normal ?_
  refine KA.sub (Sub.cons (t := 1) Look.eq (Sub.cons (t := 2) Look.eq (Sub.cons (t := 3) Look.eq (Sub.cons (t := 4) Look.eq (Sub.cons (t := 5) Look.eq (Sub.cons (t := 6) Look.eq (Sub.cons (t := 7) Look.eq (Sub.nil _)))))))) ?_
  refine KA.seq ?_
  refine KA.region rfl ?_
  refine KOps.call rfl (codeP_c) ?_
  rintro _ h41 ⟨v41, rfl, hS41⟩
  have hS0 : St _ _ (_ :: _) := St.trans hS hS41
  clear hS
  have hS := hS0
  clear hS0
  refine KOps.move ?_
  refine KOps.extract ?_
  refine KOps.extract ?_
  refine KOps.assign ?_
  refine KOps.assign ?_
  refine KOps.done ?_
  refine sqQ.normal ?_
  refine KA.sub (Sub.cons (t := 1) Look.eq (Sub.cons (t := 2) Look.eq (Sub.cons (t := 3) Look.eq (Sub.cons (t := 4) Look.eq (Sub.cons (t := 5) Look.eq (Sub.cons (t := 6) Look.eq (Sub.cons (t := 7) Look.eq (Sub.cons (t := 8) Look.eq (Sub.cons (t := 9) Look.eq (Sub.nil _)))))))))) ?_
  refine KA.seq ?_
  refine KA.region rfl ?_
  refine KOps.call rfl (sizePF_c) ?_
  rintro _ _ ⟨rfl, rfl⟩
  refine KOps.move ?_
  refine KOps.extract ?_
  refine KOps.extract ?_
  refine KOps.assign ?_
  refine KOps.assign ?_
  refine KOps.done ?_
  refine sqQ.normal ?_
  refine KA.sub (Sub.cons (t := 1) Look.eq (Sub.cons (t := 2) Look.eq (Sub.cons (t := 3) Look.eq (Sub.cons (t := 4) Look.eq (Sub.cons (t := 5) Look.eq (Sub.cons (t := 6) Look.eq (Sub.cons (t := 7) Look.eq (Sub.cons (t := 8) Look.eq (Sub.cons (t := 9) Look.eq (Sub.cons (t := 10) Look.eq (Sub.cons (t := 11) Look.eq (Sub.nil _)))))))))))) ?_
  refine KA.seq ?_
  refine KA.region rfl ?_
  refine KOps.call rfl (cutP_c) ?_
  rintro _ h49 ⟨v49, rfl, hS49⟩
  have hS0 : St _ _ (_ :: _) := St.trans hS hS49
  clear hS
  have hS := hS0
  clear hS0
  refine KOps.move ?_
  refine KOps.extract ?_
  refine KOps.extract ?_
  refine KOps.assign ?_
  refine KOps.assign ?_
  refine KOps.done ?_
  refine sqQ.normal ?_
  refine KA.sub (Sub.cons (t := 1) Look.eq (Sub.cons (t := 2) Look.eq (Sub.cons (t := 3) Look.eq (Sub.cons (t := 4) Look.eq (Sub.cons (t := 5) Look.eq (Sub.cons (t := 6) Look.eq (Sub.cons (t := 7) Look.eq (Sub.cons (t := 8) Look.eq (Sub.cons (t := 9) Look.eq (Sub.cons (t := 10) Look.eq (Sub.cons (t := 11) Look.eq (Sub.cons (t := 12) Look.eq (Sub.cons (t := 13) Look.eq (Sub.nil _)))))))))))))) ?_
  refine KA.seq ?_
  refine KA.region rfl ?_
  refine KOps.call rfl (restPF_c) ?_
  rintro _ _ ⟨rfl, rfl⟩
  refine KOps.move ?_
  refine KOps.extract ?_
  refine KOps.extract ?_
  refine KOps.assign ?_
  refine KOps.assign ?_
  refine KOps.done ?_
  refine sqQ.normal ?_
  refine KA.sub (Sub.cons (t := 1) Look.eq (Sub.cons (t := 2) Look.eq (Sub.cons (t := 3) Look.eq (Sub.cons (t := 4) Look.eq (Sub.cons (t := 5) Look.eq (Sub.cons (t := 6) Look.eq (Sub.cons (t := 7) Look.eq (Sub.cons (t := 8) Look.eq (Sub.cons (t := 9) Look.eq (Sub.cons (t := 10) Look.eq (Sub.cons (t := 11) Look.eq (Sub.cons (t := 12) Look.eq (Sub.cons (t := 13) Look.eq (Sub.cons (t := 14) Look.eq (Sub.cons (t := 15) Look.eq (Sub.nil _)))))))))))))))) ?_
  refine KA.seq ?_
  refine KA.region rfl ?_
  refine KOps.call rfl (comPF_c) ?_
  rintro _ _ ⟨rfl, rfl⟩
  refine KOps.move ?_
  refine KOps.extract ?_
  refine KOps.extract ?_
  refine KOps.assign ?_
  refine KOps.assign ?_
  refine KOps.done ?_
  refine sqQ.normal ?_
  refine KA.sub (Sub.cons (t := 1) Look.eq (Sub.cons (t := 2) Look.eq (Sub.cons (t := 3) Look.eq (Sub.cons (t := 4) Look.eq (Sub.cons (t := 5) Look.eq (Sub.cons (t := 6) Look.eq (Sub.cons (t := 7) Look.eq (Sub.cons (t := 8) Look.eq (Sub.cons (t := 9) Look.eq (Sub.cons (t := 10) Look.eq (Sub.cons (t := 11) Look.eq (Sub.cons (t := 12) Look.eq (Sub.cons (t := 13) Look.eq (Sub.cons (t := 14) Look.eq (Sub.cons (t := 15) Look.eq (Sub.cons (t := 16) Look.eq (Sub.cons (t := 17) Look.eq (Sub.nil _)))))))))))))))))) ?_
  refine KA.seq ?_
  refine KA.region rfl ?_
  refine KOps.buildSlice hS rfl (by decide) rfl ?_
  intro v61 h' hS
  refine KOps.call rfl (list_c) ?_
  rintro _ _ ⟨rfl, rfl⟩
  refine KOps.call rfl (safeP_c (ss := [wd [false, false], wd [true, true], wd [false, true]]) (hS.rd 0 rfl) (by decide)) ?_
  rintro _ hx ⟨rfl, hK⟩
  have hS0 : St _ _ _ := St.trans hS (St.ofK hK)
  clear hS
  have hS := hS0
  clear hS0
  simp only [List.nil_append] at hS
  rw [k_safe]
  refine KOps.move ?_
  refine KOps.extract ?_
  refine KOps.extract ?_
  refine KOps.extract ?_
  refine KOps.assign ?_
  refine KOps.assign ?_
  refine KOps.assign ?_
  refine KOps.done ?_
  refine sqQ.normal ?_
  refine KA.sub (Sub.cons (t := 1) Look.eq (Sub.cons (t := 2) Look.eq (Sub.cons (t := 3) Look.eq (Sub.cons (t := 4) Look.eq (Sub.cons (t := 5) Look.eq (Sub.cons (t := 6) Look.eq (Sub.cons (t := 7) Look.eq (Sub.cons (t := 8) Look.eq (Sub.cons (t := 9) Look.eq (Sub.cons (t := 10) Look.eq (Sub.cons (t := 11) Look.eq (Sub.cons (t := 12) Look.eq (Sub.cons (t := 13) Look.eq (Sub.cons (t := 14) Look.eq (Sub.cons (t := 15) Look.eq (Sub.cons (t := 16) Look.eq (Sub.cons (t := 17) Look.eq (Sub.cons (t := 18) Look.eq (Sub.cons (t := 19) Look.eq (Sub.cons (t := 20) Look.eq (Sub.nil _))))))))))))))))))))) ?_
  refine KA.seq ?_
  refine KA.region rfl ?_
  refine KOps.call rfl (mostP_c (hTab.ext hS.keeps)) ?_
  rintro _ hx ⟨rfl, hK⟩
  have hS0 : St _ _ _ := St.trans hS (St.ofK hK)
  clear hS
  have hS := hS0
  clear hS0
  simp only [List.nil_append] at hS
  refine KOps.move ?_
  refine KOps.extract ?_
  refine KOps.extract ?_
  refine KOps.assign ?_
  refine KOps.assign ?_
  refine KOps.done ?_
  refine sqQ.normal ?_
  refine KA.sub (Sub.cons (t := 1) Look.eq (Sub.cons (t := 2) Look.eq (Sub.cons (t := 3) Look.eq (Sub.cons (t := 4) Look.eq (Sub.cons (t := 5) Look.eq (Sub.cons (t := 6) Look.eq (Sub.cons (t := 7) Look.eq (Sub.cons (t := 8) Look.eq (Sub.cons (t := 9) Look.eq (Sub.cons (t := 10) Look.eq (Sub.cons (t := 11) Look.eq (Sub.cons (t := 12) Look.eq (Sub.cons (t := 13) Look.eq (Sub.cons (t := 14) Look.eq (Sub.cons (t := 15) Look.eq (Sub.cons (t := 16) Look.eq (Sub.cons (t := 17) Look.eq (Sub.cons (t := 18) Look.eq (Sub.cons (t := 19) Look.eq (Sub.cons (t := 20) Look.eq (Sub.cons (t := 21) Look.eq (Sub.cons (t := 22) Look.eq (Sub.nil _))))))))))))))))))))))) ?_
  refine KA.seq ?_
  refine KA.region rfl ?_
  refine KOps.call rfl (comPF_c) ?_
  rintro _ _ ⟨rfl, rfl⟩
  refine KOps.move ?_
  refine KOps.extract ?_
  refine KOps.extract ?_
  refine KOps.assign ?_
  refine KOps.assign ?_
  refine KOps.done ?_
  refine sqQ.normal ?_
  refine KA.sub (Sub.cons (t := 1) Look.eq (Sub.cons (t := 2) Look.eq (Sub.cons (t := 3) Look.eq (Sub.cons (t := 4) Look.eq (Sub.cons (t := 5) Look.eq (Sub.cons (t := 6) Look.eq (Sub.cons (t := 7) Look.eq (Sub.cons (t := 8) Look.eq (Sub.cons (t := 9) Look.eq (Sub.cons (t := 10) Look.eq (Sub.cons (t := 11) Look.eq (Sub.cons (t := 12) Look.eq (Sub.cons (t := 13) Look.eq (Sub.cons (t := 14) Look.eq (Sub.cons (t := 15) Look.eq (Sub.cons (t := 16) Look.eq (Sub.cons (t := 17) Look.eq (Sub.cons (t := 18) Look.eq (Sub.cons (t := 19) Look.eq (Sub.cons (t := 20) Look.eq (Sub.cons (t := 21) Look.eq (Sub.cons (t := 22) Look.eq (Sub.cons (t := 24) Look.eq (Sub.nil _)))))))))))))))))))))))) ?_
  refine KA.seq ?_
  refine KA.region rfl ?_
  refine KOps.call rfl (restPF_c) ?_
  rintro _ _ ⟨rfl, rfl⟩
  refine KOps.move ?_
  refine KOps.extract ?_
  refine KOps.extract ?_
  refine KOps.assign ?_
  refine KOps.assign ?_
  refine KOps.done ?_
  refine sqQ.normal ?_
  refine KA.sub (Sub.cons (t := 1) Look.eq (Sub.cons (t := 2) Look.eq (Sub.cons (t := 3) Look.eq (Sub.cons (t := 4) Look.eq (Sub.cons (t := 5) Look.eq (Sub.cons (t := 6) Look.eq (Sub.cons (t := 7) Look.eq (Sub.cons (t := 8) Look.eq (Sub.cons (t := 9) Look.eq (Sub.cons (t := 10) Look.eq (Sub.cons (t := 11) Look.eq (Sub.cons (t := 12) Look.eq (Sub.cons (t := 13) Look.eq (Sub.cons (t := 14) Look.eq (Sub.cons (t := 15) Look.eq (Sub.cons (t := 16) Look.eq (Sub.cons (t := 17) Look.eq (Sub.cons (t := 18) Look.eq (Sub.cons (t := 19) Look.eq (Sub.cons (t := 20) Look.eq (Sub.cons (t := 21) Look.eq (Sub.cons (t := 22) Look.eq (Sub.cons (t := 24) Look.eq (Sub.cons (t := 26) Look.eq (Sub.nil _))))))))))))))))))))))))) ?_
  refine KA.seq ?_
  refine KA.region rfl ?_
  refine KOps.move ?_
  refine KOps.eqlY (k_chk) ?_
  refine KOps.move ?_
  refine KOps.guardYes (dj := 81) rfl rfl ?_
  refine KOps.move ?_
  refine KOps.guardYes (dj := 81) rfl rfl ?_
  refine KOps.eqlY (k_se) ?_
  refine KOps.pickT ?_
  refine KOps.move ?_
  refine KOps.guardYes (dj := 85) rfl rfl ?_
  refine KOps.move ?_
  refine KOps.guardYes (dj := 85) rfl rfl ?_
  refine KOps.eqlY (k_le) ?_
  refine KOps.pickT ?_
  refine KOps.move ?_
  refine KOps.guardYes (dj := 89) rfl rfl ?_
  refine KOps.move ?_
  refine KOps.guardYes (dj := 89) rfl rfl ?_
  refine KOps.eqlY (codeE_nat (a := 4) (b := 0) (by decide) (by decide)) ?_
  refine KOps.pickT ?_
  refine KOps.move ?_
  refine KOps.guardYes (dj := 93) rfl rfl ?_
  refine KOps.move ?_
  refine KOps.guardYes (dj := 93) rfl rfl ?_
  refine KOps.eqlY (codeE_nat (a := 10) (b := 0) (by decide) (by decide)) ?_
  refine KOps.pickT ?_
  refine KOps.move ?_
  refine KOps.guardYes (dj := 97) rfl rfl ?_
  refine KOps.move ?_
  refine KOps.guardYes (dj := 97) rfl rfl ?_
  refine KOps.eqlY (k_ask) ?_
  refine KOps.pickT ?_
  refine KOps.move ?_
  refine KOps.guardYes (dj := 101) rfl rfl ?_
  refine KOps.move ?_
  refine KOps.guardYes (dj := 101) rfl rfl ?_
  refine KOps.eqlY (k_rest.1) ?_
  refine KOps.pickT ?_
  refine KOps.move ?_
  refine KOps.guardYes (dj := 105) rfl rfl ?_
  refine KOps.move ?_
  refine KOps.guardYes (dj := 105) rfl rfl ?_
  refine KOps.eqlY (k_com.1) ?_
  refine KOps.pickT ?_
  refine KOps.move ?_
  refine KOps.guardYes (dj := 109) rfl rfl ?_
  refine KOps.move ?_
  refine KOps.guardYes (dj := 109) rfl rfl ?_
  refine KOps.eqlY (rfl) ?_
  refine KOps.pickT ?_
  refine KOps.move ?_
  refine KOps.guardYes (dj := 113) rfl rfl ?_
  refine KOps.move ?_
  refine KOps.guardYes (dj := 113) rfl rfl ?_
  refine KOps.eqlY (k_most.1) ?_
  refine KOps.pickT ?_
  refine KOps.move ?_
  refine KOps.guardYes (dj := 117) rfl rfl ?_
  refine KOps.move ?_
  refine KOps.guardYes (dj := 117) rfl rfl ?_
  refine KOps.eqlY (k_com12) ?_
  refine KOps.pickT ?_
  refine KOps.move ?_
  refine KOps.guardYes (dj := 121) rfl rfl ?_
  refine KOps.move ?_
  refine KOps.guardYes (dj := 121) rfl rfl ?_
  refine KOps.eqlY (k_rest5) ?_
  refine KOps.pickT ?_
  refine KOps.move ?_
  refine KOps.guardYes (dj := 125) rfl rfl ?_
  refine KOps.move ?_
  refine KOps.guardYes (dj := 125) rfl rfl ?_
  refine KOps.eqlY (by rw [k_wt]; rfl) ?_
  refine KOps.pickT ?_
  refine KOps.move ?_
  refine KOps.guardYes (dj := 129) rfl rfl ?_
  refine KOps.move ?_
  refine KOps.guardYes (dj := 129) rfl rfl ?_
  refine KOps.eqlY (by rw [k_cls]; rfl) ?_
  refine KOps.pickT ?_
  refine KOps.move ?_
  refine KOps.guardYes (dj := 133) rfl rfl ?_
  refine KOps.move ?_
  refine KOps.guardYes (dj := 133) rfl rfl ?_
  refine KOps.buildSlice hS rfl (by decide) rfl ?_
  intro v135 h' hS
  refine KOps.guardYes (dj := 133) rfl rfl ?_
  refine KOps.call rfl (list_c) ?_
  rintro _ _ ⟨rfl, rfl⟩
  refine KOps.guardYes (dj := 133) rfl rfl ?_
  refine KOps.call rfl (same_t (l := (shortS (wd [false, true, true, false]))) (m := [[false, true, false], [false, true, true], [true, true, false]]) (hS.rd 5 rfl) (hS.rd 0 rfl) (by rw [k_s]; decide) k_s) ?_
  rintro _ _ ⟨rfl, rfl⟩
  refine KOps.pickT ?_
  refine KOps.move ?_
  refine KOps.guardYes (dj := 139) rfl rfl ?_
  refine KOps.move ?_
  refine KOps.guardYes (dj := 139) rfl rfl ?_
  refine KOps.buildSlice hS rfl (by decide) rfl ?_
  intro v141 h' hS
  refine KOps.guardYes (dj := 139) rfl rfl ?_
  refine KOps.call rfl (list_c) ?_
  rintro _ _ ⟨rfl, rfl⟩
  refine KOps.guardYes (dj := 139) rfl rfl ?_
  refine KOps.call rfl (same_t (l := (longS (wd [false, true]))) (m := [[false, false, true], [false, true, false], [false, true, true], [true, false, true]]) (hS.rd 5 rfl) (hS.rd 0 rfl) (by rw [k_l]; decide) k_l) ?_
  rintro _ _ ⟨rfl, rfl⟩
  refine KOps.pickT ?_
  refine KOps.move ?_
  refine KOps.guardYes (dj := 145) rfl rfl ?_
  refine KOps.move ?_
  refine KOps.guardYes (dj := 145) rfl rfl ?_
  refine KOps.buildSlice hS rfl (by decide) rfl ?_
  intro v147 h' hS
  refine KOps.guardYes (dj := 145) rfl rfl ?_
  refine KOps.call rfl (list_c) ?_
  rintro _ _ ⟨rfl, rfl⟩
  refine KOps.guardYes (dj := 145) rfl rfl ?_
  refine KOps.call rfl (same_t (l := (codeS 4 0)) (m := [[false, false, false, false], [false, true, true, false], [true, false, false, true], [true, true, true, true]]) (hS.rd 5 rfl) (hS.rd 0 rfl) (by rw [k_c]; decide) k_c) ?_
  rintro _ _ ⟨rfl, rfl⟩
  refine KOps.pickT ?_
  refine KOps.move ?_
  refine KOps.guardYes (dj := 151) rfl rfl ?_
  refine KOps.move ?_
  refine KOps.guardYes (dj := 151) rfl rfl ?_
  refine KOps.eqlY (k_n) ?_
  refine KOps.pickT ?_
  refine KOps.move ?_
  refine KOps.guardYes (dj := 155) rfl rfl ?_
  refine KOps.move ?_
  refine KOps.guardYes (dj := 155) rfl rfl ?_
  refine KOps.buildSlice hS rfl (by decide) rfl ?_
  intro v157 h' hS
  refine KOps.guardYes (dj := 155) rfl rfl ?_
  refine KOps.call rfl (list_c) ?_
  rintro _ _ ⟨rfl, rfl⟩
  refine KOps.guardYes (dj := 155) rfl rfl ?_
  refine KOps.call rfl (same_t (l := (cutS 3 (wd [false, true, true, false]))) (m := [[false, true, false], [false, true, true], [true, true, false]]) (hS.rd 5 rfl) (hS.rd 0 rfl) (by rw [k_cut]; decide) k_cut) ?_
  rintro _ _ ⟨rfl, rfl⟩
  refine KOps.pickT ?_
  refine KOps.move ?_
  refine KOps.guardYes (dj := 161) rfl rfl ?_
  refine KOps.move ?_
  refine KOps.guardYes (dj := 161) rfl rfl ?_
  refine KOps.wEqlY k_rest.2 ?_
  refine KOps.pickT ?_
  refine KOps.move ?_
  refine KOps.guardYes (dj := 165) rfl rfl ?_
  refine KOps.move ?_
  refine KOps.guardYes (dj := 165) rfl rfl ?_
  refine KOps.wEqlY k_com.2 ?_
  refine KOps.pickT ?_
  refine KOps.move ?_
  refine KOps.guardYes (dj := 169) rfl rfl ?_
  refine KOps.move ?_
  refine KOps.guardYes (dj := 169) rfl rfl ?_
  refine KOps.eqlY (rfl) ?_
  refine KOps.pickT ?_
  refine KOps.move ?_
  refine KOps.guardYes (dj := 173) rfl rfl ?_
  refine KOps.move ?_
  refine KOps.guardYes (dj := 173) rfl rfl ?_
  refine KOps.eqlY (rfl) ?_
  refine KOps.pickT ?_
  refine KOps.move ?_
  refine KOps.guardYes (dj := 177) rfl rfl ?_
  refine KOps.move ?_
  refine KOps.guardYes (dj := 177) rfl rfl ?_
  refine KOps.eqlY (by rw [k_most.2]; rfl) ?_
  refine KOps.pickT ?_
  refine KOps.assign ?_
  refine KOps.done ?_
  refine sqQ.normal ?_
  refine KA.sub (Sub.cons (t := 0) Look.eq (Sub.nil _)) ?_
  refine KA.ret ?_
  refine fnQ.ret1 ?_
  exact ⟨rfl, hS.keeps⟩

end Go.Am

namespace Go.Am
theorem codeS_len (n k : Int) : (codeS n k).length ≤ 1000000 := by
  by_cases h : codeE n k = 0
  · obtain ⟨a, b, rfl, rfl, ha, hb⟩ := codeE_zero h
    rw [codeS_nat ha hb]
    have h1 : (codeW a b).length ≤ (allW a).length := List.length_filter_le ..
    have h2 := allW_small (n := a) (by omega)
    omega
  · rw [codeS, if_neg h]; decide
theorem cutS_len (n : Int) (s : ByteArray) : (cutS n s).length ≤ 1000000 := by
  by_cases h : askE n s = 0
  · obtain ⟨a, l, rfl, rfl, ha, _⟩ := askE_zero h
    rw [cutS_wd h]
    have h1 : (cutW a l).length ≤ (allW a).length := List.length_filter_le ..
    have h2 := allW_small (n := a) (by omega)
    omega
  · rw [cutS_bad h]; decide

set_option synthInstance.maxSize 4000 in
set_option synthInstance.maxHeartbeats 2000000 in
set_option maxRecDepth 100000 in
theorem law_codes {h : AHeap} {n k : Int} {s : ByteArray} (hTab : Tab h) : ACalls Go.Proofs.Tryd.prog 4 [.int .i64 n, .int .i64 k, .str s] h (fun r _ => r = .bool true) := by
  refine KA.fn 118 [.tmp 6] Go.Proofs.Tryd.func4 rfl (by decide) rfl rfl (Nat.le_of_ble_eq_true rfl) ?_
  have hS := St.refl h
  show KA _ 118 _ _ [(0, .int .i64 n), (1, .int .i64 k), (2, .str s)] _
  refine KA.seq ?_
  refine KA.region rfl ?_
  refine KOps.assign ?_
  refine KOps.done ?_
  refine sqQ.normal ?_
  refine KA.sub (Sub.cons (t := 0) Look.eq (Sub.cons (t := 1) Look.eq (Sub.cons (t := 2) Look.eq (Sub.nil _)))) ?_
  refine KA.seq ?_
  refine KA.seq ?_
  refine KA.region rfl ?_
  refine KOps.move ?_
  refine KOps.lenStr ?_
  refine KOps.gtr ?_
  refine KOps.done ?_
  refine sqQ.normal ?_
  refine KA.sub (Sub.cons (t := 0) Look.eq (Sub.cons (t := 1) Look.eq (Sub.cons (t := 2) Look.eq (Sub.cons (t := 25) Look.eq (Sub.nil _))))) ?_
  refine KA.condD ?_ ?_
  · intro c25
    refine KA.seq ?_
    refine KA.region rfl ?_
    refine KOps.call rfl (works_c (hTab.ext hS.keeps)) ?_
    rintro _ hx ⟨rfl, hK⟩
    have hS0 : St _ _ _ := St.trans hS (St.ofK hK)
    clear hS
    have hS := hS0
    clear hS0
    simp only [List.nil_append] at hS
    refine KOps.assign ?_
    refine KOps.done ?_
    refine sqQ.normal ?_
    refine KA.sub (Sub.cons (t := 6) Look.eq (Sub.nil _)) ?_
    refine KA.ret ?_
    refine sqQ.ret ?_
    refine fnQ.ret1 ?_
    exact rfl
  · intro c25
    refine KA.skip ?_
    refine sqQ.normal ?_
    refine KA.sub (Sub.cons (t := 0) Look.eq (Sub.cons (t := 1) Look.eq (Sub.cons (t := 2) Look.eq (Sub.nil _)))) ?_
    refine KA.seq ?_
    refine KA.region rfl ?_
    refine KOps.move ?_
    refine KOps.move ?_
    refine KOps.call rfl (codeP_c) ?_
    rintro _ h30 ⟨v30, rfl, hS30⟩
    have hS0 : St _ _ (_ :: _) := St.trans hS hS30
    clear hS
    have hS := hS0
    clear hS0
    refine KOps.move ?_
    refine KOps.extract ?_
    refine KOps.extract ?_
    refine KOps.assign ?_
    refine KOps.assign ?_
    refine KOps.done ?_
    refine sqQ.normal ?_
    refine KA.sub (Sub.cons (t := 0) Look.eq (Sub.cons (t := 1) Look.eq (Sub.cons (t := 2) Look.eq (Sub.cons (t := 7) Look.eq (Sub.cons (t := 8) Look.eq (Sub.nil _)))))) ?_
    refine KA.seq ?_
    refine KA.region rfl ?_
    refine KOps.move ?_
    refine KOps.move ?_
    refine KOps.call rfl (codeR_c) ?_
    rintro _ h36 ⟨v36, rfl, hS36⟩
    have hS0 : St _ _ (_ :: _) := St.trans hS hS36
    clear hS
    have hS := hS0
    clear hS0
    refine KOps.move ?_
    refine KOps.extract ?_
    refine KOps.extract ?_
    refine KOps.assign ?_
    refine KOps.assign ?_
    refine KOps.done ?_
    refine sqQ.normal ?_
    refine KA.sub (Sub.cons (t := 0) Look.eq (Sub.cons (t := 1) Look.eq (Sub.cons (t := 2) Look.eq (Sub.cons (t := 7) Look.eq (Sub.cons (t := 8) Look.eq (Sub.cons (t := 9) Look.eq (Sub.cons (t := 10) Look.eq (Sub.nil _)))))))) ?_
    refine KA.seq ?_
    refine KA.region rfl ?_
    refine KOps.move ?_
    refine KOps.move ?_
    refine KOps.call rfl (sizePF_c) ?_
    rintro _ _ ⟨rfl, rfl⟩
    refine KOps.move ?_
    refine KOps.extract ?_
    refine KOps.extract ?_
    refine KOps.assign ?_
    refine KOps.assign ?_
    refine KOps.done ?_
    refine sqQ.normal ?_
    refine KA.sub (Sub.cons (t := 0) Look.eq (Sub.cons (t := 1) Look.eq (Sub.cons (t := 2) Look.eq (Sub.cons (t := 7) Look.eq (Sub.cons (t := 8) Look.eq (Sub.cons (t := 9) Look.eq (Sub.cons (t := 10) Look.eq (Sub.cons (t := 11) Look.eq (Sub.cons (t := 12) Look.eq (Sub.nil _)))))))))) ?_
    refine KA.seq ?_
    refine KA.region rfl ?_
    refine KOps.move ?_
    refine KOps.move ?_
    refine KOps.call rfl (sizeRF_c) ?_
    rintro _ _ ⟨rfl, rfl⟩
    refine KOps.move ?_
    refine KOps.extract ?_
    refine KOps.extract ?_
    refine KOps.assign ?_
    refine KOps.assign ?_
    refine KOps.done ?_
    refine sqQ.normal ?_
    refine KA.sub (Sub.cons (t := 0) Look.eq (Sub.cons (t := 1) Look.eq (Sub.cons (t := 2) Look.eq (Sub.cons (t := 7) Look.eq (Sub.cons (t := 8) Look.eq (Sub.cons (t := 9) Look.eq (Sub.cons (t := 10) Look.eq (Sub.cons (t := 11) Look.eq (Sub.cons (t := 12) Look.eq (Sub.cons (t := 13) Look.eq (Sub.cons (t := 14) Look.eq (Sub.nil _)))))))))))) ?_
    refine KA.seq ?_
    refine KA.region rfl ?_
    refine KOps.move ?_
    refine KOps.move ?_
    refine KOps.call rfl (cutP_c) ?_
    rintro _ h54 ⟨v54, rfl, hS54⟩
    have hS0 : St _ _ (_ :: _) := St.trans hS hS54
    clear hS
    have hS := hS0
    clear hS0
    refine KOps.move ?_
    refine KOps.extract ?_
    refine KOps.extract ?_
    refine KOps.assign ?_
    refine KOps.assign ?_
    refine KOps.done ?_
    refine sqQ.normal ?_
    refine KA.sub (Sub.cons (t := 0) Look.eq (Sub.cons (t := 1) Look.eq (Sub.cons (t := 2) Look.eq (Sub.cons (t := 7) Look.eq (Sub.cons (t := 8) Look.eq (Sub.cons (t := 9) Look.eq (Sub.cons (t := 10) Look.eq (Sub.cons (t := 11) Look.eq (Sub.cons (t := 12) Look.eq (Sub.cons (t := 13) Look.eq (Sub.cons (t := 14) Look.eq (Sub.cons (t := 15) Look.eq (Sub.cons (t := 16) Look.eq (Sub.nil _)))))))))))))) ?_
    refine KA.seq ?_
    refine KA.region rfl ?_
    refine KOps.move ?_
    refine KOps.move ?_
    refine KOps.call rfl (cutR_c) ?_
    rintro _ h60 ⟨v60, rfl, hS60⟩
    have hS0 : St _ _ (_ :: _) := St.trans hS hS60
    clear hS
    have hS := hS0
    clear hS0
    refine KOps.move ?_
    refine KOps.extract ?_
    refine KOps.extract ?_
    refine KOps.assign ?_
    refine KOps.assign ?_
    refine KOps.done ?_
    refine sqQ.normal ?_
    refine KA.sub (Sub.cons (t := 0) Look.eq (Sub.cons (t := 1) Look.eq (Sub.cons (t := 2) Look.eq (Sub.cons (t := 7) Look.eq (Sub.cons (t := 8) Look.eq (Sub.cons (t := 9) Look.eq (Sub.cons (t := 10) Look.eq (Sub.cons (t := 11) Look.eq (Sub.cons (t := 12) Look.eq (Sub.cons (t := 13) Look.eq (Sub.cons (t := 14) Look.eq (Sub.cons (t := 15) Look.eq (Sub.cons (t := 16) Look.eq (Sub.cons (t := 17) Look.eq (Sub.cons (t := 18) Look.eq (Sub.nil _)))))))))))))))) ?_
    refine KA.seq ?_
    refine KA.region rfl ?_
    refine KOps.move ?_
    refine KOps.move ?_
    refine KOps.move ?_
    refine KOps.call rfl (restPF_c) ?_
    rintro _ _ ⟨rfl, rfl⟩
    refine KOps.move ?_
    refine KOps.extract ?_
    refine KOps.extract ?_
    refine KOps.assign ?_
    refine KOps.assign ?_
    refine KOps.done ?_
    refine sqQ.normal ?_
    refine KA.sub (Sub.cons (t := 0) Look.eq (Sub.cons (t := 1) Look.eq (Sub.cons (t := 2) Look.eq (Sub.cons (t := 7) Look.eq (Sub.cons (t := 8) Look.eq (Sub.cons (t := 9) Look.eq (Sub.cons (t := 10) Look.eq (Sub.cons (t := 11) Look.eq (Sub.cons (t := 12) Look.eq (Sub.cons (t := 13) Look.eq (Sub.cons (t := 14) Look.eq (Sub.cons (t := 15) Look.eq (Sub.cons (t := 16) Look.eq (Sub.cons (t := 17) Look.eq (Sub.cons (t := 18) Look.eq (Sub.cons (t := 19) Look.eq (Sub.cons (t := 20) Look.eq (Sub.nil _)))))))))))))))))) ?_
    refine KA.seq ?_
    refine KA.region rfl ?_
    refine KOps.move ?_
    refine KOps.move ?_
    refine KOps.move ?_
    refine KOps.call rfl (restRF_c) ?_
    rintro _ _ ⟨rfl, rfl⟩
    refine KOps.move ?_
    refine KOps.extract ?_
    refine KOps.extract ?_
    refine KOps.assign ?_
    refine KOps.assign ?_
    refine KOps.done ?_
    refine sqQ.normal ?_
    refine KA.sub (Sub.cons (t := 7) Look.eq (Sub.cons (t := 8) Look.eq (Sub.cons (t := 9) Look.eq (Sub.cons (t := 10) Look.eq (Sub.cons (t := 11) Look.eq (Sub.cons (t := 12) Look.eq (Sub.cons (t := 13) Look.eq (Sub.cons (t := 14) Look.eq (Sub.cons (t := 15) Look.eq (Sub.cons (t := 16) Look.eq (Sub.cons (t := 17) Look.eq (Sub.cons (t := 18) Look.eq (Sub.cons (t := 19) Look.eq (Sub.cons (t := 20) Look.eq (Sub.cons (t := 21) Look.eq (Sub.cons (t := 22) Look.eq (Sub.nil _))))))))))))))))) ?_
    refine KA.seq ?_
    refine KA.region rfl ?_
    refine KOps.move ?_
    refine KOps.move ?_
    refine KOps.call rfl (same_t (l := codeS n k) (m := codeS n k) (hS.rd 3 rfl) (hS.rd 2 rfl) (codeS_len n k) rfl) ?_
    rintro _ _ ⟨rfl, rfl⟩
    refine KOps.move ?_
    refine KOps.guardYes (dj := 80) rfl rfl ?_
    refine KOps.move ?_
    refine KOps.guardYes (dj := 80) rfl rfl ?_
    refine KOps.move ?_
    refine KOps.guardYes (dj := 80) rfl rfl ?_
    refine KOps.eqlY (rfl) ?_
    refine KOps.pickT ?_
    refine KOps.move ?_
    refine KOps.guardYes (dj := 85) rfl rfl ?_
    refine KOps.move ?_
    refine KOps.guardYes (dj := 85) rfl rfl ?_
    refine KOps.move ?_
    refine KOps.guardYes (dj := 85) rfl rfl ?_
    refine KOps.eqlY (rfl) ?_
    refine KOps.pickT ?_
    refine KOps.move ?_
    refine KOps.guardYes (dj := 90) rfl rfl ?_
    refine KOps.move ?_
    refine KOps.guardYes (dj := 90) rfl rfl ?_
    refine KOps.move ?_
    refine KOps.guardYes (dj := 90) rfl rfl ?_
    refine KOps.eqlY (rfl) ?_
    refine KOps.pickT ?_
    refine KOps.move ?_
    refine KOps.guardYes (dj := 95) rfl rfl ?_
    refine KOps.move ?_
    refine KOps.guardYes (dj := 95) rfl rfl ?_
    refine KOps.move ?_
    refine KOps.guardYes (dj := 95) rfl rfl ?_
    refine KOps.call rfl (same_t (l := cutS n s) (m := cutS n s) (hS.rd 1 rfl) (hS.rd 0 rfl) (cutS_len n s) rfl) ?_
    rintro _ _ ⟨rfl, rfl⟩
    refine KOps.pickT ?_
    refine KOps.move ?_
    refine KOps.guardYes (dj := 100) rfl rfl ?_
    refine KOps.move ?_
    refine KOps.guardYes (dj := 100) rfl rfl ?_
    refine KOps.move ?_
    refine KOps.guardYes (dj := 100) rfl rfl ?_
    refine KOps.eqlY (rfl) ?_
    refine KOps.pickT ?_
    refine KOps.move ?_
    refine KOps.guardYes (dj := 105) rfl rfl ?_
    refine KOps.move ?_
    refine KOps.guardYes (dj := 105) rfl rfl ?_
    refine KOps.move ?_
    refine KOps.guardYes (dj := 105) rfl rfl ?_
    refine KOps.wEqlY (rfl) ?_
    refine KOps.pickT ?_
    refine KOps.move ?_
    refine KOps.guardYes (dj := 110) rfl rfl ?_
    refine KOps.move ?_
    refine KOps.guardYes (dj := 110) rfl rfl ?_
    refine KOps.move ?_
    refine KOps.guardYes (dj := 110) rfl rfl ?_
    refine KOps.eqlY (rfl) ?_
    refine KOps.pickT ?_
    refine KOps.move ?_
    refine KOps.guardYes (dj := 115) rfl rfl ?_
    refine KOps.call rfl (works_c (hTab.ext hS.keeps)) ?_
    rintro _ hx ⟨rfl, hK⟩
    have hS0 : St _ _ _ := St.trans hS (St.ofK hK)
    clear hS
    have hS := hS0
    clear hS0
    simp only [List.nil_append] at hS
    refine KOps.pickT ?_
    refine KOps.assign ?_
    refine KOps.done ?_
    refine sqQ.normal ?_
    refine KA.sub (Sub.cons (t := 6) Look.eq (Sub.nil _)) ?_
    refine KA.ret ?_
    refine fnQ.ret1 ?_
    exact rfl

end Go.Am
