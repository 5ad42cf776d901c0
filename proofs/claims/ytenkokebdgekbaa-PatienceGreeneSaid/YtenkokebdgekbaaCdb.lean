/-
  Layer 13: the most cards of some rows by trying, with a map of what was met; the law.
  Conditions: none.
-/
import Derived.Test.YtenkokebdgekbaaCda
import Derived.Test.YtenkokebdgekbaaCy
import Derived.Test.YtenkokebdgekbaaCm
import Derived.Test.YtenkokebdgekbaaPt18
namespace Go.Am
open Go.Gr
instance mp68 : MpT Go.Proofs.Try.prog 68 70 (.int .i64 0) := MpT.of (by kernel_rfl)
instance ar70 : ArT Go.Proofs.Try.prog 70 5 := ArT.of (by kernel_rfl)
abbrev K5 := {l : List Int // l.length = 5}
def keyV (l : K5) : AV := .agg (ints l.1)
instance key70 : KeyT Go.Proofs.Try.prog 70 keyV := KeyT.arr (e := 3) (k := .i64) (by kernel_rfl) (by kernel_rfl) (by kernel_rfl) (by kernel_rfl)
/-- What was met is worth no more than the best. -/
def MetG (f : Bool) (k : Nat) (L : List Int) (i : Nat) (E : List (K5 × Int)) (b : Int) : Prop := ∀ (s : K5) (m : Int), mget E s = some m → (i : Int) ≤ s.1.getD 4 0 → m + (valG f k (L.drop (s.1.getD 4 0).toNat) s.1 : Int) ≤ b
def OldG (i : Nat) (E E' : List (K5 × Int)) : Prop := ∀ s : K5, s.1.getD 4 0 < (i : Int) → mget E' s = mget E s
theorem MetG.mono {f : Bool} {k i j : Nat} {L : List Int} {E : List (K5 × Int)} {b b' : Int} (h : MetG f k L i E b) (hb : b ≤ b') (hj : i ≤ j) : MetG f k L j E b' := fun s m hm hs => by have := h s m hm (by omega); omega
theorem met_put {f : Bool} {k i : Nat} {L : List Int} {E : List (K5 × Int)} {b b' n : Int} {a : K5} (ha : a.1.getD 4 0 = (i : Int)) (h : MetG f k L i E b) (hb : b ≤ b') : MetG f k L (i + 1) (mput E a n) b' := by
  intro s m hm hs
  rw [mget_mput, if_neg (by rintro rfl; omega)] at hm
  have := h s m hm (by omega)
  omega
theorem met_end {f : Bool} {k i : Nat} {L : List Int} {E E2 : List (K5 × Int)} {b b2 n : Int} {a : K5} (ha : a.1.getD 4 0 = (i : Int)) (h : MetG f k L i E b) (h2 : MetG f k L (i + 1) E2 b2) (ho : OldG (i + 1) (mput E a n) E2) (hb : b ≤ b2) (hv : n + (valG f k (L.drop i) a.1 : Int) ≤ b2) : MetG f k L i E2 b2 ∧ OldG i E E2 := by
  constructor
  · intro s m hm hs
    rcases Int.lt_or_le (s.1.getD 4 0) ((i + 1 : Nat) : Int) with h1 | h1
    · rw [ho s h1, mget_mput] at hm
      split at hm
      · rename_i hsa
        subst hsa
        rw [ha, Int.toNat_natCast]
        have : n = m := by simpa using hm
        omega
      · have := h s m hm hs
        omega
    · exact h2 s m hm h1
  · intro s hs
    rw [ho s (by omega), mget_mput, if_neg (by rintro rfl; omega)]
theorem OldG.trans {i : Nat} {E E1 E2 : List (K5 × Int)} (h1 : OldG i E E1) (h2 : OldG i E1 E2) : OldG i E E2 := fun s hs => by rw [h2 s hs, h1 s hs]
theorem okG_no {f : Bool} {c e : Int} (h : ¬ e < 0) : (decide (c < e) == f) = decide (okG f c e) := by
  unfold okG
  by_cases h2 : c < e <;> cases f <;> simp [h, h2]
theorem St.under {h0 h : AHeap} {a : Obj} {A G : List Obj} (st : St h0 h (a :: (A ++ G))) : St h0 h (A ++ a :: G) := St.perm List.perm_middle.symm st
theorem St.over {h0 h : AHeap} {a : Obj} {A G : List Obj} (st : St h0 h (A ++ a :: G)) : St h0 h (a :: (A ++ G)) := St.perm List.perm_middle st
theorem dropG_cons {L : List Int} {i : Nat} (hi : i < L.length) : L.drop i = L.getD i 0 :: L.drop (i + 1) := by
  rw [List.drop_eq_getElem_cons hi, List.getD_eq_getElem?_getD, List.getElem?_eq_getElem hi]; rfl

theorem putG_c {h0 : AHeap} {p3 p4 p5 p6 p7 p8 vm vL : AV} {L : List Int} {k : Nat} {f tL : Bool} (hp3 : AddrOf p3 p3 0 0) (hp4 : AddrOf p4 p4 0 0) (hp5 : AddrOf p5 p5 0 0) (hp6 : AddrOf p6 p6 0 0) (hp7 : AddrOf p7 p7 0 0) (hp8 : AddrOf p8 p8 0 0) (hvm : IsMp vm) (hk4 : k ≤ 4) (hl9 : L.length ≤ 9) (d : Nat) : ∀ {h : AHeap} {e : List Int} {i n : Nat} {b : Int} {E : List (K5 × Int)} {G : List Obj}, i + d = L.length → e.length = 5 → n ≤ i → MetG f k L i E b → St h0 h (⟨p3, 0, [.int .i64 b], true⟩ :: ⟨p4, 0, [vL], true⟩ :: ⟨p5, 0, [.int .i64 (k : Int)], true⟩ :: ⟨p6, 0, [vm], true⟩ :: ⟨p7, 0, [.fn 59 [p3, p4, p5, p6, p7, p8]], true⟩ :: ⟨p8, 0, [.bool f], true⟩ :: mapO vm (entL keyV (AV.int .i64) E) :: ⟨vL, 1, ints L, tL⟩ :: G) →
    ACalls Go.Proofs.Try.prog 59 [.int .i64 (i : Int), .agg (ints e), .int .i64 (n : Int), p3, p4, p5, p6, p7, p8] h (fun _ h' => ∃ b' E', b' = Max.max b ((n : Int) + (valG f k (L.drop i) e : Int)) ∧ MetG f k L i E' b' ∧ OldG i E E' ∧ St h0 h' (⟨p3, 0, [.int .i64 b'], true⟩ :: ⟨p4, 0, [vL], true⟩ :: ⟨p5, 0, [.int .i64 (k : Int)], true⟩ :: ⟨p6, 0, [vm], true⟩ :: ⟨p7, 0, [.fn 59 [p3, p4, p5, p6, p7, p8]], true⟩ :: ⟨p8, 0, [.bool f], true⟩ :: mapO vm (entL keyV (AV.int .i64) E') :: ⟨vL, 1, ints L, tL⟩ :: G)) := by
  induction d using Nat.strongRecOn
  rename_i d ih
  intro h e i n b E G hid he hni hmet hS
  refine KA.fn 86 [] Go.Proofs.Try.func59 rfl (by decide) rfl rfl (Nat.le_of_ble_eq_true rfl) ?_
  show KA _ 86 _ _ [(0, .int .i64 (i : Int)), (1, .agg (ints e)), (2, .int .i64 (n : Int)), (3, p3), (4, p4), (5, p5), (6, p6), (7, p7), (8, p8)] _
  refine KA.seq ?_
  refine KA.region rfl ?_
  refine KOps.boxI hS ?_
  intro p10 h1 hp10 hS
  refine KOps.done ?_
  refine sqQ.normal ?_
  refine KA.sub (Sub.cons (t := 0) Look.eq (Sub.cons (t := 2) Look.eq (Sub.cons (t := 3) Look.eq (Sub.cons (t := 4) Look.eq (Sub.cons (t := 5) Look.eq (Sub.cons (t := 6) Look.eq (Sub.cons (t := 7) Look.eq (Sub.cons (t := 8) Look.eq (Sub.cons (t := 10) Look.eq (Sub.nil _)))))))))) ?_
  refine KA.seq ?_
  refine KA.region rfl ?_
  refine KOps.loadBox hS (i := 1) rfl hp3 ?_
  refine KOps.move ?_
  refine KOps.max ?_
  refine KOps.storeBox hS rfl (i := 1) rfl hp3 (by first | rfl | assumption) ?_
  intro h' hS
  simp only [List.set_cons_zero, List.set_cons_succ] at hS
  refine KOps.done ?_
  refine sqQ.normal ?_
  refine KA.sub (Sub.cons (t := 0) Look.eq (Sub.cons (t := 2) Look.eq (Sub.cons (t := 4) Look.eq (Sub.cons (t := 5) Look.eq (Sub.cons (t := 6) Look.eq (Sub.cons (t := 7) Look.eq (Sub.cons (t := 8) Look.eq (Sub.cons (t := 10) Look.eq (Sub.nil _))))))))) ?_
  refine KA.seq ?_
  refine KA.seq ?_
  refine KA.region rfl ?_
  refine KOps.move ?_
  refine KOps.loadBox hS (i := 2) rfl hp4 ?_
  refine KOps.lenI (hS.rd 8 rfl) ?_
  refine KOps.eql ?_
  refine KOps.done ?_
  refine sqQ.normal ?_
  refine KA.sub (Sub.cons (t := 0) Look.eq (Sub.cons (t := 2) Look.eq (Sub.cons (t := 4) Look.eq (Sub.cons (t := 5) Look.eq (Sub.cons (t := 6) Look.eq (Sub.cons (t := 7) Look.eq (Sub.cons (t := 8) Look.eq (Sub.cons (t := 10) Look.eq (Sub.cons (t := 23) Look.eq (Sub.nil _)))))))))) ?_
  refine KA.condD ?_ ?_
  · intro c23
    have hv0 : valG f k (L.drop i) e = 0 := by rw [List.drop_of_length_le (by omega), valG]
    refine KA.ret ?_
    refine sqQ.ret ?_
    refine fnQ.ret0 ?_
    exact ⟨_, E, by rw [hv0]; simp, hmet.mono (by omega) (Nat.le_refl _), fun _ _ => rfl, St.tail hS⟩
  · intro c23
    obtain ⟨d2, rfl⟩ : ∃ d2, d = d2 + 1 := ⟨d - 1, by omega⟩
    have hdr := dropG_cons (L := L) (i := i) (by omega)
    refine KA.skip ?_
    refine sqQ.normal ?_
    refine KA.sub (Sub.cons (t := 0) Look.eq (Sub.cons (t := 2) Look.eq (Sub.cons (t := 4) Look.eq (Sub.cons (t := 5) Look.eq (Sub.cons (t := 6) Look.eq (Sub.cons (t := 7) Look.eq (Sub.cons (t := 8) Look.eq (Sub.cons (t := 10) Look.eq (Sub.nil _))))))))) ?_
    refine KA.seq ?_
    refine KA.region rfl ?_
    refine KOps.loadArrI hS (i := 0) rfl hp10 he (by omega) ?_
    refine KOps.alloc hS ?_
    intro p12 h4 hp12 hS
    refine KOps.storeArrI hS rfl (i := 0) rfl hp12 he rfl (by omega) ?_
    intro h5 hS
    simp only [List.set_cons_zero, List.set_cons_succ] at hS
    refine KOps.done ?_
    refine sqQ.normal ?_
    refine KA.sub (Sub.cons (t := 0) Look.eq (Sub.cons (t := 2) Look.eq (Sub.cons (t := 4) Look.eq (Sub.cons (t := 5) Look.eq (Sub.cons (t := 6) Look.eq (Sub.cons (t := 7) Look.eq (Sub.cons (t := 8) Look.eq (Sub.cons (t := 10) Look.eq (Sub.cons (t := 12) Look.eq (Sub.nil _)))))))))) ?_
    refine KA.seq ?_
    refine KA.region rfl ?_
    refine KOps.loadBox hS (i := 4) rfl hp5 ?_
    refine KOps.sliceA hS (i := 0) rfl hp12 (by simpa using he) (by decide) (by decide) (by omega) ?_
    intro r26 hr26
    refine KOps.call rfl (sort_c hS (i := 0) rfl hr26 (by omega) (by omega)) ?_
    rintro _ h6 ⟨e2, hsw, hS⟩
    simp only [List.set_cons_zero, List.set_cons_succ] at hS
    have he2 := hsw.len
    have hk5 : (e2.set 4 (i : Int)).length = 5 := by rw [List.length_set]; omega
    have hk45 : (e2.set 4 (i : Int)).getD 4 0 = (i : Int) := by rw [getD_setI, if_pos ⟨rfl, by omega⟩]
    have hvk : valG f k (L.drop i) (e2.set 4 (i : Int)) = valG f k (L.drop i) e := by rw [valG_far (by omega) hk4, valG_swaps (by omega) hsw]
    refine KOps.done ?_
    refine sqQ.normal ?_
    refine KA.sub (Sub.cons (t := 0) Look.eq (Sub.cons (t := 2) Look.eq (Sub.cons (t := 4) Look.eq (Sub.cons (t := 5) Look.eq (Sub.cons (t := 6) Look.eq (Sub.cons (t := 7) Look.eq (Sub.cons (t := 8) Look.eq (Sub.cons (t := 10) Look.eq (Sub.cons (t := 12) Look.eq (Sub.nil _)))))))))) ?_
    refine KA.seq ?_
    refine KA.region rfl ?_
    refine KOps.move ?_
    refine KOps.indexA hp12 (j := 4) rfl (by first | omega | (simp; omega)) ?_
    intro p29 hp29
    refine KOps.storeA hS rfl (i := 0) rfl hp29 (by first | omega | (simp; omega)) ?_
    intro h' hS
    simp only [List.set_cons_zero, List.set_cons_succ] at hS
    refine KOps.done ?_
    refine sqQ.normal ?_
    refine KA.sub (Sub.cons (t := 0) Look.eq (Sub.cons (t := 2) Look.eq (Sub.cons (t := 4) Look.eq (Sub.cons (t := 5) Look.eq (Sub.cons (t := 6) Look.eq (Sub.cons (t := 7) Look.eq (Sub.cons (t := 8) Look.eq (Sub.cons (t := 10) Look.eq (Sub.cons (t := 12) Look.eq (Sub.nil _)))))))))) ?_
    refine KA.meet (X := Unit) (fun _ => [(0, .int .i64 (i : Int)), (2, .int .i64 (n : Int)), (4, p4), (5, p5), (6, p6), (7, p7), (8, p8), (10, p10), (12, p12)]) (fun _ h' => St h0 h' (⟨p12, 0, ints (e2.set 4 (i : Int)), true⟩ :: ⟨p10, 0, ints e, true⟩ :: ⟨p3, 0, [.int .i64 (Max.max b (n : Int))], true⟩ :: ⟨p4, 0, [vL], true⟩ :: ⟨p5, 0, [.int .i64 (k : Int)], true⟩ :: ⟨p6, 0, [vm], true⟩ :: ⟨p7, 0, [.fn 59 [p3, p4, p5, p6, p7, p8]], true⟩ :: ⟨p8, 0, [.bool f], true⟩ :: mapO vm (entL keyV (AV.int .i64) E) :: ⟨vL, 1, ints L, tL⟩ :: G)) ?_ ?_
    ·
      refine KA.seq ?_
      refine KA.region rfl ?_
      refine KOps.loadBox hS (i := 5) rfl hp6 ?_
      refine KOps.loadArrI hS (i := 0) rfl hp12 hk5 (by omega) ?_
      refine KOps.lookupD2 (kf := keyV) (vf := AV.int .i64) (l := E) (a := ⟨e2.set 4 (i : Int), hk5⟩) (w := 0) EvK.eq (St.rdM hS 8 rfl hvm) rfl rfl ?_
      refine KOps.move ?_
      refine KOps.extract ?_
      refine KOps.extract ?_
      refine KOps.assign ?_
      refine KOps.assign ?_
      refine KOps.done ?_
      refine sqQ.normal ?_
      refine KA.sub (Sub.cons (t := 0) Look.eq (Sub.cons (t := 2) Look.eq (Sub.cons (t := 4) Look.eq (Sub.cons (t := 5) Look.eq (Sub.cons (t := 6) Look.eq (Sub.cons (t := 7) Look.eq (Sub.cons (t := 8) Look.eq (Sub.cons (t := 10) Look.eq (Sub.cons (t := 12) Look.eq (Sub.cons (t := 13) Look.eq (Sub.cons (t := 14) Look.eq (Sub.nil _)))))))))))) ?_
      refine KA.seq ?_
      refine KA.region rfl ?_
      refine KOps.move ?_
      refine KOps.move ?_
      refine KOps.guardB (dj := 37) rfl rfl true false rfl ?_ ?_
      · intro g37
        refine KOps.move ?_
        refine KOps.guardYes (dj := 37) rfl rfl ?_
        refine KOps.move ?_
        refine KOps.guardYes (dj := 37) rfl rfl ?_
        refine KOps.geq ?_
        refine KOps.pickT ?_
        refine KOps.done ?_
        refine sqQ.normal ?_
        refine KA.sub (Sub.cons (t := 0) Look.eq (Sub.cons (t := 2) Look.eq (Sub.cons (t := 4) Look.eq (Sub.cons (t := 5) Look.eq (Sub.cons (t := 6) Look.eq (Sub.cons (t := 7) Look.eq (Sub.cons (t := 8) Look.eq (Sub.cons (t := 10) Look.eq (Sub.cons (t := 12) Look.eq (Sub.cons (t := 41) Look.eq (Sub.nil _))))))))))) ?_
        refine KA.condD ?_ ?_
        · intro c41
          refine KA.ret ?_
          refine mtQ.ret ?_
          refine fnQ.ret0 ?_
          obtain ⟨m, hm⟩ := Option.isSome_iff_exists.1 g37
          rw [hm, Option.getD_some] at c41
          have hmt := hmet _ m hm (by dsimp only; rw [hk45]; exact Int.le_refl _)
          dsimp only at hmt
          rw [hk45, Int.toNat_natCast, hvk] at hmt
          exact ⟨_, E, by omega, hmet.mono (by omega) (Nat.le_refl _), fun _ _ => rfl, St.tail (St.tail hS)⟩
        · intro c41
          refine KA.skip ?_
          exact mtQ.normal () (by repeat (first | exact Sub.nil _ | refine Sub.cons Look.eq ?_ | refine Sub.cons (Eq.trans Look.eq (congrArg (AV.int _) (by first | omega | (dsimp only; omega)))) ?_)) hS
      · intro g37
        refine KOps.guardNo (dj := 37) rfl rfl rfl ?_
        refine KOps.guardNo (dj := 37) rfl rfl rfl ?_
        refine KOps.pickF ?_
        refine KOps.done ?_
        refine sqQ.normal ?_
        refine KA.sub (Sub.cons (t := 0) Look.eq (Sub.cons (t := 2) Look.eq (Sub.cons (t := 4) Look.eq (Sub.cons (t := 5) Look.eq (Sub.cons (t := 6) Look.eq (Sub.cons (t := 7) Look.eq (Sub.cons (t := 8) Look.eq (Sub.cons (t := 10) Look.eq (Sub.cons (t := 12) Look.eq (Sub.cons (t := 41) Look.eq (Sub.nil _))))))))))) ?_
        refine KA.condF ?_
        refine KA.skip ?_
        exact mtQ.normal () (by repeat (first | exact Sub.nil _ | refine Sub.cons Look.eq ?_ | refine Sub.cons (Eq.trans Look.eq (congrArg (AV.int _) (by first | omega | (dsimp only; omega)))) ?_)) hS
    ·
      rintro _ h7 hS
      refine KA.seq ?_
      refine KA.region rfl ?_
      refine KOps.loadBox hS (i := 5) rfl hp6 ?_
      refine KOps.loadArrI hS (i := 0) rfl hp12 hk5 (by omega) ?_
      refine KOps.move ?_
      refine KOps.mapPutK (kf := keyV) (vf := AV.int .i64) (l := E) (a := ⟨e2.set 4 (i : Int), hk5⟩) (i := 8) (b := (n : Int)) EvK.eq rfl hS hvm rfl rfl ?_
      intro h7 hS
      simp only [List.set_cons_zero, List.set_cons_succ] at hS
      refine KOps.done ?_
      refine sqQ.normal ?_
      refine KA.sub (Sub.cons (t := 0) Look.eq (Sub.cons (t := 2) Look.eq (Sub.cons (t := 4) Look.eq (Sub.cons (t := 5) Look.eq (Sub.cons (t := 7) Look.eq (Sub.cons (t := 8) Look.eq (Sub.cons (t := 10) Look.eq (Sub.nil _)))))))) ?_
      refine KA.seq ?_
      refine KA.region rfl ?_
      refine KOps.loadBox hS (i := 6) rfl hp7 ?_
      refine KOps.move ?_
      refine KOps.add (by first | omega | (simp only [List.length_append, List.length_singleton, List.length_set]; omega)) (by first | omega | (simp only [List.length_append, List.length_singleton, List.length_set]; omega)) ?_
      rw [show ((i : Int) + 1) = ((i + 1 : Nat) : Int) from rfl]
      refine KOps.loadArrI hS (i := 1) rfl hp10 he (by omega) ?_
      refine KOps.move ?_
      refine KOps.call rfl (ih d2 (by omega) (n := n) (b := Max.max b (n : Int)) (E := (mput E ⟨e2.set 4 (i : Int), hk5⟩ (n : Int))) (G := ⟨p10, 0, ints e, true⟩ :: G) (by omega) he (by omega) (met_put (a := ⟨e2.set 4 (i : Int), hk5⟩) hk45 hmet (by omega)) (St.under (a := ⟨p10, 0, ints e, true⟩) (A := [⟨p3, 0, [.int .i64 (Max.max b (n : Int))], true⟩, ⟨p4, 0, [vL], true⟩, ⟨p5, 0, [.int .i64 (k : Int)], true⟩, ⟨p6, 0, [vm], true⟩, ⟨p7, 0, [.fn 59 [p3, p4, p5, p6, p7, p8]], true⟩, ⟨p8, 0, [.bool f], true⟩, mapO vm (entL keyV (AV.int .i64) (mput E ⟨e2.set 4 (i : Int), hk5⟩ (n : Int))), ⟨vL, 1, ints L, tL⟩]) (G := G) (St.tail hS))) ?_
      rintro _ h8 ⟨b2, E2, hb2, hm2, ho2, hS⟩
      replace hS := St.over (a := ⟨p10, 0, ints e, true⟩) (A := [⟨p3, 0, [.int .i64 b2], true⟩, ⟨p4, 0, [vL], true⟩, ⟨p5, 0, [.int .i64 (k : Int)], true⟩, ⟨p6, 0, [vm], true⟩, ⟨p7, 0, [.fn 59 [p3, p4, p5, p6, p7, p8]], true⟩, ⟨p8, 0, [.bool f], true⟩, mapO vm (entL keyV (AV.int .i64) E2), ⟨vL, 1, ints L, tL⟩]) (G := G) hS
      refine KOps.done ?_
      refine sqQ.normal ?_
      refine KA.sub (Sub.cons (t := 0) Look.eq (Sub.cons (t := 2) Look.eq (Sub.cons (t := 4) Look.eq (Sub.cons (t := 5) Look.eq (Sub.cons (t := 7) Look.eq (Sub.cons (t := 8) Look.eq (Sub.cons (t := 10) Look.eq (Sub.nil _)))))))) ?_
      refine KA.seq ?_
      refine KA.region rfl ?_
      refine KOps.loadBox hS (i := 3) rfl hp5 ?_
      refine KOps.move ?_
      refine KOps.done ?_
      refine sqQ.normal ?_
      refine KA.sub (Sub.cons (t := 0) Look.eq (Sub.cons (t := 2) Look.eq (Sub.cons (t := 4) Look.eq (Sub.cons (t := 7) Look.eq (Sub.cons (t := 8) Look.eq (Sub.cons (t := 10) Look.eq (Sub.cons (t := 51) Look.eq (Sub.cons (t := 52) Look.eq (Sub.nil _))))))))) ?_
      refine KA.block ?_
      refine KA.loop (X := Nat × Int × List (K5 × Int)) (fun x => [(0, .int .i64 (i : Int)), (2, .int .i64 (n : Int)), (4, p4), (7, p7), (8, p8), (10, p10), (51, .int .i64 (k : Int)), (52, .int .i64 (x.1 : Int))]) (fun x h' => x.1 ≤ k ∧ x.2.1 = Max.max (Max.max b (n : Int)) ((n : Int) + (valTo f k (L.getD i 0) (L.drop (i + 1)) e x.1 : Int)) ∧ MetG f k L (i + 1) x.2.2 x.2.1 ∧ OldG (i + 1) (mput E ⟨e2.set 4 (i : Int), hk5⟩ (n : Int)) x.2.2 ∧ St h0 h' (⟨p10, 0, ints e, true⟩ :: ⟨p3, 0, [.int .i64 x.2.1], true⟩ :: ⟨p4, 0, [vL], true⟩ :: ⟨p5, 0, [.int .i64 (k : Int)], true⟩ :: ⟨p6, 0, [vm], true⟩ :: ⟨p7, 0, [.fn 59 [p3, p4, p5, p6, p7, p8]], true⟩ :: ⟨p8, 0, [.bool f], true⟩ :: mapO vm (entL keyV (AV.int .i64) x.2.2) :: ⟨vL, 1, ints L, tL⟩ :: G)) (fun x => k - x.1) (0, b2, E2) (by repeat (first | exact Sub.nil _ | refine Sub.cons Look.eq ?_ | refine Sub.cons (Eq.trans Look.eq (congrArg (AV.int _) (by first | omega | (dsimp only; omega)))) ?_)) ?_ ?_
      · exact ⟨Nat.zero_le _, hb2, hm2, ho2, hS⟩
      rintro ⟨j, bj, Ej⟩ h9 ⟨hj, hbj, hmj, hoj, hS⟩
      dsimp only at hj hbj hmj hoj hS ⊢
      refine KA.seq ?_
      refine KA.region rfl ?_
      refine KOps.lss ?_
      refine KOps.done ?_
      refine sqQ.normal ?_
      refine KA.seq ?_
      refine KA.condD ?_ ?_
      · intro c53
        refine KA.skip ?_
        refine sqQ.normal ?_
        refine KA.sub (Sub.cons (t := 0) Look.eq (Sub.cons (t := 2) Look.eq (Sub.cons (t := 4) Look.eq (Sub.cons (t := 7) Look.eq (Sub.cons (t := 8) Look.eq (Sub.cons (t := 10) Look.eq (Sub.cons (t := 51) Look.eq (Sub.cons (t := 52) Look.eq (Sub.nil _))))))))) ?_
        refine KA.seq ?_
        refine KA.block ?_
        refine KA.seq ?_
        refine KA.region rfl ?_
        refine KOps.move ?_
        refine KOps.assign ?_
        refine KOps.done ?_
        refine sqQ.normal ?_
        refine KA.sub (Sub.cons (t := 0) Look.eq (Sub.cons (t := 2) Look.eq (Sub.cons (t := 4) Look.eq (Sub.cons (t := 7) Look.eq (Sub.cons (t := 8) Look.eq (Sub.cons (t := 10) Look.eq (Sub.cons (t := 15) Look.eq (Sub.cons (t := 51) Look.eq (Sub.cons (t := 52) Look.eq (Sub.nil _)))))))))) ?_
        refine KA.meet (X := Unit) (fun _ => [(0, .int .i64 (i : Int)), (2, .int .i64 (n : Int)), (4, p4), (7, p7), (8, p8), (10, p10), (51, .int .i64 (k : Int)), (15, .int .i64 (j : Int)), (52, .int .i64 (j : Int)), (70, .bool (decide (okG f (L.getD i 0) (e.getD j 0))))]) (fun _ h' => St h0 h' (⟨p10, 0, ints e, true⟩ :: ⟨p3, 0, [.int .i64 bj], true⟩ :: ⟨p4, 0, [vL], true⟩ :: ⟨p5, 0, [.int .i64 (k : Int)], true⟩ :: ⟨p6, 0, [vm], true⟩ :: ⟨p7, 0, [.fn 59 [p3, p4, p5, p6, p7, p8]], true⟩ :: ⟨p8, 0, [.bool f], true⟩ :: mapO vm (entL keyV (AV.int .i64) Ej) :: ⟨vL, 1, ints L, tL⟩ :: G)) ?_ ?_
        ·
          refine KA.draw [] mixed rfl (by kernel_rfl) ?_
          refine KOps.move ?_
          refine KOps.indexA hp10 (j := j) rfl (by first | omega | (simp; omega)) ?_
          intro p56 hp56
          refine KOps.loadA hS (i := 0) rfl hp56 (by first | omega | (simp; omega)) ?_
          refine KOps.lss ?_
          refine KOps.move ?_
          refine KOps.guardB (dj := 59) rfl rfl false true rfl ?_ ?_
          · intro g59
            have g59 := of_decide_eq_false g59
            refine KOps.loadBox hS (i := 2) rfl hp4 ?_
            refine KOps.guardYes (dj := 59) rfl rfl ?_
            refine KOps.move ?_
            refine KOps.guardYes (dj := 59) rfl rfl ?_
            refine KOps.indexIJ (hS.rd 8 rfl) (j := i) rfl (by first | omega | (simp; omega)) ?_
            intro p62 hp62
            refine KOps.guardYes (dj := 59) rfl rfl ?_
            refine KOps.loadI hp62 (hS.rd 8 rfl) (by first | omega | (simp; omega)) ?_
            refine KOps.guardYes (dj := 59) rfl rfl ?_
            refine KOps.move ?_
            refine KOps.guardYes (dj := 59) rfl rfl ?_
            refine KOps.indexA hp10 (j := j) rfl (by first | omega | (simp; omega)) ?_
            intro p65 hp65
            refine KOps.guardYes (dj := 59) rfl rfl ?_
            refine KOps.loadA hS (i := 0) rfl hp65 (by first | omega | (simp; omega)) ?_
            refine KOps.guardYes (dj := 59) rfl rfl ?_
            refine KOps.lss ?_
            refine KOps.guardYes (dj := 59) rfl rfl ?_
            refine KOps.loadBox hS (i := 6) rfl hp8 ?_
            refine KOps.guardYes (dj := 59) rfl rfl ?_
            refine KOps.eqlB (by kernel_rfl) ?_
            refine KOps.pickF ?_
            refine KOps.done ?_
            exact mtQ.normal () (by repeat (first | exact Sub.nil _ | refine Sub.cons Look.eq ?_ | refine Sub.cons (Eq.trans Look.eq (congrArg (AV.int _) (by first | omega | (dsimp only; omega)))) ?_ | refine Sub.cons (Eq.trans Look.eq (congrArg AV.bool (by exact okG_no g59))) ?_)) hS
          · intro g59
            have g59 := of_decide_eq_true g59
            refine KOps.guardNo (dj := 59) rfl rfl rfl ?_
            refine KOps.guardNo (dj := 59) rfl rfl rfl ?_
            refine KOps.guardNo (dj := 59) rfl rfl rfl ?_
            refine KOps.guardNo (dj := 59) rfl rfl rfl ?_
            refine KOps.guardNo (dj := 59) rfl rfl rfl ?_
            refine KOps.guardNo (dj := 59) rfl rfl rfl ?_
            refine KOps.guardNo (dj := 59) rfl rfl rfl ?_
            refine KOps.guardNo (dj := 59) rfl rfl rfl ?_
            refine KOps.guardNo (dj := 59) rfl rfl rfl ?_
            refine KOps.pickT ?_
            refine KOps.done ?_
            exact mtQ.normal () (by repeat (first | exact Sub.nil _ | refine Sub.cons Look.eq ?_ | refine Sub.cons (Eq.trans Look.eq (congrArg (AV.int _) (by first | omega | (dsimp only; omega)))) ?_ | refine Sub.cons (Eq.trans Look.eq (congrArg AV.bool (by exact (decide_eq_true (Or.inl g59)).symm))) ?_)) hS
        ·
          rintro _ h13 hS
          refine KA.condD ?_ ?_
          · intro c70
            refine KA.seq ?_
            refine KA.region rfl ?_
            refine KOps.loadArrI hS (i := 0) rfl hp10 he (by omega) ?_
            refine KOps.alloc hS ?_
            intro p16 h14 hp16 hS
            refine KOps.storeArrI hS rfl (i := 0) rfl hp16 he rfl (by omega) ?_
            intro h15 hS
            simp only [List.set_cons_zero, List.set_cons_succ] at hS
            refine KOps.done ?_
            refine sqQ.normal ?_
            refine KA.sub (Sub.cons (t := 0) Look.eq (Sub.cons (t := 2) Look.eq (Sub.cons (t := 4) Look.eq (Sub.cons (t := 7) Look.eq (Sub.cons (t := 8) Look.eq (Sub.cons (t := 10) Look.eq (Sub.cons (t := 15) Look.eq (Sub.cons (t := 16) Look.eq (Sub.cons (t := 51) Look.eq (Sub.cons (t := 52) Look.eq (Sub.nil _))))))))))) ?_
            refine KA.seq ?_
            refine KA.region rfl ?_
            refine KOps.move ?_
            refine KOps.loadBox hS (i := 3) rfl hp4 ?_
            refine KOps.move ?_
            refine KOps.indexIJ (hS.rd 9 rfl) (j := i) rfl (by first | omega | (simp; omega)) ?_
            intro p75 hp75
            refine KOps.loadI hp75 (hS.rd 9 rfl) (by first | omega | (simp; omega)) ?_
            refine KOps.indexA hp16 (j := j) rfl (by first | omega | (simp; omega)) ?_
            intro p77 hp77
            refine KOps.storeA hS rfl (i := 0) rfl hp77 (by first | omega | (simp; omega)) ?_
            intro h' hS
            simp only [List.set_cons_zero, List.set_cons_succ] at hS
            refine KOps.done ?_
            refine sqQ.normal ?_
            refine KA.sub (Sub.cons (t := 0) Look.eq (Sub.cons (t := 2) Look.eq (Sub.cons (t := 4) Look.eq (Sub.cons (t := 7) Look.eq (Sub.cons (t := 8) Look.eq (Sub.cons (t := 10) Look.eq (Sub.cons (t := 16) Look.eq (Sub.cons (t := 51) Look.eq (Sub.cons (t := 52) Look.eq (Sub.nil _)))))))))) ?_
            refine KA.region rfl ?_
            refine KOps.loadBox hS (i := 6) rfl hp7 ?_
            refine KOps.move ?_
            refine KOps.add (by first | omega | (simp only [List.length_append, List.length_singleton, List.length_set]; omega)) (by first | omega | (simp only [List.length_append, List.length_singleton, List.length_set]; omega)) ?_
            rw [show ((i : Int) + 1) = ((i + 1 : Nat) : Int) from rfl]
            refine KOps.loadArrI hS (i := 0) rfl hp16 (by rw [List.length_set]; exact he) (by omega) ?_
            refine KOps.move ?_
            refine KOps.add (by first | omega | (simp only [List.length_append, List.length_singleton, List.length_set]; omega)) (by first | omega | (simp only [List.length_append, List.length_singleton, List.length_set]; omega)) ?_
            rw [show ((n : Int) + 1) = ((n + 1 : Nat) : Int) from rfl]
            refine KOps.call rfl (ih d2 (by omega) (n := n + 1) (b := bj) (E := Ej) (G := ⟨p10, 0, ints e, true⟩ :: G) (by omega) (by rw [List.length_set]; exact he) (by omega) hmj (St.under (a := ⟨p10, 0, ints e, true⟩) (A := [⟨p3, 0, [.int .i64 bj], true⟩, ⟨p4, 0, [vL], true⟩, ⟨p5, 0, [.int .i64 (k : Int)], true⟩, ⟨p6, 0, [vm], true⟩, ⟨p7, 0, [.fn 59 [p3, p4, p5, p6, p7, p8]], true⟩, ⟨p8, 0, [.bool f], true⟩, mapO vm (entL keyV (AV.int .i64) Ej), ⟨vL, 1, ints L, tL⟩]) (G := G) (St.tail hS))) ?_
            rintro _ h8 ⟨b3, E3, hb3, hm3, ho3, hS⟩
            replace hS := St.over (a := ⟨p10, 0, ints e, true⟩) (A := [⟨p3, 0, [.int .i64 b3], true⟩, ⟨p4, 0, [vL], true⟩, ⟨p5, 0, [.int .i64 (k : Int)], true⟩, ⟨p6, 0, [vm], true⟩, ⟨p7, 0, [.fn 59 [p3, p4, p5, p6, p7, p8]], true⟩, ⟨p8, 0, [.bool f], true⟩, mapO vm (entL keyV (AV.int .i64) E3), ⟨vL, 1, ints L, tL⟩]) (G := G) hS
            refine KOps.done ?_
            refine blQ.normal ?_
            refine sqQ.normal ?_
            refine KA.sub (Sub.cons (t := 0) Look.eq (Sub.cons (t := 2) Look.eq (Sub.cons (t := 4) Look.eq (Sub.cons (t := 7) Look.eq (Sub.cons (t := 8) Look.eq (Sub.cons (t := 10) Look.eq (Sub.cons (t := 51) Look.eq (Sub.cons (t := 52) Look.eq (Sub.nil _))))))))) ?_
            refine KA.region rfl ?_
            refine KOps.add (by first | omega | (simp only [List.length_append, List.length_singleton, List.length_set]; omega)) (by first | omega | (simp only [List.length_append, List.length_singleton, List.length_set]; omega)) ?_
            refine KOps.move ?_
            refine KOps.done ?_
            have hvs := valTo_succ f k (L.getD i 0) (L.drop (i + 1)) e j
            rw [if_pos c70] at hvs
            exact lpQ.normal (j + 1, b3, E3) (by repeat (first | exact Sub.nil _ | refine Sub.cons Look.eq ?_ | refine Sub.cons (Eq.trans Look.eq (congrArg (AV.int _) (by first | omega | (dsimp only; omega)))) ?_)) ⟨by dsimp only; omega, by dsimp only; omega, hm3, hoj.trans ho3, hS⟩ (by dsimp only; omega)
          · intro c70
            refine KA.skip ?_
            refine blQ.normal ?_
            refine sqQ.normal ?_
            refine KA.sub (Sub.cons (t := 0) Look.eq (Sub.cons (t := 2) Look.eq (Sub.cons (t := 4) Look.eq (Sub.cons (t := 7) Look.eq (Sub.cons (t := 8) Look.eq (Sub.cons (t := 10) Look.eq (Sub.cons (t := 51) Look.eq (Sub.cons (t := 52) Look.eq (Sub.nil _))))))))) ?_
            refine KA.region rfl ?_
            refine KOps.add (by first | omega | (simp only [List.length_append, List.length_singleton, List.length_set]; omega)) (by first | omega | (simp only [List.length_append, List.length_singleton, List.length_set]; omega)) ?_
            refine KOps.move ?_
            refine KOps.done ?_
            have hvs := valTo_succ f k (L.getD i 0) (L.drop (i + 1)) e j
            rw [if_neg c70] at hvs
            exact lpQ.normal (j + 1, bj, Ej) (by repeat (first | exact Sub.nil _ | refine Sub.cons Look.eq ?_ | refine Sub.cons (Eq.trans Look.eq (congrArg (AV.int _) (by first | omega | (dsimp only; omega)))) ?_)) ⟨by dsimp only; omega, by dsimp only; rw [hvs]; exact hbj, hmj, hoj, hS⟩ (by dsimp only; omega)
      · intro c53
        refine KA.exit ?_
        refine sqQ.exit ?_
        refine lpQ.exit ?_
        refine blQ.here ?_
        refine fnQ.norm0 ?_
        rw [show j = k by omega, valTo_full, ← hdr] at hbj
        obtain ⟨h1, h2⟩ := met_end (a := ⟨e2.set 4 (i : Int), hk5⟩) (n := (n : Int)) hk45 hmet hmj hoj (by omega) (by dsimp only; rw [hvk]; omega)
        exact ⟨bj, Ej, by omega, h1, h2, St.tail hS⟩

def sumG (T : List (List Int)) (k : Nat) (f : Bool) (i : Nat) : Nat := if f then colSum k (T.take i) else rowSum k (T.take i)
theorem sumG_succ {T : List (List Int)} {i : Nat} (hi : i < T.length) (k : Nat) (f : Bool) : sumG T k f (i + 1) = sumG T k f i + (if f then min k (T.getD i []).length else if i < k then (T.getD i []).length else 0) := by
  have e : T.take (i + 1) = T.take i ++ [T.getD i []] := by rw [List.take_add_one, List.getD_eq_getElem?_getD, List.getElem?_eq_getElem hi]; rfl
  unfold sumG
  cases f with
  | true => simp only [if_true]; rw [e, colSum, List.map_append, List.sum_append]; simp [colSum]
  | false =>
    simp only [Bool.false_eq_true, if_false, rowSum]
    by_cases h : i < k
    · rw [if_pos h, List.take_of_length_le (l := T.take (i + 1)) (by rw [List.length_take]; omega), List.take_of_length_le (l := T.take i) (by rw [List.length_take]; omega), e, List.map_append, List.sum_append]; simp
    · rw [if_neg h, List.take_take, List.take_take, Nat.min_eq_left (by omega), Nat.min_eq_left (by omega)]; rfl
theorem sumG_zero (T : List (List Int)) (k : Nat) (f : Bool) : sumG T k f 0 = 0 := by cases f <;> simp [sumG, colSum, rowSum]
theorem sumG_full (T : List (List Int)) (k : Nat) (f : Bool) : sumG T k f T.length = if f then colSum k T else rowSum k T := by unfold sumG; rw [List.take_length]
theorem sumG_le {T : List (List Int)} (k : Nat) (f : Bool) (h : ∀ j, (T.getD j []).length ≤ 9) : ∀ i, i ≤ T.length → sumG T k f i ≤ 9 * i := by
  intro i
  induction i with
  | zero => intro _; cases f <;> simp [sumG, colSum, rowSum]
  | succ i ih =>
    intro hi
    have h1 := ih (by omega)
    have h2 := h i
    rw [sumG_succ (by omega)]
    split
    · omega
    · split <;> omega

theorem law_greene {h : AHeap} {a b : Int} {c : List Int} {f : Bool} (ha : (Lit.int .u8 a).wf = true) (hc : c.length = 9) (hw : ∀ x ∈ c, (Lit.int .u8 x).wf = true) (hb0 : (Lit.int .u8 b).wf = true) : ACalls Go.Proofs.Try.prog 14 [.int .u8 a, .agg (bytes c), .int .u8 b, .bool f] h (fun r _ => r = .bool true) := by
  refine KA.fn 93 [.tmp 8] Go.Proofs.Try.func14 rfl (by decide) rfl rfl (Nat.le_of_ble_eq_true rfl) ?_
  have hS := St.refl h
  have haba := wf_u8 ha
  have habb := wf_u8 hb0
  have hta := Int.tmod_nonneg 7 haba.1
  have hua := Int.tmod_lt_of_pos a (show (0 : Int) < 7 by decide)
  have htb := Int.tmod_nonneg 4 habb.1
  have hub := Int.tmod_lt_of_pos b (show (0 : Int) < 4 by decide)
  show KA _ 93 _ _ [(0, .int .u8 a), (1, .agg (bytes c)), (2, .int .u8 b), (3, .bool f)] _
  refine KA.seq ?_
  refine KA.region rfl ?_
  refine KOps.boxU hS ?_
  intro p5 h1 hp5 hS
  refine KOps.box hS (l := [.bool f]) rfl ?_
  intro p7 h2 hp7 hS
  refine KOps.assign ?_
  refine KOps.done ?_
  refine sqQ.normal ?_
  refine KA.sub (Sub.cons (t := 0) Look.eq (Sub.cons (t := 2) Look.eq (Sub.cons (t := 5) Look.eq (Sub.cons (t := 7) Look.eq (Sub.nil _))))) ?_
  refine KA.seq ?_
  refine KA.region rfl ?_
  refine KOps.move ?_
  refine KOps.convU haba.1 haba.2 ?_
  refine KOps.rem (by decide) (by omega) (by omega) ?_
  refine KOps.add (by omega) (by omega) ?_
  obtain ⟨n, hn⟩ : ∃ n : Nat, 1 + a.tmod 7 = (n : Int) := ⟨(1 + a.tmod 7).toNat, by omega⟩
  rw [hn]
  have hb : Rd h2 p5 0 (bytes c) := hS.rd 1 rfl
  refine KOps.loadAgg (z := 9) hp5 hb (by decide) (by rw [bytes_len]; omega) ?_
  rw [List.drop_zero, List.take_of_length_le (by rw [bytes_len]; omega)]
  refine KOps.call rfl (mixed_c (n := n) (by omega) (by omega) hc hw) ?_
  rintro v27 h3 ⟨l, hS3, hln, hch⟩
  have huo : v27.one = true := St.one hS3 (k := 0) rfl
  have hS0 : St _ _ (_ :: _) := St.trans hS hS3
  clear hS hb
  have hS := hS0
  clear hS0
  have hpk := (checkE_ok hch).2.2
  obtain ⟨hfa, hfr, hsh, hk1, hk2, hk3, hk4, _, _⟩ := rec_facts hch
  refine KOps.alloc hS ?_
  intro p9 h4 hp9 hS
  refine KOps.storeBox hS rfl (i := 0) rfl hp9 (by first | rfl | assumption) ?_
  intro h' hS
  simp only [List.set_cons_zero, List.set_cons_succ] at hS
  refine KOps.done ?_
  refine sqQ.normal ?_
  refine KA.sub (Sub.cons (t := 2) Look.eq (Sub.cons (t := 7) Look.eq (Sub.cons (t := 9) Look.eq (Sub.nil _)))) ?_
  refine KA.seq ?_
  refine KA.region rfl ?_
  refine KOps.move ?_
  refine KOps.convU habb.1 habb.2 ?_
  refine KOps.rem (by decide) (by omega) (by omega) ?_
  refine KOps.add (by omega) (by omega) ?_
  obtain ⟨k, hk⟩ : ∃ k : Nat, 1 + b.tmod 4 = (k : Int) := ⟨(1 + b.tmod 4).toNat, by omega⟩
  rw [hk]
  refine KOps.alloc hS ?_
  intro p10 h5 hp10 hS
  refine KOps.storeBox hS rfl (i := 0) rfl hp10 (by first | rfl | assumption) ?_
  intro h' hS
  simp only [List.set_cons_zero, List.set_cons_succ] at hS
  refine KOps.done ?_
  refine sqQ.normal ?_
  refine KA.sub (Sub.cons (t := 7) Look.eq (Sub.cons (t := 9) Look.eq (Sub.cons (t := 10) Look.eq (Sub.nil _)))) ?_
  refine KA.seq ?_
  refine KA.region rfl ?_
  refine KOps.alloc hS ?_
  intro p11 h6 hp11 hS
  refine KOps.storeBox hS rfl (i := 0) rfl hp11 (by first | rfl | assumption) ?_
  intro h' hS
  simp only [List.set_cons_zero, List.set_cons_succ] at hS
  refine KOps.done ?_
  refine sqQ.normal ?_
  refine KA.seq ?_
  refine KA.region rfl ?_
  refine KOps.makeMap hS rfl ?_
  intro v32 h' hv32 hS
  have hv32o : v32.one = true := by
    obtain ⟨bb, rfl⟩ := id hv32
    rfl
  refine KOps.alloc hS ?_
  intro p12 h7 hp12 hS
  refine KOps.storeBox hS rfl (i := 0) rfl hp12 (by first | rfl | assumption) ?_
  intro h' hS
  simp only [List.set_cons_zero, List.set_cons_succ] at hS
  refine KOps.done ?_
  refine sqQ.normal ?_
  refine KA.sub (Sub.cons (t := 7) Look.eq (Sub.cons (t := 9) Look.eq (Sub.cons (t := 10) Look.eq (Sub.cons (t := 11) Look.eq (Sub.cons (t := 12) Look.eq (Sub.nil _)))))) ?_
  refine KA.seq ?_
  refine KA.region rfl ?_
  refine KOps.alloc hS ?_
  intro p13 h8 hp13 hS
  refine KOps.done ?_
  refine sqQ.normal ?_
  refine KA.seq ?_
  refine KA.region rfl ?_
  refine KOps.makeFunc ?_
  refine KOps.storeBox hS rfl (i := 0) rfl hp13 (by first | rfl | assumption) ?_
  intro h' hS
  simp only [List.set_cons_zero, List.set_cons_succ] at hS
  refine KOps.done ?_
  refine sqQ.normal ?_
  refine KA.sub (Sub.cons (t := 7) Look.eq (Sub.cons (t := 9) Look.eq (Sub.cons (t := 10) Look.eq (Sub.cons (t := 11) Look.eq (Sub.cons (t := 13) Look.eq (Sub.nil _)))))) ?_
  refine KA.seq ?_
  refine KA.region rfl ?_
  refine KOps.loadBox hS (i := 0) rfl hp13 ?_
  refine KOps.build (v := .agg (ints [-1, -1, -1, -1, 0])) (by kernel_rfl) ?_
  refine KOps.call rfl (putG_c hp11 hp9 hp10 hp12 hp13 hp7 hv32 (by omega) (by omega) l.length (e := [-1, -1, -1, -1, 0]) (i := 0) (n := 0) (b := 0) (E := []) (G := []) (by omega) rfl (Nat.le_refl _) (fun s m hm => by cases hm) (St.pick [3, 5, 4, 1, 0, 7, 2, 6] (by decide) rfl hS)) ?_
  rintro _ h9 ⟨b2, E2, hb2, -, -, hS⟩
  rw [List.drop_zero, valG_most hpk.1 (fun x hx => (hpk.2 x hx).1) (by simp only [List.length_cons, List.length_nil]; omega) (fun x hx => by rcases (show x = 0 ∨ x = 1 ∨ x = 2 ∨ x = 3 by omega) with rfl | rfl | rfl | rfl <;> decide)] at hb2
  refine KOps.done ?_
  refine sqQ.normal ?_
  refine KA.sub (Sub.cons (t := 7) Look.eq (Sub.cons (t := 9) Look.eq (Sub.cons (t := 10) Look.eq (Sub.cons (t := 11) Look.eq (Sub.nil _))))) ?_
  refine KA.seq ?_
  refine KA.region rfl ?_
  refine KOps.loadBox hS (i := 1) rfl hp9 ?_
  refine KOps.loadBox hS (i := 2) rfl hp10 ?_
  refine KOps.loadBox hS (i := 5) rfl hp7 ?_
  refine KOps.call rfl (most_c (hS.rd 7 rfl)) ?_
  rintro _ h10 ⟨rfl, hK⟩
  have hS0 : St _ _ (_ :: _) := St.trans hS (St.ofK hK)
  clear hS
  have hS := hS0
  clear hS0
  rw [if_pos ⟨hch, by omega, by omega⟩, Int.toNat_natCast, show mostE l (k : Int) = 0 by rw [mostE, if_pos hch, if_pos (by omega)]]
  refine KOps.move ?_
  refine KOps.extract ?_
  refine KOps.extract ?_
  refine KOps.assign ?_
  refine KOps.assign ?_
  refine KOps.done ?_
  refine sqQ.normal ?_
  refine KA.sub (Sub.cons (t := 7) Look.eq (Sub.cons (t := 9) Look.eq (Sub.cons (t := 10) Look.eq (Sub.cons (t := 11) Look.eq (Sub.cons (t := 14) Look.eq (Sub.cons (t := 15) Look.eq (Sub.nil _))))))) ?_
  refine KA.seq ?_
  refine KA.region rfl ?_
  refine KOps.loadBox hS (i := 1) rfl hp9 ?_
  refine KOps.call rfl (tables_c (hS.rd 7 rfl)) ?_
  rintro _ h11 ⟨vo1, vs1, vo2, vs2, rfl, hl1, hl2, hS6⟩
  rw [okE_yes hch] at hl1 hl2 hS6
  rw [okE_yes hch] at hS6
  rw [hch]
  have hA : Mat h11 vo1 (insAll l) := St.mat (pre := []) hl1 hS6
  obtain ⟨us, hA0, hA1, hA2⟩ := id hA
  have hS0 : St _ _ (_ :: _) := St.trans hS (St.ofK hS6.keeps)
  clear hS
  have hS := hS0
  clear hS0
  refine KOps.move ?_
  refine KOps.extract ?_
  refine KOps.extract ?_
  refine KOps.extract ?_
  refine KOps.assign ?_
  refine KOps.assign ?_
  refine KOps.assign ?_
  refine KOps.done ?_
  refine sqQ.normal ?_
  refine KA.sub (Sub.cons (t := 7) Look.eq (Sub.cons (t := 10) Look.eq (Sub.cons (t := 11) Look.eq (Sub.cons (t := 14) Look.eq (Sub.cons (t := 15) Look.eq (Sub.cons (t := 16) Look.eq (Sub.cons (t := 18) Look.eq (Sub.nil _)))))))) ?_
  refine KA.seq ?_
  refine KA.seq ?_
  refine KA.region rfl ?_
  refine KOps.move ?_
  refine KOps.neqF rfl ?_
  refine KOps.move ?_
  refine KOps.guardYes (dj := 52) rfl rfl ?_
  refine KOps.move ?_
  refine KOps.guardYes (dj := 52) rfl rfl ?_
  refine KOps.neqF rfl ?_
  refine KOps.pickF ?_
  refine KOps.move ?_
  refine KOps.guardYes (dj := 56) rfl rfl ?_
  refine KOps.move ?_
  refine KOps.guardYes (dj := 56) rfl rfl ?_
  refine KOps.loadBox hS (i := 0) rfl hp11 ?_
  refine KOps.guardYes (dj := 56) rfl rfl ?_
  refine KOps.neqF (by omega) ?_
  refine KOps.pickF ?_
  refine KOps.done ?_
  refine sqQ.normal ?_
  refine KA.sub (Sub.cons (t := 7) Look.eq (Sub.cons (t := 10) Look.eq (Sub.cons (t := 14) Look.eq (Sub.cons (t := 16) Look.eq (Sub.cons (t := 60) Look.eq (Sub.nil _)))))) ?_
  refine KA.condF ?_
  refine KA.skip ?_
  refine sqQ.normal ?_
  refine KA.sub (Sub.cons (t := 7) Look.eq (Sub.cons (t := 10) Look.eq (Sub.cons (t := 14) Look.eq (Sub.cons (t := 16) Look.eq (Sub.nil _))))) ?_
  refine KA.seq ?_
  refine KA.region rfl ?_
  refine KOps.assign ?_
  refine KOps.done ?_
  refine sqQ.normal ?_
  refine KA.seq ?_
  refine KA.seq ?_
  refine KA.region rfl ?_
  refine KOps.move ?_
  refine KOps.lenV hA0 ?_
  refine KOps.move ?_
  refine KOps.done ?_
  refine sqQ.normal ?_
  refine KA.sub (Sub.cons (t := 7) Look.eq (Sub.cons (t := 10) Look.eq (Sub.cons (t := 14) Look.eq (Sub.cons (t := 19) Look.eq (Sub.cons (t := 61) Look.eq (Sub.cons (t := 62) Look.eq (Sub.cons (t := 63) Look.eq (Sub.nil _)))))))) ?_
  refine KA.block ?_
  refine KA.loop (X := Nat) (fun x => [(7, p7), (10, p10), (14, .int .i64 (mostOf l k f : Int)), (19, .int .i64 (sumG (insAll l) k f x : Int)), (61, vo1), (62, .int .i64 ((insAll l).length : Int)), (63, .int .i64 (x : Int))]) (fun x h' => x ≤ (insAll l).length ∧ h' = h11) (fun x => (insAll l).length - x) 0 (by repeat (first | exact Sub.nil _ | refine Sub.cons Look.eq ?_ | refine Sub.cons (Eq.trans Look.eq (congrArg (AV.int _) (by first | omega | (dsimp only; omega)))) ?_ | refine Sub.cons (Eq.trans Look.eq (congrArg (AV.int _) (by rw [sumG_zero]; rfl))) ?_)) ?_ ?_
  · exact ⟨Nat.zero_le _, rfl⟩
  rintro i h12 ⟨hi, rfl⟩
  have hsl := sumG_le (T := insAll l) k f hk2 i hi
  have hlk := hk2 i
  refine KA.seq ?_
  refine KA.region rfl ?_
  refine KOps.lss ?_
  refine KOps.done ?_
  refine sqQ.normal ?_
  refine KA.seq ?_
  refine KA.condD ?_ ?_
  · intro c64
    refine KA.skip ?_
    refine sqQ.normal ?_
    refine KA.sub (Sub.cons (t := 7) Look.eq (Sub.cons (t := 10) Look.eq (Sub.cons (t := 14) Look.eq (Sub.cons (t := 19) Look.eq (Sub.cons (t := 61) Look.eq (Sub.cons (t := 62) Look.eq (Sub.cons (t := 63) Look.eq (Sub.nil _)))))))) ?_
    refine KA.seq ?_
    refine KA.block ?_
    refine KA.seq ?_
    refine KA.region rfl ?_
    refine KOps.move ?_
    refine KOps.indexVJ hA0 (j := i) rfl (by first | omega | (simp; omega)) ?_
    intro p66 hp66
    refine KOps.loadV hp66 hA0 (by first | omega | (simp; omega)) ?_
    refine KOps.assign ?_
    refine KOps.assign ?_
    refine KOps.done ?_
    refine sqQ.normal ?_
    refine KA.sub (Sub.cons (t := 7) Look.eq (Sub.cons (t := 10) Look.eq (Sub.cons (t := 14) Look.eq (Sub.cons (t := 19) Look.eq (Sub.cons (t := 20) Look.eq (Sub.cons (t := 21) Look.eq (Sub.cons (t := 61) Look.eq (Sub.cons (t := 62) Look.eq (Sub.cons (t := 63) Look.eq (Sub.nil _)))))))))) ?_
    refine KA.meet (X := Unit) (fun _ => [(7, p7), (10, p10), (14, .int .i64 (mostOf l k f : Int)), (19, .int .i64 ((sumG (insAll l) k f i + (if f then 0 else if i < k then ((insAll l).getD i []).length else 0) : Nat) : Int)), (61, vo1), (62, .int .i64 ((insAll l).length : Int)), (63, .int .i64 (i : Int)), (21, us.getD i .bot)]) (fun _ h' => h' = h12) ?_ ?_
    ·
      refine KA.seq ?_
      refine KA.region rfl ?_
      refine KOps.loadBox hS (i := 5) rfl hp7 ?_
      refine KOps.not ?_
      refine KOps.move ?_
      refine KOps.guardB (dj := 70) rfl rfl true false rfl ?_ ?_
      · intro g70
        refine KOps.move ?_
        refine KOps.guardYes (dj := 70) rfl rfl ?_
        refine KOps.loadBox hS (i := 2) rfl hp10 ?_
        refine KOps.guardYes (dj := 70) rfl rfl ?_
        refine KOps.lss ?_
        refine KOps.pickT ?_
        refine KOps.done ?_
        refine sqQ.normal ?_
        refine KA.sub (Sub.cons (t := 7) Look.eq (Sub.cons (t := 10) Look.eq (Sub.cons (t := 14) Look.eq (Sub.cons (t := 19) Look.eq (Sub.cons (t := 21) Look.eq (Sub.cons (t := 61) Look.eq (Sub.cons (t := 62) Look.eq (Sub.cons (t := 63) Look.eq (Sub.cons (t := 71) Look.eq (Sub.cons (t := 72) Look.eq (Sub.cons (t := 73) Look.eq (Sub.cons (t := 74) Look.eq (Sub.nil _))))))))))))) ?_
        refine KA.condD ?_ ?_
        · intro c74
          refine KA.region rfl ?_
          refine KOps.move ?_
          refine KOps.move ?_
          refine KOps.lenI (hA2 i (by omega)) ?_
          refine KOps.add (by first | omega | (simp only [List.length_append, List.length_singleton, List.length_set]; omega)) (by first | omega | (simp only [List.length_append, List.length_singleton, List.length_set]; omega)) ?_
          refine KOps.assign ?_
          refine KOps.done ?_
          have hf : ¬ f = true := by simpa using g70
          exact mtQ.normal () (by repeat (first | exact Sub.nil _ | refine Sub.cons Look.eq ?_ | refine Sub.cons (Eq.trans Look.eq (congrArg (AV.int _) (by first | omega | (dsimp only; omega)))) ?_ | refine Sub.cons (Eq.trans Look.eq (congrArg (AV.int _) (by rw [if_neg hf, if_pos (by omega)]; omega))) ?_)) rfl
        · intro c74
          refine KA.skip ?_
          have hf : ¬ f = true := by simpa using g70
          exact mtQ.normal () (by repeat (first | exact Sub.nil _ | refine Sub.cons Look.eq ?_ | refine Sub.cons (Eq.trans Look.eq (congrArg (AV.int _) (by first | omega | (dsimp only; omega)))) ?_ | refine Sub.cons (Eq.trans Look.eq (congrArg (AV.int _) (by rw [if_neg hf, if_neg (by omega)]; omega))) ?_)) rfl
      · intro g70
        refine KOps.guardNo (dj := 70) rfl rfl rfl ?_
        refine KOps.guardNo (dj := 70) rfl rfl rfl ?_
        refine KOps.pickF ?_
        refine KOps.done ?_
        refine sqQ.normal ?_
        refine KA.sub (Sub.cons (t := 7) Look.eq (Sub.cons (t := 10) Look.eq (Sub.cons (t := 14) Look.eq (Sub.cons (t := 19) Look.eq (Sub.cons (t := 21) Look.eq (Sub.cons (t := 61) Look.eq (Sub.cons (t := 62) Look.eq (Sub.cons (t := 63) Look.eq (Sub.cons (t := 71) Look.eq (Sub.cons (t := 72) Look.eq (Sub.cons (t := 73) Look.eq (Sub.cons (t := 74) Look.eq (Sub.nil _))))))))))))) ?_
        refine KA.condF ?_
        refine KA.skip ?_
        have hf : f = true := by simpa using g70
        exact mtQ.normal () (by repeat (first | exact Sub.nil _ | refine Sub.cons Look.eq ?_ | refine Sub.cons (Eq.trans Look.eq (congrArg (AV.int _) (by first | omega | (dsimp only; omega)))) ?_ | refine Sub.cons (Eq.trans Look.eq (congrArg (AV.int _) (by rw [if_pos hf]; omega))) ?_)) rfl
    ·
      rintro _ h13 hh
      subst hh
      have hsm : sumG (insAll l) k f i + (if f then 0 else if i < k then ((insAll l).getD i []).length else 0) ≤ 9 * i + 9 := by
        split
        · omega
        · split <;> omega
      refine KA.seq ?_
      refine KA.region rfl ?_
      refine KOps.loadBox hS (i := 5) rfl hp7 ?_
      refine KOps.done ?_
      refine sqQ.normal ?_
      refine KA.condB ?_ ?_
      · intro c79
        refine KA.region rfl ?_
        refine KOps.move ?_
        refine KOps.loadBox hS (i := 2) rfl hp10 ?_
        refine KOps.move ?_
        refine KOps.lenI (hA2 i (by omega)) ?_
        refine KOps.min ?_
        refine KOps.add (by first | omega | (simp only [List.length_append, List.length_singleton, List.length_set]; omega)) (by first | omega | (simp only [List.length_append, List.length_singleton, List.length_set]; omega)) ?_
        refine KOps.assign ?_
        refine KOps.done ?_
        refine blQ.normal ?_
        refine sqQ.normal ?_
        refine KA.sub (Sub.cons (t := 7) Look.eq (Sub.cons (t := 10) Look.eq (Sub.cons (t := 14) Look.eq (Sub.cons (t := 19) Look.eq (Sub.cons (t := 61) Look.eq (Sub.cons (t := 62) Look.eq (Sub.cons (t := 63) Look.eq (Sub.nil _)))))))) ?_
        refine KA.region rfl ?_
        refine KOps.add (by first | omega | (simp only [List.length_append, List.length_singleton, List.length_set]; omega)) (by first | omega | (simp only [List.length_append, List.length_singleton, List.length_set]; omega)) ?_
        refine KOps.move ?_
        refine KOps.done ?_
        exact lpQ.normal (i + 1) (by repeat (first | exact Sub.nil _ | refine Sub.cons Look.eq ?_ | refine Sub.cons (Eq.trans Look.eq (congrArg (AV.int _) (by first | omega | (dsimp only; omega)))) ?_ | refine Sub.cons (Eq.trans Look.eq (congrArg (AV.int _) (by rw [sumG_succ (by omega), if_pos c79, if_pos c79]; omega))) ?_)) ⟨by omega, rfl⟩ (by omega)
      · intro c79
        refine KA.skip ?_
        refine blQ.normal ?_
        refine sqQ.normal ?_
        refine KA.sub (Sub.cons (t := 7) Look.eq (Sub.cons (t := 10) Look.eq (Sub.cons (t := 14) Look.eq (Sub.cons (t := 19) Look.eq (Sub.cons (t := 61) Look.eq (Sub.cons (t := 62) Look.eq (Sub.cons (t := 63) Look.eq (Sub.nil _)))))))) ?_
        refine KA.region rfl ?_
        refine KOps.add (by first | omega | (simp only [List.length_append, List.length_singleton, List.length_set]; omega)) (by first | omega | (simp only [List.length_append, List.length_singleton, List.length_set]; omega)) ?_
        refine KOps.move ?_
        refine KOps.done ?_
        have hf : ¬ f = true := by simp [c79]
        exact lpQ.normal (i + 1) (by repeat (first | exact Sub.nil _ | refine Sub.cons Look.eq ?_ | refine Sub.cons (Eq.trans Look.eq (congrArg (AV.int _) (by first | omega | (dsimp only; omega)))) ?_ | refine Sub.cons (Eq.trans Look.eq (congrArg (AV.int _) (by rw [sumG_succ (by omega), if_neg hf, if_neg hf]))) ?_)) ⟨by omega, rfl⟩ (by omega)
  · intro c64
    refine KA.exit ?_
    refine sqQ.exit ?_
    refine lpQ.exit ?_
    refine blQ.here ?_
    refine sqQ.normal ?_
    refine KA.sub (Sub.cons (t := 14) Look.eq (Sub.cons (t := 19) Look.eq (Sub.nil _))) ?_
    refine KA.seq ?_
    refine KA.region rfl ?_
    refine KOps.move ?_
    refine KOps.move ?_
    refine KOps.eqlT (by rw [show i = (insAll l).length by omega, sumG_full]; rfl) ?_
    refine KOps.move ?_
    refine KOps.guardYes (dj := 90) rfl rfl ?_
    refine KOps.call rfl (works_c _) ?_
    rintro _ _ ⟨rfl, rfl⟩
    refine KOps.pickT ?_
    refine KOps.assign ?_
    refine KOps.done ?_
    refine sqQ.normal ?_
    refine KA.sub (Sub.cons (t := 8) Look.eq (Sub.nil _)) ?_
    refine KA.ret ?_
    refine fnQ.ret1 ?_
    rfl

end Go.Am
