/-
  Layer 08: the laws on words, codes and safe words: the Go functions return true.
  Conditions: none.
-/
import Derived.Test.YtfoiccnlcheklaaDoorCl
namespace Go.Am

set_option synthInstance.maxSize 4000 in
set_option synthInstance.maxHeartbeats 2000000 in
set_option maxRecDepth 100000 in
theorem law_safe {h : AHeap} {v : AV} {ss : List ByteArray} {a b : ByteArray} {n : Int} (hTab : Tab h) (hv : SRow h v ss) : ACalls Go.Proofs.Tryd.prog 5 [v, .str a, .str b, .int .i64 n] h (fun r _ => r = .bool true) := by
  refine KA.fn 121 [.tmp 8] Go.Proofs.Tryd.func5 rfl (by decide) rfl rfl (Nat.le_of_ble_eq_true rfl) ?_
  have hS := St.refl h
  show KA _ 121 _ _ [(0, v), (1, .str a), (2, .str b), (3, .int .i64 n)] _
  refine KA.seq ?_
  refine KA.region rfl ?_
  refine KOps.assign ?_
  refine KOps.done ?_
  refine sqQ.normal ?_
  refine KA.sub (Sub.cons (t := 0) Look.eq (Sub.cons (t := 1) Look.eq (Sub.cons (t := 2) Look.eq (Sub.cons (t := 3) Look.eq (Sub.nil _))))) ?_
  refine KA.seq ?_
  refine KA.seq ?_
  refine KA.region rfl ?_
  refine KOps.move ?_
  refine KOps.lenI (Rd.ext hS.keeps hv) ?_
  refine KOps.gtr ?_
  refine KOps.move ?_
  refine KOps.guardB (dj := 27) rfl rfl false true rfl ?_ ?_
  · intro g27
    have g27 := of_decide_eq_false g27
    refine KOps.move ?_
    refine KOps.guardYes (dj := 27) rfl rfl ?_
    refine KOps.lenStr ?_
    refine KOps.guardYes (dj := 27) rfl rfl ?_
    refine KOps.gtr ?_
    refine KOps.pickF ?_
    refine KOps.move ?_
    refine KOps.guardB (dj := 32) rfl rfl false true rfl ?_ ?_
    · intro g32
      have g32 := of_decide_eq_false g32
      refine KOps.move ?_
      refine KOps.guardYes (dj := 32) rfl rfl ?_
      refine KOps.lenStr ?_
      refine KOps.guardYes (dj := 32) rfl rfl ?_
      refine KOps.gtr ?_
      refine KOps.pickF ?_
      refine KOps.done ?_
      refine sqQ.normal ?_
      refine KA.sub (Sub.cons (t := 0) Look.eq (Sub.cons (t := 1) Look.eq (Sub.cons (t := 2) Look.eq (Sub.cons (t := 3) Look.eq (Sub.cons (t := 36) Look.eq (Sub.nil _)))))) ?_
      refine KA.condD ?_ ?_
      · intro c36
        refine KA.seq ?_
        refine KA.region rfl ?_
        refine KOps.call rfl (works_c (hTab.ext hS.keeps)) ?_
        rintro _ hx ⟨rfl, hK⟩
        have hS0 : St _ _ _ := St.trans hS (St.ofK hK)
        clear hS
        have hS := hS0
        clear hS0
        simp only [List.nil_append] at hS
        refine KOps.assign ?_
        refine KOps.done ?_
        refine sqQ.normal ?_
        refine KA.sub (Sub.cons (t := 8) Look.eq (Sub.nil _)) ?_
        refine KA.ret ?_
        refine sqQ.ret ?_
        refine fnQ.ret1 ?_
        exact rfl
      · intro c36
        refine KA.skip ?_
        refine sqQ.normal ?_
        refine KA.sub (Sub.cons (t := 0) Look.eq (Sub.cons (t := 1) Look.eq (Sub.cons (t := 2) Look.eq (Sub.cons (t := 3) Look.eq (Sub.nil _))))) ?_
        refine KA.seq ?_
        refine KA.seq ?_
        refine KA.region rfl ?_
        refine KOps.assign ?_
        refine KOps.done ?_
        refine sqQ.normal ?_
        refine KA.block ?_
        refine KA.loop (X := Nat) (fun i => [(0, v), (1, .str a), (2, .str b), (3, .int .i64 n), (9, .int .i64 (i : Int))]) (fun i h' => i ≤ ss.length ∧ ss.length ≤ 60 ∧ St h h' []) (fun i => ss.length - i) 0 (by repeat (first | exact Sub.nil _ | refine Sub.cons Look.eq ?_ | refine Sub.cons (Eq.trans Look.eq (congrArg (AV.int _) (by first | omega | (dsimp only; omega)))) ?_)) ?_ ?_
        · exact ⟨Nat.zero_le _, by omega, hS⟩
        rintro i h2 ⟨hi, h60, hS⟩
        refine KA.seq ?_
        refine KA.seq ?_
        refine KA.region rfl ?_
        refine KOps.move ?_
        refine KOps.move ?_
        refine KOps.lenI (Rd.ext hS.keeps hv) ?_
        refine KOps.lss ?_
        refine KOps.done ?_
        refine sqQ.normal ?_
        refine KA.sub (Sub.cons (t := 0) Look.eq (Sub.cons (t := 1) Look.eq (Sub.cons (t := 2) Look.eq (Sub.cons (t := 3) Look.eq (Sub.cons (t := 9) Look.eq (Sub.cons (t := 41) Look.eq (Sub.nil _))))))) ?_
        refine KA.condD ?_ ?_
        · intro c41
          refine KA.skip ?_
          refine sqQ.normal ?_
          refine KA.sub (Sub.cons (t := 0) Look.eq (Sub.cons (t := 1) Look.eq (Sub.cons (t := 2) Look.eq (Sub.cons (t := 3) Look.eq (Sub.cons (t := 9) Look.eq (Sub.nil _)))))) ?_
          refine KA.seq ?_
          refine KA.block ?_
          refine KA.seq ?_
          refine KA.region rfl ?_
          refine KOps.move ?_
          refine KOps.move ?_
          refine KOps.indexIJ (Rd.ext hS.keeps hv) (j := i) rfl (by first | omega | (simp; done) | (simp; omega)) ?_
          intro p46 hp46
          refine KOps.loadS hp46 (Rd.ext hS.keeps hv) (by first | omega | (simp; done) | (simp; omega)) ?_
          refine KOps.lenStr ?_
          refine KOps.gtr ?_
          refine KOps.done ?_
          refine sqQ.normal ?_
          refine KA.sub (Sub.cons (t := 0) Look.eq (Sub.cons (t := 1) Look.eq (Sub.cons (t := 2) Look.eq (Sub.cons (t := 3) Look.eq (Sub.cons (t := 9) Look.eq (Sub.cons (t := 49) Look.eq (Sub.nil _))))))) ?_
          refine KA.condD ?_ ?_
          · intro c49
            refine KA.seq ?_
            refine KA.region rfl ?_
            refine KOps.call rfl (works_c (hTab.ext hS.keeps)) ?_
            rintro _ hx ⟨rfl, hK⟩
            have hS0 : St _ _ _ := St.trans hS (St.ofK hK)
            clear hS
            have hS := hS0
            clear hS0
            simp only [List.nil_append] at hS
            refine KOps.assign ?_
            refine KOps.done ?_
            refine sqQ.normal ?_
            refine KA.sub (Sub.cons (t := 8) Look.eq (Sub.nil _)) ?_
            refine KA.ret ?_
            refine blQ.ret ?_
            refine sqQ.ret ?_
            refine lpQ.ret ?_
            refine blQ.ret ?_
            refine sqQ.ret ?_
            refine fnQ.ret1 ?_
            exact rfl
          · intro c49
            refine KA.skip ?_
            refine blQ.normal ?_
            refine sqQ.normal ?_
            refine KA.sub (Sub.cons (t := 0) Look.eq (Sub.cons (t := 1) Look.eq (Sub.cons (t := 2) Look.eq (Sub.cons (t := 3) Look.eq (Sub.cons (t := 9) Look.eq (Sub.nil _)))))) ?_
            refine KA.region rfl ?_
            refine KOps.move ?_
            refine KOps.add (by first | omega | (simp; omega)) (by first | omega | (simp; omega)) ?_
            refine KOps.assign ?_
            refine KOps.done ?_
            exact lpQ.normal (i + 1) (by repeat (first | exact Sub.nil _ | refine Sub.cons Look.eq ?_ | refine Sub.cons (Eq.trans Look.eq (congrArg (AV.int _) (by first | omega | (dsimp only; omega)))) ?_)) ⟨by omega, h60, hS⟩ (by omega)
        · intro c41
          refine KA.exit ?_
          refine sqQ.exit ?_
          refine lpQ.exit ?_
          refine blQ.here ?_
          refine sqQ.normal ?_
          refine KA.sub (Sub.cons (t := 0) Look.eq (Sub.cons (t := 1) Look.eq (Sub.cons (t := 2) Look.eq (Sub.cons (t := 3) Look.eq (Sub.nil _))))) ?_
          refine KA.seq ?_
          refine KA.region rfl ?_
          refine KOps.move ?_
          refine KOps.call rfl (safeP_c (Rd.ext hS.keeps hv) (by omega)) ?_
          rintro _ hx ⟨rfl, hK⟩
          have hS0 : St _ _ _ := St.trans hS (St.ofK hK)
          clear hS
          have hS := hS0
          clear hS0
          simp only [List.nil_append] at hS
          unfold safeV
          refine KOps.move ?_
          refine KOps.extract ?_
          refine KOps.extract ?_
          refine KOps.extract ?_
          refine KOps.assign ?_
          refine KOps.assign ?_
          refine KOps.assign ?_
          refine KOps.done ?_
          refine sqQ.normal ?_
          refine KA.sub (Sub.cons (t := 0) Look.eq (Sub.cons (t := 1) Look.eq (Sub.cons (t := 2) Look.eq (Sub.cons (t := 3) Look.eq (Sub.cons (t := 10) Look.eq (Sub.cons (t := 11) Look.eq (Sub.cons (t := 12) Look.eq (Sub.nil _)))))))) ?_
          refine KA.seq ?_
          refine KA.region rfl ?_
          refine KOps.move ?_
          refine KOps.call rfl (safeR_c (Rd.ext hS.keeps hv) (by omega)) ?_
          rintro _ _ ⟨rfl, rfl⟩
          unfold safeV
          refine KOps.move ?_
          refine KOps.extract ?_
          refine KOps.extract ?_
          refine KOps.extract ?_
          refine KOps.assign ?_
          refine KOps.assign ?_
          refine KOps.assign ?_
          refine KOps.done ?_
          refine sqQ.normal ?_
          refine KA.sub (Sub.cons (t := 1) Look.eq (Sub.cons (t := 2) Look.eq (Sub.cons (t := 3) Look.eq (Sub.cons (t := 10) Look.eq (Sub.cons (t := 11) Look.eq (Sub.cons (t := 12) Look.eq (Sub.cons (t := 13) Look.eq (Sub.cons (t := 14) Look.eq (Sub.cons (t := 15) Look.eq (Sub.nil _)))))))))) ?_
          refine KA.seq ?_
          refine KA.region rfl ?_
          refine KOps.move ?_
          refine KOps.move ?_
          refine KOps.call rfl (comPF_c) ?_
          rintro _ _ ⟨rfl, rfl⟩
          refine KOps.move ?_
          refine KOps.extract ?_
          refine KOps.extract ?_
          refine KOps.assign ?_
          refine KOps.assign ?_
          refine KOps.done ?_
          refine sqQ.normal ?_
          refine KA.sub (Sub.cons (t := 1) Look.eq (Sub.cons (t := 2) Look.eq (Sub.cons (t := 3) Look.eq (Sub.cons (t := 10) Look.eq (Sub.cons (t := 11) Look.eq (Sub.cons (t := 12) Look.eq (Sub.cons (t := 13) Look.eq (Sub.cons (t := 14) Look.eq (Sub.cons (t := 15) Look.eq (Sub.cons (t := 16) Look.eq (Sub.cons (t := 17) Look.eq (Sub.nil _)))))))))))) ?_
          refine KA.seq ?_
          refine KA.region rfl ?_
          refine KOps.move ?_
          refine KOps.move ?_
          refine KOps.call rfl (comRF_c) ?_
          rintro _ _ ⟨rfl, rfl⟩
          refine KOps.move ?_
          refine KOps.extract ?_
          refine KOps.extract ?_
          refine KOps.assign ?_
          refine KOps.assign ?_
          refine KOps.done ?_
          refine sqQ.normal ?_
          refine KA.sub (Sub.cons (t := 3) Look.eq (Sub.cons (t := 10) Look.eq (Sub.cons (t := 11) Look.eq (Sub.cons (t := 12) Look.eq (Sub.cons (t := 13) Look.eq (Sub.cons (t := 14) Look.eq (Sub.cons (t := 15) Look.eq (Sub.cons (t := 16) Look.eq (Sub.cons (t := 17) Look.eq (Sub.cons (t := 18) Look.eq (Sub.cons (t := 19) Look.eq (Sub.nil _)))))))))))) ?_
          refine KA.seq ?_
          refine KA.region rfl ?_
          refine KOps.move ?_
          refine KOps.call rfl (mostP_c (hTab.ext hS.keeps)) ?_
          rintro _ hx ⟨rfl, hK⟩
          have hS0 : St _ _ _ := St.trans hS (St.ofK hK)
          clear hS
          have hS := hS0
          clear hS0
          simp only [List.nil_append] at hS
          refine KOps.move ?_
          refine KOps.extract ?_
          refine KOps.extract ?_
          refine KOps.assign ?_
          refine KOps.assign ?_
          refine KOps.done ?_
          refine sqQ.normal ?_
          refine KA.sub (Sub.cons (t := 3) Look.eq (Sub.cons (t := 10) Look.eq (Sub.cons (t := 11) Look.eq (Sub.cons (t := 12) Look.eq (Sub.cons (t := 13) Look.eq (Sub.cons (t := 14) Look.eq (Sub.cons (t := 15) Look.eq (Sub.cons (t := 16) Look.eq (Sub.cons (t := 17) Look.eq (Sub.cons (t := 18) Look.eq (Sub.cons (t := 19) Look.eq (Sub.cons (t := 20) Look.eq (Sub.cons (t := 21) Look.eq (Sub.nil _)))))))))))))) ?_
          refine KA.seq ?_
          refine KA.region rfl ?_
          refine KOps.move ?_
          refine KOps.call rfl (mostR_c) ?_
          rintro _ hx ⟨rfl, hK⟩
          have hS0 : St _ _ _ := St.trans hS (St.ofK hK)
          clear hS
          have hS := hS0
          clear hS0
          simp only [List.nil_append] at hS
          refine KOps.move ?_
          refine KOps.extract ?_
          refine KOps.extract ?_
          refine KOps.assign ?_
          refine KOps.assign ?_
          refine KOps.done ?_
          refine sqQ.normal ?_
          refine KA.sub (Sub.cons (t := 10) Look.eq (Sub.cons (t := 11) Look.eq (Sub.cons (t := 12) Look.eq (Sub.cons (t := 13) Look.eq (Sub.cons (t := 14) Look.eq (Sub.cons (t := 15) Look.eq (Sub.cons (t := 16) Look.eq (Sub.cons (t := 17) Look.eq (Sub.cons (t := 18) Look.eq (Sub.cons (t := 19) Look.eq (Sub.cons (t := 20) Look.eq (Sub.cons (t := 21) Look.eq (Sub.cons (t := 22) Look.eq (Sub.cons (t := 23) Look.eq (Sub.nil _))))))))))))))) ?_
          refine KA.seq ?_
          refine KA.region rfl ?_
          refine KOps.move ?_
          refine KOps.move ?_
          refine KOps.eqlY (rfl) ?_
          refine KOps.move ?_
          refine KOps.guardYes (dj := 88) rfl rfl ?_
          refine KOps.move ?_
          refine KOps.guardYes (dj := 88) rfl rfl ?_
          refine KOps.move ?_
          refine KOps.guardYes (dj := 88) rfl rfl ?_
          refine KOps.eqlY (rfl) ?_
          refine KOps.pickT ?_
          refine KOps.move ?_
          refine KOps.guardYes (dj := 93) rfl rfl ?_
          refine KOps.move ?_
          refine KOps.guardYes (dj := 93) rfl rfl ?_
          refine KOps.move ?_
          refine KOps.guardYes (dj := 93) rfl rfl ?_
          refine KOps.eqlY (rfl) ?_
          refine KOps.pickT ?_
          refine KOps.move ?_
          refine KOps.guardYes (dj := 98) rfl rfl ?_
          refine KOps.move ?_
          refine KOps.guardYes (dj := 98) rfl rfl ?_
          refine KOps.move ?_
          refine KOps.guardYes (dj := 98) rfl rfl ?_
          refine KOps.wEqlY (rfl) ?_
          refine KOps.pickT ?_
          refine KOps.move ?_
          refine KOps.guardYes (dj := 103) rfl rfl ?_
          refine KOps.move ?_
          refine KOps.guardYes (dj := 103) rfl rfl ?_
          refine KOps.move ?_
          refine KOps.guardYes (dj := 103) rfl rfl ?_
          refine KOps.eqlY (rfl) ?_
          refine KOps.pickT ?_
          refine KOps.move ?_
          refine KOps.guardYes (dj := 108) rfl rfl ?_
          refine KOps.move ?_
          refine KOps.guardYes (dj := 108) rfl rfl ?_
          refine KOps.move ?_
          refine KOps.guardYes (dj := 108) rfl rfl ?_
          refine KOps.eqlY (rfl) ?_
          refine KOps.pickT ?_
          refine KOps.move ?_
          refine KOps.guardYes (dj := 113) rfl rfl ?_
          refine KOps.move ?_
          refine KOps.guardYes (dj := 113) rfl rfl ?_
          refine KOps.move ?_
          refine KOps.guardYes (dj := 113) rfl rfl ?_
          refine KOps.eqlY (rfl) ?_
          refine KOps.pickT ?_
          refine KOps.move ?_
          refine KOps.guardYes (dj := 118) rfl rfl ?_
          refine KOps.call rfl (works_c (hTab.ext hS.keeps)) ?_
          rintro _ hx ⟨rfl, hK⟩
          have hS0 : St _ _ _ := St.trans hS (St.ofK hK)
          clear hS
          have hS := hS0
          clear hS0
          simp only [List.nil_append] at hS
          refine KOps.pickT ?_
          refine KOps.assign ?_
          refine KOps.done ?_
          refine sqQ.normal ?_
          refine KA.sub (Sub.cons (t := 8) Look.eq (Sub.nil _)) ?_
          refine KA.ret ?_
          refine fnQ.ret1 ?_
          exact rfl
    · intro g32
      have g32 := of_decide_eq_true g32
      refine KOps.guardNo (dj := 32) rfl rfl rfl ?_
      refine KOps.guardNo (dj := 32) rfl rfl rfl ?_
      refine KOps.pickT ?_
      refine KOps.done ?_
      refine sqQ.normal ?_
      refine KA.sub (Sub.cons (t := 0) Look.eq (Sub.cons (t := 1) Look.eq (Sub.cons (t := 2) Look.eq (Sub.cons (t := 3) Look.eq (Sub.cons (t := 36) Look.eq (Sub.nil _)))))) ?_
      refine KA.condT ?_
      refine KA.seq ?_
      refine KA.region rfl ?_
      refine KOps.call rfl (works_c (hTab.ext hS.keeps)) ?_
      rintro _ hx ⟨rfl, hK⟩
      have hS0 : St _ _ _ := St.trans hS (St.ofK hK)
      clear hS
      have hS := hS0
      clear hS0
      simp only [List.nil_append] at hS
      refine KOps.assign ?_
      refine KOps.done ?_
      refine sqQ.normal ?_
      refine KA.sub (Sub.cons (t := 8) Look.eq (Sub.nil _)) ?_
      refine KA.ret ?_
      refine sqQ.ret ?_
      refine fnQ.ret1 ?_
      exact rfl
  · intro g27
    have g27 := of_decide_eq_true g27
    refine KOps.guardNo (dj := 27) rfl rfl rfl ?_
    refine KOps.guardNo (dj := 27) rfl rfl rfl ?_
    refine KOps.pickT ?_
    refine KOps.move ?_
    refine KOps.guardNo (dj := 32) rfl rfl rfl ?_
    refine KOps.guardNo (dj := 32) rfl rfl rfl ?_
    refine KOps.guardNo (dj := 32) rfl rfl rfl ?_
    refine KOps.pickT ?_
    refine KOps.done ?_
    refine sqQ.normal ?_
    refine KA.sub (Sub.cons (t := 0) Look.eq (Sub.cons (t := 1) Look.eq (Sub.cons (t := 2) Look.eq (Sub.cons (t := 3) Look.eq (Sub.cons (t := 36) Look.eq (Sub.nil _)))))) ?_
    refine KA.condT ?_
    refine KA.seq ?_
    refine KA.region rfl ?_
    refine KOps.call rfl (works_c (hTab.ext hS.keeps)) ?_
    rintro _ hx ⟨rfl, hK⟩
    have hS0 : St _ _ _ := St.trans hS (St.ofK hK)
    clear hS
    have hS := hS0
    clear hS0
    simp only [List.nil_append] at hS
    refine KOps.assign ?_
    refine KOps.done ?_
    refine sqQ.normal ?_
    refine KA.sub (Sub.cons (t := 8) Look.eq (Sub.nil _)) ?_
    refine KA.ret ?_
    refine sqQ.ret ?_
    refine fnQ.ret1 ?_
    exact rfl

end Go.Am
