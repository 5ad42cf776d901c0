/-
  The abstract machine: frames of which only the live slots are kept, and the rules over them.
  Conditions: none.
-/
import Derived.Test.YtenkokebdgekbaaAm18
namespace Go.Am

/-- What is known of a frame. -/
abbrev KF := List (Nat × AV)

def look : KF → Nat → AV
  | [], _ => .bot
  | (s, v) :: K, t => cond (Nat.beq s t) v (look K t)

def toFr (n : Nat) (K : KF) : List AV := (List.range n).map (look K)

theorem toFr_length (n : Nat) (K : KF) : (toFr n K).length = n := by simp [toFr]

theorem toFr_getD (n : Nat) (K : KF) (t : Nat) : (toFr n K).getD t .bot = cond (Nat.ble n t) .bot (look K t) := by
  rw [List.getD_eq_getElem?_getD]
  by_cases h : t < n
  · have hb : Nat.ble n t = false := by simpa [← Bool.not_eq_true] using h
    rw [hb, toFr, List.getElem?_map, List.getElem?_range h]; rfl
  · have hb : Nat.ble n t = true := by simpa using h
    rw [hb, toFr, List.getElem?_eq_none (by simp; omega)]; rfl

theorem toFr_set (n : Nat) (K : KF) (d : Nat) (v : AV) : (toFr n K).set d v = toFr n ((d, v) :: K) := by
  apply List.ext_getElem?
  intro i
  simp only [toFr]
  rw [List.getElem?_set]
  by_cases h : i < n
  · by_cases hd : d = i
    · subst hd
      simp [h, List.getElem?_map, List.getElem?_range h, look]
    · have hb : Nat.beq d i = false := by cases hq : Nat.beq d i with | false => rfl | true => exact absurd (Nat.eq_of_beq_eq_true hq) hd
      simp [h, hd, List.getElem?_map, List.getElem?_range h, look, hb]
  · rw [List.getElem?_eq_none (l := List.map (look ((d, v) :: K)) (List.range n)) (by simp; omega)]
    split
    · rw [if_neg (by simp; omega)]
    · rw [List.getElem?_eq_none (by simp; omega)]

/-- An operand's value. -/
def evalK (globs : List Nat) (n : Nat) (K : KF) : Operand → AV
  | .tmp t => cond (Nat.ble n t) .bot (look K t)
  | .const v => AV.of 4 v
  | .global g => if globs.contains g then .ptr g 0 else .bot
  | .func f => .fn f []

theorem evalA_toFr (globs : List Nat) (n : Nat) (K : KF) : evalA globs (toFr n K) = evalK globs n K := by
  funext x
  cases x with
  | tmp t => exact toFr_getD n K t
  | const v => rfl
  | global g => rfl
  | func f => rfl

/-- Values, found by their slots. -/
class Look (K : KF) (t : Nat) (v : outParam AV) : Prop where
  eq : look K t = v
instance (priority := high) Look.here (K : KF) (t : Nat) (v : AV) : Look ((t, v) :: K) t v := ⟨by simp [look, Nat.beq_refl]⟩
class Eqb (a b : Bool) : Prop where
  eq : a = b
instance (b : Bool) : Eqb b b := ⟨rfl⟩
instance (priority := low) Look.there (K : KF) (s t : Nat) (v w : AV) [hn : Eqb (Nat.beq s t) false] [hl : Look K t v] : Look ((s, w) :: K) t v := ⟨by simp [look, hn.eq, hl.eq]⟩

/-- An operand's value, found. -/
class EvK (globs : List Nat) (n : Nat) (K : KF) (x : Operand) (v : outParam AV) : Prop where
  eq : evalK globs n K x = v
instance (globs : List Nat) (n : Nat) (K : KF) (t : Nat) (v : AV) [hb : Eqb (Nat.ble n t) false] [hl : Look K t v] : EvK globs n K (.tmp t) v := ⟨by simp [evalK, hb.eq, hl.eq]⟩
instance (globs : List Nat) (n : Nat) (K : KF) (k : IntKind) (i : Int) : EvK globs n K (.const (.int k i)) (.int k i) := ⟨rfl⟩
instance (globs : List Nat) (n : Nat) (K : KF) (b : Bool) : EvK globs n K (.const (.bool b)) (.bool b) := ⟨rfl⟩
instance (globs : List Nat) (n : Nat) (K : KF) : EvK globs n K (.const (.slice none 0 0)) .nils := ⟨rfl⟩
instance (globs : List Nat) (n : Nat) (K : KF) : EvK globs n K (.const (.pointer none)) .nilp := ⟨rfl⟩
instance (globs : List Nat) (n : Nat) (K : KF) : EvK globs n K (.const (.map none)) .nilm := ⟨rfl⟩
instance (globs : List Nat) (n : Nat) (K : KF) : EvK globs n K (.const .nilFunc) .nilf := ⟨rfl⟩
instance (globs : List Nat) (n : Nat) (K : KF) (s : ByteArray) : EvK globs n K (.const (.string s)) (.str s) := ⟨rfl⟩
instance (globs : List Nat) (n : Nat) (K : KF) (f : FuncId) : EvK globs n K (.func f) (.fn f []) := ⟨rfl⟩

/-- A weaker frame. -/
def Sub (K' K : KF) : Prop := ∀ p ∈ K', look K p.1 = p.2
theorem Sub.nil (K : KF) : Sub [] K := by intro p hp; cases hp
theorem Sub.cons {K' K : KF} {t : Nat} {v : AV} (h : look K t = v) (hs : Sub K' K) : Sub ((t, v) :: K') K := by
  intro p hp
  rcases List.mem_cons.1 hp with rfl | hp
  · exact h
  · exact hs p hp

/-- The slots that are kept. -/
class Keep (ts : List Nat) (K : KF) (K' : outParam KF) : Prop where
  sub : Sub K' K
instance (K : KF) : Keep [] K [] := ⟨Sub.nil K⟩

instance (ts : List Nat) (t : Nat) (K K' : KF) (v : AV) [hl : Look K t v] [hk : Keep ts K K'] : Keep (t :: ts) K ((t, v) :: K') := ⟨Sub.cons hl.eq hk.sub⟩

theorem Sub.look {K' K : KF} (h : Sub K' K) (t : Nat) : look K' t = .bot ∨ look K' t = look K t := by
  induction K' with
  | nil => exact .inl rfl
  | cons p K' ih =>
    obtain ⟨s, v⟩ := p
    simp only [Go.Am.look]
    cases hb : Nat.beq s t with
    | true =>
      right
      have := Nat.eq_of_beq_eq_true hb
      subst this
      exact (h (s, v) (by simp)).symm
    | false => exact ih (fun p hp => h p (by simp [hp]))

theorem FRel.sub {φ : Emb} {n : Nat} {K K' : KF} {a : Act} (hs : Sub K' K) (h : FRel φ (toFr n K) a) : FRel φ (toFr n K') a := by
  refine ⟨h.1, by rw [toFr_length, ← h.2.1, toFr_length], ?_⟩
  intro t x v hx hv
  have hlt : t < n := by
    have := (List.getElem?_eq_some_iff.1 hx).1
    rwa [toFr_length] at this
  rw [toFr, List.getElem?_map, List.getElem?_range hlt] at hx
  cases hx
  rcases hs.look t with h0 | h0
  · rw [h0]; exact .bot v
  · rw [h0]
    exact h.2.2 t _ v (by rw [toFr, List.getElem?_map, List.getElem?_range hlt]; rfl) hv

theorem AW.sub {P : Program} {c : Code} {Q : Ex → List AV → AHeap → Prop} {n : Nat} {K K' : KF} {h : AHeap} (hs : Sub K' K) (hw : AW P c Q (toFr n K') h) : AW P c Q (toFr n K) h := by
  obtain ⟨e, fr', h', ⟨g, hx⟩, hq⟩ := hw
  exact ⟨e, fr', h', ⟨g, fun φ a w hf s => hx φ a w hf ⟨s.heap, s.fr.sub hs⟩⟩, hq⟩

/-- Code over such frames. -/
def KA (P : Program) (n : Nat) (c : Code) (Q : Ex → KF → AHeap → Prop) (K : KF) (h : AHeap) : Prop := AW P c (fun e fr h => ∃ K', fr = toFr n K' ∧ Q e K' h) (toFr n K) h

def KOps (P : Program) (n : Nat) (ops : Array Oper) (ex : List Nat) (Q : KF → AHeap → Prop) (k : Nat) (os : List Oper) (K : KF) (h : AHeap) : Prop :=
  AOps P ops ex (fun fr h => ∃ K', fr = toFr n K' ∧ Q K' h) k os (toFr n K) h

/-- What comes behind. -/
def sqQ (P : Program) (n : Nat) (d : Code) (Q : Ex → KF → AHeap → Prop) (e : Ex) (K : KF) (h : AHeap) : Prop := match e with | .normal => KA P n d Q K h | e => Q e K h
def blQ (id : Nat) (Q : Ex → KF → AHeap → Prop) (e : Ex) (K : KF) (h : AHeap) : Prop := if e = .exit id then Q .normal K h else Q e K h

theorem KA.mono {P : Program} {n : Nat} {c : Code} {Q Q' : Ex → KF → AHeap → Prop} {K : KF} {h : AHeap} (hw : KA P n c Q K h) (hq : ∀ e K h, Q e K h → Q' e K h) : KA P n c Q' K h :=
  AW.mono hw fun e _ h ⟨K, hf, q⟩ => ⟨K, hf, hq e K h q⟩

theorem KA.sub {P : Program} {n : Nat} {c : Code} {Q : Ex → KF → AHeap → Prop} {K K' : KF} {h : AHeap} (hs : Sub K' K) (hw : KA P n c Q K' h) : KA P n c Q K h := AW.sub hs hw

section
variable {P : Program} {n : Nat} {Q : Ex → KF → AHeap → Prop} {K : KF} {h : AHeap}

theorem KA.skip (hq : Q .normal K h) : KA P n .skip Q K h := AW.skip ⟨K, rfl, hq⟩
theorem KA.label {l : Nat} (hq : Q .normal K h) : KA P n (.label l) Q K h := AW.label ⟨K, rfl, hq⟩
theorem KA.ret (hq : Q .ret K h) : KA P n .ret Q K h := AW.ret ⟨K, rfl, hq⟩
theorem KA.exit {id : Nat} (hq : Q (.exit id) K h) : KA P n (.exit id) Q K h := AW.exit ⟨K, rfl, hq⟩
theorem KA.seq {c d : Code} (hw : KA P n c (sqQ P n d Q) K h) : KA P n (.seq c d) Q K h := by
  refine AW.seq (AW.mono hw ?_)
  rintro e fr h ⟨K, rfl, q⟩
  cases e with
  | normal => exact q
  | ret => exact ⟨K, rfl, q⟩
  | exit id => exact ⟨K, rfl, q⟩
theorem KA.block {id : Nat} {c : Code} (hw : KA P n c (blQ id Q) K h) : KA P n (.block id c) Q K h := by
  refine AW.block (AW.mono hw ?_)
  rintro e fr h ⟨K, rfl, q⟩
  unfold blQ at q
  split
  · rename_i he; rw [if_pos he] at q; exact ⟨K, rfl, q⟩
  · rename_i he; rw [if_neg he] at q; exact ⟨K, rfl, q⟩
theorem KA.cond {x : Operand} {c d : Code} {t : Bool} (hc : evalK h.globs n K x = .bool t) (h1 : t = true → KA P n c Q K h) (h2 : t = false → KA P n d Q K h) : KA P n (.cond x c d) Q K h := by
  refine AW.cond (t := t) (by rw [evalA_toFr]; exact hc) ?_
  cases t with
  | true => exact h1 rfl
  | false => exact h2 rfl
theorem KA.region {id : Nat} {ops : Array Oper} {l : List Oper} (hl : ops.toList = l) (hw : KOps P n ops [] (Q .normal) 0 l K h) : KA P n (.region id ops false) Q K h := AW.region hl hw
theorem KA.draw {id : Nat} {ops : Array Oper} {l : List Oper} (ex : List Nat) (hm : P.follows .mixedOrders = true) (hl : ops.toList = l) (hok : rgOk n l ex = true) (hw : KOps P n ops ex (Q .normal) 0 l K h) : KA P n (.region id ops true) Q K h := by
  subst hl
  exact AW.region_draw hm rfl (rgOk_sound rfl hok) (toFr_length n K) hw

theorem sqQ.normal {d : Code} (hq : KA P n d Q K h) : sqQ P n d Q .normal K h := hq
theorem sqQ.ret {d : Code} (hq : Q .ret K h) : sqQ P n d Q .ret K h := hq
theorem sqQ.exit {d : Code} {id : Nat} (hq : Q (.exit id) K h) : sqQ P n d Q (.exit id) K h := hq
theorem blQ.normal {id : Nat} (hq : Q .normal K h) : blQ id Q .normal K h := by rw [blQ, if_neg nofun]; exact hq
theorem blQ.ret {id : Nat} (hq : Q .ret K h) : blQ id Q .ret K h := by rw [blQ, if_neg nofun]; exact hq
theorem blQ.here {id : Nat} (hq : Q .normal K h) : blQ id Q (.exit id) K h := by rw [blQ, if_pos rfl]; exact hq
theorem blQ.exit {id id' : Nat} (hne : Nat.beq id' id = false) (hq : Q (.exit id') K h) : blQ id Q (.exit id') K h := by
  rw [blQ, if_neg]; exact hq
  intro he; cases he; simp [Nat.beq_refl] at hne

theorem KA.cut {c : Code} {M : KF → AHeap → Prop} (hc : KA P n c (fun e K h => match e with | .normal => M K h | e => Q e K h) K h) (hm : ∀ K h, M K h → Q .normal K h) : KA P n c Q K h :=
  hc.mono fun e K h q => by cases e with | normal => exact hm K h q | ret => exact q | exit id => exact q
end

/-- What a loop's round must come to. -/
def lpQ {X : Type} (pat : X → KF) (I : X → AHeap → Prop) (m : X → Nat) (x : X) (Q : Ex → KF → AHeap → Prop) (e : Ex) (K : KF) (h : AHeap) : Prop :=
  match e with | .normal => ∃ y, Sub (pat y) K ∧ I y h ∧ m y < m x | e => Q e K h

theorem lpQ.normal {X : Type} {pat : X → KF} {I : X → AHeap → Prop} {m : X → Nat} {x : X} {Q : Ex → KF → AHeap → Prop} {K : KF} {h : AHeap} (y : X) (hs : Sub (pat y) K) (hI : I y h) (hm : m y < m x) : lpQ pat I m x Q .normal K h := ⟨y, hs, hI, hm⟩
theorem lpQ.ret {X : Type} {pat : X → KF} {I : X → AHeap → Prop} {m : X → Nat} {x : X} {Q : Ex → KF → AHeap → Prop} {K : KF} {h : AHeap} (hq : Q .ret K h) : lpQ pat I m x Q .ret K h := hq
theorem lpQ.exit {X : Type} {pat : X → KF} {I : X → AHeap → Prop} {m : X → Nat} {x : X} {Q : Ex → KF → AHeap → Prop} {K : KF} {h : AHeap} {id : Nat} (hq : Q (.exit id) K h) : lpQ pat I m x Q (.exit id) K h := hq

/-- A loop, by the shape of its frames, an invariant and a measure. -/
theorem KA.loop {P : Program} {n : Nat} {c : Code} {Q : Ex → KF → AHeap → Prop} {K : KF} {h : AHeap} {X : Type} (pat : X → KF) (I : X → AHeap → Prop) (m : X → Nat) (x : X) (hs : Sub (pat x) K) (hI : I x h)
    (round : ∀ x h, I x h → KA P n c (lpQ pat I m x Q) (pat x) h) : KA P n (.loop c) Q K h := by
  refine AW.loop (fun k fr h => ∃ x K, fr = toFr n K ∧ Sub (pat x) K ∧ I x h ∧ m x = k) ?_ (m x) (toFr n K) h ⟨x, K, rfl, hs, hI, rfl⟩
  rintro k fr h ⟨x, K, rfl, hs, hI, rfl⟩
  refine AW.sub hs (AW.mono (round x h hI) ?_)
  rintro e fr' h' ⟨K', rfl, q⟩
  cases e with
  | normal =>
    obtain ⟨y, hy, hIy, hm⟩ := q
    exact ⟨m y, hm, y, K', rfl, hy, hIy, rfl⟩
  | ret => exact ⟨K', rfl, q⟩
  | exit id => exact ⟨K', rfl, q⟩

/-- The frame with which a function begins. -/
def argK : Nat → List AV → KF
  | _, [] => []
  | k, a :: as => (k, a) :: argK (k + 1) as

theorem look_argK : ∀ (as : List AV) (k t : Nat), look (argK k as) t = if k ≤ t ∧ t < k + as.length then as.getD (t - k) .bot else .bot := by
  intro as
  induction as with
  | nil => intro k t; simp [argK, look]
  | cons a as ih =>
    intro k t
    simp only [argK, look]
    cases hb : Nat.beq k t with
    | true =>
      have := Nat.eq_of_beq_eq_true hb
      subst this
      simp
    | false =>
      have hne : k ≠ t := by rintro rfl; simp [Nat.beq_refl] at hb
      simp only [cond, ih, List.length_cons]
      by_cases h1 : k ≤ t
      · obtain ⟨q, hq⟩ : ∃ q, t - k = q + 1 := ⟨t - k - 1, by omega⟩
        have hq' : t - (k + 1) = q := by omega
        rw [hq, hq', List.getD_cons_succ]
        by_cases h2 : t < k + 1 + as.length
        · rw [if_pos ⟨by omega, h2⟩, if_pos ⟨h1, by omega⟩]
        · rw [if_neg (by omega), if_neg (by omega)]
      · rw [if_neg (by omega), if_neg (by omega)]

theorem FRel.args {φ : Emb} {n : Nat} {as : List AV} {a : Act} (hle : as.length ≤ n) (h : FRel φ (mkFr as n) a) : FRel φ (toFr n (argK 0 as)) a := by
  have hlen : (mkFr as n).length = n := by simp [mkFr]; omega
  refine ⟨h.1, by rw [toFr_length, ← h.2.1, hlen], ?_⟩
  intro t x v hx hv
  have hlt : t < n := by
    have := (List.getElem?_eq_some_iff.1 hx).1
    rwa [toFr_length] at this
  rw [toFr, List.getElem?_map, List.getElem?_range hlt] at hx
  cases hx
  rw [look_argK]
  split
  · rename_i hb
    refine h.2.2 t _ v ?_ hv
    rw [mkFr, List.getElem?_append_left (by omega), List.getD_eq_getElem?_getD, Nat.sub_zero, List.getElem?_eq_getElem (by omega)]
    rfl
  · exact .bot v

def resK (n : Nat) (K : KF) : List ResultVar → Option (List AV)
  | [] => some []
  | .tmp t :: rs => (resK n K rs).map fun l => cond (Nat.ble n t) .bot (look K t) :: l
  | .cell _ _ :: _ => none

theorem resA_toFr (n : Nat) (K : KF) (rs : List ResultVar) : resA (toFr n K) rs = resK n K rs := by
  induction rs with
  | nil => rfl
  | cons r rs ih =>
    cases r with
    | tmp t => simp only [resA, resK, ih, toFr_getD]
    | cell a t => rfl

def resV : List AV → AV
  | [x] => x
  | l => .tup l

/-- How a function may end. -/
def fnQ (n : Nat) (rs : List ResultVar) (R : AV → AHeap → Prop) (e : Ex) (K : KF) (h : AHeap) : Prop := (e = .normal ∨ e = .ret) ∧ ∃ l, resK n K rs = some l ∧ R (resV l) h

theorem fnQ.ret {n : Nat} {rs : List ResultVar} {R : AV → AHeap → Prop} {K : KF} {h : AHeap} {l : List AV} (hr : resK n K rs = some l) (hR : R (resV l) h) : fnQ n rs R .ret K h := ⟨.inr rfl, l, hr, hR⟩
theorem fnQ.normal {n : Nat} {rs : List ResultVar} {R : AV → AHeap → Prop} {K : KF} {h : AHeap} {l : List AV} (hr : resK n K rs = some l) (hR : R (resV l) h) : fnQ n rs R .normal K h := ⟨.inl rfl, l, hr, hR⟩

theorem KA.calls {P : Program} {f : FuncId} {fn : Func} {c : Code} {args : List AV} {h : AHeap} {R : AV → AHeap → Prop} (hf : P.funcs[f]? = some fn) (hb : fn.body = some c) (hn : (fn.name == "runtime.NumGoroutine") = false)
    (hle : args.length ≤ fn.ntmps) (hw : KA P fn.ntmps c (fnQ fn.ntmps fn.results.toList R) (argK 0 args) h) : ACalls P f args h R := by
  refine ACalls.of_body hf hb hn ?_
  obtain ⟨e, fr', h', ⟨g, hx⟩, K, rfl, he, l, hl, hR⟩ := hw
  refine ⟨e, _, h', ⟨g, fun φ a w hfr s => hx φ a w hfr ⟨s.heap, s.fr.args hle⟩⟩, he, _, ?_, hR⟩
  rw [resultA, resA_toFr, hl]
  rfl

end Go.Am
