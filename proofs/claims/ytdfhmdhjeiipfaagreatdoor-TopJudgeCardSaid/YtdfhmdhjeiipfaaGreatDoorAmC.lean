/-
  The abstract machine: frames of live slots, what is owned, rules, tables, arguments.
  Conditions: none.
-/
import Derived.Test.YtdfhmdhjeiipfaaGreatDoorAmD
import Derived.ChangeArms
import Derived.ChangeSlices
import Derived.OpenShut
import Derived.Carry
open List renaming getElem?_eq_getElem → dO, getElem?_eq_some_iff → dU, getD_eq_getElem?_getD → dY, getElem?_append_left → dQ, getElem?_append → dR, getElem?_map → dT, getElem?_eq_none → dV, ext_getElem? → dZ, getElem?_set → fI, getElem?_take → fO, getElem?_drop → fU, getElem?_range → fB, getElem?_cons_zero → fC, getElem?_cons_succ → fD, length_nil → fK, length_append → fM, replicate → fN, getElem?_set_self → fQ, length → fW, getElem?_append_right → fZ, flatten_cons → gA, pairwise_map → gE, take_length → gI, toArray → gO, length_eq_zero_iff → gY, nodup_cons → gB, drop_zero → gC, perm_append_comm → gD, set_append_right → gG, range → gH, mem_cons → gJ, map_congr_left → gK, mem_map → gN, map_map → gP, append_assoc → gR, length_cons → gS, length_take → gT, length_drop → gV, cons_append → gW, perm_middle → gX, length_map → gZ
open List.Perm renaming append_left → fS, trans → jA, cons → jE
open Nat renaming le_refl → dX, eq_of_mul_eq_mul_right → fA, le_trans → fY, eq_of_beq_eq_true → fG, add_mul → fH, lt_of_lt_of_le → fL, beq → fR, mul_eq_zero → fT, ble → fV, sub_self → gU, beq_refl → gL, lt_trichotomy → gQ
open Option renaming bind_some → dP, bind_eq_bind → dS, bind_eq_some_iff → dW, getD_some → fE, map_eq_some_iff → fF, map_some → fJ
open Option.some renaming injEq → fP
open Prod.mk renaming injEq → fX
set_option maxRecDepth 99999
set_option maxHeartbeats 4000000
namespace Go.Am
abbrev KF:=List (Nat × AV)
def look : KF → Nat → AV
  | [],_=>.bot
  | (s,v)::K,t=>cond (fR s t) v (look K t)
def KJ (n:Nat) (K:KF):List AV:=(gH n).map (look K)
theorem Qg (n:Nat) (K:KF):(KJ n K).length=n:=by simp[KJ]
theorem QP (n:Nat) (K:KF) (t:Nat):(KJ n K).getD t .bot=cond (fV n t) .bot (look K t):=by
 rw[dY];by_cases h:t<n;have hb:fV n t=false:=by simpa [←Bool.not_eq_true] using h
 rw[hb,KJ,dT,fB h]; rfl;have hb:fV n t=true:=by simpa using h
 rw[hb,KJ,dV aY]; rfl
theorem ZB (n:Nat) (K:KF) (d:Nat) (v:AV):(KJ n K).set d v=KJ n ((d,v)::K):=by
 apply dZ;intro i;simp only[KJ];rw[fI];by_cases h:i<n;by_cases hd:d=i;subst hd;simp[h,look];have hb:fR d i=false:=by cases hq:fR d i with|false=>rfl|true=>exact absurd (fG hq) hd
 simp[h,hd,look,hb];rw[dV (l:=List.map (look ((d,v)::K)) (gH n)) aY];split;rw[if_neg aY];rw[dV aY]
def KK (globs : List Nat) (n : Nat) (K : KF) : Operand → AV
  | .tmp t=>cond (fV n t) .bot (look K t)
  | .const v=>AV.of 4 v
  | .global g=>if globs.contains g then .ptr g 0 else .bot
  | .func f=>.fn f []
theorem ZY (globs:List Nat) (n:Nat) (K:KF):evalA globs (KJ n K)=KK globs n K:=by
 funext x
 cases x with
 | tmp t=>exact QP n K t
 | const v=>rfl
 | global g=>rfl
 | func f=>rfl
class Look (K:KF) (t:Nat) (v:outParam AV):Prop where
  eq:look K t=v
instance (priority:=high) Look.here (K:KF) (t:Nat) (v:AV):Look ((t,v)::K) t v:=⟨by simp[look,gL]⟩
class Eqb (a b:Bool):Prop where
  eq:a=b
instance (b:Bool):Eqb b b:=⟨rfl⟩
instance (priority:=low) Look.there (K:KF) (s t:Nat) (v w:AV) [hn:Eqb (fR s t) false] [hl:Look K t v]:Look ((s,w)::K) t v:=⟨by simp[look,hn.eq,hl.eq]⟩
class EvK (globs:List Nat) (n:Nat) (K:KF) (x:Operand) (v:outParam AV):Prop where
  eq:KK globs n K x=v
instance (globs:List Nat) (n:Nat) (K:KF) (t:Nat) (v:AV) [hb:Eqb (fV n t) false] [hl:Look K t v]:EvK globs n K (.tmp t) v:=⟨by simp[KK,hb.eq,hl.eq]⟩
instance (globs:List Nat) (n:Nat) (K:KF) (k:IntKind) (i:Int):EvK globs n K (.const (.int k i)) (.int k i):=⟨rfl⟩
instance (globs:List Nat) (n:Nat) (K:KF) (b:Bool):EvK globs n K (.const (.bool b)) (.bool b):=⟨rfl⟩
instance (globs:List Nat) (n:Nat) (K:KF):EvK globs n K (.const (.slice none 0 0)) .nils:=⟨rfl⟩
instance (globs:List Nat) (n:Nat) (K:KF):EvK globs n K (.const (.pointer none)) .nilp:=⟨rfl⟩
instance (globs:List Nat) (n:Nat) (K:KF):EvK globs n K (.const (.map none)) .nilm:=⟨rfl⟩
instance (globs:List Nat) (n:Nat) (K:KF) (f:FuncId):EvK globs n K (.func f) (.fn f []):=⟨rfl⟩
def Sub (K' K:KF):Prop:=∀ p∈K',look K p.1=p.2
theorem Sub.nil (K:KF):Sub [] K:=by intro p hp; cases hp
theorem Sub.cons {K' K:KF} {t:Nat} {v:AV} (h:look K t=v) (hs:Sub K' K):Sub ((t,v)::K') K:=by
 intro p hp;rcases gJ.1 hp with rfl|hp
 exact h;exact hs p hp
inductive Keep : List Nat → KF → KF → Prop
  | nil (K:KF):Keep [] K []
  | cons {ts:List Nat} {t:Nat} {K K':KF} {v:AV} (h:look K t=v) (hk:Keep ts K K'):Keep (t::ts) K ((t,v)::K')
theorem Keep.sub {ts:List Nat} {K K':KF} (h:Keep ts K K'):Sub K' K:=by
 induction h with
 | nil K=>exact Sub.nil K
 | cons h _ ih=>exact Sub.cons h ih
theorem keepN {K:KF}:Keep [] K []:=.nil K
theorem keepC {ts:List Nat} {t:Nat} {K K':KF} {v:AV} [hl:Look K t v] (hk:Keep ts K K'):Keep (t::ts) K ((t,v)::K'):=.cons hl.eq hk
theorem Sub.look {K' K:KF} (h:Sub K' K) (t:Nat):look K' t = .bot∨look K' t=look K t:=by
 induction K' with
 | nil=>exact .inl rfl
 | cons p K' ih=>
  obtain⟨s,v⟩:=p;simp only[Go.Am.look]
  cases hb:fR s t with
  | true=>
   right;have:=fG hb;subst this;exact(h (s,v) aK).symm
  | false=>exact ih (fun p hp=>h p (by simp[hp]))
theorem FRel.sub {D:List Deferred} {φ:Emb} {n:Nat} {K K':KF} {a:Act} (hs:Sub K' K) (h:FRel D φ (KJ n K) a):FRel D φ (KJ n K') a:=by
 refine⟨h.1,by rw[Qg,←h.2.1,Qg],?_⟩;intro t x v hx hv;have hlt:t<n:=by
  have:=(dU.1 hx).1;rwa [Qg] at this
 rw[KJ,dT,fB hlt] at hx;cases hx;rcases hs.look t with h0|h0
 rw[h0]; exact .bot v;rw[h0];exact h.2.2 t _ v (by rw[KJ,dT,fB hlt]; rfl) hv
theorem AW.sub {P:Program} {c:Code} {Q:Ex→List AV→AHeap→Prop} {n:Nat} {K K':KF} {h:AHeap} (hs:Sub K' K) (hw:AW P c Q (KJ n K') h):AW P c Q (KJ n K) h:=by
 obtain⟨e,fr',h',⟨g,hx⟩,hq⟩:=hw;exact⟨e,fr',h',⟨g,fun φ a w hf s=>hx φ a w hf ⟨s.heap,s.fr.sub hs⟩⟩,hq⟩
def KA (P:Program) (n:Nat) (c:Code) (Q:Ex→KF→AHeap→Prop) (K:KF) (h:AHeap):Prop:=AW P c (fun e fr h=>∃ K',fr=KJ n K'∧Q e K' h) (KJ n K) h
def KOps (P:Program) (n:Nat) (ops:Array Oper) (ex:List Nat) (Q:KF→AHeap→Prop) (k:Nat) (os:List Oper) (K:KF) (h:AHeap):Prop:=
  AOps P ops ex (fun fr h=>∃ K',fr=KJ n K'∧Q K' h) k os (KJ n K) h
def sqQ (P:Program) (n:Nat) (d:Code) (Q:Ex→KF→AHeap→Prop) (e:Ex) (K:KF) (h:AHeap):Prop:=match e with | .normal=>KA P n d Q K h|e=>Q e K h
def blQ (id:Nat) (Q:Ex→KF→AHeap→Prop) (e:Ex) (K:KF) (h:AHeap):Prop:=if e = .exit id then Q .normal K h else Q e K h
theorem KA.mono {P:Program} {n:Nat} {c:Code} {Q Q':Ex→KF→AHeap→Prop} {K:KF} {h:AHeap} (hw:KA P n c Q K h) (hq:∀ e K h,Q e K h→Q' e K h):KA P n c Q' K h:=
  AW.mono hw fun e _ h ⟨K,hf,q⟩=>⟨K,hf,hq e K h q⟩
theorem KA.sub {P:Program} {n:Nat} {c:Code} {Q:Ex→KF→AHeap→Prop} {K K':KF} {h:AHeap} (hs:Sub K' K) (hw:KA P n c Q K' h):KA P n c Q K h:=AW.sub hs hw
section
variable {P:Program} {n:Nat} {Q:Ex→KF→AHeap→Prop} {K:KF} {h:AHeap}
theorem OC (hq:Q .normal K h):KA P n .skip Q K h:=AW.skip ⟨K,rfl,hq⟩
theorem KA.label {l:Nat} (hq:Q .normal K h):KA P n (.label l) Q K h:=AW.label ⟨K,rfl,hq⟩
theorem Ke (hq:Q .ret K h):KA P n .ret Q K h:=AW.ret ⟨K,rfl,hq⟩
theorem Kb {id:Nat} (hq:Q (.exit id) K h):KA P n (.exit id) Q K h:=AW.exit ⟨K,rfl,hq⟩
theorem Ou {c d:Code} (hw:KA P n c (sqQ P n d Q) K h):KA P n (.seq c d) Q K h:=by
 refine AW.seq (AW.mono hw ?_);rintro e fr h ⟨K,rfl,q⟩
 cases e with
 | normal=>exact q
 | ret=>exact⟨K,rfl,q⟩
 | exit id=>exact⟨K,rfl,q⟩
theorem Oz {id:Nat} {c:Code} (hw:KA P n c (blQ id Q) K h):KA P n (.block id c) Q K h:=by
 refine AW.block (AW.mono hw ?_);rintro e fr h ⟨K,rfl,q⟩;unfold blQ at q;split;rename_i he; rw[if_pos he] at q; exact⟨K,rfl,q⟩;rename_i he; rw[if_neg he] at q; exact⟨K,rfl,q⟩
theorem KA.cond {x:Operand} {c d:Code} {t:Bool} (hc:KK h.globs n K x = .bool t) (h1:t=true→KA P n c Q K h) (h2:t=false→KA P n d Q K h):KA P n (.cond x c d) Q K h:=by
 refine AW.cond (t:=t) (by rw[ZY]; exact hc) ?_
 cases t with
 | true=>exact h1 rfl
 | false=>exact h2 rfl
theorem Kc {id:Nat} {ops:Array Oper} {l:List Oper} (hl:ops.toList=l) (hw:KOps P n ops TXT (Q .normal) 0 l K h):KA P n (.region id ops false) Q K h:=AW.region hl hw
theorem OQ {id:Nat} {ops:Array Oper} {l:List Oper} (ex:List Nat) (hm:P.follows .mixedOrders=true) (hl:ops.toList=l) (hok:rgOk n l ex=true) (hw:KOps P n ops ex (Q .normal) 0 l K h):KA P n (.region id ops true) Q K h:=by
 subst hl;exact AW.region_draw hm rfl (rgOk_sound rfl hok) (Qg n K) hw
theorem Od {d:Code} (hq:KA P n d Q K h):sqQ P n d Q .normal K h:=hq
theorem QF {d:Code} (hq:Q .ret K h):sqQ P n d Q .ret K h:=hq
theorem O2 {d:Code} {id:Nat} (hq:Q (.exit id) K h):sqQ P n d Q (.exit id) K h:=hq
theorem Ol {id:Nat} (hq:Q .normal K h):blQ id Q .normal K h:=by rw[blQ,if_neg nofun]; exact hq
theorem QC {id:Nat} (hq:Q .ret K h):blQ id Q .ret K h:=by rw[blQ,if_neg nofun]; exact hq
theorem O5 {id:Nat} (hq:Q .normal K h):blQ id Q (.exit id) K h:=by rw[blQ,if_pos rfl]; exact hq
theorem blQ.exit {id id':Nat} (hne:fR id' id=false) (hq:Q (.exit id') K h):blQ id Q (.exit id') K h:=by
 rw[blQ,if_neg]; exact hq;intro he; cases he; simp[gL] at hne
end
def lpQ {X:Type} (pat:X→KF) (I:X→AHeap→Prop) (m:X→Nat) (x:X) (Q:Ex→KF→AHeap→Prop) (e:Ex) (K:KF) (h:AHeap):Prop:=
  match e with | .normal=>∃ y,Sub (pat y) K∧I y h∧m y<m x|e=>Q e K h
theorem Zx {X:Type} {pat:X→KF} {I:X→AHeap→Prop} {m:X→Nat} {x:X} {Q:Ex→KF→AHeap→Prop} {K:KF} {h:AHeap} (y:X) (hs:Sub (pat y) K) (hI:I y h) (hm:m y<m x):lpQ pat I m x Q .normal K h:=⟨y,hs,hI,hm⟩
theorem lpQ.ret {X:Type} {pat:X→KF} {I:X→AHeap→Prop} {m:X→Nat} {x:X} {Q:Ex→KF→AHeap→Prop} {K:KF} {h:AHeap} (hq:Q .ret K h):lpQ pat I m x Q .ret K h:=hq
theorem O7 {X:Type} {pat:X→KF} {I:X→AHeap→Prop} {m:X→Nat} {x:X} {Q:Ex→KF→AHeap→Prop} {K:KF} {h:AHeap} {id:Nat} (hq:Q (.exit id) K h):lpQ pat I m x Q (.exit id) K h:=hq
theorem KA.loop {P : Program} {n : Nat} {c : Code} {Q : Ex → KF → AHeap → Prop} {K : KF} {h : AHeap} {X : Type} (pat : X → KF) (I : X → AHeap → Prop) (m : X → Nat) (x : X) (hs : Sub (pat x) K) (hI : I x h)
    (round:∀ x h,I x h→KA P n c (lpQ pat I m x Q) (pat x) h):KA P n (.loop c) Q K h:=by
 refine AW.loop (fun k fr h=>∃ x K,fr=KJ n K∧Sub (pat x) K∧I x h∧m x=k) ?_ (m x) (KJ n K) h ⟨x,K,rfl,hs,hI,rfl⟩;rintro k fr h ⟨x,K,rfl,hs,hI,rfl⟩;refine AW.sub hs (AW.mono (round x h hI) ?_);rintro e fr' h' ⟨K',rfl,q⟩
 cases e with
 | normal=>
  obtain⟨y,hy,hIy,hm⟩:=q;exact⟨m y,hm,y,K',rfl,hy,hIy,rfl⟩
 | ret=>exact⟨K',rfl,q⟩
 | exit id=>exact⟨K',rfl,q⟩
def Vc : Nat → List AV → KF
  | _,[]=>[]
  | k,a::as=>(k,a)::Vc (k+1) as
theorem look_argK:∀ (as:List AV) (k t:Nat),look (Vc k as) t=if k≤t∧t<k+as.length then as.getD (t - k) .bot else .bot:=by
 intro as
 induction as with
 | nil=>intro k t; simp[Vc,look]
 | cons a as ih=>
  intro k t;simp only[Vc,look]
  cases hb:fR k t with
  | true=>
   have:=fG hb;subst this;simp
  | false=>
   have hne:k≠t:=by rintro rfl; simp[gL] at hb
   simp only[cond,ih,gS];by_cases h1:k≤t;obtain⟨q,hq⟩:∃ q,t - k=q+1:=⟨t - k - 1,by omega⟩;have hq':t - (k+1)=q:=by omega
   rw[hq,hq',List.getD_cons_succ];by_cases h2:t<k+1+as.length;rw[if_pos ⟨by omega,h2⟩,if_pos ⟨h1,by omega⟩];rw[if_neg aA,if_neg aA];rw[if_neg aA,if_neg aA]
theorem FRel.args {D:List Deferred} {φ:Emb} {n:Nat} {as:List AV} {a:Act} (hle:as.length≤n) (h:FRel D φ (Q7 as n) a):FRel D φ (KJ n (Vc 0 as)) a:=by
 have hlen:(Q7 as n).length=n:=by simp[Q7]; omega
 refine⟨h.1,by rw[Qg,←h.2.1,hlen],?_⟩;intro t x v hx hv;have hlt:t<n:=by
  have:=(dU.1 hx).1;rwa [Qg] at this
 rw[KJ,dT,fB hlt] at hx;cases hx;rw[look_argK];split;rename_i hb;refine h.2.2 t _ v ?_ hv;rw[Q7,dQ aA,dY,Nat.sub_zero,dO aA];rfl;exact .bot v
def JB (n : Nat) (K : KF) : List ResultVar → Option (List AV)
  | []=>some []
  | .tmp t::rs=>(JB n K rs).map fun l=>cond (fV n t) .bot (look K t)::l
  | .cell _ _::_=>none
theorem Uf (n:Nat) (K:KF) (rs:List ResultVar):resA (KJ n K) rs=JB n K rs:=by
 induction rs with
 | nil=>rfl
 | cons r rs ih=>
  cases r with
  | tmp t=>simp only[resA,JB,ih,QP]
  | cell a t=>rfl
def Xu : List AV → AV
  | [x]=>x
  | l=>.tup l
def fnQ (n:Nat) (rs:List ResultVar) (R:AV→AHeap→Prop) (e:Ex) (K:KF) (h:AHeap):Prop:=(e = .normal∨e = .ret)∧∃ l,JB n K rs=some l∧R (Xu l) h
theorem fnQ.ret {n:Nat} {rs:List ResultVar} {R:AV→AHeap→Prop} {K:KF} {h:AHeap} {l:List AV} (hr:JB n K rs=some l) (hR:R (Xu l) h):fnQ n rs R .ret K h:=⟨.inr rfl,l,hr,hR⟩
theorem fnQ.normal {n:Nat} {rs:List ResultVar} {R:AV→AHeap→Prop} {K:KF} {h:AHeap} {l:List AV} (hr:JB n K rs=some l) (hR:R (Xu l) h):fnQ n rs R .normal K h:=⟨.inl rfl,l,hr,hR⟩
theorem KA.calls {P : Program} {f : FuncId} {fn : Func} {c : Code} {args : List AV} {h : AHeap} {R : AV → AHeap → Prop} (hf : P.funcs[f]? = some fn) (hb : fn.body = some c) (hn : (fn.name == "runtime.NumGoroutine") = false)
    (hle:args.length≤fn.ntmps) (hw:KA P fn.ntmps c (fnQ fn.ntmps fn.results.toList R) (Vc 0 args) h):ACalls P f args h R:=by
 refine ACalls.of_body hf hb hn ?_;obtain⟨e,fr',h',⟨g,hx⟩,K,rfl,he,l,hl,hR⟩:=hw;refine⟨e,_,h',⟨g,fun φ a w hfr s=>hx φ a w hfr ⟨s.heap,s.fr.args hle⟩⟩,he,_,?_,hR⟩;rw[Z7,Uf,hl];rfl
end Go.Am
namespace Go.Am
def View (v:AV) (s b o len:Nat):Prop:=(∃ n full,v = .slc b o n s full∧len=n*s∧0<s)∨(s=0∧v = .ptr b o)
def Thing.at : Thing → Nat → AV
  | .map _,b=>.mp b
  | .dmap _,b=>.mp b
  | .walk _ _,b=>.it b
  | .mwalk _ _ _,b=>.it b
  | .gone,b=>.it b
def Thing.enc : Thing → List AV
  | .map es=>es.map fun p=>.tup [p.1,p.2]
  | .dmap es=>.nilm :: .nilm::es.map fun p=>.tup [p.1,p.2]
  | .walk s pos=>[.str s,.int .i64 pos]
  | .mwalk bm n seen=>[.mp bm,.int .i64 n,.tup (seen.map fun i:Nat=>.int .i64 (i:Int))]
  | .gone=>[.nilm]
def Rd (h:AHeap) (v:AV) (s:Nat) (xs:List AV):Prop:=
  (v = .nils ∧ xs = []) ∨ (∃ b o F p cs, View v s b o xs.length ∧ h.get b = some (.cells F p cs) ∧ h.valid b = true ∧ (cs.drop o).take xs.length = xs) ∨
    ∃ b F x,v=Thing.at x b∧s=0∧h.get b=some (.obj F x)∧xs=x.enc
structure Obj where
  v:AV
  s:Nat
  xs:List AV
  tip:Bool
def Mu (lo : Nat) (h : AHeap) : Option Nat → Obj → Prop
  | none,o=>o.v = .nils∧o.xs = []
  | some F, o => (∃ b off p cs f, lo ≤ b ∧ View o.v o.s b off o.xs.length ∧ h.get b = some (.cells (some F) p cs) ∧ h.fam F = some f ∧ f.sees b = true ∧ (cs.drop off).take o.xs.length = o.xs ∧
      (o.tip=true→(∃ n,o.v = .slc b off n o.s true)∨p+off+o.xs.length=f.ext))∨
      ∃ b x f,lo≤b∧o.v=Thing.at x b∧o.s=0∧h.get b=some (.obj F x)∧h.fam F=some f∧o.xs=x.enc
theorem Thing.at_slc {x:Thing} {b b' o n s:Nat} {full:Bool} (h:Thing.at x b = .slc b' o n s full):False:=by cases x <;> cases h
theorem Thing.at_ptr {x:Thing} {b b' o:Nat} (h:Thing.at x b = .ptr b' o):False:=by cases x <;> cases h
theorem Thing.at_nils {x:Thing} {b:Nat} (h:Thing.at x b = .nils):False:=by cases x <;> cases h
theorem Thing.at_one (x:Thing) (b:Nat):(Thing.at x b).one=true:=by cases x <;> rfl
structure Keeps (h0 h:AHeap):Prop where
  next:h0.next≤h.next
  nfam:h0.nfam≤h.nfam
  globs:h.globs=h0.globs
  get:∀ b,b<h0.next→h.get b=h0.get b
  fam:∀ F,F<h0.nfam→h.fam F=h0.fam F
theorem Keeps.refl (h:AHeap):Keeps h h:=⟨dX _,dX _,rfl,fun _ _=>rfl,fun _ _=>rfl⟩
theorem Keeps.trans {a b c:AHeap} (h:Keeps a b) (k:Keeps b c):Keeps a c:=
  ⟨fY h.next k.next,fY h.nfam k.nfam,k.globs.trans h.globs,fun x hx=>(k.get x (fL hx h.next)).trans (h.get x hx),fun x hx=>(k.fam x (fL hx h.nfam)).trans (h.fam x hx)⟩
theorem Keeps.get_some {h0 h:AHeap} (k:Keeps h0 h) {b:Nat} {B:Blk} (hb:h0.get b=some B):h.get b=some B:=by rw[k.get b (AHeap.get_lt hb)]; exact hb
theorem Keeps.fam_some {h0 h:AHeap} (k:Keeps h0 h) {F:Nat} {f:Fam} (hf:h0.fam F=some f):h.fam F=some f:=by rw[k.fam F (AHeap.fam_lt hf)]; exact hf
theorem Keeps.valid {h0 h:AHeap} (k:Keeps h0 h) {b:Nat} (hv:h0.valid b=true):h.valid b=true:=by
 unfold AHeap.valid at hv⊢
 cases hb:h0.get b with
 | none=>rw[hb] at hv; cases hv
 | some B=>
  rw[hb] at hv;rw[k.get_some hb]
  cases B with
  | obj _ _=>rfl
  | cells F p cs=>
   cases F with
   | none=>rfl
   | some F=>
    simp only at hv⊢
    cases hf:h0.fam F with
    | none=>rw[hf] at hv; cases hv
    | some f=>rw[hf] at hv; rw[k.fam_some hf]; exact hv
theorem Rd.ext {h0 h:AHeap} (k:Keeps h0 h) {v:AV} {s:Nat} {xs:List AV} (hr:Rd h0 v s xs):Rd h v s xs:=by
 rcases hr with hr|⟨b,o,F,p,cs,h1,h2,h3,h4⟩|⟨b,F,x,h1,h2,h3,h4⟩
 exact .inl hr;exact .inr (.inl ⟨b,o,F,p,cs,h1,k.get_some h2,k.valid h3,h4⟩);exact .inr (.inr ⟨b,F,x,h1,h2,k.get_some h3,h4⟩)
theorem Mu.ext {lo:Nat} {h0 h:AHeap} (k:Keeps h0 h) {F:Option Nat} {o:Obj} (hm:Mu lo h0 F o):Mu lo h F o:=by
 cases F with
 | none=>exact hm
 | some F=>
  rcases hm with ⟨b,off,p,cs,f,h0',h1,h2,h3,h4⟩|⟨b,x,f,h0',h1,h2,h3,h4,h5⟩
  exact .inl ⟨b,off,p,cs,f,h0',h1,k.get_some h2,k.fam_some h3,h4⟩;exact .inr ⟨b,x,f,h0',h1,h2,k.get_some h3,k.fam_some h4,h5⟩
theorem Mu.lt {lo:Nat} {h:AHeap} {F:Nat} {o:Obj} (hm:Mu lo h (some F) o):F<h.nfam:=by
 rcases hm with ⟨b,off,p,cs,f,h0',h1,h2,h3,h4⟩|⟨b,x,f,h0',h1,h2,h3,h4,h5⟩
 exact AHeap.fam_lt h3;exact AHeap.fam_lt h4
theorem Mu.lo {lo lo':Nat} (hl:lo'≤lo) {h:AHeap} {F:Option Nat} {o:Obj} (hm:Mu lo h F o):Mu lo' h F o:=by
 cases F with
 | none=>exact hm
 | some F=>
  rcases hm with ⟨b,off,p,cs,f,h0',h1⟩|⟨b,x,f,h0',h1⟩
  exact .inl ⟨b,off,p,cs,f,fY hl h0',h1⟩;exact .inr ⟨b,x,f,fY hl h0',h1⟩
theorem Mu.rd {lo:Nat} {h:AHeap} {F:Option Nat} {o:Obj} (hm:Mu lo h F o):Rd h o.v o.s o.xs:=by
 cases F with
 | none=>exact .inl hm
 | some F=>
  rcases hm with ⟨b,off,p,cs,f,_,h1,h2,h3,h4,h5,_⟩|⟨b,x,f,_,h1,h2,h3,_,h5⟩
  refine .inr (.inl ⟨b,off,some F,p,cs,h1,h2,?_,h5⟩);unfold AHeap.valid;rw[h2];simp only[h3,h4];exact .inr (.inr ⟨b,F,x,h1,h2,h3,h5⟩)
structure St (h0 h:AHeap) (objs:List Obj):Prop where
  keeps:Keeps h0 h
  own:∃ fs:List (Option Nat),fs.length=objs.length∧(∀ (i:Nat) (o:Obj) (F:Option Nat),objs[i]? = some o→fs[i]? = some F→Mu h0.next h F o)∧(∀ (i j F:Nat),fs[i]? = some (some F)→fs[j]? = some (some F)→i=j)∧(∀ (i F:Nat),fs[i]? = some (some F)→h0.nfam≤F)
theorem St.refl (h:AHeap):St h h []:=⟨Keeps.refl h,[],rfl,by simp,by simp,by simp⟩
theorem St.rd {h0 h:AHeap} {objs:List Obj} (st:St h0 h objs) (k:Nat) {o:Obj} (hk:objs[k]? = some o):Rd h o.v o.s o.xs:=by
 obtain⟨_,fs,h1,h2,_⟩:=st;have hlt:k<fs.length:=by rw[h1]; exact(dU.1 hk).1
 exact(h2 k o _ hk (dO hlt)).rd
theorem St.trans {h0 h h1:AHeap} {objs objs1:List Obj} (st:St h0 h objs) (st1:St h h1 objs1):St h0 h1 (objs1 ++ objs):=by
 obtain⟨k,fs,hl,hm,hd,hn⟩:=st;obtain⟨k1,fs1,hl1,hm1,hd1,hn1⟩:=st1;have hlt:∀ (i F:Nat),fs[i]? = some (some F)→F<h.nfam:=by
  intro i F hF;have hi:i<objs.length:=by rw[←hl]; exact(dU.1 hF).1
  exact(hm i _ _ (dO hi) hF).lt
 refine⟨k.trans k1,fs1 ++ fs,by simp[hl,hl1],?_,?_,?_⟩;intro i o F ho hF;rw[dR] at ho hF;rw[hl1] at hF;split at ho;rename_i hi; rw[if_pos hi] at hF; exact(hm1 i o F ho hF).lo k.next;rename_i hi; rw[if_neg hi] at hF; exact(hm _ o F ho hF).ext k1;intro i j F hi hj;rw[dR] at hi hj;split at hi <;> split at hj;exact hd1 i j F hi hj;have:=hn1 i F hi; have:=hlt _ F hj; omega;have:=hn1 j F hj; have:=hlt _ F hi; omega;have:=hd _ _ F hi hj; omega;intro i F hi;rw[dR] at hi;split at hi;exact fY k.nfam (hn1 i F hi);exact hn _ F hi
theorem Uc {α:Type} {l:List α} (hn:l.Nodup) {i j:Nat} {x : α} (hi:l[i]? = some x) (hj:l[j]? = some x):i=j:=by
 obtain⟨hi1,hi2⟩:=dU.1 hi;obtain⟨hj1,hj2⟩:=dU.1 hj;have hp:=List.pairwise_iff_getElem.1 hn;rcases gQ i j with h|h|h
 exact absurd (hi2.trans hj2.symm) (hp i j hi1 hj1 h);exact h;exact absurd (hj2.trans hi2.symm) (hp j i hj1 hi1 h)
theorem St.pick {h0 h:AHeap} {objs objs':List Obj} (σ:List Nat) (hn : σ.Nodup) (he : σ.map (fun i=>objs[i]?)=objs'.map some) (st:St h0 h objs):St h0 h objs':=by
 obtain⟨k,fs,hl,hm,hd,hb⟩:=st;have hlen : σ.length=objs'.length:=by have:=congrArg fW he; simpa using this
 have hget:∀ i,i<σ.length→objs[σ.getD i 0]? = objs'[i]?:=by
  intro i hi;have:=congrArg (fun l=>l[i]?) he;simp only[dT,dO hi,dO (l:=objs') (by omega:i<objs'.length),fJ,fP] at this;rw[dY,dO hi,fE,this,dO aA]
 refine⟨k,σ.map (fun i=>(fs[i]?).getD none),by simp[hlen],?_,?_,?_⟩;intro i o F ho hF;have hi:i<objs'.length:=(dU.1 ho).1;have hi':i<σ.length:=by omega
 have h1:=hget i hi';rw[ho] at h1;have hlt : σ.getD i 0<fs.length:=by rw[hl]; exact(dU.1 h1).1
 rw[dT,dO hi',fJ] at hF;cases hF;refine hm _ o _ h1 ?_;rw[dY,dO hi',fE] at hlt⊢;rw[dO hlt]; rfl
 ·intro i j F hi hj;rw[dT] at hi hj;obtain⟨x,hx,hx'⟩:=fF.1 hi;obtain⟨y,hy,hy'⟩:=fF.1 hj;have hf:∀ x:Nat,(fs[x]?).getD none=some F→fs[x]? = some (some F):=by
   intro x hx
   cases hq:fs[x]? with
   | none=>rw[hq] at hx; cases hx
   | some G=>rw[hq] at hx; simp only[fE] at hx; rw[hx]
  have hxy:=hd x y F (hf x hx') (hf y hy');subst hxy;exact Uc hn hx hy
 ·intro i F hi;rw[dT] at hi;obtain⟨x,hx,hx'⟩:=fF.1 hi;refine hb x F ?_
  cases hq:fs[x]? with
  | none=>rw[hq] at hx'; cases hx'
  | some G=>rw[hq] at hx'; simp only[fE] at hx'; rw[hx']
theorem St.upd {h0 h h' : AHeap} {objs : List Obj} (st : St h0 h objs) {k : Nat} {o o' : Obj} (hk : objs[k]? = some o) (hnext : h.next ≤ h'.next) (hnfam : h.nfam ≤ h'.nfam) (hgl : h'.globs = h.globs)
    (hup : ∀ F, Mu h0.next h F o → (∀ G, F = some G → h0.nfam ≤ G) → ∃ F', Mu h0.next h' F' o' ∧ (F' = F ∨ ∃ G, F' = some G ∧ h.nfam ≤ G) ∧
      (∀ b,b<h.next→(∀ G,F=some G→h0.next≤b→(∀ p cs,h.get b=some (.cells (some G) p cs)→False)∧∀ x,h.get b=some (.obj G x)→False)→h'.get b=h.get b)∧(∀ G,G<h.nfam→F≠some G→h'.fam G=h.fam G)):St h0 h' (objs.set k o'):=by
 obtain⟨kp,fs,hl,hm,hd,hb⟩:=st;have hklt:k<objs.length:=(dU.1 hk).1;have hkf:k<fs.length:=by omega
 have hmk:=hm k o fs[k] hk (dO hkf);obtain⟨F',hm',hF',hget,hfam⟩:=hup fs[k] hmk (fun G hG=>hb k G (by rw[dO hkf,hG]));have hlt:∀ (i G:Nat),fs[i]? = some (some G)→G<h.nfam:=by
  intro i G hG;have hi:i<objs.length:=by rw[←hl]; exact(dU.1 hG).1
  exact(hm i _ _ (dO hi) hG).lt
 refine⟨⟨fY kp.next hnext,fY kp.nfam hnfam,hgl.trans kp.globs,?_,?_⟩,fs.set k F',by simp[hl],?_,?_,?_⟩;intro b hb';rw[hget b (fL hb' kp.next) (fun G _ hge=>absurd hge aA)];exact kp.get b hb';intro G hG;rw[hfam G (fL hG kp.nfam) (fun he=>by have:=hb k G (by rw[dO hkf,he]); omega)];exact kp.fam G hG
 ·intro i x F hx hF;rw[fI] at hx hF;by_cases hik:k=i;subst hik;rw[if_pos rfl,if_pos hklt] at hx;rw[if_pos rfl,if_pos hkf] at hF
  cases hx; cases hF
  exact hm'
  ·rw[if_neg hik] at hx hF;have hmi:=hm i x F hx hF
   cases F with
   | none=>exact hmi
   | some G=>
    have hne:fs[k]≠some G:=by
     intro he;exact hik (hd k i G (by rw[dO hkf,he]) hF)
    rcases hmi with ⟨b,off,p,cs,f,h1,h2,h3,h4,h5⟩|⟨b,y,f,h1,h2,h2',h3,h4,h5⟩
    refine .inl ⟨b,off,p,cs,f,h1,h2,?_,?_,h5⟩;rw[hget b (AHeap.get_lt h3) ?_]; exact h3;intro G' hG' _;refine⟨?_,?_⟩;intro p' cs' hg;rw[h3] at hg;cases hg;exact hne hG';intro x' hg;rw[h3] at hg;cases hg;rw[hfam G (hlt i G hF) hne]; exact h4;refine .inr ⟨b,y,f,h1,h2,h2',?_,?_,h5⟩;rw[hget b (AHeap.get_lt h3) ?_]; exact h3;intro G' hG' _;refine⟨?_,?_⟩;intro p' cs' hg;rw[h3] at hg;cases hg;intro x' hg;rw[h3] at hg;cases hg;exact hne hG';rw[hfam G (hlt i G hF) hne]; exact h4
 intro i j G hi hj;rw[fI] at hi hj;by_cases hik:k=i <;> by_cases hjk:k=j;omega;subst hik;rw[if_pos rfl,if_pos hkf] at hi;rw[if_neg hjk] at hj;cases hi;rcases hF' with hF'|⟨G',hG',hge⟩
 exact hd k j G bC hj
 cases hG'; have:=hlt j G hj; omega
 subst hjk;rw[if_pos rfl,if_pos hkf] at hj;rw[if_neg hik] at hi;cases hj;rcases hF' with hF'|⟨G',hG',hge⟩
 exact hd i k G hi bC
 cases hG'; have:=hlt i G hi; omega
 rw[if_neg hik] at hi; rw[if_neg hjk] at hj;exact hd i j G hi hj;intro i G hi;rw[fI] at hi;by_cases hik:k=i;subst hik;rw[if_pos rfl,if_pos hkf] at hi;cases hi;rcases hF' with hF'|⟨G',hG',hge⟩
 exact hb k G bC
 cases hG'; exact fY kp.nfam hge
 rw[if_neg hik] at hi; exact hb i G hi
end Go.Am
namespace Go.Am
class SlT (P:Program) (t:TypeId) (e:outParam TypeId) (s:outParam Nat) (zs:outParam (List AV)):Prop where
  elem:ZX P t=some e
  sl:Q6 P t=true
  sz:szA P e=some s
  zero:((Qf P e).bind AV.cells?)=some zs
  zlen:zs.length=s
  pos : 0<s
  info:∃ i,P.info? e=some i∧i.bytes≤4096
class ScT (P:Program) (t:TypeId):Prop where
  sc:Jf P t=some false
  sz:szA P t=some 1
class AgT (P:Program) (t:TypeId) (s:outParam Nat):Prop where
  ag:Jf P t=some true
  sz:szA P t=some s
def AddrOf (p v:AV) (s j:Nat):Prop:=∃ b o,((0<s∧∃ n full,v = .slc b o n s full)∨(s=0∧v = .ptr b o))∧p = .ptr b (o+j)
theorem AddrOf.thing {p:AV} {x:Thing} {b s j:Nat} (h:AddrOf p (Thing.at x b) s j):False:=by
 obtain⟨_,_,h,_⟩:=h;rcases h with ⟨_,_,_,h⟩|⟨_,h⟩
 exact Thing.at_slc h;exact Thing.at_ptr h
theorem View.addr {v p:AV} {s b o len j:Nat} (hv:View v s b o len) (ha:AddrOf p v s j):p = .ptr b (o+j):=by
 obtain⟨b',o',h1,rfl⟩:=ha;rcases hv with ⟨n,full,rfl,_,hs⟩|⟨hs,rfl⟩
 rcases h1 with ⟨_,n',full',h1⟩|⟨h0,h1⟩
 cases h1; rfl
 cases h1;rcases h1 with ⟨_,n',full',h1⟩|⟨h0,h1⟩
 cases h1
 cases h1; rfl
theorem Rd.addr {h : AHeap} {p v : AV} {s j : Nat} {xs : List AV} (hr : Rd h v s xs) (ha : AddrOf p v s j) (hj : j < xs.length) :
    ∃ b o F q cs,p = .ptr b (o+j)∧h.get b=some (.cells F q cs)∧h.valid b=true∧(∀ i,i<xs.length→cs[o+i]? = xs[i]?)∧o+xs.length≤cs.length:=by
 rcases hr with ⟨rfl,rfl⟩|⟨b,o,F,q,cs,h1,h2,h3,h4⟩|⟨b,F,x,rfl,_⟩
 cases hj
 rotate_left
 exact ha.thing.elim;refine⟨b,o,F,q,cs,h1.addr ha,h2,h3,?_,?_⟩;intro i hi;have:=congrArg (fun l=>l[i]?) h4;simp only[fO,hi,if_true,fU] at this;exact this;have:=congrArg fW h4;simp at this;omega
theorem Rd.load {P:Program} {h:AHeap} {p v y:AV} {s j:Nat} {xs:List AV} {t:TypeId} [ht:ScT P t] (hr:Rd h v s xs) (ha:AddrOf p v s j) (hy:xs[j]? = some y):K9 P h t p=some y:=by
 have hj:=(dU.1 hy).1;obtain⟨b,o,F,q,cs,rfl,h2,h3,h4,_⟩:=hr.addr ha hj;simp only[K9,h2,h3,if_true,ht.sc,dS,dP,Bool.false_eq_true,if_false];rw[h4 j hj,hy]
theorem Rd.loadAgg {P:Program} {h:AHeap} {p v:AV} {s j z:Nat} {xs:List AV} {t:TypeId} [ht:AgT P t z] (hr:Rd h v s xs) (ha:AddrOf p v s j) (hz : 0<z) (hj:j+z≤xs.length):K9 P h t p=some (.agg ((xs.drop j).take z)):=by
 obtain⟨b,o,F,q,cs,rfl,h2,h3,h4,h5⟩:=hr.addr ha aA;simp only[K9,h2,h3,if_true,ht.ag,ht.sz,dS,dP];rw[if_pos aA];congr 2;apply dZ;intro i;rw[fO,fO];split;rw[fU,fU,Nat.add_assoc,h4 _ aA];rfl
theorem Rd.len {P:Program} {h:AHeap} {v:AV} {s m:Nat} {xs:List AV} {t e:TypeId} {zs:List AV} [ht:SlT P t e s zs] (hr:Rd h v s xs) (hm:xs.length=m*s):alen P t v=some (.int .i64 m):=by
 rcases hr with ⟨rfl,rfl⟩|⟨b,o,F,q,cs,h1,_⟩|⟨b,F,x,_,h0,_⟩
 rotate_right
 have:=ht.pos; omega;simp only[alen,ht.sl,if_true];have:m=0:=by
  have hp:=ht.pos;simp only[fK] at hm;rcases fT.1 hm.symm with h0|h0 <;> omega
 subst this; rfl;rcases h1 with ⟨n,full,rfl,hn,_⟩|⟨h0,_⟩
 simp only[alen,ht.sl,if_true];have:n=m:=fA ht.pos (hn.symm.trans hm);subst this; rfl;have:=ht.pos; omega
theorem Rd.index {P : Program} {h : AHeap} {v : AV} {s m : Nat} {k : IntKind} {i : Int} {xs : List AV} {t e : TypeId} {zs : List AV} [ht : SlT P t e s zs] (hr : Rd h v s xs) (hm : xs.length = m * s) (h0 : 0 ≤ i) (hi : i < m) :
    ∃ p,Xz P t v (.int k i)=some p∧AddrOf p v s (i.toNat*s):=by
 have hp:=ht.pos;rcases hr with ⟨rfl,rfl⟩|⟨b,o,F,q,cs,h1,_⟩|⟨b,F,x,_,h0,_⟩
 rotate_right
 omega;exfalso;simp only[fK] at hm;rcases fT.1 hm.symm with h0|h0 <;> omega
 rcases h1 with ⟨n,full,rfl,hn,_⟩|⟨h0,_⟩
 have:n=m:=fA hp (hn.symm.trans hm);subst this;refine⟨.ptr b (o+i.toNat*s),?_,b,o,.inl ⟨hp,n,full,rfl⟩,rfl⟩;simp only[Xz,ht.elem,ht.sz,dS,dP,true_and];rw[if_pos ⟨h0,hi⟩];omega
theorem St.alloc {h0 h:AHeap} {objs:List Obj} (st:St h0 h objs) {v:AV} {s:Nat} {cs:List AV} (hv:View v s h.next 0 cs.length):St h0 (h.alloc cs) (⟨v,s,cs,true⟩::objs):=by
 have hget:(h.alloc cs).get h.next=some (.cells (some h.nfam) 0 cs):=by simp[AHeap.alloc,AHeap.pushFam,AHeap.push,AHeap.get,AHeap.next]
 have hfam:(h.alloc cs).fam h.nfam=some ⟨cs.length,none⟩:=by simp[AHeap.alloc,AHeap.pushFam,AHeap.push,AHeap.fam,AHeap.nfam]
 have hs:St h (h.alloc cs) [⟨v,s,cs,true⟩]:=by
  refine⟨⟨by simp[AHeap.alloc,AHeap.pushFam,AHeap.push,AHeap.next],by simp[AHeap.alloc,AHeap.pushFam,AHeap.push,AHeap.nfam],rfl,?_,?_⟩,[some h.nfam],rfl,?_,?_,?_⟩;intro b hb;simp only[AHeap.alloc,AHeap.pushFam,AHeap.push,AHeap.get];exact dQ hb;intro F hF;simp only[AHeap.alloc,AHeap.pushFam,AHeap.push,AHeap.fam];exact dQ hF
  ·intro i o F ho hF
   cases i with
   | zero=>
    simp only[fC,fP] at ho hF;subst ho hF;exact .inl ⟨h.next,0,0,cs,_,dX _,hv,hget,hfam,rfl,by simp,fun _=>.inr aK⟩
   | succ i=>simp at ho
  intro i j F hi hj
  cases i <;> cases j <;> simp at hi hj⊢
  ·intro i F hi
   cases i with
   | zero=>simp at hi; omega
   | succ i=>simp at hi
 exact st.trans hs
theorem St.store {P : Program} {h0 h : AHeap} {objs : List Obj} (st : St h0 h objs) {k : Nat} {o : Obj} (hk : objs[k]? = some o) {p y : AV} {j : Nat} {l : List AV} {t : TypeId} (ha : AddrOf p o.v o.s j) (hy : y.cells? = some l) (hl : szA P t = some l.length) (h0l : 0 < l.length) (hj : j + l.length ≤ o.xs.length) :
    ∃ h',Z3 P h t p y=some (.tup [],h')∧St h0 h' (objs.set k {o with xs:=putL o.xs j l}):=by
 obtain⟨kp,fs,hlen,hm,hd,hb⟩:=id st;have hklt:k<objs.length:=(dU.1 hk).1;have hkf:k<fs.length:=by omega
 have hmk:=hm k o fs[k] hk (dO hkf)
 cases hF:fs[k] with
 | none=>rw[hF] at hmk; rw[hmk.2,fK] at hj; omega
 | some F=>
  rw[hF] at hmk;rcases hmk with ⟨b,off,q,cs,f,hlo,hview,hget,hfam,hsee,hpart,htip⟩|⟨b,x,f,_,hx,_⟩
  rotate_left
  rw[hx] at ha; exact ha.thing.elim;have hp:=hview.addr ha;subst hp;have hvalid:h.valid b=true:=by unfold AHeap.valid; rw[hget]; simp only[hfam,hsee]
  have hcl:off+o.xs.length≤cs.length:=by
   have:=congrArg fW hpart;simp at this; omega
  refine⟨(h.set b (.cells (some F) q (putL cs (off+j) l))).setFam F {f with live:=some [b]},?_,?_⟩;simp only[Z3,hget,hfam,hy,hl,dS,dP];rw[if_pos ⟨hvalid,trivial,by omega⟩]
  ·refine st.upd hk (by simp[AHeap.setFam,AHeap.set,AHeap.next]) (by simp[AHeap.setFam,AHeap.set,AHeap.nfam]) rfl ?_;intro F' hmu hge;have hblt:=AHeap.get_lt hget;have hFlt:=AHeap.fam_lt hfam;have hFF:F'=some F:=by
    cases F' with
    | none=>rw[hmu.1] at hview; rcases hview with ⟨_,_,h1,_⟩|⟨_,h1⟩ <;> cases h1
    | some G=>
     rcases hmu with ⟨b',off',q',cs',f',_,hv',hg',_⟩|⟨b',x',f',_,hx',_⟩
     rotate_left
     rw[hx'] at ha; exact ha.thing.elim;have:=hv'.addr ha;simp only[AV.ptr.injEq] at this;obtain⟨rfl,_⟩:=this;rw[hget] at hg';cases hg';rfl
   subst hFF;refine⟨some F,.inl ⟨b,off,q,putL cs (off+j) l,{f with live:=some [b]},hlo,?_,?_,?_,?_,?_,?_⟩,.inl rfl,?_,?_⟩;simpa [KY _ _ _ hj] using hview;simp only[AHeap.setFam,AHeap.set,AHeap.get]; exact fQ hblt;simp only[AHeap.setFam,AHeap.set,AHeap.fam]; exact fQ hFlt;simp[Fam.sees];apply dZ;intro i;simp only[KY _ _ _ hj];rw[fO,QU _ _ _ hj];by_cases hi:i<o.xs.length;rw[if_pos hi,fU,QU _ _ _ aA];have hpi:=congrArg (fun l=>l[i]?) hpart;simp only[fO,hi,if_true,fU] at hpi;by_cases hc:j≤i∧i<j+l.length;rw[if_pos aA,if_pos hc]; congr 1; omega;rw[if_neg aA,if_neg hc]; exact hpi;rw[if_neg hi,if_neg aA,dV aA];intro ht;rcases htip ht with hx|hx
   exact .inl hx;right; simp only[KY _ _ _ hj]; exact hx;intro b' hb' hno;by_cases hbb:b=b';subst hbb; exact((hno F rfl aA).1 q cs hget).elim;simp[AHeap.setFam,AHeap.set,AHeap.get,hbb];intro G hG hne;have:F≠G:=fun he=>hne (by rw[he])
   simp[AHeap.setFam,AHeap.set,AHeap.fam,this]
end Go.Am
namespace Go.Am
theorem Keeps.hext {h h':AHeap} (k:Keeps h h') (hw:WFH h):HExt h h':=by
 refine⟨k.next,k.get,?_⟩;intro b hb;unfold AHeap.valid;rw[k.get b hb]
 cases hg:h.get b with
 | none=>rfl
 | some B=>
  cases B with
  | obj _ _=>rfl
  | cells F p cs=>
   cases F with
   | none=>rfl
   | some F=>
    obtain⟨f,hf,_⟩:=hw b F p cs hg;simp only[hf,k.fam_some hf]
theorem Rd.cells {h:AHeap} {v:AV} {s m:Nat} {xs:List AV} (hr:Rd h v s xs) (hs : 0<s) (hm:xs.length=m*s):Q0 h s v=some (m,xs):=by
 rcases hr with ⟨rfl,rfl⟩|⟨b,o,F,q,cs,h1,h2,h3,h4⟩|⟨b,F,x,_,h0,_⟩
 rotate_right
 omega;have:m=0:=by
  simp only[fK] at hm;rcases fT.1 hm.symm with h0|h0 <;> omega
 subst this; rfl;rcases h1 with ⟨n,full,rfl,hn,_⟩|⟨h0,_⟩
 have:n=m:=fA hs (hn.symm.trans hm);subst this;simp only[Q0,if_true];split;rename_i h0;subst h0;rw[Nat.zero_mul] at hm;rw[gY.1 hm];rename_i hne;have hpos : 0<xs.length:=by rw[hm]; exact Nat.mul_pos aA hs
 have:=congrArg fW h4;rw[gT,gV] at this;rw[h2,←hm];simp only[h3,true_and];rw[if_pos aA,h4];omega
theorem QH (h:AHeap) (cs:List AV):Keeps h (h.alloc cs):=by
 refine⟨by simp[AHeap.alloc,AHeap.pushFam,AHeap.push,AHeap.next],by simp[AHeap.alloc,AHeap.pushFam,AHeap.push,AHeap.nfam],rfl,?_,?_⟩;intro b hb;simp only[AHeap.alloc,AHeap.pushFam,AHeap.push,AHeap.get];exact dQ hb;intro F hF;simp only[AHeap.alloc,AHeap.pushFam,AHeap.push,AHeap.fam];exact dQ hF
theorem TV (h:AHeap) (lo:Nat) (hlo:lo≤h.next) (cs:List AV) {v:AV} {s:Nat} {tip:Bool} (hv:View v s h.next 0 cs.length):Mu lo (h.alloc cs) (some h.nfam) ⟨v,s,cs,tip⟩:=by
 refine .inl ⟨h.next,0,0,cs,⟨cs.length,none⟩,hlo,hv,?_,?_,rfl,by simp,fun _=>.inr aK⟩;simp[AHeap.alloc,AHeap.pushFam,AHeap.push,AHeap.get,AHeap.next];simp[AHeap.alloc,AHeap.pushFam,AHeap.push,AHeap.fam,AHeap.nfam]
theorem Vz {h:AHeap} {B:Blk} {F:Nat} {f:Fam} {b:Nat} (hb:b<h.next):((h.push B).setFam F f).get b=h.get b:=by
 simp only[AHeap.setFam,AHeap.push,AHeap.get];exact dQ hb
theorem SE {h:AHeap} {B:Blk} {F:Nat} {f:Fam}:((h.push B).setFam F f).get h.next=some B:=by
 simp[AHeap.setFam,AHeap.push,AHeap.get,AHeap.next]
theorem JK {h:AHeap} {B:Blk} {F:Nat} {f:Fam} (hF:F<h.nfam):((h.push B).setFam F f).fam F=some f:=by
 simp only[AHeap.setFam,AHeap.push,AHeap.fam];exact fQ hF
theorem Jb {h:AHeap} {B:Blk} {F G:Nat} {f:Fam} (hF:F≠G):((h.push B).setFam F f).fam G=h.fam G:=by
 simp only[AHeap.setFam,AHeap.push,AHeap.fam];exact List.getElem?_set_ne hF
theorem St.append {P : Program} {h0 h : AHeap} {objs : List Obj} (st : St h0 h objs) {k : Nat} {v y : AV} {s n m : Nat} {xs ys : List AV} {tip : Bool} {t e : TypeId} {zs : List AV} [ht : SlT P t e s zs]
    (hk:objs[k]? = some ⟨v,s,xs,tip⟩) (hn:xs.length=n*s) (hy:Rd h y s ys) (hm:ys.length=m*s) (h1:ys.all AV.one=true) (hsz:n+m≤4294967296) :
    ∃ r h',Xx P true h t v y=some (r,h')∧St h0 h' (objs.set k ⟨r,s,xs ++ ys,tip⟩)∧(tip=true→WFH h→HExt h h'):=by
 have hs:=ht.pos;obtain⟨z,hz,hzs⟩:=dW.1 ht.zero;obtain⟨i,hi,hib⟩:=ht.info;have hcx:=(st.rd k hk).cells hs hn;have hcy:=hy.cells hs hm;have hcond:zs.length=s∧ys.all AV.one=true∧n+m≤9223372036854775807∧(n+m)*i.bytes≤140737488355328:=by
  refine⟨ht.zlen,h1,by omega,?_⟩
  calc (n + m) * i.bytes ≤ 4294967296 * 4096 := Nat.mul_le_mul hsz hib
    _≤140737488355328:=by decide
 simp only[Xx,ht.elem,ht.sz,hz,hzs,hi,hcx,hcy,dS,dP];have hklt:k<objs.length:=(dU.1 hk).1;have hset:∀ o:Obj,objs[k]? = some o→objs.set k o=objs:=by
  intro o ho;apply dZ;intro j;rw[fI];by_cases hj:k=j;subst hj; rw[if_pos rfl,if_pos hklt]; exact ho.symm;rw[if_neg hj]
 have hall:∀ b,∀ cs:List AV,b<h.next→(h.alloc cs).get b=h.get b:=fun b cs hb=>(QH h cs).get b hb
 by_cases hm0:m=0;subst hm0;rw[Nat.zero_mul] at hm;have:ys = []:=gY.1 hm;subst this;refine⟨v,h,by rw[if_pos rfl],?_,fun _ _=>HExt.refl h⟩;rw[List.append_nil,hset _ hk];exact st
 ·rw[if_neg hm0,if_pos hcond];obtain⟨kp,fs,hlen,hmu,hd,hb⟩:=id st;have hkf:k<fs.length:=by omega
  have hmk:=hmu k _ fs[k] hk (dO hkf);have hms : 0<m*s:=Nat.mul_pos aA hs
  cases hF:fs[k] with
  | none=>
   rw[hF] at hmk;obtain⟨hv,hx⟩:=hmk;simp only at hv hx;subst hv hx;refine⟨_,_,rfl,?_,fun _ hw=>(QH h _).hext hw⟩;refine st.upd hk (QH h _).next (QH h _).nfam rfl ?_;intro F' hmu' hge;refine⟨some h.nfam,TV h h0.next kp.next _ (.inl ⟨m,false,rfl,by simpa using hm,hs⟩),.inr ⟨_,rfl,dX _⟩,fun b hb _=>hall b _ hb,fun G hG _=>(QH h _).fam G hG⟩
  | some F=>
   rw[hF] at hmk;rcases hmk with ⟨b,off,q,cs,f,hlo,hview,hget,hfam,hsee,hpart,htip⟩|⟨_,_,_,_,_,h0,_⟩
   rotate_left
   simp only at h0; omega;rcases hview with ⟨n',full,hv,hn',_⟩|⟨h0,_⟩
   ·simp only at hv hn' hpart htip;subst hv;have:n'=n:=fA hs (hn'.symm.trans hn);subst this
    cases full with
    | true=>
     refine⟨_,_,rfl,?_,fun _ hw=>(QH h _).hext hw⟩;refine st.upd hk (QH h _).next (QH h _).nfam rfl ?_;intro F' hmu' hge;refine⟨some h.nfam,TV h h0.next kp.next _ (.inl ⟨_,false,rfl,by rw[fM,hn,hm,fH],hs⟩),.inr ⟨_,rfl,dX _⟩,fun b hb _=>hall b _ hb,fun G hG _=>(QH h _).fam G hG⟩
    | false=>
     have hFlt:=AHeap.fam_lt hfam;have hblt:=AHeap.get_lt hget;simp only[hget,hfam,dP];have hFF:∀ F',Mu h0.next h F' ⟨.slc b off n' s false,s,xs,tip⟩→F'=some F:=by
      intro F' hmu'
      cases F' with
      | none=>cases hmu'.1
      | some G=>
       rcases hmu' with ⟨b',off',q',cs',f',_,hv',hg',_⟩|⟨_,_,_,_,_,h0,_⟩
       rotate_left
       simp only at h0; omega;rcases hv' with ⟨_,_,hv',_⟩|⟨h0,_⟩
       cases hv';rw[hget] at hg'
       cases hg'; rfl
       omega
     have main : ∀ (x : Nat) (lv : Option (List Nat)), Fam.sees ⟨x, lv⟩ h.next = true → (tip = true → q + off + (n' + m) * s = x) →
         St h0 ((h.push (.cells (some F) (q+off) (xs ++ ys))).setFam F ⟨x,lv⟩) (objs.set k ⟨.slc h.next 0 (n'+m) s false,s,xs ++ ys,tip⟩):=by
       intro x lv hlv hx;refine st.upd hk (by simp[AHeap.setFam,AHeap.push,AHeap.next]) (by simp[AHeap.setFam,AHeap.push,AHeap.nfam]) rfl ?_;intro F' hmu' hge;have:=hFF F' hmu';subst this;refine⟨some F,.inl ⟨h.next,0,q+off,xs ++ ys,⟨x,lv⟩,kp.next,.inl ⟨_,false,rfl,by rw[fM,hn,hm,fH],hs⟩,SE,JK hFlt,hlv,(by show((xs ++ ys).drop 0).take (xs ++ ys).length=xs ++ ys; rw[gC,gI]),?_⟩,.inl rfl,?_,?_⟩
       · intro htt;right;have:=hx htt;simp only[fM,hn,hm];rw[fH] at this;omega
       · intro b' hb' _;exact Vz hb'
       · intro G _ hne;exact Jb (fun he=>hne (by rw[he]))
     split
     ·rename_i hext;refine⟨_,_,rfl,main _ _ ?_ ?_,?_⟩
      ·unfold Fam.sees
       cases f.live with
       | none=>rfl
       | some l=>simp
      intro _; rw[fH]; omega
      ·intro _ hw;refine⟨by simp[AHeap.setFam,AHeap.push,AHeap.next],fun b' hb'=>Vz hb',?_⟩;intro b' hb';unfold AHeap.valid;rw[Vz hb']
       cases hg:h.get b' with
       | none=>rfl
       | some B=>
        cases B with
        | obj _ _=>rfl
        | cells G p' cs'=>
         cases G with
         | none=>rfl
         | some G=>
          simp only;by_cases hFG:F=G
          ·subst hFG;rw[JK hFlt,hfam];simp only[Fam.sees]
           cases f.live with
           | none=>rfl
           | some l=>simp[show b'≠h.next by omega]
          rw[Jb hFG]
     rename_i hext;refine⟨_,_,if_pos trivial,main _ _ (by simp[Fam.sees]) ?_,?_⟩;intro htt;rcases htip htt with ⟨n2,h2⟩|h2
     cases h2;omega;intro htt;rcases htip htt with ⟨n2,h2⟩|h2
     cases h2;omega
   simp only at h0; omega
theorem St.part {h0 h : AHeap} {objs : List Obj} (st : St h0 h objs) {k : Nat} {o : Obj} (hk : objs[k]? = some o) {v : AV} {xs : List AV} {j : Nat} (hpart : (o.xs.drop j).take xs.length = xs)
    (hv:(v = .nils∧o.v = .nils)∨∃ b off n n' full full',o.v = .slc b off n o.s full∧v = .slc b (off+j) n' o.s full'∧xs.length=n'*o.s):St h0 h (objs.set k ⟨v,o.s,xs,false⟩):=by
 refine st.upd hk (dX _) (dX _) rfl ?_;intro F hmu hge;refine⟨F,?_,.inl rfl,fun _ _ _=>rfl,fun _ _ _=>rfl⟩
 cases F with
 | none=>
  obtain⟨h1,h2⟩:=hmu;rcases hv with ⟨rfl,_⟩|⟨b,off,n,n',full,full',h3,h4,h5⟩
  rw[h2] at hpart;simp at hpart;exact⟨rfl,hpart⟩;rw[h1] at h3; cases h3
 | some F=>
  rcases hmu with ⟨b,off,p,cs,f,hlo,hview,hget,hfam,hsee,hp,htip⟩|⟨b,x,f,_,hx,_⟩
  rotate_left
  rcases hv with ⟨_,hov⟩|⟨b',off',n,n',full,full',h3,_⟩
  rw[hx] at hov; exact(Thing.at_nils hov).elim;rw[hx] at h3; exact(Thing.at_slc h3).elim;rcases hv with ⟨rfl,hov⟩|⟨b',off',n,n',full,full',h3,h4,h5⟩
  rw[hov] at hview;rcases hview with ⟨_,_,h1,_⟩|⟨_,h1⟩ <;> cases h1
  rw[h3] at hview;rcases hview with ⟨n2,full2,h6,h7,h8⟩|⟨_,h1⟩
  cases h6;subst h4;refine .inl ⟨b,off+j,p,cs,f,hlo,.inl ⟨n',full',rfl,h5,h8⟩,hget,hfam,hsee,?_,nofun⟩;apply dZ;intro i;have e1:=congrArg (fun l=>l[i]?) hpart;have e2:=congrArg (fun l=>l[j+i]?) hp;simp only[fO,fU] at e1 e2⊢;by_cases hi:i<xs.length;rw[if_pos hi] at e1⊢;by_cases hji:j+i<o.xs.length;rw[if_pos hji] at e2;rw[←e1,←e2]; congr 1; omega;rw[dV (l:=o.xs) aA] at e1;rw[dO hi] at e1; cases e1;rw[if_neg hi,dV aA];cases h1
end Go.Am
namespace Go.Am
class Nth (l:List AV) (i:Nat) (v:outParam AV):Prop where
  eq:l[i]? = some v
instance (v:AV) (l:List AV):Nth (v::l) 0 v:=⟨rfl⟩
instance (x v:AV) (l:List AV) (i:Nat) [h:Nth l i v]:Nth (x::l) (i+1) v:=⟨by simpa using h.eq⟩
class EvKs (globs:List Nat) (n:Nat) (K:KF) (l:List Operand) (vs:outParam (List AV)):Prop where
  eq:l.map (KK globs n K)=vs
instance (globs:List Nat) (n:Nat) (K:KF):EvKs globs n K [] []:=⟨rfl⟩
instance (globs:List Nat) (n:Nat) (K:KF) (x:Operand) (l:List Operand) (v:AV) (vs:List AV) [h:EvK globs n K x v] [hs:EvKs globs n K l vs]:EvKs globs n K (x::l) (v::vs):=⟨by simp[h.eq,hs.eq]⟩
class EvKp (globs:List Nat) (n:Nat) (K:KF) (l:List (Nat × Operand)) (vs:outParam (List AV)):Prop where
  eq:l.map (fun p=>KK globs n K p.2)=vs
instance (globs:List Nat) (n:Nat) (K:KF):EvKp globs n K [] []:=⟨rfl⟩
instance (globs:List Nat) (n:Nat) (K:KF) (i:Nat) (x:Operand) (l:List (Nat × Operand)) (v:AV) (vs:List AV) [h:EvK globs n K x v] [hs:EvKp globs n K l vs]:EvKp globs n K ((i,x)::l) (v::vs):=⟨by simp[h.eq,hs.eq]⟩
class IntT (P:Program) (t:TypeId) (k:outParam IntKind):Prop where
  eq:Vn P t=some k
  und:(P.underlying t).isSome=true
section
variable {P:Program} {n:Nat} {ops:Array Oper} {ex:List Nat} {Q:KF→AHeap→Prop} {k:Nat} {os:List Oper} {K:KF} {h:AHeap} {d:Nat} {ty:TypeId} {pos:String} {after:Array Edge}
theorem Og (hq:Q K h):KOps P n ops ex Q k [] K h:=⟨K,rfl,hq⟩
theorem QZ {op : Op} {v : AV} {h' : AHeap} (hs : SemStep P (KK h.globs n K) ⟨some d, op, ty, pos, after, none⟩ h v h') (hx : ex.contains k = true → WFH h → HExt h h') (hk : KOps P n ops ex Q (k + 1) os ((d, v) :: K) h') :
    KOps P n ops ex Q k (⟨some d,op,ty,pos,after,none⟩::os) K h:=by
 refine⟨v,h',?_,hx,?_⟩;rw[ZY]; exact .inl hs;simp only[setF,ZB]; exact hk
theorem KOps.step0 {op : Op} {v : AV} {h' : AHeap} (hs : SemStep P (KK h.globs n K) ⟨none, op, ty, pos, after, none⟩ h v h') (hx : ex.contains k = true → WFH h → HExt h h') (hk : KOps P n ops ex Q (k + 1) os K h') :
    KOps P n ops ex Q k (⟨none,op,ty,pos,after,none⟩::os) K h:=by
 refine⟨v,h',?_,hx,?_⟩;rw[ZY]; exact .inl hs;simp only[setF]; exact hk
theorem Zv {op : Op} {v : AV} {h' : AHeap} (hs : StepS P (KK h.globs n K) ⟨some d, op, ty, pos, after, none⟩ h v h') (hk : KOps P n ops TXT Q (k + 1) os ((d, v) :: K) h') (hlt : fR k 1000000 = false := by rfl) :
    KOps P n ops TXT Q k (⟨some d,op,ty,pos,after,none⟩::os) K h:=by
 refine⟨v,h',?_,?_,?_⟩;rw[ZY]; exact .inr ⟨rfl,hs⟩;intro hc;have:k=1000000:=by simpa using hc
 subst this;cases hlt;simp only[setF,ZB]; exact hk
theorem KOps.guard {dst : Option Tmp} {op : Op} {j dj : Nat} {oj : Oper} {want b : Bool} (ho : ops[j]? = some oj) (hd : oj.dst = some dj) [hv : EvK h.globs n K (.tmp dj) (.bool b)]
    (hyes:b=want→KOps P n ops ex Q k (⟨dst,op,ty,pos,after,none⟩::os) K h) (hno:b≠want→KOps P n ops ex Q (k+1) os (match dst with|some d=>(d,.tup [])::K|none=>K) h) :
    KOps P n ops ex Q k (⟨dst,op,ty,pos,after,some (j,want)⟩::os) K h:=by
 refine⟨some b,?_,?_,?_⟩;have:=hv.eq;simp only[KK] at this;simp only[guardA,ho,dP,hd,QP,this];intro hb;cases hb;exact hyes rfl
 ·intro hb;have:=hno (fun he=>hb (by rw[he]))
  cases dst with
  | none=>exact this
  | some d=>simp only[setF,ZB]; exact this
theorem Qy {dst : Option Tmp} {op : Op} {j dj : Nat} {oj : Oper} {want : Bool} {l : List AV} (ho : ops[j]? = some oj) (hd : oj.dst = some dj) [hv : EvK h.globs n K (.tmp dj) (.tup l)]
    (hno:KOps P n ops ex Q (k+1) os (match dst with|some d=>(d,.tup [])::K|none=>K) h):KOps P n ops ex Q k (⟨dst,op,ty,pos,after,some (j,want)⟩::os) K h:=by
 refine⟨none,?_,nofun,?_⟩;have:=hv.eq;simp only[KK] at this;simp only[guardA,ho,dP,hd,QP,this]
 ·intro _
  cases dst with
  | none=>exact hno
  | some d=>simp only[setF,ZB]; exact hno
theorem O9 {op:Op} {v:AV} (hc:clsOf op = .pure) (hv:apure P (KK h.globs n K) op=some v) (hk:KOps P n ops ex Q (k+1) os ((d,v)::K) h):KOps P n ops ex Q k (⟨some d,op,ty,pos,after,none⟩::os) K h:=by
 refine QZ (v:=v) (h':=h) ?_ (fun _ _=>HExt.refl h) hk;unfold SemStep;rw[hc];exact⟨hv,rfl⟩
theorem KOps.read {op:Op} {v:AV} (hc:clsOf op = .read) (hv:areadR P h (KK h.globs n K) op=some v) (hk:KOps P n ops ex Q (k+1) os ((d,v)::K) h):KOps P n ops ex Q k (⟨some d,op,ty,pos,after,none⟩::os) K h:=by
 refine QZ (v:=v) (h':=h) ?_ (fun _ _=>HExt.refl h) hk;unfold SemStep;rw[hc];exact⟨ReadS.of hv,rfl⟩
theorem KOps.readS {op:Op} {v:AV} (hc:clsOf op = .read) (hv:ReadS P (KK h.globs n K) ⟨some d,op,ty,pos,after,none⟩ h v) (hk:KOps P n ops ex Q (k+1) os ((d,v)::K) h):KOps P n ops ex Q k (⟨some d,op,ty,pos,after,none⟩::os) K h:=by
 refine QZ (v:=v) (h':=h) ?_ (fun _ _=>HExt.refl h) hk;unfold SemStep;simp only[hc];exact⟨hv,trivial⟩
theorem Oe {x:Operand} {v:AV} [hx:EvK h.globs n K x v] (hk:KOps P n ops ex Q (k+1) os ((d,v)::K) h):KOps P n ops ex Q k (⟨some d,.move x,ty,pos,after,none⟩::os) K h:=O9 rfl (congrArg some hx.eq) hk
theorem Oq {x:Operand} {v:AV} [hx:EvK h.globs n K x v] (hk:KOps P n ops ex Q (k+1) os ((d,v)::K) h):KOps P n ops ex Q k (⟨some d,.assign x,ty,pos,after,none⟩::os) K h:=O9 rfl (congrArg some hx.eq) hk
theorem O1 {c x y:Operand} {v:AV} [hc:EvK h.globs n K c (.bool true)] [hx:EvK h.globs n K x v] (hk:KOps P n ops ex Q (k+1) os ((d,v)::K) h):KOps P n ops ex Q k (⟨some d,.pick c x y,ty,pos,after,none⟩::os) K h:=
  O9 rfl (by simp only[apure,hc.eq,hx.eq,if_true]) hk
theorem OB {c x y:Operand} {v:AV} [hc:EvK h.globs n K c (.bool false)] [hx:EvK h.globs n K y v] (hk:KOps P n ops ex Q (k+1) os ((d,v)::K) h):KOps P n ops ex Q k (⟨some d,.pick c x y,ty,pos,after,none⟩::os) K h:=
  O9 rfl (by simp only[apure,hc.eq,hx.eq,Bool.false_eq_true,if_false]) hk
theorem K8 {op : BinOp} {t t' : TypeId} {x y : Operand} {kd kd' : IntKind} {a b : Int} {v : AV} [hx : EvK h.globs n K x (.int kd a)] [hy : EvK h.globs n K y (.int kd' b)] (hs : op = .shl ∨ op = .shr ∨ kd = kd') (hv : Xi op kd a b = some v)
    (hk:KOps P n ops ex Q (k+1) os ((d,v)::K) h):KOps P n ops ex Q k (⟨some d,.binOp op t x y t',ty,pos,after,none⟩::os) K h:=
  O9 rfl (by simp only[apure,hx.eq,hy.eq,ZG]; rw[if_pos hs]; exact hv) hk
theorem wrap64 {a:Int} (h1 : -9223372036854775808≤a) (h2:a≤9223372036854775807):IntKind.i64.wrap a=a:=by
 unfold IntKind.wrap;simp only[IntKind.bits,IntKind.signed,Bool.true_and,ge_iff_le,decide_eq_true_eq];have e1:(2:Int) ^ 64=18446744073709551616:=by decide
 have e2:(2:Int) ^ (64 - 1)=9223372036854775808:=by decide
 rw[e1,e2];split <;> omega
theorem Kx {t t' : TypeId} {x y : Operand} {a b : Int} [hx : EvK h.globs n K x (.int .i64 a)] [hy : EvK h.globs n K y (.int .i64 b)] (h1 : -9223372036854775808 ≤ a + b) (h2 : a + b ≤ 9223372036854775807)
    (hk:KOps P n ops ex Q (k+1) os ((d,.int .i64 (a+b))::K) h):KOps P n ops ex Q k (⟨some d,.binOp .add t x y t',ty,pos,after,none⟩::os) K h:=
  K8 (.inr (.inr rfl)) (by simp only[Xi,wrap64 h1 h2]) hk
theorem KOps.sub {t t' : TypeId} {x y : Operand} {a b : Int} [hx : EvK h.globs n K x (.int .i64 a)] [hy : EvK h.globs n K y (.int .i64 b)] (h1 : -9223372036854775808 ≤ a - b) (h2 : a - b ≤ 9223372036854775807)
    (hk:KOps P n ops ex Q (k+1) os ((d,.int .i64 (a - b))::K) h):KOps P n ops ex Q k (⟨some d,.binOp .sub t x y t',ty,pos,after,none⟩::os) K h:=
  K8 (.inr (.inr rfl)) (by simp only[Xi,wrap64 h1 h2]) hk
theorem KOps.mul {t t' : TypeId} {x y : Operand} {a b : Int} [hx : EvK h.globs n K x (.int .i64 a)] [hy : EvK h.globs n K y (.int .i64 b)] (h1 : -9223372036854775808 ≤ a * b) (h2 : a * b ≤ 9223372036854775807)
    (hk:KOps P n ops ex Q (k+1) os ((d,.int .i64 (a*b))::K) h):KOps P n ops ex Q k (⟨some d,.binOp .mul t x y t',ty,pos,after,none⟩::os) K h:=
  K8 (.inr (.inr rfl)) (by simp only[Xi,wrap64 h1 h2]) hk
theorem Qq {t t':TypeId} {x y:Operand} {kd:IntKind} {a b:Int} [hx:EvK h.globs n K x (.int kd a)] [hy:EvK h.globs n K y (.int kd b)] (hk:KOps P n ops ex Q (k+1) os ((d,.bool (decide (a<b)))::K) h):KOps P n ops ex Q k (⟨some d,.binOp .lss t x y t',ty,pos,after,none⟩::os) K h:=
  K8 (.inr (.inr rfl)) rfl hk
theorem KOps.leq {t t':TypeId} {x y:Operand} {kd:IntKind} {a b:Int} [hx:EvK h.globs n K x (.int kd a)] [hy:EvK h.globs n K y (.int kd b)] (hk:KOps P n ops ex Q (k+1) os ((d,.bool (decide (a≤b)))::K) h):KOps P n ops ex Q k (⟨some d,.binOp .leq t x y t',ty,pos,after,none⟩::os) K h:=
  K8 (.inr (.inr rfl)) rfl hk
theorem Zy {t t':TypeId} {x y:Operand} {kd:IntKind} {a b:Int} [hx:EvK h.globs n K x (.int kd a)] [hy:EvK h.globs n K y (.int kd b)] (hk:KOps P n ops ex Q (k+1) os ((d,.bool (decide (b<a)))::K) h):KOps P n ops ex Q k (⟨some d,.binOp .gtr t x y t',ty,pos,after,none⟩::os) K h:=
  K8 (.inr (.inr rfl)) rfl hk
theorem KOps.geq {t t':TypeId} {x y:Operand} {kd:IntKind} {a b:Int} [hx:EvK h.globs n K x (.int kd a)] [hy:EvK h.globs n K y (.int kd b)] (hk:KOps P n ops ex Q (k+1) os ((d,.bool (decide (b≤a)))::K) h):KOps P n ops ex Q k (⟨some d,.binOp .geq t x y t',ty,pos,after,none⟩::os) K h:=
  K8 (.inr (.inr rfl)) rfl hk
theorem Ku {t t':TypeId} {x y:Operand} {kd:IntKind} {a b:Int} [hx:EvK h.globs n K x (.int kd a)] [hy:EvK h.globs n K y (.int kd b)] (hk:KOps P n ops ex Q (k+1) os ((d,.bool (decide (a=b)))::K) h):KOps P n ops ex Q k (⟨some d,.binOp .eql t x y t',ty,pos,after,none⟩::os) K h:=
  K8 (.inr (.inr rfl)) rfl hk
theorem KOps.neq {t t':TypeId} {x y:Operand} {kd:IntKind} {a b:Int} [hx:EvK h.globs n K x (.int kd a)] [hy:EvK h.globs n K y (.int kd b)] (hk:KOps P n ops ex Q (k+1) os ((d,.bool (!decide (a=b)))::K) h):KOps P n ops ex Q k (⟨some d,.binOp .neq t x y t',ty,pos,after,none⟩::os) K h:=
  K8 (.inr (.inr rfl)) rfl hk
theorem KOps.not {t:TypeId} {x:Operand} {b:Bool} [hx:EvK h.globs n K x (.bool b)] (hk:KOps P n ops ex Q (k+1) os ((d,.bool (!b))::K) h):KOps P n ops ex Q k (⟨some d,.unOp .not t x,ty,pos,after,none⟩::os) K h:=
  O9 rfl (by simp only[apure,hx.eq,aun]) hk
theorem KOps.convert {src dst : TypeId} {x : Operand} {kd kd' : IntKind} {a : Int} [hx : EvK h.globs n K x (.int kd a)] [hs : IntT P src kd] [hd : IntT P dst kd'] (hk : KOps P n ops ex Q (k + 1) os ((d, .int kd' (kd'.wrap a)) :: K) h) :
    KOps P n ops ex Q k (⟨some d,.convert src dst x,ty,pos,after,none⟩::os) K h:=
  O9 rfl (by simp only[apure,hx.eq,hs.und,hd.eq,if_true,fJ]) hk
theorem KOps.max {x y : Operand} {tys : Array TypeId} {kd kd' : IntKind} {a b : Int} [hx : EvK h.globs n K x (.int kd a)] [hy : EvK h.globs n K y (.int kd' b)] (hk : KOps P n ops ex Q (k + 1) os ((d, .int kd (Max.max a b)) :: K) h) :
    KOps P n ops ex Q k (⟨some d,.call {callee:=.builtin .max,args:=#[x,y],argTypes:=tys},ty,pos,after,none⟩::os) K h:=
  O9 rfl (by simp only[apure,hx.eq,hy.eq,QL,if_true]; congr 2; omega) hk
theorem KOps.min {x y : Operand} {tys : Array TypeId} {kd kd' : IntKind} {a b : Int} [hx : EvK h.globs n K x (.int kd a)] [hy : EvK h.globs n K y (.int kd' b)] (hk : KOps P n ops ex Q (k + 1) os ((d, .int kd (Min.min a b)) :: K) h) :
    KOps P n ops ex Q k (⟨some d,.call {callee:=.builtin .min,args:=#[x,y],argTypes:=tys},ty,pos,after,none⟩::os) K h:=
  O9 rfl (by simp only[apure,hx.eq,hy.eq,QL,Bool.false_eq_true,if_false]; congr 2; omega) hk
theorem OG {x:Operand} {i:Nat} {l:List AV} {v:AV} [hx:EvK h.globs n K x (.tup l)] [hi:Nth l i v] (hk:KOps P n ops ex Q (k+1) os ((d,v)::K) h):KOps P n ops ex Q k (⟨some d,.extract x i,ty,pos,after,none⟩::os) K h:=
  O9 rfl (by simp only[apure,hx.eq,hi.eq]) hk
theorem Qb {f:FuncId} {l:List Operand} {vs:List AV} [hl:EvKs h.globs n K l vs] (hk:KOps P n ops ex Q (k+1) os ((d,.fn f vs)::K) h):KOps P n ops ex Q k (⟨some d,.makeFunc (.func f) #[] (gO l),ty,pos,after,none⟩::os) K h:=
  O9 rfl (by simp[apure,hl.eq]) hk
theorem KOps.nilCheckP {x:Operand} {p v:AV} {s j:Nat} [hx:EvK h.globs n K x p] (ha:AddrOf p v s j) (hk:KOps P n ops ex Q (k+1) os ((d,p)::K) h):KOps P n ops ex Q k (⟨some d,.nilCheck x,ty,pos,after,none⟩::os) K h:=
  O9 rfl (by obtain⟨b,o,_,rfl⟩:=ha; simp only[apure,hx.eq]) hk
theorem KOps.len {x : Operand} {v : AV} {t e : TypeId} {s m : Nat} {xs zs : List AV} [hx : EvK h.globs n K x v] [ht : SlT P t e s zs] (hr : Rd h v s xs) (hm : xs.length = m * s) (hk : KOps P n ops ex Q (k + 1) os ((d, .int .i64 m) :: K) h) :
    KOps P n ops ex Q k (⟨some d,.call {callee:=.builtin .len,args:=#[x],argTypes:=#[t]},ty,pos,after,none⟩::os) K h:=
  O9 rfl (by simp only[apure,hx.eq]; exact hr.len (e:=e) (zs:=zs) hm) hk
theorem KOps.indexAddr {x ix : Operand} {v : AV} {t e : TypeId} {s m : Nat} {xs zs : List AV} {kd : IntKind} {i : Int} [hx : EvK h.globs n K x v] [hi : EvK h.globs n K ix (.int kd i)] [ht : SlT P t e s zs] (hr : Rd h v s xs) (hm : xs.length = m * s) (h0 : 0 ≤ i) (hlt : i < m)
    (hk:∀ p,AddrOf p v s (i.toNat*s)→KOps P n ops ex Q (k+1) os ((d,p)::K) h):KOps P n ops ex Q k (⟨some d,.indexAddr t x ix,ty,pos,after,none⟩::os) K h:=by
 obtain⟨p,hp,ha⟩:=hr.index (P:=P) (t:=t) (e:=e) (zs:=zs) (k:=kd) hm h0 hlt;exact O9 rfl (by simp only[apure,hx.eq,hi.eq]; exact hp) (hk p ha)
theorem Of {x : Operand} {p v y : AV} {t : TypeId} {s j : Nat} {xs : List AV} [hx : EvK h.globs n K x p] [ht : ScT P t] (ha : AddrOf p v s j) (hr : Rd h v s xs) (hy : xs[j]? = some y) (hk : KOps P n ops ex Q (k + 1) os ((d, y) :: K) h) :
    KOps P n ops ex Q k (⟨some d,.load t x,ty,pos,after,none⟩::os) K h:=
  KOps.read rfl (by simp only[areadR,hx.eq]; exact hr.load ha hy) hk
theorem KOps.loadAgg {x : Operand} {p v : AV} {t : TypeId} {s j z : Nat} {xs : List AV} [hx : EvK h.globs n K x p] [ht : AgT P t z] (ha : AddrOf p v s j) (hr : Rd h v s xs) (hz : 0 < z) (hj : j + z ≤ xs.length) (hk : KOps P n ops ex Q (k + 1) os ((d, .agg ((xs.drop j).take z)) :: K) h) :
    KOps P n ops ex Q k (⟨some d,.load t x,ty,pos,after,none⟩::os) K h:=
  KOps.read rfl (by simp only[areadR,hx.eq]; exact hr.loadAgg ha hz hj) hk
theorem KOps.chain {op : Op} {v : AV} {h' : AHeap} {kill : Bool} (hc : clsOf op = .chain) (hv : Zo P kill h (KK h.globs n K) op = some (v, h')) (hx : ex.contains k = true → WFH h → HExt h h') (hk : KOps P n ops ex Q (k + 1) os ((d, v) :: K) h') :
    KOps P n ops ex Q k (⟨some d,op,ty,pos,after,none⟩::os) K h:=by
 refine QZ (v:=v) (h':=h') ?_ hx hk;unfold SemStep;rw[show clsOf (Oper.mk _ op ty pos after none).op = .chain from hc];exact VW hv
theorem KOps.chain0 {op : Op} {v : AV} {h' : AHeap} {kill : Bool} (hc : clsOf op = .chain) (hv : Zo P kill h (KK h.globs n K) op = some (v, h')) (hx : ex.contains k = true → WFH h → HExt h h') (hk : KOps P n ops ex Q (k + 1) os K h') :
    KOps P n ops ex Q k (⟨none,op,ty,pos,after,none⟩::os) K h:=by
 refine KOps.step0 (v:=v) (h':=h') ?_ hx hk;unfold SemStep;rw[show clsOf (Oper.mk _ op ty pos after none).op = .chain from hc];exact VW hv
theorem Oo {f : FuncId} {g : Operand} {caps : List AV} {l : List Operand} {vs : List AV} {tys : Array TypeId} {R : AV → AHeap → Prop} [hg : EvK h.globs n K g (.fn f caps)] [hl : EvKs h.globs n K l vs] (hx : ex.contains k = false)
    (hc:ACalls P f (vs ++ caps) h R) (hk:∀ r h',R r h'→KOps P n ops ex Q (k+1) os ((d,r)::K) h'):KOps P n ops ex Q k (⟨some d,.call {callee:=.value g,args:=gO l,argTypes:=tys},ty,pos,after,none⟩::os) K h:=by
 obtain⟨r,h',hev,hR⟩:=hc;refine QZ (v:=r) (h':=h') ?_ (fun hc=>by rw[hx] at hc; cases hc) (hk r h' hR);refine Ev.step (g:=g) (args:=gO l) (tys:=tys) rfl hg.eq ?_;rw[List.toList_toArray,hl.eq];exact hev
end
end Go.Am
namespace Go.Am
theorem AV.cells_one {v:AV} (h:v.one=true):v.cells? = some [v]:=by cases v <;> simp[AV.one,AV.cells?] at h⊢
theorem partsA_one:∀ (l:List AV),l.all AV.one=true→YO 1 l=some l:=by
 intro l
 induction l with
 | nil=>intro _; rfl
 | cons v l ih=>
  intro h;simp only[List.all_cons,Bool.and_eq_true] at h;simp[YO,AV.cells_one h.1,ih h.2]
theorem JA {α:Type} (xs:List α) (j:Nat) (v : α) (hj:j<xs.length):putL xs j [v]=xs.set j v:=by
 apply dZ;intro i;rw[QU _ _ _ bG,fI];by_cases hi:j=i;subst hi; simp[hj];rw[if_neg hi,if_neg aY]
class ZeT (P:Program) (t:TypeId) (zs:outParam (List AV)):Prop where
  eq:((Qf P t).bind AV.cells?)=some zs
def PartOf (r v:AV) (s lo hi:Nat):Prop:=(r = .nils∧v = .nils∧lo=0∧hi=0)∨∃ b off n full full',v = .slc b off n s full∧r = .slc b (off+lo*s) (hi - lo) s full'∧hi≤n
theorem Rd.slice {P : Program} {h : AHeap} {v : AV} {s m lo hi : Nat} {xs : List AV} {t e : TypeId} {zs : List AV} [ht : SlT P t e s zs] (hr : Rd h v s xs) (hm : xs.length = m * s) {l u x : Option AV} {z : Option Nat} (hb : Z5 m l u x = some (lo, hi, z)) (hlo : lo ≤ hi) (hhi : hi ≤ m) :
    ∃ r,Ve P t v l u x=some r∧PartOf r v s lo hi:=by
 rcases hr with ⟨rfl,rfl⟩|⟨b,o,F,q,cs,h1,h2,h3,h4⟩|⟨_,_,_,_,h0,_⟩
 rotate_right
 have:=ht.pos; omega;have:m=0:=by
  have hp:=ht.pos;simp only[fK] at hm;rcases fT.1 hm.symm with h0|h0 <;> omega
 subst this;refine⟨.nils,by simp only[Ve,ht.elem,ht.sz,dS,dP,hb],.inl ⟨rfl,rfl,by omega,by omega⟩⟩;rcases h1 with ⟨n,full,rfl,hn,hs⟩|⟨h0,_⟩
 have:n=m:=fA ht.pos (hn.symm.trans hm);subst this;exact⟨.slc b (o+lo*s) (hi - lo) s (YU n hi full z),by simp only[Ve,ht.elem,ht.sz,dS,dP,hb,if_true],.inr ⟨b,o,n,full,_,rfl,rfl,hhi⟩⟩;have:=ht.pos; omega
theorem St.slice {h0 h : AHeap} {objs : List Obj} (st : St h0 h objs) {k : Nat} {o : Obj} (hk : objs[k]? = some o) {r : AV} {m lo hi : Nat} (hm : o.xs.length = m * o.s) (hp : PartOf r o.v o.s lo hi) (hlo : lo ≤ hi) (hhi : hi ≤ m) :
    St h0 h (objs.set k ⟨r,o.s,(o.xs.drop (lo*o.s)).take ((hi - lo)*o.s),false⟩):=by
 have hle:hi*o.s≤m*o.s:=Nat.mul_le_mul_right _ hhi;have hsub:lo*o.s+(hi - lo)*o.s=hi*o.s:=by rw[←fH]; congr 1; omega
 have hlen:((o.xs.drop (lo*o.s)).take ((hi - lo)*o.s)).length=(hi - lo)*o.s:=by
  rw[gT,gV]; omega
 refine st.part hk (j:=lo*o.s) (by rw[hlen]) ?_;rcases hp with ⟨rfl,h2,rfl,rfl⟩|⟨b,off,n,full,full',h1,rfl,hn⟩
 exact .inl ⟨rfl,h2⟩;exact .inr ⟨b,off,n,_,full,full',h1,rfl,hlen⟩
section
variable {P:Program} {n:Nat} {ops:Array Oper} {ex:List Nat} {Q:KF→AHeap→Prop} {k:Nat} {os:List Oper} {K:KF} {h h0:AHeap} {d:Nat} {ty:TypeId} {pos:String} {after:Array Edge} {objs:List Obj}
theorem KOps.sliceOp {x : Operand} {v : AV} {t e : TypeId} {s m lo hi : Nat} {xs zs : List AV} {l u y : Option Operand} {z : Option Nat} [hx : EvK h.globs n K x v] [ht : SlT P t e s zs] (hr : Rd h v s xs) (hm : xs.length = m * s)
    (hb:Z5 m (l.map (KK h.globs n K)) (u.map (KK h.globs n K)) (y.map (KK h.globs n K))=some (lo,hi,z)) (hlo:lo≤hi) (hhi:hi≤m)
    (hk:∀ r,PartOf r v s lo hi→KOps P n ops ex Q (k+1) os ((d,r)::K) h):KOps P n ops ex Q k (⟨some d,.slice t x l u y,ty,pos,after,none⟩::os) K h:=by
 obtain⟨r,h1,h2⟩:=hr.slice (P:=P) (t:=t) (e:=e) (zs:=zs) hm hb hlo hhi;refine KOps.read rfl ?_ (hk r h2);simp only[areadR,hx.eq];have hne:∀ b o,v≠.ptr b o:=by
  rintro b o rfl;rcases h2 with ⟨_,h2,_⟩|⟨_,_,_,_,_,h2,_⟩ <;> cases h2
 split;rename_i b o; exact absurd rfl (hne b o);exact h1
theorem KOps.sliceHi {x u : Operand} {v : AV} {t e : TypeId} {s m : Nat} {xs zs : List AV} {ku : IntKind} {i : Int} [hx : EvK h.globs n K x v] [hu : EvK h.globs n K u (.int ku i)] [ht : SlT P t e s zs] (hr : Rd h v s xs) (hm : xs.length = m * s) (h1 : 0 ≤ i) (h2 : i ≤ m)
    (hk:∀ r,PartOf r v s 0 i.toNat→KOps P n ops ex Q (k+1) os ((d,r)::K) h):KOps P n ops ex Q k (⟨some d,.slice t x none (some u) none,ty,pos,after,none⟩::os) K h:=by
 refine KOps.sliceOp (e:=e) (zs:=zs) hr hm (lo:=0) (hi:=i.toNat) (z:=none) ?_ aA aA hk;simp[Z5,hu.eq,QK,h1,h2]
theorem KOps.sliceLo {x u : Operand} {v : AV} {t e : TypeId} {s m : Nat} {xs zs : List AV} {ku : IntKind} {i : Int} [hx : EvK h.globs n K x v] [hu : EvK h.globs n K u (.int ku i)] [ht : SlT P t e s zs] (hr : Rd h v s xs) (hm : xs.length = m * s) (h1 : 0 ≤ i) (h2 : i ≤ m)
    (hk:∀ r,PartOf r v s i.toNat m→KOps P n ops ex Q (k+1) os ((d,r)::K) h):KOps P n ops ex Q k (⟨some d,.slice t x (some u) none none,ty,pos,after,none⟩::os) K h:=by
 refine KOps.sliceOp (e:=e) (zs:=zs) hr hm (lo:=i.toNat) (hi:=m) (z:=none) ?_ aA (dX _) hk;simp[Z5,hu.eq,QK,h1,h2]
theorem KOps.allo {op:Op} {mk:Mk} {cs:List AV} (hc:clsOf op = .allo) (hv:aallo P (KK h.globs n K) op=some (mk,cs)) (hk:KOps P n ops ex Q (k+1) os ((d,mk.val h.next)::K) (h.alloc cs)):KOps P n ops ex Q k (⟨some d,op,ty,pos,after,none⟩::os) K h:=by
 refine QZ (v:=mk.val h.next) (h':=h.alloc cs) ?_ (fun _ hw=>(QH h cs).hext hw) hk;unfold SemStep;rw[show clsOf (Oper.mk (some d) op ty pos after none).op = .allo from hc];exact⟨mk,cs,hv,rfl,rfl⟩
theorem OL {t e : TypeId} {len : Nat} {l : List (Nat × Operand)} {vs zs : List AV} [ht : SlT P t e 1 zs] [hl : EvKp h.globs n K l vs] (st : St h0 h objs) (hr : l.map (·.1) = gH len) (hlen : len ≤ 1000000) (h1 : vs.all AV.one = true)
    (hk:∀ v h',St h0 h' (⟨v,1,vs,true⟩::objs)→KOps P n ops ex Q (k+1) os ((d,v)::K) h'):KOps P n ops ex Q k (⟨some d,.buildSlice t len (gO l),ty,pos,after,none⟩::os) K h:=by
 have hvl:vs.length=len:=by rw[←hl.eq,gZ,←gZ (f:=(·.1)),hr,List.length_range]
 obtain⟨z,hz,_⟩:=dW.1 ht.zero;refine KOps.allo (mk:=.slc len 1 true) (cs:=vs) rfl ?_ (hk _ _ (st.alloc (.inl ⟨len,true,rfl,by simpa using hvl,by decide⟩)));simp only[aallo,ht.elem,ht.sz,hz,dS,dP];have:List.map (fun p:Nat × Operand=>KK h.globs n K p.snd) l=vs:=hl.eq;simp only[this,partsA_one vs h1,dP];rw[if_pos ⟨hr,by omega,by omega⟩]
theorem KOps.makeSlice {t e : TypeId} {x y : Operand} {z : AV} {kx ky : IntKind} {a b : Int} [hx : EvK h.globs n K x (.int kx a)] [hy : EvK h.globs n K y (.int ky b)] [ht : SlT P t e 1 [z]] (st : St h0 h objs) (ha : 0 ≤ a) (hab : a ≤ b) (hb : b ≤ 4294967296)
    (hk:∀ v h',St h0 h' (⟨v,1,fN a.toNat z,true⟩::objs)→KOps P n ops ex Q (k+1) os ((d,v)::K) h'):KOps P n ops ex Q k (⟨some d,.makeSlice t x y,ty,pos,after,none⟩::os) K h:=by
 obtain⟨z',hz,hzs⟩:=dW.1 ht.zero;obtain⟨i,hi,hib⟩:=ht.info;have hfl:(fN a.toNat [z]).flatten=fN a.toNat z:=by
  induction a.toNat with
  | zero=>rfl
  | succ q ih=>rw[List.replicate_succ,gA,ih]; rfl
 have hle:(i.bytes:Int)*b≤281474976710656:=by
  have h1:(i.bytes:Int)≤4096:=by omega
  calc (i.bytes : Int) * b ≤ 4096 * b := Int.mul_le_mul_of_nonneg_right h1 aA
    _≤281474976710656:=by omega
 refine KOps.allo (mk:=.slc a.toNat 1 (a == b)) (cs:=fN a.toNat z) rfl ?_ (hk _ _ (st.alloc (.inl ⟨a.toNat,_,rfl,by simp,by decide⟩)));simp only[aallo,hx.eq,hy.eq,ht.elem,ht.sz,hz,hzs,hi,dS,dP,hfl];rw[if_pos ⟨ha,hab,hle,by omega,rfl⟩]
theorem O6 {t:TypeId} {zs:List AV} [ht:ZeT P t zs] (st:St h0 h objs) (hk:∀ p h',AddrOf p p 0 0→St h0 h' (⟨p,0,zs,true⟩::objs)→KOps P n ops ex Q (k+1) os ((d,p)::K) h'):KOps P n ops ex Q k (⟨some d,.alloc t,ty,pos,after,none⟩::os) K h:=by
 obtain⟨z,hz,hzs⟩:=dW.1 ht.eq;refine KOps.allo (mk:=.ptr) (cs:=zs) rfl ?_ (hk _ _ ⟨h.next,0,.inr ⟨rfl,rfl⟩,rfl⟩ (st.alloc (.inr ⟨rfl,rfl⟩)));simp only[aallo,hz,hzs,dS,dP]
theorem KOps.box {t : TypeId} {x : Operand} {v : AV} {l : List AV} [hx : EvK h.globs n K x v] (st : St h0 h objs) (hl : v.cells? = some l) (hk : ∀ p h', AddrOf p p 0 0 → St h0 h' (⟨p, 0, l, true⟩ :: objs) → KOps P n ops ex Q (k + 1) os ((d, p) :: K) h') :
    KOps P n ops ex Q k (⟨some d,.box t x,ty,pos,after,none⟩::os) K h:=by
 refine KOps.allo (mk:=.ptr) (cs:=l) rfl ?_ (hk _ _ ⟨h.next,0,.inr ⟨rfl,rfl⟩,rfl⟩ (st.alloc (.inr ⟨rfl,rfl⟩)));simp only[aallo,hx.eq,hl,fJ]
theorem KR {t : TypeId} {x y : Operand} {p v : AV} {i j : Nat} {o : Obj} [hx : EvK h.globs n K x p] [hy : EvK h.globs n K y v] [ht : ScT P t] (st : St h0 h objs) (hex : ex.contains k = false) (hk' : objs[i]? = some o) (ha : AddrOf p o.v o.s j) (h1 : v.one = true) (hj : j < o.xs.length)
    (hk:∀ h',St h0 h' (objs.set i {o with xs:=o.xs.set j v})→KOps P n ops ex Q (k+1) os K h'):KOps P n ops ex Q k (⟨none,.store t x y,ty,pos,after,none⟩::os) K h:=by
 obtain⟨h',h2,h3⟩:=st.store (P:=P) (t:=t) hk' ha (AV.cells_one h1) ht.sz aK bG;rw[JA _ _ _ hj] at h3;refine KOps.chain0 (kill:=true) (v:=.tup []) rfl ?_ (fun hc=>by rw[hex] at hc; cases hc) (hk h' h3);simp only[Zo,hx.eq,hy.eq];exact h2
theorem KOps.storeAgg {t : TypeId} {x y : Operand} {p : AV} {l : List AV} {i j z : Nat} {o : Obj} [hx : EvK h.globs n K x p] [hy : EvK h.globs n K y (.agg l)] [ht : AgT P t z] (st : St h0 h objs) (hex : ex.contains k = false) (hk' : objs[i]? = some o) (ha : AddrOf p o.v o.s j) (h1 : l.all AV.one = true) (hl : l.length = z) (hz : 0 < z) (hj : j + z ≤ o.xs.length)
    (hk:∀ h',St h0 h' (objs.set i {o with xs:=putL o.xs j l})→KOps P n ops ex Q (k+1) os K h'):KOps P n ops ex Q k (⟨none,.store t x y,ty,pos,after,none⟩::os) K h:=by
 subst hl;obtain⟨h',h2,h3⟩:=st.store (P:=P) (t:=t) hk' ha (y:=.agg l) (l:=l) (by simp[AV.cells?]; simpa using h1) ht.sz hz hj;refine KOps.chain0 (kill:=true) (v:=.tup []) rfl ?_ (fun hc=>by rw[hex] at hc; cases hc) (hk h' h3);simp only[Zo,hx.eq,hy.eq];exact h2
theorem QV {t e : TypeId} {x y : Operand} {v u : AV} {s a b i : Nat} {xs ys zs : List AV} {tip : Bool} [hx : EvK h.globs n K x v] [hy : EvK h.globs n K y u] [ht : SlT P t e s zs] (st : St h0 h objs) (hex : ex.contains k = true → tip = true) (hk' : objs[i]? = some ⟨v, s, xs, tip⟩) (ha : xs.length = a * s)
    (hr:Rd h u s ys) (hb:ys.length=b*s) (h1:ys.all AV.one=true) (hsz:a+b≤4294967296) (hk:∀ r h',St h0 h' (objs.set i ⟨r,s,xs ++ ys,tip⟩)→KOps P n ops ex Q (k+1) os ((d,r)::K) h') :
    KOps P n ops ex Q k (⟨some d,.call {callee:=.builtin .append,args:=#[x,y],argTypes:=#[t,t]},ty,pos,after,none⟩::os) K h:=by
 obtain⟨r,h',h2,h3,h4⟩:=st.append (P:=P) (t:=t) (e:=e) (zs:=zs) hk' ha hr hb h1 hsz;refine KOps.chain (kill:=true) rfl ?_ (fun hc=>h4 (hex hc)) (hk r h' h3);simp only[Zo,hx.eq,hy.eq,if_true];exact h2
end
end Go.Am
namespace Go.Am
theorem SlT.of {P:Program} {t e:TypeId} {s:Nat} {zs:List AV} (h:(ZX P t,Q6 P t,szA P e,(Qf P e).bind AV.cells?,(P.info? e).map fun i=>fV i.bytes 4096)=(some e,true,some s,some zs,some true)) (hl:zs.length=s) (hp : 0<s):SlT P t e s zs:=by
 simp only[fX] at h;obtain⟨h1,h2,h3,h4,h5⟩:=h;refine⟨h1,h2,h3,h4,hl,hp,?_⟩;obtain⟨i,hi,hb⟩:=fF.1 h5;exact⟨i,hi,Nat.le_of_ble_eq_true hb⟩
theorem ScT.of {P:Program} {t:TypeId} (h:(Jf P t,szA P t)=(some false,some 1)):ScT P t:=by
 simp only[fX] at h;exact⟨h.1,h.2⟩
theorem AgT.of {P:Program} {t:TypeId} {s:Nat} (h:(Jf P t,szA P t)=(some true,some s)):AgT P t s:=by
 simp only[fX] at h;exact⟨h.1,h.2⟩
theorem IntT.of {P:Program} {t:TypeId} {k:IntKind} (h:(Vn P t,(P.underlying t).isSome)=(some k,true)):IntT P t k:=by
 simp only[fX] at h;exact⟨h.1,h.2⟩
end Go.Am
namespace Go.Am
abbrev ints (l:List Int):List AV:=l.map (AV.int .i64)
abbrev Row (h:AHeap) (v:AV) (l:List Int):Prop:=Rd h v 1 (ints l)
theorem Z4 {p:Prop} [Decidable p] (h:(!decide p)=false):p:=by simpa using h
theorem Zb {p:Prop} [Decidable p] (h:(!decide p)=true):¬ p:=by simpa using h
theorem Ty {n:Nat} {K:KF} {d:Nat} {v:AV} (h:look K d=v):KJ n ((d,v)::K)=KJ n K:=by
 simp only[KJ];congr 1;funext t;simp only[look]
 cases hb:fR d t with
 | false=>rfl
 | true=>have:=fG hb; subst this; exact h.symm
section
variable {P:Program} {n:Nat} {ops:Array Oper} {ex:List Nat} {Q:KF→AHeap→Prop} {k:Nat} {os:List Oper} {K:KF} {h h0:AHeap} {d:Nat} {ty:TypeId} {pos:String} {after:Array Edge} {objs:List Obj}
theorem KOps.more {v:AV} {d:Nat} (hl:look K d=v) (hk:KOps P n ops ex Q k os ((d,v)::K) h):KOps P n ops ex Q k os K h:=by
 unfold KOps at hk⊢;rw[Ty hl] at hk;exact hk
abbrev skipK (dst:Option Tmp) (K:KF):KF:=match dst with|some d=>(d,.tup [])::K|none=>K
theorem Ov {dst : Option Tmp} {op : Op} {j dj : Nat} {oj : Oper} {b : Bool} (ho : ops[j]? = some oj) (hd : oj.dst = some dj) [hv : EvK h.globs n K (.tmp dj) (.bool b)] [hl : Look K dj (.bool b)]
    (want:Bool) (nw:Bool) (hnw:nw = !want) (hyes:b=want→KOps P n ops ex Q k (⟨dst,op,ty,pos,after,none⟩::os) ((dj,.bool want)::K) h) (hno:b=nw→KOps P n ops ex Q (k+1) os (skipK dst ((dj,.bool nw)::K)) h) :
    KOps P n ops ex Q k (⟨dst,op,ty,pos,after,some (j,want)⟩::os) K h:=by
 subst hnw;have hm:∀ c,b=c→KJ n ((dj,.bool c)::K)=KJ n K:=fun c hc=>Ty (by rw[hl.eq,hc])
 refine KOps.guard (b:=b) ho hd ?_ ?_;intro hb;exact KOps.more (by rw[hl.eq,hb]) (hyes hb)
 ·intro hb;have hb':b = !want:=by cases b <;> cases want <;> simp_all
  have:=hno hb';unfold KOps at this⊢
  cases dst with
  | none=>simp only[skipK] at this; rw[hm _ hb'] at this; exact this
  | some d=>
   simp only[skipK] at this;rw[←ZB,hm _ hb',ZB] at this;exact this
theorem Oh {dst : Option Tmp} {op : Op} {j dj : Nat} {oj : Oper} {want : Bool} (ho : ops[j]? = some oj) (hd : oj.dst = some dj) [hv : EvK h.globs n K (.tmp dj) (.bool want)]
    (hyes:KOps P n ops ex Q k (⟨dst,op,ty,pos,after,none⟩::os) K h):KOps P n ops ex Q k (⟨dst,op,ty,pos,after,some (j,want)⟩::os) K h:=
  KOps.guard (b:=want) ho hd (fun _=>hyes) (fun hb=>absurd rfl hb)
theorem Om {dst : Option Tmp} {op : Op} {j dj : Nat} {oj : Oper} {b want : Bool} (ho : ops[j]? = some oj) (hd : oj.dst = some dj) [hv : EvK h.globs n K (.tmp dj) (.bool b)] (hb : b = !want)
    (hno:KOps P n ops ex Q (k+1) os (skipK dst K) h):KOps P n ops ex Q k (⟨dst,op,ty,pos,after,some (j,want)⟩::os) K h:=
  KOps.guard (b:=b) ho hd (fun he=>by rw[he] at hb; cases want <;> cases hb) (fun _=>by cases dst <;> exact hno)
theorem Kv {x : Operand} {v : AV} {t e : TypeId} {α : Type} {f : α → AV} {l : List α} {zs : List AV} [hx : EvK h.globs n K x v] [ht : SlT P t e 1 zs] (hr : Rd h v 1 (l.map f)) (hk : KOps P n ops ex Q (k + 1) os ((d, .int .i64 l.length) :: K) h) :
    KOps P n ops ex Q k (⟨some d,.call {callee:=.builtin .len,args:=#[x],argTypes:=#[t]},ty,pos,after,none⟩::os) K h:=
  KOps.len (e:=e) (zs:=zs) (m:=l.length) hr aK hk
theorem KOps.indexI {x ix : Operand} {v : AV} {t e : TypeId} {α : Type} {f : α → AV} {l : List α} {zs : List AV} {kd : IntKind} {i : Int} [hx : EvK h.globs n K x v] [hi : EvK h.globs n K ix (.int kd i)] [ht : SlT P t e 1 zs] (hr : Rd h v 1 (l.map f)) (h0 : 0 ≤ i) (hlt : i < l.length)
    (hk:∀ p,AddrOf p v 1 i.toNat→KOps P n ops ex Q (k+1) os ((d,p)::K) h):KOps P n ops ex Q k (⟨some d,.indexAddr t x ix,ty,pos,after,none⟩::os) K h:=
  KOps.indexAddr (e:=e) (zs:=zs) (m:=l.length) hr aK h0 hlt (fun p hp=>hk p aw)
theorem OS {x : Operand} {p v : AV} {t : TypeId} {j : Nat} {l : List Int} [hx : EvK h.globs n K x p] [ht : ScT P t] (ha : AddrOf p v 1 j) (hr : Rd h v 1 (ints l)) (hj : j < l.length) (hk : KOps P n ops ex Q (k + 1) os ((d, .int .i64 (l.getD j 0)) :: K) h) :
    KOps P n ops ex Q k (⟨some d,.load t x,ty,pos,after,none⟩::os) K h:=
  Of ha hr (by simp[ints,dT,dO hj,dY]) hk
end
section
variable {P:Program} {n:Nat} {Q:Ex→KF→AHeap→Prop} {K:KF} {h:AHeap}
theorem KW {x:Operand} {c d:Code} [hc:EvK h.globs n K x (.bool true)] (h1:KA P n c Q K h):KA P n (.cond x c d) Q K h:=KA.cond hc.eq (fun _=>h1) nofun
theorem OM {x:Operand} {c d:Code} [hc:EvK h.globs n K x (.bool false)] (h1:KA P n d Q K h):KA P n (.cond x c d) Q K h:=KA.cond hc.eq nofun (fun _=>h1)
theorem Kz {x:Operand} {c d:Code} {t:Bool} [hc:EvK h.globs n K x (.bool t)] (h1:t=true→KA P n c Q K h) (h2:t=false→KA P n d Q K h):KA P n (.cond x c d) Q K h:=KA.cond hc.eq h1 h2
theorem On {x:Operand} {c d:Code} {p:Prop} [Decidable p] [hc:EvK h.globs n K x (.bool (decide p))] (h1:p→KA P n c Q K h) (h2:¬ p→KA P n d Q K h):KA P n (.cond x c d) Q K h:=
  KA.cond hc.eq (fun hp=>h1 (of_decide_eq_true hp)) (fun hp=>h2 (of_decide_eq_false hp))
theorem Kk {x:Operand} {c d:Code} {p:Prop} [Decidable p] [hc:EvK h.globs n K x (.bool (!decide p))] (h1:¬ p→KA P n c Q K h) (h2:p→KA P n d Q K h):KA P n (.cond x c d) Q K h:=
  KA.cond hc.eq (fun hp=>h1 aw) (fun hp=>h2 aw)
theorem Ow {c:Code} {K':KF} (ts:List Nat) (hw:KA P n c Q K' h) (hk:Keep ts K K':=by repeat' (first|exact keepN|apply keepC)):KA P n c Q K h:=KA.sub hk.sub hw
theorem Ot {id:Nat} {ops:Array Oper} {d:Code} (hw:KOps P n ops TXT (sqQ P n d Q .normal) 0 ops.toList K h):KA P n (.seq (.region id ops false) d) Q K h:=Ou (Kc rfl hw)
theorem Oj {ops:Array Oper} {ex:List Nat} {k:Nat} {d:Code} {K':KF} (ts:List Nat) (hw:KA P n d Q K' h) (hk:Keep ts K K':=by repeat' (first|exact keepN|apply keepC)):KOps P n ops ex (sqQ P n d Q .normal) k [] K h:=Og (KA.sub hk.sub hw)
theorem OD {d:Code} {K':KF} (ts:List Nat) (hw:KA P n d Q K' h) (hk:Keep ts K K':=by repeat' (first|exact keepN|apply keepC)):KA P n .skip (sqQ P n d Q) K h:=OC (KA.sub (P:=P) hk.sub hw)
structure Carry (ts:List Nat) (p:Prop):Prop where
  hw:p
structure Hold (p:Prop):Prop where
  hw:p
theorem KOps.finC {P:Program} {n:Nat} {ops:Array Oper} {ex:List Nat} {Q:Ex→KF→AHeap→Prop} {k:Nat} {d:Code} {K K':KF} {h:AHeap} {ts:List Nat} (c:Carry ts (KA P n d Q K' h)) (hk:Keep ts K K':=by repeat' (first|exact keepN|apply keepC)):KOps P n ops ex (sqQ P n d Q .normal) k [] K h:=Og (KA.sub hk.sub c.hw)
theorem OI {X G:Prop} (hg:G) (hs:Hold G→X:=by intro hg; repeat' (first|refine Oe ?_|refine Oq ?_|refine Oh rfl rfl ?_|refine Om rfl rfl rfl ?_|refine OG ?_|refine Ot ?_|refine Ou ?_|refine Kc rfl ?_|exact hg.hw)):X:=hs ⟨hg⟩
theorem O0 {P:Program} {n:Nat} {d:Code} {Q:Ex→KF→AHeap→Prop} {K':KF} {h:AHeap} {X:Prop} (ts:List Nat) (hw:KA P n d Q K' h) (hs:Carry ts (KA P n d Q K' h)→X:=by intro hw; repeat' (first|refine Oe ?_|refine Oq ?_|refine Oh rfl rfl ?_|refine Om rfl rfl rfl ?_|refine OG ?_|refine Ot ?_|refine Ou ?_|refine Kc rfl ?_|exact KOps.finC hw)):X:=hs ⟨hw⟩
theorem Oc {X G:Prop} (hg:G) (hs:Hold G→X:=by intro hg; repeat' (first|refine Oe ?_|refine Oq ?_|refine Oh rfl rfl ?_|refine Om rfl rfl rfl ?_|refine OG ?_|refine Qq ?_|refine KOps.leq ?_|refine Zy ?_|refine KOps.geq ?_|refine KOps.lenW ?_|refine OB ?_|refine O1 ?_|refine KOps.not ?_|refine Kx aF aF ?_|refine KOps.sub aF aF ?_|refine KOps.neq ?_|refine Ku ?_|refine KOps.wEql ?_|refine KOps.wNeq ?_|refine Ot ?_|refine Ou ?_|refine Kc rfl ?_|exact hg.hw)):X:=hs ⟨hg⟩
theorem Oa {P:Program} {n:Nat} {d:Code} {Q:Ex→KF→AHeap→Prop} {K':KF} {h:AHeap} {X:Prop} (ts:List Nat) (hw:KA P n d Q K' h) (hs:Carry ts (KA P n d Q K' h)→X:=by intro hw; repeat' (first|refine Oe ?_|refine Oq ?_|refine Oh rfl rfl ?_|refine Om rfl rfl rfl ?_|refine OG ?_|refine Qq ?_|refine KOps.leq ?_|refine Zy ?_|refine KOps.geq ?_|refine KOps.lenW ?_|refine OB ?_|refine O1 ?_|refine KOps.not ?_|refine Kx aF aF ?_|refine KOps.sub aF aF ?_|refine KOps.neq ?_|refine Ku ?_|refine KOps.wEql ?_|refine KOps.wNeq ?_|refine Ot ?_|refine Ou ?_|refine Kc rfl ?_|exact KOps.finC hw)):X:=hs ⟨hw⟩
theorem Oi {X G:Prop} (hg:G) (hs:Hold G→X:=by intro hg; repeat' (first|refine Ke ?_|refine QF ?_|refine QC ?_|refine lpQ.ret ?_|refine Ko ?_|refine fnQ.retN ?_|exact hg.hw)):X:=hs ⟨hg⟩
theorem lpN {X:Type} {pat:X→KF} {I:X→AHeap→Prop} {m:X→Nat} {x:X} (y:X) (hI:I y h) (hm:m y<m x) (hs:Sub (pat y) K:=by repeat (first|exact Sub.nil _|refine Sub.cons Look.eq ?_|refine Sub.cons (Eq.trans Look.eq (congrArg (AV.int _) aO)) ?_)):lpQ pat I m x Q .normal K h:=Zx y hs hI hm
theorem Kd {c:Code} {X:Type} (pat:X→KF) (I:X→AHeap→Prop) (m:X→Nat) (x:X) (hI:I x h) (round:∀ x h,I x h→KA P n c (lpQ pat I m x Q) (pat x) h) (hs:Sub (pat x) K:=by repeat (first|exact Sub.nil _|refine Sub.cons Look.eq ?_|refine Sub.cons (Eq.trans Look.eq (congrArg (AV.int _) aO)) ?_)):KA P n (.loop c) Q K h:=KA.loop pat I m x hs hI round
end
theorem Row.ext {h0 h:AHeap} {v:AV} {l:List Int} (k:Keeps h0 h) (hv:Row h0 v l):Row h v l:=Rd.ext k hv
section
variable {P:Program} {n:Nat} {ops:Array Oper} {ex:List Nat} {Q:KF→AHeap→Prop} {k:Nat} {os:List Oper} {K:KF} {h:AHeap} {d:Nat} {ty:TypeId} {pos:String} {after:Array Edge}
theorem KOps.shr {t t':TypeId} {x y:Operand} {kd kd':IntKind} {a b:Int} [hx:EvK h.globs n K x (.int kd a)] [hy:EvK h.globs n K y (.int kd' b)] (h0 : 0≤b) (hk:KOps P n ops ex Q (k+1) os ((d,.int kd (a.fdiv (2 ^ Min.min b.toNat kd.bits)))::K) h):KOps P n ops ex Q k (⟨some d,.binOp .shr t x y t',ty,pos,after,none⟩::os) K h:=
  K8 (.inr (.inl rfl)) (by simp only[Xi]; rw[if_pos h0]) hk
theorem KOps.shl {t t':TypeId} {x y:Operand} {kd kd':IntKind} {a b:Int} [hx:EvK h.globs n K x (.int kd a)] [hy:EvK h.globs n K y (.int kd' b)] (h0 : 0≤b) (hk:KOps P n ops ex Q (k+1) os ((d,.int kd (kd.wrap (a*2 ^ Min.min b.toNat kd.bits)))::K) h):KOps P n ops ex Q k (⟨some d,.binOp .shl t x y t',ty,pos,after,none⟩::os) K h:=
  K8 (.inl rfl) (by simp only[Xi]; rw[if_pos h0]) hk
end
class ResL (n:Nat) (K:KF) (rs:List ResultVar) (vs:outParam (List AV)):Prop where
  eq:JB n K rs=some vs
instance (n:Nat) (K:KF):ResL n K [] []:=⟨rfl⟩
instance (n:Nat) (K:KF) (t:Nat) (rs:List ResultVar) (v:AV) (vs:List AV) [hb:Eqb (fV n t) false] [hl:Look K t v] [hr:ResL n K rs vs]:ResL n K (.tmp t::rs) (v::vs):=⟨by simp[JB,hb.eq,hl.eq,hr.eq]⟩
theorem Ko {n:Nat} {K:KF} {h:AHeap} {R:AV→AHeap→Prop} {rs:List ResultVar} {v:AV} [hr:ResL n K rs [v]] (hR:R v h):fnQ n rs R .ret K h:=fnQ.ret hr.eq hR
theorem fnQ.retN {n:Nat} {K:KF} {h:AHeap} {R:AV→AHeap→Prop} {rs:List ResultVar} {x y:AV} {l:List AV} [hr:ResL n K rs (x::y::l)] (hR:R (.tup (x::y::l)) h):fnQ n rs R .ret K h:=fnQ.ret hr.eq hR
theorem fnQ.ret0 {n:Nat} {K:KF} {h:AHeap} {R:AV→AHeap→Prop} (hR:R (.tup []) h):fnQ n [] R .ret K h:=fnQ.ret (l:=[]) rfl hR
theorem KH {n:Nat} {K:KF} {h:AHeap} {R:AV→AHeap→Prop} (hR:R (.tup []) h):fnQ n [] R .normal K h:=fnQ.normal (l:=[]) rfl hR
theorem OK {P : Program} {f : FuncId} {fn : Func} {c : Code} {args : List AV} {h : AHeap} {R : AV → AHeap → Prop} (n : Nat) (rs : List ResultVar) (hf : P.funcs[f]? = some fn) (hb : fn.body = some c) (hn : (fn.name == "runtime.NumGoroutine") = false)
    (h1:fn.ntmps=n) (h2:fn.results.toList=rs) (hle:args.length≤n) (hw:KA P n c (fnQ n rs R) (Vc 0 args) h):ACalls P f args h R:=by
 subst h1 h2;exact KA.calls hf hb hn hle hw
end Go.Am
namespace Go.Am
def Zi (tp:Bool) (vs:List AV) (ps:List (List Int)):List Obj:=List.zipWith (fun v p=>⟨v,1,ints p,tp⟩) vs ps
def XG (tp:Bool) (vo:AV) (vs:List AV) (ps:List (List Int)):List Obj:=⟨vo,1,vs,true⟩::Zi tp vs ps
def Mat (h:AHeap) (v:AV) (ll:List (List Int)):Prop:=∃ vs:List AV,Rd h v 1 vs∧vs.length=ll.length∧∀ i,i<ll.length→Row h (vs.getD i .bot) (ll.getD i [])
theorem Mat.ext {h0 h:AHeap} (k:Keeps h0 h) {v:AV} {ll:List (List Int)} (hm:Mat h0 v ll):Mat h v ll:=by
 obtain⟨vs,h1,h2,h3⟩:=hm;exact⟨vs,h1.ext k,h2,fun i hi=>(h3 i hi).ext k⟩
theorem Pn {tp:Bool} {vs:List AV} {ps:List (List Int)} (hl:vs.length=ps.length) {i:Nat} (hi:i<ps.length):(Zi tp vs ps)[i]? = some ⟨vs.getD i .bot,1,ints (ps.getD i []),tp⟩:=by
 rw[Zi,List.getElem?_zipWith,dO (by omega:i<vs.length),dO hi];simp[dY,dO (by omega:i<vs.length),dO hi]
theorem St.tail {h0 h:AHeap} {o:Obj} {objs:List Obj} (st:St h0 h (o::objs)):St h0 h objs:=by
 obtain⟨k,fs,hl,hm,hd,hb⟩:=st
 cases fs with
 | nil=>cases hl
 | cons f fs=>
  refine⟨k,fs,by simpa using hl,?_,?_,?_⟩;intro i o' F ho hF;exact hm (i+1) o' F (by simpa using ho) (by simpa using hF);intro i j F hi hj;have:=hd (i+1) (j+1) F ab (by simpa using hj);omega;intro i F hi;exact hb (i+1) F ab
theorem St.addNil {h0 h:AHeap} {objs:List Obj} (s:Nat) (tip:Bool) (st:St h0 h objs):St h0 h (objs ++ [⟨.nils,s,[],tip⟩]):=by
 obtain⟨k,fs,hl,hm,hd,hb⟩:=st;refine⟨k,fs ++ [none],by simp[hl],?_,?_,?_⟩
 ·intro i o F ho hF;rw[dR] at ho hF;rw[hl] at hF;split at ho;rename_i hi; rw[if_pos hi] at hF; exact hm i o F ho hF
  ·rename_i hi;rw[if_neg hi] at hF
   cases hq:i - objs.length with
   | zero=>
    rw[hq] at ho hF;simp only[fC,fP] at ho hF;subst ho hF;exact⟨rfl,rfl⟩
   | succ q=>rw[hq] at ho; simp at ho
 ·intro i j F hi hj;have h1:fs[i]? = some (some F):=by
   rw[dR] at hi;split at hi;exact hi
   ·cases hq:i - fs.length with
    | zero=>rw[hq] at hi; simp at hi
    | succ q=>rw[hq] at hi; simp at hi
  have h2:fs[j]? = some (some F):=by
   rw[dR] at hj;split at hj;exact hj
   ·cases hq:j - fs.length with
    | zero=>rw[hq] at hj; simp at hj
    | succ q=>rw[hq] at hj; simp at hj
  exact hd i j F h1 h2
 ·intro i F hi;rw[dR] at hi;split at hi;exact hb i F hi
  ·cases hq:i - fs.length with
   | zero=>rw[hq] at hi; simp at hi
   | succ q=>rw[hq] at hi; simp at hi
section
variable {P:Program} {n:Nat} {ops:Array Oper} {ex:List Nat} {Q:KF→AHeap→Prop} {k:Nat} {os:List Oper} {K:KF} {h h0:AHeap} {d:Nat} {ty:TypeId} {pos:String} {after:Array Edge} {objs:List Obj}
theorem Qr {x : Operand} {v : AV} {t e : TypeId} {xs zs : List AV} [hx : EvK h.globs n K x v] [ht : SlT P t e 1 zs] (hr : Rd h v 1 xs) (hk : KOps P n ops ex Q (k + 1) os ((d, .int .i64 xs.length) :: K) h) :
    KOps P n ops ex Q k (⟨some d,.call {callee:=.builtin .len,args:=#[x],argTypes:=#[t]},ty,pos,after,none⟩::os) K h:=
  KOps.len (e:=e) (zs:=zs) (m:=xs.length) hr aK hk
theorem KOps.indexV {x ix : Operand} {v : AV} {t e : TypeId} {xs zs : List AV} {kd : IntKind} {i : Int} [hx : EvK h.globs n K x v] [hi : EvK h.globs n K ix (.int kd i)] [ht : SlT P t e 1 zs] (hr : Rd h v 1 xs) (h0 : 0 ≤ i) (hlt : i < xs.length)
    (hk:∀ p,AddrOf p v 1 i.toNat→KOps P n ops ex Q (k+1) os ((d,p)::K) h):KOps P n ops ex Q k (⟨some d,.indexAddr t x ix,ty,pos,after,none⟩::os) K h:=
  KOps.indexAddr (e:=e) (zs:=zs) (m:=xs.length) hr aK h0 hlt (fun p hp=>hk p aw)
theorem ZT {x : Operand} {p v : AV} {t : TypeId} {j : Nat} {xs : List AV} [hx : EvK h.globs n K x p] [ht : ScT P t] (ha : AddrOf p v 1 j) (hr : Rd h v 1 xs) (hj : j < xs.length) (hk : KOps P n ops ex Q (k + 1) os ((d, xs.getD j .bot) :: K) h) :
    KOps P n ops ex Q k (⟨some d,.load t x,ty,pos,after,none⟩::os) K h:=
  Of ha hr (by simp[dO hj,dY]) hk
end
def mtQ {X:Type} (pat:X→KF) (I:X→AHeap→Prop) (Q:Ex→KF→AHeap→Prop) (e:Ex) (K:KF) (h:AHeap):Prop:=match e with | .normal=>∃ x,Sub (pat x) K∧I x h|e=>Q e K h
theorem mtQ.normal {X:Type} {pat:X→KF} {I:X→AHeap→Prop} {Q:Ex→KF→AHeap→Prop} {K:KF} {h:AHeap} (x:X) (hs:Sub (pat x) K) (hI:I x h):mtQ pat I Q .normal K h:=⟨x,hs,hI⟩
theorem mtN {X:Type} {pat:X→KF} {I:X→AHeap→Prop} {Q:Ex→KF→AHeap→Prop} {K:KF} {h:AHeap} (x:X) (hI:I x h) (hs:Sub (pat x) K:=by repeat (first|exact Sub.nil _|refine Sub.cons Look.eq ?_|refine Sub.cons (Eq.trans Look.eq (congrArg (AV.int _) aO)) ?_)):mtQ pat I Q .normal K h:=mtQ.normal x hs hI
theorem mtQ.ret {X:Type} {pat:X→KF} {I:X→AHeap→Prop} {Q:Ex→KF→AHeap→Prop} {K:KF} {h:AHeap} (hq:Q .ret K h):mtQ pat I Q .ret K h:=hq
theorem KA.meet {P:Program} {n:Nat} {c d:Code} {Q:Ex→KF→AHeap→Prop} {K:KF} {h:AHeap} {X:Type} (pat:X→KF) (I:X→AHeap→Prop) (hc:KA P n c (mtQ pat I Q) K h) (hd:∀ x h,I x h→KA P n d Q (pat x) h):KA P n (.seq c d) Q K h:=by
 refine Ou (hc.mono ?_);intro e K h q
 cases e with
 | normal=>obtain⟨x,hs,hI⟩:=q; exact KA.sub hs (hd x h hI)
 | ret=>exact q
 | exit id=>exact q
theorem Uh {tp:Bool} {vs:List AV} {ps:List (List Int)} (hl:vs.length=ps.length) (v:AV) (p:List Int):Zi tp vs ps ++ [⟨v,1,ints p,tp⟩]=Zi tp (vs ++ [v]) (ps ++ [p]):=by
 simp[Zi,List.zipWith_append hl]
theorem RR {tp:Bool} {vs:List AV} {ps:List (List Int)} (hl:vs.length=ps.length):(Zi tp vs ps).length=ps.length:=by simp[Zi]; omega
theorem SG {tp:Bool} {vs:List AV} {ps:List (List Int)} {rest:List Obj} (hl:vs.length=ps.length) {i:Nat} (hi:i<ps.length):(Zi tp vs ps ++ rest)[i]? = some ⟨vs.getD i .bot,1,ints (ps.getD i []),tp⟩:=by
 rw[dQ (by rw[RR hl]; exact hi),Pn hl hi]
theorem obj_eq {objs:List Obj} {k:Nat} {o:Obj} (h:objs[k]? = some o):objs.set k o=objs:=by
 have hk:=(dU.1 h).1;apply dZ;intro j;rw[fI];by_cases hj:k=j;subst hj; rw[if_pos rfl,if_pos hk]; exact h.symm;rw[if_neg hj]
theorem St.perm {h0 h:AHeap} {objs objs':List Obj} (hp:objs.Perm objs') (st:St h0 h objs):St h0 h objs':=by
 have key:∀ {l l':List Obj},l.Perm l'→∃ σ:List Nat,σ.Nodup∧(∀ i∈σ,i<l.length)∧σ.map (fun i=>l[i]?)=l'.map some:=by
  intro l l' hp
  induction hp with
  | nil=>exact⟨[],by simp,by simp,rfl⟩
  | @cons x l l' _ ih=>
   obtain⟨σ,h1,h2,h3⟩:=ih;refine⟨0::σ.map (· + 1),?_,?_,?_⟩;refine gB.2 ⟨by simp,?_⟩;exact gE.2 (h1.imp (fun h=>by omega));intro i hi;rcases gJ.1 hi with rfl|hi
   simp;obtain⟨j,hj,rfl⟩:=gN.1 hi;have:=h2 j hj;simp; omega;simp only[List.map_cons,fC,gP,List.cons.injEq,true_and];rw[←h3];apply gK;intro i _;simp
  | swap x y l=>
   refine⟨1::0::(gH l.length).map (· + 2),?_,?_,?_⟩;refine gB.2 ⟨by simp,gB.2 ⟨by simp,?_⟩⟩;exact gE.2 (List.nodup_range.imp (fun h=>by omega));intro i hi;simp only[gJ,gN,List.mem_range] at hi;rcases hi with rfl|rfl|⟨j,hj,rfl⟩ <;> simp
   exact hj;simp only[List.map_cons,fD,fC,gP,List.cons.injEq,true_and];apply dZ;intro i;simp only[dT];by_cases hi:i<l.length;rw[fB hi,dO hi]; simp[dO hi];rw[dV aY,dV aA]; rfl
  | @trans a b c _ _ ih1 ih2=>
   obtain⟨σ,h1,h2,h3⟩:=ih1;obtain⟨τ,k1,k2,k3⟩:=ih2;have hl : σ.length=b.length:=by have:=congrArg fW h3; simpa using this
   have hg:∀ j,j<b.length→a[σ.getD j 0]? = b[j]?:=by
    intro j hj;have:=congrArg (fun l=>l[j]?) h3;simp only[dT,dO (show j<σ.length by omega),dO hj,fJ,fP] at this;rw[dY,dO (show j<σ.length by omega),fE,this,dO hj]
   refine⟨τ.map (fun j=>σ.getD j 0),?_,?_,?_⟩;refine gE.2 ?_;refine List.Pairwise.imp_of_mem ?_ k1;intro x y hx hy hne he;have hx':=k2 x hx;have hy':=k2 y hy;rw[dY,dY,dO aA,dO aA,fE,fE] at he;exact hne (Uc h1 (dO aA) (by rw[dO (show y<σ.length by omega),he]));intro i hi;obtain⟨j,hj,rfl⟩:=gN.1 hi;have hj':=k2 j hj;rw[dY,dO aA,fE];exact h2 _ (List.getElem_mem _);rw[gP,←k3];apply gK;intro j hj;exact hg j (k2 j hj)
 obtain⟨σ,h1,_,h3⟩:=key hp;exact st.pick σ h1 h3
theorem St.rot {h0 h:AHeap} {A B:List Obj} (st:St h0 h (A ++ B)):St h0 h (B ++ A):=st.perm gD
theorem St.drop {h0 h:AHeap} {A B:List Obj} (st:St h0 h (A ++ B)):St h0 h B:=by
 induction A with
 | nil=>exact st
 | cons o A ih=>exact ih (St.tail st)
theorem St.keep {h0 h:AHeap} {A B:List Obj} (st:St h0 h (A ++ B)):St h0 h A:=St.drop st.rot
theorem St.out {h0 h:AHeap} {A B:List Obj} {o:Obj} (st:St h0 h (A ++ o::B)):St h0 h (A ++ B):=by
 have h1:St h0 h ([o] ++ (B ++ A)):=St.rot (A:=A) (B:=o::B) st;exact St.rot (St.drop h1)
theorem St.nil {h0 h:AHeap} {objs:List Obj} (st:St h0 h objs) (s:Nat):St h0 h (⟨.nils,s,[],true⟩::objs):=St.rot (A:=objs) (B:=[⟨.nils,s,[],true⟩]) (St.addNil s true st)
theorem View.one {v:AV} {s b o len:Nat} (h:View v s b o len):v.one=true:=by
 rcases h with ⟨_,_,rfl,_⟩|⟨_,rfl⟩ <;> rfl
theorem St.one {h0 h:AHeap} {objs:List Obj} (st:St h0 h objs) {k:Nat} {o:Obj} (hk:objs[k]? = some o):o.v.one=true:=by
 rcases st.rd k hk with ⟨h1,_⟩|⟨_,_,_,_,_,h1,_⟩|⟨_,_,_,h1,_⟩
 rw[h1]; rfl;exact h1.one;rw[h1]; exact Thing.at_one _ _
theorem Rd.one {h:AHeap} {v:AV} {s:Nat} {xs:List AV} (hr:Rd h v s xs):v.one=true:=by
 rcases hr with ⟨h1,_⟩|⟨_,_,_,_,_,h1,_⟩|⟨_,_,_,h1,_⟩
 rw[h1]; rfl;exact h1.one;rw[h1]; exact Thing.at_one _ _
theorem St.outer {h0 h:AHeap} {tp:Bool} {vo:AV} {vs:List AV} {ps:List (List Int)} {pre rest:List Obj} (st:St h0 h (pre ++ (XG tp vo vs ps ++ rest))):Rd h vo 1 vs:=St.rd (St.drop st) 0 (o:=⟨vo,1,vs,true⟩) rfl
theorem St.rowAt {h0 h:AHeap} {tp:Bool} {vo:AV} {vs:List AV} {ps:List (List Int)} {pre rest:List Obj} (st:St h0 h (pre ++ (XG tp vo vs ps ++ rest))) (hl:vs.length=ps.length) {k:Nat} (hk:k<ps.length):Row h (vs.getD k .bot) (ps.getD k []):=
  St.rd (St.drop st) (k+1) (o:=⟨vs.getD k .bot,1,ints (ps.getD k []),tp⟩) (SG hl hk)
section
variable {P:Program} {n:Nat} {ops:Array Oper} {ex:List Nat} {Q:KF→AHeap→Prop} {k:Nat} {os:List Oper} {K:KF} {h h0:AHeap} {d:Nat} {ty:TypeId} {pos:String} {after:Array Edge} {objs pre rest:List Obj}
theorem Zl {t e : TypeId} {x y : Operand} {v u : AV} {i : Nat} {p : List Int} {c : Int} {zs : List AV} {tip tip' : Bool} [hx : EvK h.globs n K x v] [hy : EvK h.globs n K y u] [ht : SlT P t e 1 zs] (st : St h0 h (⟨u, 1, [.int .i64 c], tip'⟩ :: objs)) (hex : ex.contains k = true → tip = true) (hk' : objs[i]? = some ⟨v, 1, ints p, tip⟩) (hsz : p.length + 1 ≤ 4294967296)
    (hk:∀ r h',r.one=true→St h0 h' (objs.set i ⟨r,1,ints (p ++ [c]),tip⟩)→KOps P n ops ex Q (k+1) os ((d,r)::K) h') :
    KOps P n ops ex Q k (⟨some d,.call {callee:=.builtin .append,args:=#[x,y],argTypes:=#[t,t]},ty,pos,after,none⟩::os) K h:=by
 refine QV (e:=e) (zs:=zs) (s:=1) (i:=i+1) (a:=p.length) (b:=1) (xs:=ints p) (ys:=[.int .i64 c]) (tip:=tip) st hex (by simpa using hk') aK (st.rd 0 rfl) rfl rfl hsz ?_;intro r h' hS;have hS':St h0 h' (objs.set i ⟨r,1,ints (p ++ [c]),tip⟩):=by
  have:=St.tail hS;simpa [ints] using this
 have hlt:=(dU.1 hk').1;exact hk r h' (hS'.one (k:=i) (o:=⟨r,1,ints (p ++ [c]),tip⟩) a8) hS'
theorem KOps.appendNil {t e : TypeId} {x y : Operand} {vo u : AV} {vs : List AV} {ps : List (List Int)} {zs : List AV} {tp tip' : Bool} [hx : EvK h.globs n K x vo] [hy : EvK h.globs n K y u] [ht : SlT P t e 1 zs] (st : St h0 h (⟨u, 1, [.nils], tip'⟩ :: (pre ++ (XG tp vo vs ps ++ rest)))) (hl : vs.length = ps.length) (hsz : ps.length + 1 ≤ 4294967296)
    (hk:∀ r h',r.one=true→St h0 h' (pre ++ (XG tp r (vs ++ [.nils]) (ps ++ [[]]) ++ rest))→KOps P n ops ex Q (k+1) os ((d,r)::K) h') :
    KOps P n ops ex Q k (⟨some d,.call {callee:=.builtin .append,args:=#[x,y],argTypes:=#[t,t]},ty,pos,after,none⟩::os) K h:=by
 refine QV (e:=e) (zs:=zs) (s:=1) (i:=pre.length+1) (a:=ps.length) (b:=1) (xs:=vs) (ys:=[.nils]) (tip:=true) st (fun _=>rfl) ?_ aA (st.rd 0 rfl) rfl rfl hsz ?_;rw[fD,fZ (dX _),gU]; rfl;intro r h' hS;have hS1:St h0 h' (pre ++ (⟨r,1,vs ++ [.nils],true⟩::(Zi tp vs ps ++ rest))):=by
  have:=St.tail hS;rw[gG _ _ (dX _),gU] at this;exact this
 have hone:=hS1.one (k:=pre.length) (o:=⟨r,1,vs ++ [.nils],true⟩) bN;refine hk r h' hone ?_;have h2:St h0 h' ((pre ++ (⟨r,1,vs ++ [.nils],true⟩::(Zi tp vs ps ++ rest))) ++ [⟨.nils,1,[],tp⟩]):=St.addNil 1 tp hS1;refine St.perm ?_ h2;rw[XG,←Uh hl];simp only[gR,gW];refine fS _ (jE _ (fS _ ?_));exact gD
theorem KOps.appendRow {t e : TypeId} {x y : Operand} {vo u v : AV} {p : List Int} {vs : List AV} {ps : List (List Int)} {zs : List AV} {tp tip' : Bool} [hx : EvK h.globs n K x vo] [hy : EvK h.globs n K y u] [ht : SlT P t e 1 zs] (st : St h0 h (⟨u, 1, [v], tip'⟩ :: ⟨v, 1, ints p, tp⟩ :: (pre ++ (XG tp vo vs ps ++ rest)))) (hl : vs.length = ps.length) (hsz : ps.length + 1 ≤ 4294967296)
    (hk:∀ r h',r.one=true→St h0 h' (pre ++ (XG tp r (vs ++ [v]) (ps ++ [p]) ++ rest))→KOps P n ops ex Q (k+1) os ((d,r)::K) h') :
    KOps P n ops ex Q k (⟨some d,.call {callee:=.builtin .append,args:=#[x,y],argTypes:=#[t,t]},ty,pos,after,none⟩::os) K h:=by
 have hv:=st.one (k:=1) (o:=⟨v,1,ints p,tp⟩) rfl;refine QV (e:=e) (zs:=zs) (s:=1) (i:=pre.length+2) (a:=ps.length) (b:=1) (xs:=vs) (ys:=[v]) (tip:=true) st (fun _=>rfl) ?_ aA (st.rd 0 rfl) rfl (by simpa using hv) hsz ?_;rw[fD,fD,fZ (dX _),gU]; rfl;intro r h' hS;have hS1:St h0 h' (⟨v,1,ints p,tp⟩::(pre ++ (⟨r,1,vs ++ [v],true⟩::(Zi tp vs ps ++ rest)))):=by
  have:=St.tail hS;rw[List.set_cons_succ,gG _ _ (dX _),gU] at this;exact this
 have hone:=(St.tail hS1).one (k:=pre.length) (o:=⟨r,1,vs ++ [v],true⟩) bN;refine hk r h' hone (St.perm ?_ hS1);rw[XG,←Uh hl];simp only[gR,gW];refine jA (gX.symm) (fS _ ?_);refine jA (List.Perm.swap _ _ _) (jE _ ?_);simpa using (gX (a:=(⟨v,1,ints p,tp⟩:Obj)) (l₁:=Zi tp vs ps) (l₂:=rest)).symm
theorem Zz {t : TypeId} {x y : Operand} {p v : AV} {i j : Nat} {c : Int} {l : List Int} {tip : Bool} [hx : EvK h.globs n K x p] [hy : EvK h.globs n K y (.int .i64 c)] [ht : ScT P t] (st : St h0 h objs) (hex : ex.contains k = false) (hk' : objs[i]? = some ⟨v, 1, ints l, tip⟩) (ha : AddrOf p v 1 j) (hj : j < l.length)
    (hk:∀ h',St h0 h' (objs.set i ⟨v,1,ints (l.set j c),tip⟩)→KOps P n ops ex Q (k+1) os K h'):KOps P n ops ex Q k (⟨none,.store t x y,ty,pos,after,none⟩::os) K h:=by
 refine KR st hex hk' ha rfl (by simpa using hj) ?_;intro h' hS;refine hk h' ?_;have e:(ints l).set j (.int .i64 c)=ints (l.set j c):=by simp[ints,List.map_set]
 simp only[e] at hS;exact hS
theorem Oy {x ix : Operand} {v : AV} {t e : TypeId} {α : Type} {f : α → AV} {l : List α} {zs : List AV} {kd : IntKind} {i : Int} {j : Nat} [hx : EvK h.globs n K x v] [hi : EvK h.globs n K ix (.int kd i)] [ht : SlT P t e 1 zs] (hr : Rd h v 1 (l.map f)) (hj : i = (j : Int)) (hlt : j < l.length)
    (hk:∀ p,AddrOf p v 1 j→KOps P n ops ex Q (k+1) os ((d,p)::K) h):KOps P n ops ex Q k (⟨some d,.indexAddr t x ix,ty,pos,after,none⟩::os) K h:=by
 subst hj;exact KOps.indexI (e:=e) (zs:=zs) (i:=(j:Int)) hr aA aA (fun p hp=>hk p aw)
theorem QY {x ix : Operand} {v : AV} {t e : TypeId} {xs zs : List AV} {kd : IntKind} {i : Int} {j : Nat} [hx : EvK h.globs n K x v] [hi : EvK h.globs n K ix (.int kd i)] [ht : SlT P t e 1 zs] (hr : Rd h v 1 xs) (hj : i = (j : Int)) (hlt : j < xs.length)
    (hk:∀ p,AddrOf p v 1 j→KOps P n ops ex Q (k+1) os ((d,p)::K) h):KOps P n ops ex Q k (⟨some d,.indexAddr t x ix,ty,pos,after,none⟩::os) K h:=by
 subst hj;exact KOps.indexV (e:=e) (zs:=zs) (i:=(j:Int)) hr aA aA (fun p hp=>hk p aw)
end
end Go.Am
namespace Go.Am
section
variable {P:Program} {n:Nat} {ops:Array Oper} {ex:List Nat} {Q:KF→AHeap→Prop} {k:Nat} {os:List Oper} {K:KF} {h h0:AHeap} {d:Nat} {ty:TypeId} {pos:String} {after:Array Edge} {objs pre rest:List Obj}
theorem KOps.makeI {t e : TypeId} {x y : Operand} {kx ky : IntKind} {a b : Int} [hx : EvK h.globs n K x (.int kx a)] [hy : EvK h.globs n K y (.int ky b)] [ht : SlT P t e 1 [.int .i64 0]] (st : St h0 h objs) (ha : 0 ≤ a) (hab : a ≤ b) (hb : b ≤ 4294967296)
    (hk:∀ v h',St h0 h' (⟨v,1,ints (fN a.toNat 0),true⟩::objs)→KOps P n ops ex Q (k+1) os ((d,v)::K) h'):KOps P n ops ex Q k (⟨some d,.makeSlice t x y,ty,pos,after,none⟩::os) K h:=by
 refine KOps.makeSlice (e:=e) (z:=.int .i64 0) st ha hab hb ?_;intro v h' hS;refine hk v h' ?_;simpa [ints,List.map_replicate] using hS
theorem KOps.eqlB {t t':TypeId} {x y:Operand} {a b:Bool} [hx:EvK h.globs n K x (.bool a)] [hy:EvK h.globs n K y (.bool b)] (ht:XE P t=true) (hk:KOps P n ops ex Q (k+1) os ((d,.bool (a == b))::K) h):KOps P n ops ex Q k (⟨some d,.binOp .eql t x y t',ty,pos,after,none⟩::os) K h:=
  O9 rfl af hk
theorem KOps.neqB {t t':TypeId} {x y:Operand} {a b:Bool} [hx:EvK h.globs n K x (.bool a)] [hy:EvK h.globs n K y (.bool b)] (ht:XE P t=true) (hk:KOps P n ops ex Q (k+1) os ((d,.bool (!(a == b)))::K) h):KOps P n ops ex Q k (⟨some d,.binOp .neq t x y t',ty,pos,after,none⟩::os) K h:=
  O9 rfl af hk
end
end Go.Am
namespace Go.Am
open Go.RowKit Go.ChangeShapes
structure Imp (W:World) (φ:Emb) (h:AHeap):Prop where
  rel:HRel φ h W
  ro:∀ b B,h.get b=some B→∃ p cs,B = .cells none p cs
  out:∀ b,h.next≤b→φ b=none
theorem Imp.empty (W:World):Imp W φ00 h00:=⟨HRel.empty W,fun b B h=>(by rw[h00_get] at h; cases h),fun _ _=>rfl⟩
theorem Ye (h:AHeap) (B:Blk):Keeps h (h.push B):=by
 refine⟨by simp[AHeap.push,AHeap.next],by simp[AHeap.push,AHeap.nfam],rfl,?_,fun _ _=>rfl⟩;intro b hb;simp only[AHeap.push,AHeap.get];exact dQ hb
theorem VA (h:AHeap) (B:Blk):(h.push B).get h.next=some B:=by simp[AHeap.push,AHeap.get,AHeap.next]
theorem Imp.pushP {W : World} {φ : Emb} {h : AHeap} (im : Imp W φ h) (p0 : Nat) (cs : List AV) (q : Option (Nat × Nat × Nat))
    (hq:∀ k i z,q=some (k,i,z)→k<W.heap.size∧(∀ (j:Nat) (x:AV),cs[j]? = some x→∃ v,W.cell? ⟨k,i+j,none⟩=some v∧VRel φ x v)∧(p0=1→i=0∧∃ c e f,W.heap[k]? = some (.cells c e f)∧c.size=cs.length)) :
    Imp W (fun b=>if b=h.next then q else φ b) (h.push (.cells none p0 cs))∧φ.le (fun b=>if b=h.next then q else φ b):=by
 have hle : φ.le (fun b=>if b=h.next then q else φ b):=by
  intro b p hb;have:b≠h.next:=by rintro rfl; rw[im.out _ (dX _)] at hb; cases hb
  simp only[if_neg this];exact hb
 have hget:∀ b B,(h.push (.cells none p0 cs)).get b=some B→(b<h.next∧h.get b=some B)∨(b=h.next∧B = .cells none p0 cs):=by
  intro b B hB;rcases gQ b h.next with hb|hb|hb
  rw[(Ye h _).get b hb] at hB; exact .inl ⟨hb,hB⟩;subst hb; rw[VA] at hB; cases hB; exact .inr ⟨rfl,rfl⟩;have:=AHeap.get_lt hB;simp[AHeap.push,AHeap.next] at this hb;omega
 have hro:∀ b B,(h.push (.cells none p0 cs)).get b=some B→∃ p cs,B = .cells none p cs:=by
  intro b B hB;rcases hget b B hB with ⟨_,h1⟩|⟨_,h1⟩
  exact im.ro b B h1;exact⟨p0,cs,h1⟩
 have hF:∀ b F p cs',(h.push (.cells none p0 cs)).get b=some (.cells (some F) p cs')→False:=by
  intro b F p cs' hB;obtain⟨_,_,h1⟩:=hro b _ hB;cases h1
 have hM:∀ b F x,(h.push (.cells none p0 cs)).get b=some (.obj F x)→False:=by
  intro b F x hB;obtain⟨_,_,h1⟩:=hro b _ hB;cases h1
 refine⟨⟨⟨?_,?_,?_,?_,?_,?_,?_,?_⟩,hro,?_⟩,hle⟩;intro g hg;obtain⟨z,hz⟩:=im.rel.glob g hg;exact⟨z,hle _ _ hz⟩;intro b k i z hb;by_cases h9:b=h.next;exact(hq k i z (by simpa [h9] using hb)).1;exact im.rel.lt b k i z (by simpa [h9] using hb);intro b k i z B hb hB hv;rcases hget b B hB with ⟨h1,h2⟩|⟨rfl,rfl⟩
 have hb : φ b=some (k,i,z):=by
  have h9:¬ b=h.next:=by omega
  simpa [h9] using hb
 obtain⟨p,cs',rfl⟩:=im.ro b B h2;have h3:=im.rel.blk b k i z _ hb h2 (by unfold AHeap.valid; rw[h2]);exact h3.mono hle;have hb:q=some (k,i,z):=by simpa using hb
 refine⟨?_,(hq k i z hb).2.2⟩;intro j x hx;obtain⟨v,h4,h5⟩:=(hq k i z hb).2.1 j x hx;exact⟨v,h4,h5.mono hle⟩;intro b k i z F p cs' _ hB; exact(hF _ _ _ _ hB).elim;intro b b' k i i' z z' F F' p p' cs1 cs2 _ _ hB; exact(hF _ _ _ _ hB).elim;intro b b' k i i' z z' F p p' cs1 cs2 _ _ hB; exact(hF _ _ _ _ hB).elim;intro b b' k i i' z z' F x B _ _ hB; exact(hM _ _ _ hB).elim;intro b F p cs' hB; exact(hF _ _ _ _ hB).elim;intro b hb;have h1:(h.push (.cells none p0 cs)).next=h.next+1:=by simp[AHeap.push,AHeap.next]
 rw[h1] at hb;show(if b=h.next then q else φ b)=none;rw[if_neg aA];exact im.out b aA
theorem Imp.push {W : World} {φ : Emb} {h : AHeap} (im : Imp W φ h) (cs : List AV) (q : Option (Nat × Nat × Nat))
    (hq:∀ k i z,q=some (k,i,z)→k<W.heap.size∧∀ (j:Nat) (x:AV),cs[j]? = some x→∃ v,W.cell? ⟨k,i+j,none⟩=some v∧VRel φ x v) :
    Imp W (fun b=>if b=h.next then q else φ b) (h.push (.cells none 0 cs))∧φ.le (fun b=>if b=h.next then q else φ b):=
  im.pushP 0 cs q fun k i z hk=>⟨(hq k i z hk).1,(hq k i z hk).2,fun h0=>absurd h0 aE⟩
structure IC {H:Type} (enc:TypeId × Value→H) (P:Program) (t:TypeId) {X:Type} (E:AHeap→List AV→X→Prop):Prop where
  imp : ∀ (W : World) (φ : Emb) (h : AHeap), Imp W φ h → ∀ (fuel : Nat) (cs : List Value) (y : DataW H × List MemPlace), DataW.trod enc P W 0 (fun _ => true) true fuel t cs = some y →
    ∃ φ' h' avs x,Imp W φ' h'∧φ.le φ'∧Keeps h h'∧VRels φ' avs cs∧E h' avs x
  mono:∀ (h h':AHeap) (avs:List AV) (x:X),Keeps h h'→E h avs x→E h' avs x
def EInt (k:IntKind) (_:AHeap) (avs:List AV) (x:Int):Prop:=avs = [.int k x]∧(Lit.int k x).wf=true
def ESl {X:Type} (s:Nat) (E:AHeap→List AV→X→Prop) (h:AHeap) (avs:List AV) (xs:List X):Prop:=
  ∃ (v:AV) (rows:List (List AV)),avs = [v]∧Rd h v s rows.flatten∧rows.length=xs.length∧∀ (i:Nat) (r:List AV) (x:X),rows[i]? = some r→xs[i]? = some x→r.length=s∧E h r x
theorem VU {φ:Emb} {x:AV} {v:Value} (h:VRel φ x v):VRels φ [x] [v]:=by
 refine⟨rfl,?_⟩;intro j a b ha hb
 cases j with
 | zero=>simp at ha hb; subst ha hb; exact h
 | succ j=>simp at ha
theorem IC.int {H:Type} {enc:TypeId × Value→H} {P:Program} {t:TypeId} {k:IntKind} (ht:P.underlying t=some (.int k)):IC enc P t (EInt k):=by
 refine⟨?_,fun _ _ _ _ _ h=>h⟩;intro W φ h im fuel cs y hy;obtain⟨n,rfl,rfl,hw⟩:=DataW.trod_int ht hy;exact⟨φ,h,[.int k n],n,im,Emb.le_refl φ,Keeps.refl h,VU (.int k n),rfl,hw⟩
theorem flat_get {α:Type} {s:Nat} (_hs : 0<s):∀ {rows:List (List α)},(∀ r∈rows,r.length=s)→∀ {j:Nat} {x : α},rows.flatten[j]? = some x→∃ i q r,j=i*s+q∧q<s∧rows[i]? = some r∧r[q]? = some x:=by
 intro rows
 induction rows with
 | nil=>intro _ j x h; simp at h
 | cons r rows ih=>
  intro hr j x h;rw[gA,dR] at h;have hrl:=hr r aK;split at h;exact⟨0,j,r,by omega,by omega,rfl,h⟩;obtain⟨i,q,r',h1,h2,h3,h4⟩:=ih (fun r hr'=>hr r (by simp[hr'])) h;exact⟨i+1,q,r',by rw[fH]; omega,h2,by simpa using h3,h4⟩
theorem flat_len {α:Type} {s:Nat}:∀ {rows:List (List α)},(∀ r∈rows,r.length=s)→rows.flatten.length=rows.length*s:=by
 intro rows
 induction rows with
 | nil=>intro _; simp
 | cons r rows ih=>
  intro hr;rw[gA,fM,hr r aK,ih (fun r hr'=>hr r (by simp[hr'])),gS,fH];omega
theorem JO (a:Addr) (i j:Nat):(a.add i).add j=a.add (i+j):=by
 unfold Addr.add;by_cases hi:i=0 <;> by_cases hj:j=0 <;> simp[hi,hj];omega
theorem JP {W:World} {a:Addr} {j:Nat} {v:Value} (h0:∃ v,W.cell? a=some v) (h:W.cell? (a.add j)=some v):W.cell? ⟨a.block,a.off+j,none⟩=some v∧a=⟨a.block,a.off,none⟩∧a.block<W.heap.size:=by
 obtain⟨v0,h0⟩:=h0;have hsp:a.spot=none:=by
  unfold World.cell? at h0;split at h0;split at h0;cases h0;rename_i hn; cases hq:a.spot with|none=>rfl|some x=>rw[hq] at hn; simp at hn
  cases h0
 have ha:a=⟨a.block,a.off,none⟩:=by cases a; simp at hsp; subst hsp; rfl
 refine⟨?_,ha,?_⟩;have:a.add j=⟨a.block,a.off+j,none⟩:=by
  unfold Addr.add;split;rename_i hj; subst hj; exact ha;rfl
 rw[←this]; exact h;unfold World.cell? at h0;split at h0;rename_i c _ _ hc;exact(Array.getElem?_eq_some_iff.1 hc).1;cases h0
theorem IC.slice {H:Type} {enc:TypeId × Value→H} {P:Program} {t e:TypeId} {s:Nat} {X:Type} {E:AHeap→List AV→X→Prop} (ht:P.underlying t=some (.slice e)) (hc:P.cellsOf e=s) (hs : 0<s) (he:IC enc P e E):IC enc P t (ESl s E):=by
 refine⟨?_,by
  rintro h h' avs xs k ⟨v,rows,h1,h2,h3,h4⟩;exact⟨v,rows,h1,h2.ext k,h3,fun i r x hr hx=>⟨(h4 i r x hr hx).1,he.mono _ _ _ _ k (h4 i r x hr hx).2⟩⟩⟩
 intro W φ h im fuel cs y hy;rcases DataW.trod_slice ht hy with ⟨rfl,rfl⟩|⟨a,len,cap,elems,rest,n,rfl,rfl,rfl,_,hl,hm,hlen,hel,hsp,_⟩
 exact⟨φ,h,[.nils],[],im,Emb.le_refl φ,Keeps.refl h,VU .nils,.nils,[],rfl,.inl ⟨rfl,rfl⟩,rfl,by intro i r x hr; simp at hr⟩;rw[hc] at hel hsp
 have key : ∀ m, m ≤ len → ∃ (φ' : Emb) (h' : AHeap) (rows : List (List AV)) (xs : List X), Imp W φ' h' ∧ φ.le φ' ∧ Keeps h h' ∧ rows.length = m ∧ xs.length = m ∧ (∀ (i : Nat) (r : List AV) (x : X), rows[i]? = some r → xs[i]? = some x → r.length = s ∧ E h' r x) ∧
     ∀ (i:Nat) (r:List AV),rows[i]? = some r→∃ c1,W.cells? 0 (a.add (i*s)) s=some c1∧VRels φ' r c1:=by
   intro m
   induction m with
   | zero=>intro _; exact⟨φ,h,[],[],im,Emb.le_refl φ,Keeps.refl h,rfl,rfl,by intro i r x hr; simp at hr,by intro i r hr; simp at hr⟩
   | succ m ih=>
     intro hml;obtain⟨φ1,h1,rows,xs,im1,le1,k1,hrl,hxl,hE,hV⟩:=ih aA;have hm1:=hel m aA;rw[dO aA,dW] at hm1;obtain⟨c1,hc1,ht1⟩:=hm1;obtain⟨φ2,h2,avs,x,im2,le2,k2,hv2,hE2⟩:=he.imp W φ1 h1 im1 n c1 _ ht1;have hcl:c1.length=s:=(World.cells?_some hc1).2.1;refine⟨φ2,h2,rows ++ [avs],xs ++ [x],im2,Emb.le_trans le1 le2,k1.trans k2,by simp[hrl],by simp[hxl],?_,?_⟩
     · intro i r y hr hy;rw[dR] at hr hy;rw[hrl] at hr;rw[hxl] at hy;split at hr
       · rename_i hi;rw[if_pos hi] at hy;have:=hE i r y hr hy;exact⟨this.1,he.mono _ _ _ _ k2 this.2⟩
       · rename_i hi;rw[if_neg hi] at hy
         cases hq:i - m with
         | zero=>
           rw[hq] at hr hy;simp at hr hy;subst hr hy;exact⟨hv2.1.trans hcl,hE2⟩
         | succ q=>rw[hq] at hr; simp at hr
     · intro i r hr;rw[dR] at hr;rw[hrl] at hr;split at hr
       · obtain⟨c2,h3,h4⟩:=hV i r hr;exact⟨c2,h3,h4.mono le2⟩
       · cases hq:i - m with
         | zero=>
           rw[hq] at hr;simp at hr;subst hr;have:i=m:=by omega
           subst this;exact⟨c1,hc1,hv2⟩
         | succ q=>rw[hq] at hr; simp at hr
 obtain⟨φ1,h1,rows,xs,im1,le1,k1,hrl,hxl,hE,hV⟩:=key len (dX _);have hrs:∀ r∈rows,r.length=s:=by
  intro r hr;obtain⟨i,hi⟩:=List.getElem?_of_mem hr;have hi':i<xs.length:=by have:=(dU.1 hi).1; omega
  exact(hE i r _ hi (dO hi')).1
 have hfl:=flat_len hrs;by_cases hcap:cap=0;have hl0:len=0:=by omega
 obtain⟨im2,le2⟩:=im1.push rows.flatten none (by intro k i z hq; cases hq);refine⟨_,_,[.slc h1.next 0 len s false],xs,im2,Emb.le_trans le1 le2,k1.trans (Ye h1 _),VU (.slc _ _ _ _ _ a cap hl hm aK (.inl hcap)),_,rows,rfl,.inr (.inl ⟨h1.next,0,none,0,rows.flatten,.inl ⟨len,false,rfl,by rw[hfl,hrl],hs⟩,VA h1 _,?_,by rw[gC,gI]⟩),by omega,?_⟩;unfold AHeap.valid; rw[VA];intro i r x hr hx;exact⟨(hE i r x hr hx).1,he.mono _ _ _ _ (Ye h1 _) (hE i r x hr hx).2⟩;have hread:∀ i,i<cap→∃ c1,W.cells? 0 (a.add (i*s)) s=some c1:=by
  intro i hi;by_cases hil:i<len;have:=hel i hil;rw[dO aA,dW] at this;obtain⟨c1,h2,_⟩:=this;exact⟨c1,h2⟩;obtain⟨h2,h3⟩:=hsp rfl;have:=h3 (i - len) aA;rw[dO aA,dW,show len+(i - len)=i by omega] at this;obtain⟨c1,h2,_⟩:=this;exact⟨c1,h2⟩
 have hcell:∀ i,i<cap→∀ q,q<s→∃ v,W.cell? (a.add (i*s+q))=some v:=by
  intro i hi q hq;obtain⟨c1,h2⟩:=hread i hi;have h3:=World.cells?_some h2;have h4:=h3.2.2 q hq;rw[JO] at h4;rw[h4];exact⟨c1[q]'aA,dO _⟩
 have h00:∃ v,W.cell? a=some v:=by
  have:=hcell 0 aA 0 hs;simpa [Addr.add] using this
 obtain⟨v00,hv00⟩:=h00;have ha:=JP (j:=0) ⟨v00,hv00⟩ (by simpa [Addr.add] using hv00);obtain⟨im2,le2⟩:=im1.push rows.flatten (some (a.block,a.off,a.off+cap*s)) (by
  intro k i z hq;cases hq;refine⟨ha.2.2,?_⟩;intro j x hx;obtain⟨i,q,r,rfl,hq,hr,hrq⟩:=flat_get hs hrs hx;obtain⟨c1,h2,h3⟩:=hV i r hr;have h4:=World.cells?_some h2;have h5:=h4.2.2 q hq;rw[JO] at h5;have h6:c1[q]? = some (c1[q]'aA):=dO _;exact⟨_,(JP ⟨v00,hv00⟩ (h5.trans h6)).1,h3.2 q x _ hrq h6⟩)
 refine⟨_,_,[.slc h1.next 0 len s false],xs,im2,Emb.le_trans le1 le2,k1.trans (Ye h1 _),VU (.slc _ _ _ _ _ a cap hl hm aK (.inr ⟨a.block,a.off,a.off+cap*s,by simp,by simpa using ha.2.1,by omega⟩)),_,rows,rfl,.inr (.inl ⟨h1.next,0,none,0,rows.flatten,.inl ⟨len,false,rfl,by rw[hfl,hrl],hs⟩,VA h1 _,?_,by rw[gC,gI]⟩),by omega,?_⟩;unfold AHeap.valid; rw[VA];intro i r x hr hx;exact⟨(hE i r x hr hx).1,he.mono _ _ _ _ (Ye h1 _) (hE i r x hr hx).2⟩
theorem cells_of_slice {P:Program} {w:World} {r:Reach} {b0:Nat} {t e:TypeId} {v:Value} (ht:P.underlying t=some (.slice e)) (hv:Value.okWide P w r b0 t v):v.cells.toList = [v]:=by
 unfold Value.okWide at hv;rw[ht] at hv
 cases v <;> simp[Value.cells] <;> simp[Cell.okWide,Cell.ok,ht] at hv
theorem cells_of_int {P:Program} {w:World} {r:Reach} {b0:Nat} {t:TypeId} {k:IntKind} {v:Value} (ht:P.underlying t=some (.int k)) (hv:Value.okWide P w r b0 t v):v.cells.toList = [v]:=by
 unfold Value.okWide at hv;rw[ht] at hv
 cases v <;> simp[Value.cells] <;> simp[Cell.okWide,Cell.ok,ht] at hv
theorem imp_one {H : Type} {enc : TypeId × Value → H} {P : Program} {t : TypeId} {X : Type} {E : AHeap → List AV → X → Prop} (ic : IC enc P t E) {W : World} {φ : Emb} {h : AHeap} (im : Imp W φ h) {v : Value} {d : DataW H} {ps : List MemPlace} (hc : v.cells.toList = [v]) (hd : DataW.Trod enc P W 0 (fun _ => true) true t v d ps) :
    ∃ φ' h' av x,Imp W φ' h'∧φ.le φ'∧Keeps h h'∧VRel φ' av v∧E h' [av] x:=by
 obtain⟨fuel,hf⟩:=hd;rw[hc] at hf;obtain⟨φ',h',avs,x,im',le',k',hv,hE⟩:=ic.imp W φ h im fuel [v] _ hf
 match avs,hv with
 | [av],hv=>exact⟨φ',h',av,x,im',le',k',hv.2 0 av v rfl rfl,hE⟩
theorem Imp.below {φ φ':Emb} {h h':AHeap} {w w':World} (im:Imp w φ h) (t:Trans φ h w φ' h' w'):Below w.heap.size w w':=by
 refine⟨t.os,t.tape,t.output,t.size,?_⟩;intro k hk;refine t.frame k hk ?_;rintro⟨b,i,z,hb,hm⟩;rcases hm with ⟨F,p,cs,hg⟩|⟨_,_,hg⟩
 obtain⟨_,_,h1⟩:=im.ro b _ hg; cases h1;obtain⟨_,_,h1⟩:=im.ro b _ hg; cases h1
theorem ACalls.law {P : Program} {f : FuncId} {args : List AV} {h : AHeap} {R : AV → AHeap → Prop} (hc : ACalls P f args h R) (hR : ∀ r h', R r h' → r = .bool true) {W : World} {φ : Emb} (im : Imp W φ h) {cs : List Value} (ha : VRels φ args cs) :
    Calls P f cs.toArray W fun e w'=>e = .returned (.bool true)∧Below W.heap.size W w':=by
 obtain⟨r,h',he,hr⟩:=hc;have:=hR r h' hr;subst this;refine(he.2.2 φ W cs (fun b h1 _=>im.out b h1) im.rel ha).mono ?_;rintro e w' ⟨v,φ',rfl,t,_,hv⟩;cases hv;exact⟨rfl,im.below t⟩
theorem vrels_nil {φ:Emb}:VRels φ [] []:=⟨rfl,by simp⟩
theorem vrels_cons {φ:Emb} {a:AV} {l:List AV} {v:Value} {cs:List Value} (h:VRel φ a v) (hs:VRels φ l cs):VRels φ (a::l) (v::cs):=by
 refine⟨by simp[hs.1],?_⟩;intro j x y hx hy
 cases j with
 | zero=>simp at hx hy; subst hx hy; exact h
 | succ j=>exact hs.2 j x y au bB
end Go.Am
namespace Go.Am
section
variable {P:Program} {n:Nat} {ops:Array Oper} {ex:List Nat} {Q:KF→AHeap→Prop} {k:Nat} {os:List Oper} {K:KF} {h h0:AHeap} {d:Nat} {ty:TypeId} {pos:String} {after:Array Edge} {objs pre rest:List Obj}
theorem KOps.known {_op:Op} {b c:Bool} (he:b=c) (h1:KOps P n ops ex Q (k+1) os ((d,.bool c)::K) h):KOps P n ops ex Q (k+1) os ((d,.bool b)::K) h:=by rw[he]; exact h1
end
end Go.Am
