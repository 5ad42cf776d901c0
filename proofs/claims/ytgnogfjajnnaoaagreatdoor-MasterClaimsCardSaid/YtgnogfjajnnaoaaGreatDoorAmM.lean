/-
  The abstract machine: boxes, arrays behind pointers, rows of tables that are cut, copied, made.
  Conditions: none.
-/
import Derived.Test.YtgnogfjajnnaoaaGreatDoorAmC
import Derived.OpenShut
import Derived.MapKept
import Derived.WideKeyRuns
import Derived.Scope
import Derived.Maps.RangeRun
open Array renaming getElem?_eq_getElem → fE, getElem?_eq_some_iff → fD, mem_toList_iff → fF, length_toList → fM, getElem?_toList → fS, getElem_of_mem → fW, toList_filter → gR, getElem_mem → jE
open Classical renaming byContradiction → fN
open Go.Instr renaming sameBits → fG, checkKey → fP, mapUpdate → fV, sameNow → gA, findAsking → gU, findNow → gN, keyThatStays → gT, lookup → gV
open Go.MapKept renaming run_getObj_map → fK, run_checkKey → fL, run_setObj_map → gF, heap_alloc → gS, bytes_beq → jA
open Go.Result renaming andThen_ok → dY
open Go.Sem renaming run_bind → dX, run_pure → fA
open Go.Utf8 renaming decode → fC
open List renaming getElem?_eq_getElem → dW, getElem?_eq_some_iff → fI, map_cons → fO, getD_eq_getElem?_getD → fB, take_of_length_le → fQ, mem_cons → fR, take_append_drop → fT, set_set → fX, eq_nil_of_length_eq_zero → fZ, getElem?_map → gE, getElem?_set → gI, flatMap_cons → gO, toArray → gY, length_cons → gB, length_eq_zero_iff → gD, contains_toArray → gH, contains_iff_mem → gJ, mem_range → gK, getElem?_append → gL, range → gM, set_comm → gP, mem_singleton → gW, mem_range'_1 → gZ, length_range → jI, all_eq_true → jU, cons_append → jB, ext_getElem → jC, nodup_range → jD, mem_filter → jF, nodup_cons → jG, mapM_cons → jH, drop_zero → jJ
open Nat renaming le_refl → fJ, add_mul → gG, ble → gX, one_mul → jO
open Option renaming map_eq_some_iff → dZ, map_some → fY, bind_eq_some_iff → fH, bind_some → gC, bind_eq_bind → gQ, getD_some → jY
open Option.some renaming injEq → fU
namespace Go.Am
class ArT (P:Program) (t:TypeId) (n:outParam Nat):Prop where
  arr:∃ e,Yk P t=some (n,e)∧szA P e=some 1
theorem ArT.of {P:Program} {t:TypeId} {n:Nat} (h:((Yk P t).map fun p=>(p.1,szA P p.2))=some (n,some 1)):ArT P t n:=by
 constructor
 cases ha:Yk P t with
 | none=>rw[ha] at h; cases h
 | some p=>
  rw[ha] at h;simp only[fY,fU,Prod.mk.injEq] at h;exact⟨p.2,by rw[←h.1],h.2⟩
section
variable {P:Program} {n:Nat} {ops:Array Oper} {ex:List Nat} {Q:KF→AHeap→Prop} {k:Nat} {os:List Oper} {K:KF} {h h0:AHeap} {d:Nat} {ty:TypeId} {pos:String} {after:Array Edge} {objs pre rest:List Obj}
theorem O8 {x : Operand} {p v : AV} {t : TypeId} {i : Nat} {tip : Bool} [hx : EvK h.globs n K x p] [ht : ScT P t] (st : St h0 h objs) (hk' : objs[i]? = some ⟨p, 0, [v], tip⟩) (ha : AddrOf p p 0 0) (hk : KOps P n ops ex Q (k + 1) os ((d, v) :: K) h) :
    KOps P n ops ex Q k (⟨some d,.load t x,ty,pos,after,none⟩::os) K h:=Oh ha (st.rd i hk') rfl hk
theorem Qc {t : TypeId} {x y : Operand} {p v w : AV} {i : Nat} {tip : Bool} [hx : EvK h.globs n K x p] [hy : EvK h.globs n K y w] [ht : ScT P t] (st : St h0 h objs) (hex : ex.contains k = false) (hk' : objs[i]? = some ⟨p, 0, [v], tip⟩) (ha : AddrOf p p 0 0) (h1 : w.one = true)
    (hk:∀ h',St h0 h' (objs.set i ⟨p,0,[w],tip⟩)→KOps P n ops ex Q (k+1) os K h'):KOps P n ops ex Q k (⟨none,.store t x y,ty,pos,after,none⟩::os) K h:=
  KK st hex hk' ha h1 aU hk
theorem On {x:Operand} {p:AV} [hx:EvK h.globs n K x p] (ha:AddrOf p p 0 0) (hk:KOps P n ops ex Q (k+1) os ((d,p)::K) h):KOps P n ops ex Q k (⟨some d,.nilCheck x,ty,pos,after,none⟩::os) K h:=KOps.nilCheckP ha hk
end
end Go.Am
namespace Go.Am
section
variable {P:Program} {n:Nat} {ops:Array Oper} {ex:List Nat} {Q:KF→AHeap→Prop} {k:Nat} {os:List Oper} {K:KF} {h h0:AHeap} {d:Nat} {ty:TypeId} {pos:String} {after:Array Edge} {objs pre rest:List Obj}
theorem KOps.rem {t t' : TypeId} {x y : Operand} {a b : Int} [hx : EvK h.globs n K x (.int .i64 a)] [hy : EvK h.globs n K y (.int .i64 b)] (h0 : b ≠ 0) (h1 : -9223372036854775808 ≤ a.tmod b) (h2 : a.tmod b ≤ 9223372036854775807)
    (hk:KOps P n ops ex Q (k+1) os ((d,.int .i64 (a.tmod b))::K) h):KOps P n ops ex Q k (⟨some d,.binOp .rem t x y t',ty,pos,after,none⟩::os) K h:=
  QX (.inr (.inr rfl)) (by simp only[Vd,if_neg h0,wrap64 h1 h2]) hk
end
end Go.Am
namespace Go.Am
def EArr (k:IntKind) (n:Nat) (_:AHeap) (avs:List AV) (l:List Int):Prop:=avs=l.map (AV.int k)∧l.length=n∧∀ x∈l,(Lit.int k x).wf=true
theorem ints_of {k:IntKind}:∀ {cs:List Value},(∀ i,i<cs.length→∃ c,cs[i]? = some (.int k c)∧(Lit.int k c).wf=true)→∃ l:List Int,cs=l.map (Value.int k)∧∀ x∈l,(Lit.int k x).wf=true:=by
 intro cs
 induction cs with
 | nil=>intro _; exact⟨[],rfl,by simp⟩
 | cons v cs ih=>
  intro h;obtain⟨c,h1,h2⟩:=h 0 aU;obtain⟨l,h3,h4⟩:=ih (fun i hi=>by
   obtain⟨c,h5,h6⟩:=h (i+1) ah;exact⟨c,by simpa using h5,h6⟩)
  have h1:v = .int k c:=by simpa using h1
  subst h1 h3;refine⟨c::l,rfl,?_⟩;intro x hx;rcases fR.1 hx with rfl|hx
  exact h2;exact h4 x hx
theorem IC.array {H:Type} {enc:TypeId × Value→H} {P:Program} {t e:TypeId} {n:Nat} {k:IntKind} (ht:P.underlying t=some (.array n e)) (hc:P.cellsOf t=n) (h1:P.cellsOf e=1) (he:P.underlying e=some (.int k)):IC enc P t (EArr k n):=by
 refine⟨?_,fun _ _ _ _ _ h=>h⟩;intro W φ h im fuel cs y hy;obtain⟨xs,m,rfl,rfl,hl,hxl,hx⟩:=DataW.trod_array ht hy;rw[hc] at hl;obtain⟨l,rfl,hw⟩:=ints_of (k:=k) (cs:=cs) (by
  intro i hi;have h2:=hx i aA;rw[h1,Nat.mul_one,dW aA] at h2;obtain⟨c,h3,_,h4⟩:=DataW.trod_int he h2;refine⟨c,?_,h4⟩;have h5:((cs.drop i).take 1)[0]? = some (.int k c):=by rw[h3]; rfl
  simpa [List.getElem?_take,List.getElem?_drop] using h5)
 refine⟨φ,h,l.map (AV.int k),l,im,Emb.le_refl φ,Keeps.refl h,⟨by simp,?_⟩,rfl,by simpa using hl,hw⟩;intro j a b ha hb;rw[gE] at ha hb
 cases hj:l[j]? with
 | none=>rw[hj] at ha; cases ha
 | some x=>
  rw[hj] at ha hb;cases ha;cases hb;exact .int k x
def bytes (l:List Int):List AV:=l.map (AV.int .u8)
theorem Uh {a:Int} (h:(Lit.int .u8 a).wf=true) : 0≤a∧a≤255:=by
 simp[Lit.wf,IntKind.min,IntKind.max,IntKind.signed,IntKind.bits] at h;omega
section
variable {P:Program} {n:Nat} {ops:Array Oper} {ex:List Nat} {Q:KF→AHeap→Prop} {k:Nat} {os:List Oper} {K:KF} {h h0:AHeap} {d:Nat} {ty:TypeId} {pos:String} {after:Array Edge} {objs:List Obj}
theorem Z4 {src dst : TypeId} {x : Operand} {a : Int} [hx : EvK h.globs n K x (.int .u8 a)] [hs : IntT P src .u8] [hd : IntT P dst .i64] (h1 : 0 ≤ a) (h2 : a ≤ 255) (hk : KOps P n ops ex Q (k + 1) os ((d, .int .i64 a) :: K) h) :
    KOps P n ops ex Q k (⟨some d,.convert src dst x,ty,pos,after,none⟩::os) K h:=by
 refine KOps.convert (kd':=.i64) ?_;rw[wrap64 aA aA];exact hk
end
end Go.Am
namespace Go.Am
def AHeap.allocT (h:AHeap) (x:Thing):AHeap:=(h.push (.obj h.nfam x)).pushFam ⟨0,none⟩
theorem AHeap.next_allocT (h:AHeap) (x:Thing):(h.allocT x).next=h.next+1:=by simp[AHeap.allocT,AHeap.next_pushFam,AHeap.next_push]
theorem AHeap.nfam_allocT (h:AHeap) (x:Thing):(h.allocT x).nfam=h.nfam+1:=by simp[AHeap.allocT,AHeap.nfam,AHeap.pushFam,AHeap.push]
theorem AHeap.get_allocT (h:AHeap) (x:Thing) (b:Nat):(h.allocT x).get b=if b=h.next then some (.obj h.nfam x) else h.get b:=by
 simp[AHeap.allocT,AHeap.get_pushFam,AHeap.get_push]
theorem AHeap.fam_allocT (h:AHeap) (x:Thing) (F:Nat):(h.allocT x).fam F=if F=h.nfam then some ⟨0,none⟩ else h.fam F:=by
 have:(h.push (.obj h.nfam x)).nfam=h.nfam:=rfl;simp[AHeap.allocT,AHeap.fam_pushFam,AHeap.fam_push,this]
theorem HGrow.allocT (h:AHeap) (x:Thing):HGrow h (h.allocT x):=
  ⟨by rw[AHeap.next_allocT]; omega,by rw[AHeap.nfam_allocT]; omega,rfl,fun b hb=>by rw[AHeap.get_allocT,if_neg aA]⟩
theorem AHeap.valid_allocT_old (h:AHeap) (x:Thing) {b:Nat} (hb:b<h.next) {φ:Emb} {w:World} (r:HRel φ h w):(h.allocT x).valid b=h.valid b:=by
 simp only[AHeap.valid,AHeap.get_allocT,if_neg (show¬ b=h.next by omega)]
 cases hg:h.get b with
 | none=>rfl
 | some B=>
  cases B with
  | obj _ _=>rfl
  | cells F p cs'=>
   cases F with
   | none=>rfl
   | some F=>
    obtain⟨f,hf,_⟩:=r.ext b F p cs' hg;have:=AHeap.fam_lt hf;simp only[AHeap.fam_allocT,if_neg (show¬ F=h.nfam by omega)]
theorem HRel.allocT {φ : Emb} {h : AHeap} {w : World} (r : HRel φ h w) (hφ : φ h.next = none) (x : Thing) (o : Go.Obj) (hB : ∀ φ' w', φ.le φ' → w'.heap[w.heap.size]? = some o → BRel φ' w' w.heap.size 0 0 (.obj h.nfam x)) :
    HRel (φ.upd h.next (w.heap.size,0,0)) (h.allocT x) (w.alloc o)∧Trans φ h w (φ.upd h.next (w.heap.size,0,0)) (h.allocT x) (w.alloc o):=by
 have hle:=Emb.le_upd (φ:=φ) (w.heap.size,0,0) hφ;have hold:∀ k,k<w.heap.size→(w.alloc o).heap[k]? = w.heap[k]?:=fun k hk=>(gS w o).2 k hk
 have hnew:(w.alloc o).heap[w.heap.size]? = some o:=(gS w o).1;have hcase:∀ b k i z,φ.upd h.next (w.heap.size,0,0) b=some (k,i,z)→(b=h.next∧k=w.heap.size∧i=0∧z=0)∨(b≠h.next∧φ b=some (k,i,z)):=by
  intro b k i z hb;by_cases hbn:b=h.next;subst hbn; rw[Emb.upd_same] at hb; cases hb; exact .inl ⟨rfl,rfl,rfl,rfl⟩;rw[Emb.upd_other φ _ hbn] at hb; exact .inr ⟨hbn,hb⟩
 refine⟨⟨?_,?_,?_,?_,?_,?_,?_,?_⟩,hle,?_,?_,?_,?_,rfl,rfl,rfl,by simp⟩;intro g hg;obtain⟨z,hz⟩:=r.glob g hg;exact⟨z,hle _ _ hz⟩;intro b k i z hb;simp only[World.size_alloc];rcases hcase b k i z hb with ⟨_,rfl,_⟩|⟨hne,hb'⟩
 omega;have:=r.lt b k i z hb'; omega;intro b k i z B hb hg hv;rcases hcase b k i z hb with ⟨rfl,rfl,rfl,rfl⟩|⟨hne,hb'⟩
 rw[AHeap.get_allocT,if_pos rfl] at hg;cases hg;exact hB _ _ hle hnew;rw[AHeap.get_allocT,if_neg hne] at hg;rw[AHeap.valid_allocT_old h x (AHeap.get_lt hg) r] at hv;exact((r.blk b k i z B hb' hg hv).world (hold k (r.lt b k i z hb'))).mono hle;intro b k i z F p cs' hb hg;rcases hcase b k i z hb with ⟨rfl,rfl,rfl,rfl⟩|⟨hne,hb'⟩
 rw[AHeap.get_allocT,if_pos rfl] at hg;cases hg;rw[AHeap.get_allocT,if_neg hne] at hg;obtain⟨c',e',h1,h2⟩:=r.arr b k i z F p cs' hb' hg;exact⟨c',e',(hold k (r.lt b k i z hb')).trans h1,h2⟩;intro b b' k i i' z z' F F' p p' cs1 cs2 hb hb' hg hg';rcases hcase b k i z hb with ⟨rfl,rfl,rfl,rfl⟩|⟨hne,h1⟩ <;> rcases hcase b' _ i' z' hb' with ⟨rfl,hk,rfl,rfl⟩|⟨hne',h1'⟩
 rw[AHeap.get_allocT,if_pos rfl] at hg; cases hg;rw[AHeap.get_allocT,if_pos rfl] at hg; cases hg;rw[AHeap.get_allocT,if_pos rfl] at hg'; cases hg';rw[AHeap.get_allocT,if_neg hne] at hg;rw[AHeap.get_allocT,if_neg hne'] at hg';exact r.one b b' k i i' z z' F F' p p' cs1 cs2 h1 h1' hg hg';intro b b' k i i' z z' F p p' cs1 cs2 hb hb' hg hg';rcases hcase b k i z hb with ⟨rfl,rfl,rfl,rfl⟩|⟨hne,h1⟩ <;> rcases hcase b' _ i' z' hb' with ⟨rfl,hk,rfl,rfl⟩|⟨hne',h1'⟩
 rw[AHeap.get_allocT,if_pos rfl] at hg; cases hg;rw[AHeap.get_allocT,if_pos rfl] at hg; cases hg;rw[AHeap.get_allocT,if_pos rfl] at hg'; cases hg';rw[AHeap.get_allocT,if_neg hne] at hg;rw[AHeap.get_allocT,if_neg hne'] at hg';exact r.sep b b' k i i' z z' F p p' cs1 cs2 h1 h1' hg hg';intro b b' k i i' z z' F0 x0 B hb hb' hg hg';rcases hcase b k i z hb with ⟨rfl,rfl,rfl,rfl⟩|⟨hne,h1⟩ <;> rcases hcase b' _ i' z' hb' with ⟨rfl,hk,rfl,rfl⟩|⟨hne',h1'⟩
 rfl;have:=r.lt b' _ i' z' h1'; omega;have:=r.lt b _ i z h1; omega;rw[AHeap.get_allocT,if_neg hne] at hg;rw[AHeap.get_allocT,if_neg hne'] at hg';exact r.map b b' k i i' z z' F0 x0 B h1 h1' hg hg';intro b F p cs' hg;rw[AHeap.get_allocT] at hg;rw[AHeap.fam_allocT];split at hg;cases hg;obtain⟨f,hf,hl⟩:=r.ext b F p cs' hg;have:=AHeap.fam_lt hf;exact⟨f,by rw[if_neg aA]; exact hf,hl⟩;intro b h1 h2;rw[AHeap.next_allocT] at h2;have:b=h.next:=by omega
 subst this;exact⟨_,Emb.upd_same _ _ _⟩;intro b p h1 h2;by_cases hbn:b=h.next;subst hbn; rw[AHeap.next_allocT]; omega;rw[Emb.upd_other φ _ hbn,h1] at h2; cases h2;intro b k i z h1 h2;rcases hcase b k i z h2 with ⟨_,rfl,_⟩|⟨hne,hb'⟩
 exact .inl (fJ _);rw[h1] at hb'; cases hb';intro k hk _;exact hold k hk
def QY (w:World) (k:Nat) (o:Go.Obj):World:={w with heap:=w.heap.setIfInBounds k o}
theorem HGrow.setT {h:AHeap} {b F F':Nat} {x x':Thing} (hg:h.get b=some (.obj F x)):HGrow h (h.set b (.obj F' x')):=by
 refine⟨by simp[AHeap.set,AHeap.next],by simp[AHeap.set,AHeap.nfam],rfl,?_⟩;intro b' hb';rw[AHeap.get_set];by_cases hbb:b'=b;subst hbb;rw[if_pos ⟨rfl,hb'⟩,hg]; rfl;rw[if_neg (by simp[hbb])]
theorem HRel.setT {φ : Emb} {h : AHeap} {w : World} (r : HRel φ h w) {b k i z F : Nat} {x : Thing} (hb : φ b = some (k, i, z)) (hg : h.get b = some (.obj F x)) (x' : Thing) (o' : Go.Obj)
    (hB:∀ w',w'.heap[k]? = some o'→BRel φ w' k i z (.obj F x')):HRel φ (h.set b (.obj F x')) (QY w k o')∧Trans φ h w φ (h.set b (.obj F x')) (QY w k o'):=by
 have hk:=r.lt b k i z hb;have hblt:=AHeap.get_lt hg;have hnew:(QY w k o').heap[k]? = some o':=by simp[QY,hk]
 have hold:∀ k',k'≠k→(QY w k o').heap[k']? = w.heap[k']?:=fun k' hne=>by simp[QY,Ne.symm hne]
 have hget:∀ b',(h.set b (.obj F x')).get b'=if b'=b then some (.obj F x') else h.get b':=by
  intro b';rw[AHeap.get_set];by_cases hbb:b'=b;subst hbb; rw[if_pos ⟨rfl,hblt⟩,if_pos rfl];rw[if_neg (by simp[hbb]),if_neg hbb]
 have hfam:∀ G,(h.set b (.obj F x')).fam G=h.fam G:=fun G=>rfl
 have hkk:∀ b' i' z' B,φ b'=some (k,i',z')→h.get b'=some B→b'=b:=fun b' i' z' B h1 h2=>(r.map b b' k i i' z z' F x B hb h1 hg h2).symm
 have hvalid:∀ b',b'≠b→(h.set b (.obj F x')).valid b'=h.valid b':=by
  intro b' hne;simp only[AHeap.valid,hget,if_neg hne,hfam]
 refine⟨⟨r.glob,?_,?_,?_,?_,?_,?_,?_⟩,Emb.le_refl φ,?_,?_,?_,?_,rfl,rfl,rfl,by simp[QY]⟩;intro b' k' i' z' hb';have:=r.lt b' k' i' z' hb';simpa [QY] using this;intro b' k' i' z' B hb' hB' hv;rw[hget] at hB';by_cases hbb:b'=b;subst hbb;rw[if_pos rfl] at hB'; cases hB';rw[hb] at hb'; cases hb';exact hB _ hnew;rw[if_neg hbb] at hB';rw[hvalid b' hbb] at hv;have hne:k'≠k:=fun he=>by subst he; exact hbb (hkk b' i' z' B hb' hB')
 exact(r.blk b' k' i' z' B hb' hB' hv).world (hold k' hne);intro b' k' i' z' F' p' cs' hb' hB';rw[hget] at hB';by_cases hbb:b'=b;rw[if_pos hbb] at hB'; cases hB';rw[if_neg hbb] at hB';have hne:k'≠k:=fun he=>by subst he; exact hbb (hkk b' i' z' _ hb' hB')
 obtain⟨c,e,h1,h2⟩:=r.arr b' k' i' z' F' p' cs' hb' hB';exact⟨c,e,(hold k' hne).trans h1,h2⟩;intro b1 b2 k' i1 i2 z1 z2 F1 F2 p1 p2 cs1 cs2 hb1 hb2 hg1 hg2;rw[hget] at hg1 hg2;by_cases e1:b1=b;rw[if_pos e1] at hg1; cases hg1;by_cases e2:b2=b;rw[if_pos e2] at hg2; cases hg2;rw[if_neg e1] at hg1; rw[if_neg e2] at hg2;exact r.one b1 b2 k' i1 i2 z1 z2 F1 F2 p1 p2 cs1 cs2 hb1 hb2 hg1 hg2;intro b1 b2 k' i1 i2 z1 z2 F1 p1 p2 cs1 cs2 hb1 hb2 hg1 hg2;rw[hget] at hg1 hg2;by_cases e1:b1=b;rw[if_pos e1] at hg1; cases hg1;by_cases e2:b2=b;rw[if_pos e2] at hg2; cases hg2;rw[if_neg e1] at hg1; rw[if_neg e2] at hg2;exact r.sep b1 b2 k' i1 i2 z1 z2 F1 p1 p2 cs1 cs2 hb1 hb2 hg1 hg2;intro b1 b2 k' i1 i2 z1 z2 F1 x1 B hb1 hb2 hg1 hg2;rw[hget] at hg1 hg2;by_cases e1:b1=b;subst e1;rw[hb] at hb1; cases hb1;by_cases e2:b2=b1;exact e2.symm;rw[if_neg e2] at hg2;exact(hkk b2 i2 z2 B hb2 hg2).symm;rw[if_neg e1] at hg1;by_cases e2:b2=b;subst e2;rw[hb] at hb2; cases hb2;exact hkk b1 i1 z1 _ hb1 hg1;rw[if_neg e2] at hg2;exact r.map b1 b2 k' i1 i2 z1 z2 F1 x1 B hb1 hb2 hg1 hg2;intro b' F' p' cs' hB';rw[hget] at hB';by_cases hbb:b'=b;rw[if_pos hbb] at hB'; cases hB';rw[if_neg hbb] at hB';exact r.ext b' F' p' cs' hB';intro b' h1 h2;have:(h.set b (.obj F x')).next=h.next:=by simp[AHeap.set,AHeap.next]
 omega;intro b' p h1 h2; rw[h1] at h2; cases h2;intro b' k' i' z' h1 h2; rw[h1] at h2; cases h2;intro k' hk' hm;refine hold k' ?_;rintro rfl;exact hm ⟨b,i,z,hb,.inr ⟨F,x,hg⟩⟩
end Go.Am
namespace Go.Am
def Zv (P : Program) (kt : TypeId) : AV → Bool
  | .int k _=>Vk P kt == some k
  | .str _=>Xb P kt
  | .bool _=>Vb P kt
  | .agg a=>match Yk P kt with
    | some (n,e)=>match Vk P e with
      | some k=>match V6 k a with
        | some x=>x.length == n && szA P e == some 1
        | none=>false
      | none=>false
    | none=>false
  | _=>false
def YV (P : Program) (kt : TypeId) : AV → AV → Option Bool
  | .int k a,.int k' b=>if Vk P kt=some k∧k=k' then some (decide (a=b)) else none
  | .str a,.str b=>if Xb P kt then some (decide (a=b)) else none
  | .bool a,.bool b=>if Vb P kt then some (decide (a=b)) else none
  | .agg a,.agg b=>aarr P kt a b
  | _,_=>none
def Zo (P : Program) (kt : TypeId) (key : AV) : List (AV × AV) → Option (Option (Nat × AV))
  | []=>some none
  | e::es=>match YV P kt key e.1 with
    | some true=>some (some (0,e.2))
    | some false=>(Zo P kt key es).map fun r=>r.map fun p=>(p.1+1,p.2)
    | none=>none
theorem ZY {P:Program} {φ:Emb} {kt:TypeId} {key:AV} {ck:Value} (hk:Zv P kt key=true) (hv:VRel φ key ck) (em:Bool) (w:World):(fP em 10000 kt ck).run P w = .ok () w:=by
 cases key <;> simp only[Zv,Bool.false_eq_true] at hk
 cases hv;exact fL (d:=.bool) (k:=.bool _) (VQ hk) trivial em 9999;cases hv;exact fL (d:=.int _) (k:=.int _ _) (YA (by simpa using hk)) rfl em 9999;cases hv;exact fL (d:=.string) (k:=.string _) (XI hk) trivial em 9999
 ·rename_i a
  cases hv with|agg _ cs hl hh=>
  split at hk
  ·rename_i n e hA;split at hk
   ·rename_i k hik;split at hk
    ·rename_i x hx;simp only[Bool.and_eq_true,beq_iff_eq] at hk;obtain⟨hlen,hs⟩:=hk;obtain⟨rfl,-⟩:=Vy hx ⟨hl,hh⟩;have hu:=YA hik;show(fP em (9999+1) kt _).run P w=_;unfold fP;simp only[dX,run_underlying (X0 hA),dY];simp only[Std.Legacy.Range.forIn_eq_forIn_range',Std.Legacy.Range.size,Nat.sub_zero,Nat.add_one_sub_one,Nat.div_one]
     have key : ∀ (is : List Nat), (∀ i ∈ is, i < n) → (forIn is PUnit.unit fun i _ => do
         fP em 9999 e (←part e (x.map (Value.int k)).toArray (i*(←sizeOf e)))
         pure (ForInStep.yield PUnit.unit):Sem PUnit).run P w = .ok PUnit.unit w:=by
       intro is
       induction is with
       | nil=>intro _; simp
       | cons i is ih=>
         intro h;have hi:=h i aU;have hlt:i<x.length:=by omega
         have hpart:(part e (x.map (Value.int k)).toArray (i*1)).run P w = .ok (.int k (x.getD i 0)) w:=by
           simp[part,isAgg,run_underlying hu,hlt,fB]
         have hck:(fP em 9999 e (.int k (x.getD i 0))).run P w = .ok () w:=fL (d:=.int _) (k:=.int _ _) hu rfl em 9998;simp only[List.forIn_cons,dX,Qo hs,dY,hpart,hck,fA];exact ih (fun j hj=>h j (by simp[hj]))
     rw[key (List.range' 0 n) (by intro i hi; have:=(gZ.1 hi).2; omega)];rfl
    cases hk
   cases hk
  cases hk
theorem akeq_agg {P:Program} {kt:TypeId} {a b:List AV} {r:Bool} (h:YV P kt (.agg a) (.agg b)=some r):aarr P kt a b=some r:=h
theorem Xg {P : Program} {φ : Emb} {kt : TypeId} {key : AV} {ck : Value} (hk : Zv P kt key = true) (hv : VRel φ key ck) (w : World) :
    ∀ (es:List (AV × AV)) (ms:List MapEntry) (r:Option (Nat × AV)),es.length=ms.length→(∀ (j:Nat) x m,es[j]? = some x→ms[j]? = some m→VRel φ x.1 m.key∧VRel φ x.2 m.val)→Zo P kt key es=some r→
    ∃ cr,(Instr.findKey kt ck ms).run P w = .ok cr w∧(r=none→cr=none)∧∀ i v,r=some (i,v)→∃ cv m,cr=some (i,cv)∧VRel φ v cv∧ms[i]? = some m∧m.key=ck∧m.val=cv:=by
 by_cases hagg:∃ a,key = .agg a
 ·obtain⟨a,rfl⟩:=hagg
  cases hv with|agg _ ca hla hha=>
  have hwide:(match P.underlying kt with|some (.array _ _)|some (.struct _)=>true|_=>false)=true:=by
   simp only[Zv] at hk;split at hk;rename_i n e hA; rw[X0 hA];cases hk
  have main : ∀ (es : List (AV × AV)) (ms : List MapEntry) (r : Option (Nat × AV)) (j : Nat), es.length = ms.length → (∀ (j : Nat) x m, es[j]? = some x → ms[j]? = some m → VRel φ x.1 m.key ∧ VRel φ x.2 m.val) → Zo P kt (.agg a) es = some r →
      ∃ cr,(gU kt (.agg ca.toArray) ms j).run P w = .ok cr w∧(r=none→cr=none)∧∀ i v,r=some (i,v)→∃ cv m,cr=some (j+i,cv)∧VRel φ v cv∧ms[i]? = some m∧m.key = .agg ca.toArray∧m.val=cv:=by
    intro es
    induction es with
    | nil=>
      intro ms r j hl _ h;have:ms = []:=fZ hl.symm;subst this;cases h;exact⟨none,rfl,fun _=>rfl,fun i v h=>by cases h⟩
    | cons e es ih=>
      intro ms r j hl hr h
      cases ms with
      | nil=>simp at hl
      | cons m ms=>
        obtain⟨h1,h2⟩:=hr 0 e m rfl rfl;simp only[Zo] at h
        cases hq:YV P kt (.agg a) e.1 with
        | none=>rw[hq] at h; cases h
        | some q=>
          obtain⟨b,hb⟩:∃ b,e.1 = .agg b:=by
            revert hq; cases e.1 <;> simp[YV]
          rw[hb] at hq h1;generalize hmk:m.key=mk at h1
          cases h1 with|agg _ cb hlb hhb=>
          obtain⟨q1,-,q3⟩:=UA (P:=P) (φ:=φ) ⟨hla,hha⟩ ⟨hlb,hhb⟩ (akeq_agg hq) 9998 w;have q1:(Op.equal kt (.agg ca.toArray) (.agg cb.toArray)).run P w = .ok q w:=q1;rw[hb,hq] at h
          cases q with
          | true=>
            simp only[fU] at h;subst h;refine⟨some (j,m.val),by simp[gU,hmk,q1],nofun,?_⟩;intro i v hiv;cases hiv;exact⟨_,m,rfl,h2,rfl,by rw[hmk,q3.1 rfl],rfl⟩
          | false=>
            simp only[dZ] at h;obtain⟨r',hr',rfl⟩:=h;obtain⟨cr,h3,h4,h5⟩:=ih ms r' (j+1) al (fun q x y hx hy=>hr (q+1) x y au bB) hr';refine⟨cr,by simp[gU,hmk,q1,h3],?_,?_⟩
            · intro hn; exact h4 (by simpa using hn)
            · intro i v hiv;simp only[dZ] at hiv;obtain⟨⟨i',v'⟩,rfl,hiv⟩:=hiv;cases hiv;obtain⟨cv,m',h6,h7,h8,h9⟩:=h5 i' v' rfl;exact⟨cv,m',by rw[h6]; congr 2; omega,h7,by simpa using h8,h9⟩
  intro es ms r hl hr h;rw[run_findKey_eq w hwide];obtain⟨cr,h1,h2,h3⟩:=main es ms r 0 hl hr h;refine⟨cr,h1,h2,?_⟩;intro i v hiv;obtain⟨cv,m,h4,h5⟩:=h3 i v hiv;exact⟨cv,m,by rw[h4,Nat.zero_add],h5⟩
 ·obtain⟨d,hd,main⟩:∃ d,P.underlying kt=some d∧∀ (y:AV) (cy:Value) (q:Bool),VRel φ y cy→YV P kt key y=some q→gA d ck cy=some q∧(q=true→cy=ck):=by
   cases key <;> simp only[Zv,Bool.false_eq_true] at hk
   cases hv;refine⟨_,VQ hk,?_⟩;intro y cy q hy h
   cases y <;> simp only[YV,reduceCtorEq] at h
   rw[if_pos hk] at h
   cases h; cases hy
   rename_i x y;refine⟨?_,fun he=>by rw[of_decide_eq_true he]⟩;simp only[gA]
   cases x <;> cases y <;> rfl
   cases hv;refine⟨_,YA (by simpa using hk),?_⟩;intro y cy q hy h
   cases y <;> simp only[YV,reduceCtorEq] at h
   split at h;rename_i hc;obtain⟨_,rfl⟩:=hc
   cases h; cases hy
   refine⟨?_,fun he=>by rw[of_decide_eq_true he]⟩;simp only[gA,if_true];congr 1;cases h;cases hv;refine⟨_,XI hk,?_⟩;intro y cy q hy h
   cases y <;> simp only[YV,reduceCtorEq] at h
   rw[if_pos hk] at h
   cases h; cases hy
   refine⟨?_,fun he=>by rw[of_decide_eq_true he]⟩;simp only[gA];congr 1;rw[Bool.eq_iff_iff,jA];simp;exact absurd ⟨_,rfl⟩ hagg
  have run : ∀ (es : List (AV × AV)) (ms : List MapEntry) (r : Option (Nat × AV)) (j : Nat), es.length = ms.length → (∀ (j : Nat) x m, es[j]? = some x → ms[j]? = some m → VRel φ x.1 m.key ∧ VRel φ x.2 m.val) → Zo P kt key es = some r →
      ∃ cr,gN d ck ms j=some cr∧(r=none→cr=none)∧∀ i v,r=some (i,v)→∃ cv m,cr=some (j+i,cv)∧VRel φ v cv∧ms[i]? = some m∧m.key=ck∧m.val=cv:=by
    intro es
    induction es with
    | nil=>
      intro ms r j hl _ h;have:ms = []:=fZ hl.symm;subst this;cases h;exact⟨none,rfl,fun _=>rfl,fun i v h=>by cases h⟩
    | cons e es ih=>
      intro ms r j hl hr h
      cases ms with
      | nil=>simp at hl
      | cons m ms=>
        obtain⟨h1,h2⟩:=hr 0 e m rfl rfl;simp only[Zo] at h
        cases hq:YV P kt key e.1 with
        | none=>rw[hq] at h; cases h
        | some q=>
          obtain⟨g1,g2⟩:=main e.1 m.key q h1 hq;rw[hq] at h
          cases q with
          | true=>
            simp only[fU] at h;subst h;refine⟨some (j,m.val),by simp[gN,g1],nofun,?_⟩;intro i v hiv;cases hiv;exact⟨_,m,rfl,h2,rfl,g2 rfl,rfl⟩
          | false=>
            simp only[dZ] at h;obtain⟨r',hr',rfl⟩:=h;obtain⟨cr,h3,h4,h5⟩:=ih ms r' (j+1) al (fun q x y hx hy=>hr (q+1) x y au bB) hr';refine⟨cr,by simp[gN,g1,h3],?_,?_⟩
            · intro hn; exact h4 (by simpa using hn)
            · intro i v hiv;simp only[dZ] at hiv;obtain⟨⟨i',v'⟩,rfl,hiv⟩:=hiv;cases hiv;obtain⟨cv,m',h6,h7,h8,h9⟩:=h5 i' v' rfl;exact⟨cv,m',by rw[h6]; congr 2; omega,h7,by simpa using h8,h9⟩
  intro es ms r hl hr h;obtain⟨cr,h1,h2,h3⟩:=run es ms r 0 hl hr h;refine⟨cr,MapKept.run_findKey hd h1,h2,?_⟩;intro i v hiv;obtain⟨cv,m,h4,h5⟩:=h3 i v hiv;exact⟨cv,m,by rw[h4,Nat.zero_add],h5⟩
theorem JL {P:Program} {φ:Emb} {kt:TypeId} {key:AV} {ck:Value} (hk:Zv P kt key=true) (hv:VRel φ key ck) (w:World):(gT ck ck).run P w = .ok ck w:=by
 have hs:fG 10000 ck ck=true:=by
  cases key <;> simp only[Zv,Bool.false_eq_true] at hk
  cases hv; simp[fG]
  cases hv; simp[fG]
  cases hv; simp[fG,jA]
  ·cases hv with|agg _ cs hl hh=>
   split at hk;split at hk;split at hk;rename_i x hx;obtain⟨rfl,-⟩:=Vy hx ⟨hl,hh⟩;show fG (9999+1) _ _=true;simp only[fG,beq_self_eq_true,Bool.true_and,jU];rintro⟨p,q⟩ hpq;obtain⟨i,hi⟩:=List.mem_iff_getElem?.1 hpq;simp only[List.getElem?_zip_eq_some] at hi;obtain⟨h1,h2⟩:=hi;rw[h1] at h2; cases h2;simp only[gE,dZ] at h1;obtain⟨n,_,rfl⟩:=h1;simp[fG];cases hk;cases hk;cases hk
 simp[gT,hs]
end Go.Am
namespace Go.Am
theorem RY {P:Program} {ρ:Operand→AV} {o:Oper} {h:AHeap} {t:TypeId} (ho:o.op = .makeMap t none):Qa P ρ o h (.mp h.next) (h.allocT (.map [])):=by
 refine⟨HGrow.allocT _ _,?_⟩;intro φ a w K Q hfr r _ hk;have hφ : φ h.next=none:=hfr h.next (fJ _) ax;obtain⟨r',tr⟩:=r.allocT hφ (.map []) (.map #[] 0) (fun φ' w' _ hw=>⟨#[],hw,rfl,by simp⟩);have hrun:(execOp a.eval o).run P w = .ok (.value (.map (some w.heap.size))) (w.alloc (.map #[] 0)):=by
  simp[execOp,ho,Instr.makeMap]
 exact Kr hrun (hk _ _ _ tr r' (.mp _ _ _ _ (Emb.upd_same _ _ _)))
def ents (h : AHeap) : AV → Option (List (AV × AV))
  | .nilm=>some []
  | .mp b=>match h.get b with
    | some (.obj _ (.map es))=>some es
    | _=>none
  | _=>none
def Z8 (P:Program) (t:TypeId):Option (TypeId × TypeId):=match P.underlying t with|some (.map k e)=>some (k,e)|_=>none
theorem ZT {P:Program} {t:TypeId} {p:TypeId × TypeId} (h:Z8 P t=some p):P.underlying t=some (.map p.1 p.2):=by
 unfold Z8 at h;split at h;rename_i hu; cases h; exact hu;cases h
def alook (P:Program) (h:AHeap) (t:TypeId) (x key:AV) (ok:Bool):Option AV:=
  match Z8 P t,ents h x with
  | some (kt,et),some es=>if Zv P kt key=true then
      match Zo P kt key es,QS P et with
      | some r,some z=>some (match r with
        | some (_,v)=>if ok then .tup [v,.bool true] else v
        | none=>if ok then .tup [z,.bool false] else z)
      | _,_=>none
    else none
  | _,_=>none
theorem VK {φ:Emb} {x:AV} {c:Value} (h:VRel φ x c) (b:Bool):VRel φ (.tup [x,.bool b]) (.tuple #[c,.bool b]):=by
 refine .tup _ [c,.bool b] rfl ?_;intro j y u hy hu
 match j,hy,hu with
 | 0,hy,hu=>cases hy; cases hu; exact h
 | 1,hy,hu=>cases hy; cases hu; exact .bool b
theorem Up {P:Program} {ρ:Operand→AV} {o:Oper} {h:AHeap} {t:TypeId} {x ix:Operand} {ok:Bool} {v:AV} (ho:o.op = .lookup t x ix ok) (hs:alook P h t (ρ x) (ρ ix) ok=some v):ReadS P ρ o h v:=by
 intro φ w ev r hops;unfold alook at hs;split at hs
 ·rename_i kt et es hm hes;split at hs
  ·rename_i hkey;split at hs
   ·rename_i fr z hf hz;simp only[fU] at hs;subst hs;have hx:=hops x aR;have hi:=hops ix aR;obtain⟨i,zv,hzi,hzv,hzr⟩:=QV hz;have hzrun:(zeroValue et).run P w = .ok zv w:=by simp[zeroValue,typeInfo,hzi,hzv]
    have hu:=ZT hm
    obtain ⟨ms, hlen, hrel, hget⟩ : ∃ ms : Array MapEntry, es.length = ms.toList.length ∧ (∀ (j : Nat) y m, es[j]? = some y → ms.toList[j]? = some m → VRel φ y.1 m.key ∧ VRel φ y.2 m.val) ∧
        ((ev x = .map none∧ms = #[])∨∃ k,ev x = .map (some k)∧w.heap[k]? = some (.map ms ms.size)):=by
      unfold ents at hes;split at hes
      · rename_i hρ;cases hes;rw[hρ] at hx;generalize hq:ev x=q at hx;cases hx;exact⟨#[],rfl,by simp,.inl ⟨rfl,rfl⟩⟩
      · rename_i b hρ;rw[hρ] at hx;generalize hq:ev x=q at hx;cases hx;rename_i k i' z' hφ;split at hes
        · rename_i F es' hg;cases hes;obtain⟨ms,h1,h2,h3⟩:=r.blk b k i' z' _ hφ hg aY;exact⟨ms,by simpa using h2,fun j y m hy hm=>(h3 j y m hy ak).2,.inr ⟨k,rfl,h1⟩⟩
        · cases hes
      · cases hes
    obtain⟨cr,h1,h2,h3⟩:=Xg (P:=P) hkey hi w es ms.toList fr hlen hrel hf;have hck:=ZY (P:=P) hkey hi ms.isEmpty w;have hrun:∀ (c:Value) (b:Bool),(match cr with|some (_,v)=>(v,true)|none=>(zv,false))=(c,b)→(gV t (ev x) (ev ix) ok).run P w = .ok (if ok then .tuple #[c,.bool b] else c) w:=by
     intro c b hcb;rcases hget with ⟨hq,rfl⟩|⟨k,hq,hw⟩
     ·have hcr:cr=none:=by
       cases cr with
       | none=>rfl
       | some p=>
        cases fr with
        | none=>exact h2 rfl
        | some p'=>obtain⟨_,_,_,_,h4,_⟩:=h3 p'.1 p'.2 rfl; simp at h4
      subst hcr;cases hcb;simp only[gV,dX,run_underlying hu,dY,hq,fA,hck,h1,hzrun]
     ·simp only[gV,dX,run_underlying hu,dY,hq,fK hw,fA,hck,h1]
      cases cr with
      | none=>cases hcb; simp only[dX,hzrun,dY,fA]
      | some p=>obtain⟨p1,p2⟩:=p; cases hcb; simp only[dX,fA,dY]
    cases fr with
    | none=>
     have hcr:=h2 rfl;subst hcr;have hrun:=hrun zv false rfl;have hop:(execOp ev o).run P w = .ok (.value (if ok then .tuple #[zv,.bool false] else zv)) w:=by simp only[execOp,ho,dX,hrun,dY,fA]
     refine⟨_,hop,?_⟩
     cases ok with
     | true=>exact VK (hzr φ) false
     | false=>exact hzr φ
    | some p=>
     obtain⟨i',v'⟩:=p;obtain⟨cv,m,rfl,h5,_,_,_⟩:=h3 i' v' rfl;have hrun:=hrun cv true rfl;have hop:(execOp ev o).run P w = .ok (.value (if ok then .tuple #[cv,.bool true] else cv)) w:=by simp only[execOp,ho,dX,hrun,dY,fA]
     refine⟨_,hop,?_⟩
     cases ok with
     | true=>exact VK h5 true
     | false=>exact h5
   cases hs
  cases hs
 cases hs
def aput (P:Program) (h:AHeap) (t:TypeId) (x key val:AV):Option AHeap:=
  match Z8 P t,x with
  | some (kt,_),.mp b=>match h.get b with
    | some (.obj F (.map es))=>if Zv P kt key=true then
        (Zo P kt key es).map fun r=>h.set b (.obj F (.map (match r with|some (i,_)=>es.set i (key,val)|none=>es ++ [(key,val)])))
      else none
    | _=>none
  | _,_=>none
theorem VZ {P:Program} {ρ:Operand→AV} {o:Oper} {h h':AHeap} {t:TypeId} {x ix y:Operand} (ho:o.op = .mapUpdate t x ix y) (hs:aput P h t (ρ x) (ρ ix) (ρ y)=some h'):Qa P ρ o h (.tup []) h':=by
 unfold aput at hs;split at hs
 ·rename_i kt et b hm hρ;split at hs
  ·rename_i F es hg;split at hs
   ·rename_i hkey;simp only[dZ] at hs;obtain⟨fr,hf,rfl⟩:=hs;refine⟨HGrow.setT hg,?_⟩;intro φ a w K Q hfr r hops hk;have hx:=hops x aR;have hi:=hops ix aR;have hy:=hops y aR;have hu:=ZT hm;rw[hρ] at hx;generalize hq:a.eval x=q at hx;cases hx;rename_i k i' z' hφ;obtain⟨ms,h1,h2,h3⟩:=r.blk b k i' z' _ hφ hg aY;obtain⟨cr,g1,g2,g3⟩:=Xg (P:=P) hkey hi w es ms.toList fr bC (fun j y m hy hm=>(h3 j y m hy ak).2) hf;have hck:=ZY (P:=P) hkey hi false w;have hst:=JL (P:=P) hkey hi w
    cases fr with
    | none=>
     have hcr:=g2 rfl;subst hcr;have hrun:(fV t (a.eval x) (a.eval ix) (a.eval y)).run P w = .ok () (QY w k (.map (ms.push {key:=a.eval ix,val:=a.eval y,born:=ms.size}) (ms.size+1))):=by
      simp only[fV,dX,run_underlying hu,dY,hq,fK h1,hck,g1,gF _ h1];rfl
     have hop:(execOp a.eval o).run P w = .ok .skip (QY w k (.map (ms.push {key:=a.eval ix,val:=a.eval y,born:=ms.size}) (ms.size+1))):=by simp only[execOp,ho,dX,hrun,dY,fA]
     obtain⟨r',tr⟩:=r.setT hφ hg (.map (es ++ [(ρ ix,ρ y)])) (.map (ms.push {key:=a.eval ix,val:=a.eval y,born:=ms.size}) (ms.size+1)) (by
      intro w' hw';refine⟨ms.push {key:=a.eval ix,val:=a.eval y,born:=ms.size},by rw[hw',Array.size_push],by simp[h2],?_⟩;intro j p m hp hm;rw[gL] at hp;rw[Array.getElem?_push] at hm;split at hp;rename_i hj;rw[if_neg aA] at hm;exact h3 j p m hp hm;rename_i hj;have hj0:j=ms.size:=by
       have:=(fI.1 hp).1;simp at this; omega
      rw[if_pos hj0] at hm;cases hm;rw[show j - es.length=0 by omega] at hp;cases hp;exact⟨hj0.symm,hi,hy⟩)
     exact XP hop (hk φ _ _ tr r' (VRel.undef φ))
    | some p=>
     obtain⟨i,v⟩:=p;obtain⟨cv,m,rfl,g5,g6,g7,g8⟩:=g3 i v rfl;have hmi:ms[i]? = some m:=by simpa using g6
     have hrun:(fV t (a.eval x) (a.eval ix) (a.eval y)).run P w = .ok () (QY w k (.map (ms.modify i fun e=>{e with key:=a.eval ix,val:=a.eval y}) ms.size)):=by
      simp only[fV,dX,run_underlying hu,dY,hq,fK h1,hck,g1,hmi,fY,jY,g7,hst,gF _ h1];rfl
     have hop:(execOp a.eval o).run P w = .ok .skip (QY w k (.map (ms.modify i fun e=>{e with key:=a.eval ix,val:=a.eval y}) ms.size)):=by simp only[execOp,ho,dX,hrun,dY,fA]
     obtain⟨r',tr⟩:=r.setT hφ hg (.map (es.set i (ρ ix,ρ y))) (.map (ms.modify i fun e=>{e with key:=a.eval ix,val:=a.eval y}) ms.size) (by
      intro w' hw';refine⟨ms.modify i fun e=>{e with key:=a.eval ix,val:=a.eval y},by rw[hw',Array.size_modify],by simp[h2],?_⟩;intro j p m' hp hm;rw[gI] at hp;rw[Array.getElem?_modify] at hm;by_cases hij:i=j;subst hij;rw[if_pos rfl] at hp hm;rw[hmi] at hm;cases hm;split at hp;rename_i hlt;cases hp;refine⟨?_,hi,hy⟩;exact(h3 i es[i] m (dW hlt) hmi).1;cases hp;rw[if_neg hij] at hp hm;exact h3 j p m' hp hm)
     exact XP hop (hk φ _ _ tr r' (VRel.undef φ))
   cases hs
  cases hs
 cases hs
theorem range_step {P:Program} {ρ:Operand→AV} {o:Oper} {h:AHeap} {t:TypeId} {x:Operand} {s:ByteArray} (ho:o.op = .range t x) (ht:Xb P t=true) (hs : ρ x = .str s):Qa P ρ o h (.it h.next) (h.allocT (.walk s 0)):=by
 refine⟨HGrow.allocT _ _,?_⟩;intro φ a w K Q hfr r hops hk;have hx:=hops x aR;have hu:=XI ht;rw[hs] at hx;generalize hq:a.eval x=q at hx;cases hx;have hφ : φ h.next=none:=hfr h.next (fJ _) ax;obtain⟨r',tr⟩:=r.allocT hφ (.walk s 0) (.stringIter s 0) (fun φ' w' _ hw=>hw);have hrun:(execOp a.eval o).run P w = .ok (.value (.pointer (some ⟨w.heap.size,0,none⟩))) (w.alloc (.stringIter s 0)):=by
  simp[execOp,ho,Instr.range,run_underlying hu,hq]
 exact Kr hrun (hk _ _ _ tr r' (.it _ _ _ (Emb.upd_same _ _ _)))
theorem VE {P:Program} {w:World} {r:Nat} {s:ByteArray} {pos:Nat} (hb:w.heap[r]? = some (.stringIter s pos)):(getObj r).run P w = .ok (.stringIter s pos) w:=by
 simp[getObj,Sem.run,hb]
theorem Wj {P:Program} {w:World} {r:Nat} {s:ByteArray} {pos:Nat} (o:Go.Obj) (hb:w.heap[r]? = some (.stringIter s pos)):(setObj r o).run P w = .ok () (QY w r o):=by
 simp[setObj,Sem.run,hb,QY]
theorem next_step {P : Program} {ρ : Operand → AV} {o : Oper} {h : AHeap} {x : Operand} {b F : Nat} {s : ByteArray} {pos : Nat} (ho : o.op = .next x true) (hx : ρ x = .it b) (hg : h.get b = some (.obj F (.walk s pos))) (hlt : pos < s.size) :
    Qa P ρ o h (.tup [.bool true,.int .i64 pos,.int .i32 (fC s pos).1]) (h.set b (.obj F (.walk s (pos+(fC s pos).2)))):=by
 refine⟨HGrow.setT hg,?_⟩;intro φ a w K Q hfr r hops hk;have hv:=hops x aR;rw[hx] at hv;generalize hq:a.eval x=q at hv;cases hv;rename_i k z hφ;have h1:w.heap[k]? = some (.stringIter s pos):=r.blk b k 0 z _ hφ hg aY;obtain⟨r',tr⟩:=r.setT hφ hg (.walk s (pos+(fC s pos).2)) (.stringIter s (pos+(fC s pos).2)) (fun w' hw=>hw);have hrun:(execOp a.eval o).run P w = .ok (.value (.tuple #[.bool true,goInt pos,.int .i32 (fC s pos).1])) (QY w k (.stringIter s (pos+(fC s pos).2))):=by
  simp only[execOp,ho,Instr.next,dX,hq,dY,VE h1,if_pos hlt,Wj _ h1,fA]
 refine Kr hrun (hk φ _ _ tr r' ?_);refine .tup _ [.bool true,goInt pos,.int .i32 (fC s pos).1] rfl ?_;intro j y u hy hu
 match j,hy,hu with
 | 0,hy,hu=>cases hy; cases hu; exact .bool _
 | 1,hy,hu=>cases hy; cases hu; exact .int _ _
 | 2,hy,hu=>cases hy; cases hu; exact .int _ _
theorem next_over {P : Program} {ρ : Operand → AV} {o : Oper} {h : AHeap} {x : Operand} {b F : Nat} {s : ByteArray} {pos : Nat} (ho : o.op = .next x true) (hx : ρ x = .it b) (hg : h.get b = some (.obj F (.walk s pos))) (hle : s.size ≤ pos) :
    Qa P ρ o h (.tup [.bool false]) h:=by
 refine⟨HGrow.refl _,?_⟩;intro φ a w K Q hfr r hops hk;have hv:=hops x aR;rw[hx] at hv;generalize hq:a.eval x=q at hv;cases hv;rename_i k z hφ;have h1:w.heap[k]? = some (.stringIter s pos):=r.blk b k 0 z _ hφ hg aY;have hrun:(execOp a.eval o).run P w = .ok (.value (.tuple #[.bool false])) w:=by
  simp only[execOp,ho,Instr.next,dX,hq,dY,VE h1,if_neg (show¬ pos<s.size by omega),fA]
 refine Kr hrun (hk φ _ w (Trans.refl _ _ _) r ?_);refine .tup _ [.bool false] rfl ?_;intro j y u hy hu
 match j,hy,hu with
 | 0,hy,hu=>cases hy; cases hu; exact .bool _
end Go.Am
namespace Go.Am
def Zq (v:AV):Prop:=∃ b,v = .mp b
def IsIt (v:AV):Prop:=∃ b,v = .it b
abbrev mapO (v:AV) (es:List (AV × AV)):Obj:=⟨v,0,Thing.enc (.map es),false⟩
abbrev walkO (v:AV) (s:ByteArray) (pos:Nat):Obj:=⟨v,0,Thing.enc (.walk s pos),false⟩
def RdM (h:AHeap) (v:AV) (es:List (AV × AV)):Prop:=∃ b F,v = .mp b∧h.get b=some (.obj F (.map es))
theorem St.ofK {h h':AHeap} (k:Keeps h h'):St h h' []:=⟨k,[],rfl,by simp,by simp,by simp⟩
theorem RdM.ext {h0 h:AHeap} (k:Keeps h0 h) {v:AV} {es:List (AV × AV)} (hr:RdM h0 v es):RdM h v es:=let⟨b,F,hv,hg⟩:=hr; ⟨b,F,hv,k.get_some hg⟩
theorem Un {es es':List (AV × AV)} (h:Thing.enc (.map es)=Thing.enc (.map es')):es=es':=by
 refine(List.map_inj_right (f:=fun p:AV × AV=>AV.tup [p.1,p.2]) ?_).1 h;rintro⟨a,b⟩ ⟨c,d⟩ he;simp only[AV.tup.injEq,List.cons.injEq,and_true] at he;rw[he.1,he.2]
theorem Mu.map {lo:Nat} {h:AHeap} {F:Option Nat} {v:AV} {es:List (AV × AV)} (hv:Zq v) (hm:Mu lo h F (mapO v es)):∃ b G f,F=some G∧lo≤b∧v = .mp b∧h.get b=some (.obj G (.map es))∧h.fam G=some f:=by
 obtain⟨b0,rfl⟩:=hv
 cases F with
 | none=>cases hm.1
 | some G=>
  rcases hm with ⟨b,off,p,cs,f,_,hw,_⟩|⟨b,x,f,h1,h2,h3,h4,h5,h6⟩
  rcases hw with ⟨_,_,hw,_⟩|⟨_,hw⟩ <;> cases hw
  ·cases x with
   | walk s pos=>cases h2
   | mwalk _ _ _=>cases h2
   | gone=>cases h2
   | dmap es'=>cases es <;> simp[Thing.enc] at h6
   | map es'=>
    simp only[Thing.at,AV.mp.injEq] at h2;subst h2;have:=Un h6;subst this;exact⟨b0,G,f,rfl,h1,rfl,h4,h5⟩
theorem Mu.walk {lo:Nat} {h:AHeap} {F:Option Nat} {v:AV} {s:ByteArray} {pos:Nat} (hv:IsIt v) (hm:Mu lo h F (walkO v s pos)):∃ b G f,F=some G∧lo≤b∧v = .it b∧h.get b=some (.obj G (.walk s pos))∧h.fam G=some f:=by
 obtain⟨b0,rfl⟩:=hv
 cases F with
 | none=>cases hm.1
 | some G=>
  rcases hm with ⟨b,off,p,cs,f,_,hw,_⟩|⟨b,x,f,h1,h2,h3,h4,h5,h6⟩
  rcases hw with ⟨_,_,hw,_⟩|⟨_,hw⟩ <;> cases hw
  ·cases x with
   | map es'=>cases h2
   | dmap es'=>cases h2
   | mwalk _ _ _=>simp[Thing.enc] at h6
   | gone=>simp[Thing.enc] at h6
   | walk s' pos'=>
    simp only[Thing.at,AV.it.injEq] at h2;subst h2;simp only[Thing.enc,List.cons.injEq,AV.str.injEq,AV.int.injEq,and_true,true_and] at h6;obtain⟨rfl,h7⟩:=h6;have:pos=pos':=by omega
    subst this;exact⟨b0,G,f,rfl,h1,rfl,h4,h5⟩
theorem St.rdM {h0 h:AHeap} {objs:List Obj} (st:St h0 h objs) (k:Nat) {v:AV} {es:List (AV × AV)} (hk:objs[k]? = some (mapO v es)) (hv:Zq v):RdM h v es:=by
 obtain⟨_,fs,h1,h2,_⟩:=st;have hlt:k<fs.length:=by rw[h1]; exact(fI.1 hk).1
 obtain⟨b,G,f,_,_,h3,h4,_⟩:=(h2 k _ _ hk (dW hlt)).map hv;exact⟨b,G,h3,h4⟩
theorem Yi (h:AHeap) (x:Thing):Keeps h (h.allocT x):=by
 refine⟨by rw[AHeap.next_allocT]; omega,by rw[AHeap.nfam_allocT]; omega,rfl,?_,?_⟩;intro b hb; rw[AHeap.get_allocT,if_neg aA];intro F hF; rw[AHeap.fam_allocT,if_neg aA]
theorem St.allocT {h0 h:AHeap} {objs:List Obj} (st:St h0 h objs) (x:Thing):St h0 (h.allocT x) (⟨x.at h.next,0,x.enc,false⟩::objs):=by
 have hs:St h (h.allocT x) [⟨x.at h.next,0,x.enc,false⟩]:=by
  refine⟨Yi h x,[some h.nfam],rfl,?_,?_,?_⟩
  ·intro i o F ho hF
   cases i with
   | zero=>
    simp only[List.getElem?_cons_zero,fU] at ho hF;subst ho hF;exact .inr ⟨h.next,x,⟨0,none⟩,fJ _,rfl,rfl,by rw[AHeap.get_allocT,if_pos rfl],by rw[AHeap.fam_allocT,if_pos rfl],rfl⟩
   | succ i=>simp at ho
  intro i j F hi hj
  cases i <;> cases j <;> simp at hi hj⊢
  ·intro i F hi
   cases i with
   | zero=>simp at hi; omega
   | succ i=>simp at hi
 exact st.trans hs
theorem St.setT {h0 h : AHeap} {objs : List Obj} (st : St h0 h objs) {k b G : Nat} {o : Obj} {x x' : Thing} (hk : objs[k]? = some o) (hat : ∀ b, x'.at b = x.at b) (hov : o.v = x.at b) (hg : h.get b = some (.obj G x))
    (hmu:∀ F,Mu h0.next h F o→F=some G∧h0.next≤b∧∃ f,h.fam G=some f):St h0 (h.set b (.obj G x')) (objs.set k ⟨o.v,0,x'.enc,false⟩):=by
 have hblt:=AHeap.get_lt hg;have hget:∀ b',(h.set b (.obj G x')).get b'=if b'=b then some (.obj G x') else h.get b':=by
  intro b';rw[AHeap.get_set];by_cases hbb:b'=b;subst hbb; rw[if_pos ⟨rfl,hblt⟩,if_pos rfl];rw[if_neg (by simp[hbb]),if_neg hbb]
 refine st.upd hk (by simp[AHeap.set,AHeap.next]) (by simp[AHeap.set,AHeap.nfam]) rfl ?_;intro F hm hge;obtain⟨rfl,hlo,f,hf⟩:=hmu F hm;refine⟨some G,.inr ⟨b,x',f,hlo,by rw[hat]; exact hov,rfl,by rw[hget,if_pos rfl],hf,rfl⟩,.inl rfl,?_,fun _ _ _=>rfl⟩;intro b' hb' hno;rw[hget];by_cases hbb:b'=b;subst hbb;exact((hno G rfl hlo).2 x hg).elim;rw[if_neg hbb]
class KeyT (P:Program) (kt:TypeId) {κ:Type} [DecidableEq κ] (kf : κ→AV):Prop where
  ok:∀ a,Zv P kt (kf a)=true
  eq:∀ a b,YV P kt (kf a) (kf b)=some (decide (a=b))
class MpT (P:Program) (t:TypeId) (kt:outParam TypeId) (z:outParam AV):Prop where
  mp:∃ et,Z8 P t=some (kt,et)∧QS P et=some z
theorem MpT.of {P:Program} {t kt:TypeId} {z:AV} (h:((Z8 P t).map fun p=>(p.1,QS P p.2))=some (kt,some z)):MpT P t kt z:=by
 constructor
 cases hm:Z8 P t with
 | none=>rw[hm] at h; cases h
 | some p=>
  rw[hm] at h;simp only[fY,fU,Prod.mk.injEq] at h;exact⟨p.2,by rw[←h.1],h.2⟩
theorem KeyT.int {P:Program} {kt:TypeId} {k:IntKind} (h:Vk P kt=some k):KeyT P kt (AV.int k):=by
 refine⟨fun a=>by simp[Zv,h],fun a b=>?_⟩;simp only[YV];rw[if_pos ⟨h,trivial⟩]
section maps
variable {κ ν:Type} [DecidableEq κ]
def Ou : List (κ × ν) → κ → Option ν
  | [],_=>none
  | p::l,a=>if a=p.1 then some p.2 else Ou l a
def Ke : List (κ × ν) → κ → ν → List (κ × ν)
  | [],a,b=>[(a,b)]
  | p::l,a,b=>if a=p.1 then (a,b)::l else p::Ke l a b
abbrev entL (kf : κ→AV) (vf : ν→AV) (l:List (κ × ν)):List (AV × AV):=l.map fun p=>(kf p.1,vf p.2)
theorem K7 (l:List (κ × ν)) (a c : κ) (b : ν):Ou (Ke l a b) c=if c=a then some b else Ou l c:=by
 induction l with
 | nil=>simp[Ke,Ou]
 | cons p l ih=>
  simp only[Ke];by_cases h:a=p.1;rw[if_pos h];simp only[Ou];by_cases hc:c=a;simp[hc];rw[if_neg hc,if_neg hc,if_neg (by rw[←h]; exact hc)];rw[if_neg h];simp only[Ou,ih];by_cases hc:c=p.1;rw[if_pos hc,if_pos hc,if_neg (by rintro rfl; exact h hc)];rw[if_neg hc,if_neg hc]
theorem VS (l:List (κ × ν)) (a : κ):(Ou l a).isSome=true↔a∈l.map (·.1):=by
 induction l with
 | nil=>simp[Ou]
 | cons p l ih=>
  simp only[Ou,fO,fR];by_cases h:a=p.1;simp[h];rw[if_neg h]; simp[h,ih]
theorem XB (l:List (κ × ν)) (a : κ) (b : ν):(Ke l a b).map (·.1)=if a∈l.map (·.1) then l.map (·.1) else l.map (·.1) ++ [a]:=by
 induction l with
 | nil=>simp[Ke]
 | cons p l ih=>
  simp only[Ke];by_cases h:a=p.1;simp[h];rw[if_neg h,fO,ih];simp only[fO,fR,h,false_or];split <;> simp
theorem mput_set {P:List κ} {a : κ} (h:a ∉ P):Ke (P.map fun x=>(x,true)) a true=(P ++ [a]).map fun x=>(x,true):=by
 induction P with
 | nil=>rfl
 | cons p P ih=>
  simp only[fR,not_or] at h;simp only[fO,Ke,if_neg h.1,ih h.2,jB]
theorem X9 {P : Program} {kt : TypeId} {kf : κ → AV} {vf : ν → AV} [hk : KeyT P kt kf] (l : List (κ × ν)) (a : κ) :
    ∃ r,Zo P kt (kf a) (entL kf vf l)=some r∧r.map (·.2)=(Ou l a).map vf∧∀ b,(match r with|some (i,_)=>(entL kf vf l).set i (kf a,vf b)|none=>entL kf vf l ++ [(kf a,vf b)])=entL kf vf (Ke l a b):=by
 induction l with
 | nil=>exact⟨none,rfl,rfl,fun b=>rfl⟩
 | cons p l ih=>
  obtain⟨r,h1,h2,h3⟩:=ih;by_cases h:a=p.1;refine⟨some (0,vf p.2),?_,?_,?_⟩;simp only[entL,fO,Zo,hk.eq,h,decide_true];simp[Ou,h];intro b; simp[Ke,h]
  ·refine⟨r.map fun q=>(q.1+1,q.2),?_,?_,?_⟩;have h1':Zo P kt (kf a) (List.map (fun p=>(kf p.1,vf p.2)) l)=some r:=h1;simp only[entL,fO,Zo,hk.eq,h,decide_false,h1',fY];simp only[Ou,if_neg h,Option.map_map];rw[←h2]; rfl
   ·intro b;simp only[Ke,if_neg h];have:=h3 b
    cases r with
    | none=>simp only[Option.map_none]; simp only at this; simp only[entL,fO,jB] at this⊢; rw[this]
    | some q=>simp only[fY]; simp only at this; simp only[entL,fO,List.set_cons_succ] at this⊢; rw[this]
variable {P:Program} {n:Nat} {ops:Array Oper} {ex:List Nat} {Q:KF→AHeap→Prop} {k:Nat} {os:List Oper} {K:KF} {h h0:AHeap} {d:Nat} {ty:TypeId} {pos:String} {after:Array Edge} {objs:List Obj}
theorem Xd {op : Op} {v : AV} {h' : AHeap} (hc : Kh op = .chain) (hex : ex.contains k = false) (hs : Qa P (KO h.globs n K) ⟨some d, op, ty, pos, after, none⟩ h v h') (hk : KOps P n ops ex Q (k + 1) os ((d, v) :: K) h') :
    KOps P n ops ex Q k (⟨some d,op,ty,pos,after,none⟩::os) K h:=
  ZB (by unfold SemStep; simp only[hc]; exact hs) (fun hx=>by rw[hex] at hx; cases hx) hk
theorem Q7 {op : Op} {v : AV} {h' : AHeap} (hc : Kh op = .chain) (hex : ex.contains k = false) (hs : Qa P (KO h.globs n K) ⟨none, op, ty, pos, after, none⟩ h v h') (hk : KOps P n ops ex Q (k + 1) os K h') :
    KOps P n ops ex Q k (⟨none,op,ty,pos,after,none⟩::os) K h:=
  KOps.step0 (by unfold SemStep; simp only[hc]; exact hs) (fun hx=>by rw[hex] at hx; cases hx) hk
theorem ZE {t:TypeId} (st:St h0 h objs) (hex:ex.contains k=false) (hk:∀ v h',Zq v→St h0 h' (mapO v []::objs)→KOps P n ops ex Q (k+1) os ((d,v)::K) h'):KOps P n ops ex Q k (⟨some d,.makeMap t none,ty,pos,after,none⟩::os) K h:=
  Xd rfl hex (RY rfl) (hk _ _ ⟨_,rfl⟩ (St.allocT st (.map [])))
theorem RdM.ents {v:AV} {es:List (AV × AV)} (hr:RdM h v es):ents h v=some es:=by
 obtain⟨b,F,rfl,hg⟩:=hr;simp only[Go.Am.ents,hg]
theorem RdM.look {t kt : TypeId} {z : AV} {kf : κ → AV} {vf : ν → AV} {l : List (κ × ν)} {v : AV} [ht : MpT P t kt z] [hkt : KeyT P kt kf] (hr : RdM h v (entL kf vf l)) (a : κ) (ok : Bool) :
    alook P h t v (kf a) ok=some (match Ou l a with|some w=>if ok then .tup [vf w,.bool true] else vf w|none=>if ok then .tup [z,.bool false] else z):=by
 obtain⟨et,h1,h2⟩:=ht.mp;obtain⟨r,h3,h4,-⟩:=X9 (P:=P) (kt:=kt) (kf:=kf) (vf:=vf) l a;simp only[alook,h1,hr.ents,hkt.ok,if_true,h3,h2]
 cases r with
 | none=>
  cases hm:Ou l a with
  | none=>rfl
  | some w=>rw[hm] at h4; cases h4
 | some q=>
  cases hm:Ou l a with
  | none=>rw[hm] at h4; cases h4
  | some w=>rw[hm] at h4; simp only[fY,fU] at h4; obtain⟨q1,q2⟩:=q; simp only at h4; subst h4; rfl
theorem KOps.lookupK {t kt : TypeId} {z : AV} {kf : κ → AV} {vf : ν → AV} {l : List (κ × ν)} {v : AV} {x ix : Operand} {a : κ} [hx : EvK h.globs n K x v] (hi : KO h.globs n K ix = kf a) [ht : MpT P t kt z] [hkt : KeyT P kt kf] (hr : RdM h v (entL kf vf l)) (hex : ex.contains k = false)
    (hk:KOps P n ops ex Q (k+1) os ((d,match Ou l a with|some w=>vf w|none=>z)::K) h):KOps P n ops ex Q k (⟨some d,.lookup t x ix false,ty,pos,after,none⟩::os) K h:=by
 refine KOps.readS rfl (Up rfl ?_) hk;rw[hx.eq,hi,hr.look]
 cases Ou l a <;> rfl
theorem KOps.lookupK2 {t kt : TypeId} {z : AV} {kf : κ → AV} {vf : ν → AV} {l : List (κ × ν)} {v : AV} {x ix : Operand} {a : κ} [hx : EvK h.globs n K x v] (hi : KO h.globs n K ix = kf a) [ht : MpT P t kt z] [hkt : KeyT P kt kf] (hr : RdM h v (entL kf vf l)) (hex : ex.contains k = false)
    (hk:KOps P n ops ex Q (k+1) os ((d,.tup [match Ou l a with|some w=>vf w|none=>z,.bool (Ou l a).isSome])::K) h):KOps P n ops ex Q k (⟨some d,.lookup t x ix true,ty,pos,after,none⟩::os) K h:=by
 refine KOps.readS rfl (Up rfl ?_) hk;rw[hx.eq,hi,hr.look]
 cases Ou l a <;> rfl
theorem Qm {t kt : TypeId} {z : AV} {kf : κ → AV} {vf : ν → AV} {l : List (κ × ν)} {v : AV} {x ix : Operand} {a : κ} {w : ν} [hx : EvK h.globs n K x v] (hi : KO h.globs n K ix = kf a) [ht : MpT P t kt z] [hkt : KeyT P kt kf] (hr : RdM h v (entL kf vf l)) (hex : ex.contains k = false) (hz : z = vf w)
    (hk:KOps P n ops ex Q (k+1) os ((d,vf ((Ou l a).getD w))::K) h):KOps P n ops ex Q k (⟨some d,.lookup t x ix false,ty,pos,after,none⟩::os) K h:=by
 refine KOps.lookupK hi hr hex ?_
 cases hm:Ou l a with
 | none=>rw[hm] at hk; simp only; rw[hz]; exact hk
 | some u=>rw[hm] at hk; exact hk
theorem KOps.lookupS {t kt : TypeId} {z : AV} {kf : κ → AV} {vf : ν → AV} {l : List (κ × ν)} {v : AV} {x ix : Operand} {a : κ} {w : ν} [hx : EvK h.globs n K x v] (hi : KO h.globs n K ix = kf a) [ht : MpT P t kt z] [hkt : KeyT P kt kf] (hr : RdM h v (entL kf vf l)) (hex : ex.contains k = false) (hm : Ou l a = some w)
    (hk:KOps P n ops ex Q (k+1) os ((d,vf w)::K) h):KOps P n ops ex Q k (⟨some d,.lookup t x ix false,ty,pos,after,none⟩::os) K h:=by
 refine KOps.lookupK hi hr hex ?_;rw[hm]; exact hk
theorem Qq {t kt : TypeId} {z : AV} {kf : κ → AV} {vf : ν → AV} {l : List (κ × ν)} {v u : AV} {x ix y : Operand} {a : κ} {b : ν} {i : Nat} [hx : EvK h.globs n K x v] (hi : KO h.globs n K ix = kf a) [hy : EvK h.globs n K y u] (hu : u = vf b) [ht : MpT P t kt z] [hkt : KeyT P kt kf]
    (st:St h0 h objs) (hv:Zq v) (hk':objs[i]? = some (mapO v (entL kf vf l))) (hex:ex.contains k=false)
    (hk:∀ h',St h0 h' (objs.set i (mapO v (entL kf vf (Ke l a b))))→KOps P n ops ex Q (k+1) os K h'):KOps P n ops ex Q k (⟨none,.mapUpdate t x ix y,ty,pos,after,none⟩::os) K h:=by
 obtain⟨bb,G,rfl,hg⟩:=St.rdM st i hk' hv;obtain⟨et,h1,h2⟩:=ht.mp;obtain⟨r,h3,-,h4⟩:=X9 (P:=P) (kt:=kt) (kf:=kf) (vf:=vf) l a;have hput:aput P h t (.mp bb) (kf a) (vf b)=some (h.set bb (.obj G (.map (entL kf vf (Ke l a b))))):=by
  simp only[aput,h1,hg,hkt.ok,if_true,h3,fY];rw[←h4 b]
 refine Q7 (v:=.tup []) (h':=h.set bb (.obj G (.map (entL kf vf (Ke l a b))))) rfl hex (VZ rfl ?_) (hk _ ?_);rw[hx.eq,hi,hy.eq,hu]; exact hput;refine St.setT (x:=.map (entL kf vf l)) (x':=.map (entL kf vf (Ke l a b))) st hk' (fun _=>rfl) rfl hg ?_;intro F hm;obtain⟨b',G',f,hF,hlo,hb',hg',hf⟩:=hm.map hv;cases hb';rw[hg] at hg'; cases hg';exact⟨hF,hlo,f,hf⟩
class StT (P:Program) (t:TypeId):Prop where
  st:Xb P t=true
theorem KOps.range {t : TypeId} {x : Operand} {s : ByteArray} [hx : EvK h.globs n K x (.str s)] [ht : StT P t] (st : St h0 h objs) (hex : ex.contains k = false) (hk : ∀ v h', IsIt v → St h0 h' (walkO v s 0 :: objs) → KOps P n ops ex Q (k + 1) os ((d, v) :: K) h') :
    KOps P n ops ex Q k (⟨some d,.range t x,ty,pos,after,none⟩::os) K h:=
  Xd rfl hex (range_step rfl ht.st hx.eq) (hk _ _ ⟨_,rfl⟩ (St.allocT st (.walk s 0)))
theorem KOps.next {x : Operand} {v : AV} {s : ByteArray} {p i : Nat} [hx : EvK h.globs n K x v] (st : St h0 h objs) (hv : IsIt v) (hk' : objs[i]? = some (walkO v s p)) (hex : ex.contains k = false)
    (h1:p<s.size→∀ h',St h0 h' (objs.set i (walkO v s (p+(fC s p).2)))→KOps P n ops ex Q (k+1) os ((d,.tup [.bool true,.int .i64 p,.int .i32 (fC s p).1])::K) h')
    (h2:s.size≤p→KOps P n ops ex Q (k+1) os ((d,.tup [.bool false])::K) h):KOps P n ops ex Q k (⟨some d,.next x true,ty,pos,after,none⟩::os) K h:=by
 obtain⟨_,fs,hl,hm,_⟩:=id st;have hlt:i<fs.length:=by rw[hl]; exact(fI.1 hk').1
 obtain⟨b,G,f,_,_,rfl,hg,_⟩:=(hm i _ _ hk' (dW hlt)).walk hv;by_cases hp:p<s.size;refine Xd rfl hex (next_step rfl hx.eq hg hp) (h1 hp _ ?_);refine St.setT (x:=.walk s p) (x':=.walk s (p+(fC s p).2)) st hk' (fun _=>rfl) rfl hg ?_;intro F hm';obtain⟨b',G',f',hF,hlo,hb',hg',hf⟩:=hm'.walk hv;cases hb';rw[hg] at hg'; cases hg';exact⟨hF,hlo,f',hf⟩;exact Xd rfl hex (next_over rfl hx.eq hg aA) (h2 aA)
end maps
end Go.Am
namespace Go.Am
section rules
variable {P:Program} {n:Nat} {ops:Array Oper} {ex:List Nat} {Q:KF→AHeap→Prop} {k:Nat} {os:List Oper} {K:KF} {h h0:AHeap} {d:Nat} {ty:TypeId} {pos:String} {after:Array Edge} {objs:List Obj}
theorem KOps.convIn {src dst : TypeId} {x : Operand} {kd kd' : IntKind} {a : Int} [hx : EvK h.globs n K x (.int kd a)] [hs : IntT P src kd] [hd : IntT P dst kd'] (hw : kd'.wrap a = a) (hk : KOps P n ops ex Q (k + 1) os ((d, .int kd' a) :: K) h) :
    KOps P n ops ex Q k (⟨some d,.convert src dst x,ty,pos,after,none⟩::os) K h:=by
 refine KOps.convert (kd':=kd') ?_;rw[hw];exact hk
theorem KOps.build {t : TypeId} {l : List (Nat × Operand)} {vs : List AV} {v : AV} [hl : EvKp h.globs n K l vs] (hb : Xt P t ((l.map (·.1)).zip vs) = some v) (hk : KOps P n ops ex Q (k + 1) os ((d, v) :: K) h) :
    KOps P n ops ex Q k (⟨some d,.build t (gY l),ty,pos,after,none⟩::os) K h:=by
 refine Kn rfl (v:=v) ?_ hk;have e:l.map (fun p=>(p.1,KO h.globs n K p.2))=(l.map (·.1)).zip vs:=by
  rw[←hl.eq];clear hl hb hk
  induction l with
  | nil=>rfl
  | cons p l ih=>rw[fO,fO,fO,List.zip_cons_cons,ih]
 simp only[K6];rw[e];exact hb
theorem KOps.lookupD2 {κ ν : Type} [DecidableEq κ] {t kt : TypeId} {z : AV} {kf : κ → AV} {vf : ν → AV} {l : List (κ × ν)} {v : AV} {x ix : Operand} {a : κ} {w : ν} [hx : EvK h.globs n K x v] (hi : KO h.globs n K ix = kf a) [ht : MpT P t kt z] [hkt : KeyT P kt kf] (hr : RdM h v (entL kf vf l)) (hex : ex.contains k = false) (hz : z = vf w)
    (hk:KOps P n ops ex Q (k+1) os ((d,.tup [vf ((Ou l a).getD w),.bool (Ou l a).isSome])::K) h):KOps P n ops ex Q k (⟨some d,.lookup t x ix true,ty,pos,after,none⟩::os) K h:=by
 refine KOps.lookupK2 hi hr hex ?_
 cases hm:Ou l a with
 | none=>rw[hm] at hk; simp only; rw[hz]; exact hk
 | some u=>rw[hm] at hk; exact hk
end rules
end Go.Am
namespace Go.Am
theorem AW.scope {P:Program} {c:Code} {Q:Ex→List AV→AHeap→Prop} {fr:List AV} {h:AHeap} (hw:AW P c Q fr h):AW P (.scope c) Q fr h:=by
 obtain⟨e,fr1,h1,⟨g,hx⟩,hq⟩:=hw;refine⟨e,fr1,h1,⟨g,?_⟩,hq⟩;intro D φ a w hfr s;refine wp_scope_straight (wp_mono (hx φ a w hfr s) ?_);rintro e' a' w' ⟨rfl,r⟩
 cases e <;> exact⟨rfl,r⟩
theorem KA.scope {P:Program} {n:Nat} {c:Code} {Q:Ex→KF→AHeap→Prop} {K:KF} {h:AHeap} (hw:KA P n c Q K h):KA P n (.scope c) Q K h:=AW.scope hw
theorem aload_var {P : Program} {φ : Emb} {h : AHeap} {w : World} {t : TypeId} {x v : AV} {cx : Value} (r : HRel φ h w) (hx : VRel φ x cx) (hl : Qr P h t x = some v) :
    ∃ c,(do loadVar t (←asAddr cx):Sem Value).run P w = .ok c w∧VRel φ v c:=by
 obtain⟨c,h1,h2⟩:=WM r hx hl;refine⟨c,?_,h2⟩;unfold Qr at hl;split at hl;cases hx;exact h1;cases hl
def Y6 (P : Program) (h : AHeap) (fr : List AV) : List ResultVar → Option (List AV)
  | []=>some []
  | .tmp t::rs=>(Y6 P h fr rs).map fun l=>fr.getD t .bot::l
  | .cell a t::rs=>(Qr P h t (fr.getD a .bot)).bind fun v=>(Y6 P h fr rs).map fun l=>v::l
theorem resAH_run {D : List Deferred} {P : Program} {φ : Emb} {fr : List AV} {a : Act} {h : AHeap} {w : World} (hh : HRel φ h w) (hf : FRel D φ fr a) : ∀ (rs : List ResultVar) (l : List AV), Y6 P h fr rs = some l →
    ∃ vs:List Value,VRels φ l vs∧(rs.mapM fun | .tmp t=>pure (a.tmps.getD t undef) | .cell ad t=>do loadVar t (←asAddr (a.tmps.getD ad undef)):Sem (List Value)).run P w = .ok vs w:=by
 intro rs
 induction rs with
 | nil=>intro l h; cases h; exact⟨[],⟨rfl,by simp⟩,rfl⟩
 | cons r rs ih=>
  intro l h
  cases r with
  | cell ad t=>
   simp only[Y6,fH,dZ] at h;obtain⟨v,hv,l',hl',rfl⟩:=h;obtain⟨vs,hvs,hr⟩:=ih l' hl';obtain⟨c,hc,hcv⟩:=aload_var (P:=P) hh (hf.get ad) hv;refine⟨c::vs,⟨by simp[hvs.1],?_⟩,?_⟩
   ·intro j x y hx hy
    cases j with
    | zero=>simp at hx hy; subst hx hy; exact hcv
    | succ j=>exact hvs.2 j x y au bB
   rw[jH,dX,hc];simp only[dY,dX,hr,fA]
  | tmp t=>
   simp only[Y6,dZ] at h;obtain⟨l',hl',rfl⟩:=h;obtain⟨vs,hv,hr⟩:=ih l' hl';refine⟨a.tmps.getD t undef::vs,⟨by simp[hv.1],?_⟩,?_⟩
   ·intro j x y hx hy
    cases j with
    | zero=>simp at hx hy; subst hx hy; simpa using hf.get t
    | succ j=>exact hv.2 j x y au bB
   simp only[jH,dX,fA,dY,hr]
theorem TC {D:List Deferred} {P:Program} {φ:Emb} {fr:List AV} {a:Act} {h:AHeap} {w:World} (hh:HRel φ h w) (hf:FRel D φ fr a) {fn:Func} {l:List AV} (hl:Y6 P h fr fn.results.toList=some l):∃ v,(results fn a.tmps).run P w = .ok v w∧VRel φ (Vw l) v:=by
 obtain⟨vs,hv,hr⟩:=resAH_run (P:=P) hh hf _ l hl;have hm:(fn.results.mapM fun | .tmp t=>pure (a.tmps.getD t undef) | .cell ad t=>do loadVar t (←asAddr (a.tmps.getD ad undef)):Sem (Array Value)).run P w = .ok vs.toArray w:=by
  rw[Array.mapM_eq_mapM_toList];simp only[Sem.run_map,hr,dY]
 refine⟨if h:vs.toArray.size=1 then vs.toArray[0] else .tuple vs.toArray,?_,?_⟩
 have he : results fn a.tmps = (do
     let vs←(fn.results.mapM fun | .tmp t=>pure (a.tmps.getD t undef) | .cell ad t=>do loadVar t (←asAddr (a.tmps.getD ad undef)):Sem (Array Value))
     pure (if h:vs.size=1 then vs[0] else .tuple vs)):=rfl
 rw[he,dX,hm];rfl
 ·have hlen:=hv.1
  match l,vs,hv,hlen with
  | [],[],hv,_=>exact .tup [] [] rfl aU
  | [x],[v],hv,_=>simpa [Vw] using hv.2 0 x v rfl rfl
  | x::y::l,v::u::vs,hv,_=>exact .tup _ _ hv.1 hv.2
theorem ACalls.of_bodyH {P : Program} {f : FuncId} {fn : Func} {c : Code} {args : List AV} {h : AHeap} {R : AV → AHeap → Prop} (hf : P.funcs[f]? = some fn) (hb : fn.body = some c) (hn : (fn.name == "runtime.NumGoroutine") = false)
    (hw:AW P c (fun e fr' h'=>(e = .normal∨e = .ret)∧∃ l,Y6 P h' fr' fn.results.toList=some l∧R (Vw l) h') (Xl args fn.ntmps) h):ACalls P f args h R:=by
 obtain⟨e,fr',h',⟨g,hx⟩,he,l,hr,hR⟩:=hw;refine⟨Vw l,h',⟨⟨fn,hf,hn,by rw[hb]; rfl⟩,g,?_⟩,hR⟩;intro φ w cs hfr r hargs;refine calls_of_wp hf hb ?_;have hs:Sim [] φ (Xl args fn.ntmps) h {tmps:=cs.toArray ++ Array.replicate (fn.ntmps - cs.toArray.size) undef,defers:=[]} w:=by
  refine⟨r,rfl,?_,?_⟩;simp[Xl,hargs.1];intro t y v hy hv;simp only[Xl] at hy;rw[←fS] at hv;simp only[Array.toList_append,Array.toList_replicate] at hv;rw[gL] at hy hv;rw[hargs.1] at hy;split at hy;rename_i hlt;rw[if_pos hlt] at hv;exact hargs.2 t y v hy hv;rename_i hlt;rw[if_neg hlt] at hv;rw[List.getElem?_replicate] at hy hv;split at hy;cases hy;split at hv
  cases hv; exact VRel.undef φ
  cases hv;cases hy
 refine wp_mono (hx φ _ w hfr hs) ?_;rintro e' a' w' ⟨rfl,φ',t,s'⟩;obtain⟨v,hv,hrel⟩:=TC (P:=P) s'.heap s'.fr hr;rcases he with rfl|rfl
 exact⟨s'.fr.1,v,hv,v,φ',rfl,t,s'.heap,hrel⟩;exact⟨s'.fr.1,v,hv,v,φ',rfl,t,s'.heap,hrel⟩
def Uc (P : Program) (h : AHeap) (n : Nat) (K : KF) : List ResultVar → Option (List AV)
  | []=>some []
  | .tmp t::rs=>(Uc P h n K rs).map fun l=>cond (gX n t) .bot (look K t)::l
  | .cell a t::rs=>(Qr P h t (cond (gX n a) .bot (look K a))).bind fun v=>(Uc P h n K rs).map fun l=>v::l
theorem resAH_toFr (P:Program) (h:AHeap) (n:Nat) (K:KF) (rs:List ResultVar):Y6 P h (KR n K) rs=Uc P h n K rs:=by
 induction rs with
 | nil=>rfl
 | cons r rs ih=>cases r <;> simp only[Y6,Uc,ih,Zd]
def fnC (P:Program) (n:Nat) (rs:List ResultVar) (R:AV→AHeap→Prop) (e:Ex) (K:KF) (h:AHeap):Prop:=(e = .normal∨e = .ret)∧∃ l,Uc P h n K rs=some l∧R (Vw l) h
theorem KA.callsH {P : Program} {f : FuncId} {fn : Func} {c : Code} {args : List AV} {h : AHeap} {R : AV → AHeap → Prop} (hf : P.funcs[f]? = some fn) (hb : fn.body = some c) (hn : (fn.name == "runtime.NumGoroutine") = false)
    (hle:args.length≤fn.ntmps) (hw:KA P fn.ntmps c (fnC P fn.ntmps fn.results.toList R) (Vf 0 args) h):ACalls P f args h R:=by
 refine ACalls.of_bodyH hf hb hn ?_;obtain⟨e,fr',h',⟨g,hx⟩,K,rfl,he,l,hl,hR⟩:=hw;exact⟨e,_,h',⟨g,fun φ a w hfr s=>hx φ a w hfr ⟨s.heap,s.fr.args hle⟩⟩,he,l,by rw[resAH_toFr,hl],hR⟩
theorem KA.fnH {P : Program} {f : FuncId} {fn : Func} {c : Code} {args : List AV} {h : AHeap} {R : AV → AHeap → Prop} (n : Nat) (rs : List ResultVar) (hf : P.funcs[f]? = some fn) (hb : fn.body = some c) (hn : (fn.name == "runtime.NumGoroutine") = false)
    (h1:fn.ntmps=n) (h2:fn.results.toList=rs) (hle:args.length≤n) (hw:KA P n c (fnC P n rs R) (Vf 0 args) h):ACalls P f args h R:=by
 subst h1 h2;exact KA.callsH hf hb hn hle hw
theorem fnC.retC {P:Program} {n a m i:Nat} {t:TypeId} {K:KF} {h0 h:AHeap} {R:AV→AHeap→Prop} {p:AV} {xs:List AV} {tip:Bool} {objs:List Obj} [hb:Eqb (gX n a) false] [hl:Look K a p] [ht:AgT P t m] (st:St h0 h objs) (hk:objs[i]? = some ⟨p,0,xs,tip⟩) (ha:AddrOf p p 0 0) (hx:xs.length=m) (hm : 0<m) (hR:R (.agg xs) h):fnC P n [.cell a t] R .ret K h:=by
 have hld:=Rd.loadAgg (P:=P) (t:=t) (st.rd i hk) ha hm aI;refine⟨.inr rfl,[.agg xs],?_,hR⟩;simp only[Uc,hb.eq,cond_false,hl.eq];rw[hld,jJ,fQ aI];rfl
class FdT (P:Program) (t:TypeId) (i:Nat) (off:outParam Nat):Prop where
  fd:∃ fs f s,XH P t=some fs∧fs[i]? = some f∧szA P f.type=some s∧s≠0∧f.offset=off
theorem FdT.of {P:Program} {t:TypeId} {i off:Nat} (h:((XH P t).bind fun fs=>fs[i]?.bind fun f=>(szA P f.type).map fun s=>(f.offset,s == 0))=some (off,false)):FdT P t i off:=by
 constructor;obtain⟨fs,h1,h⟩:=fH.1 h;obtain⟨f,h2,h⟩:=fH.1 h;obtain⟨s,h3,h⟩:=dZ.1 h;obtain⟨rfl,h4⟩:=Prod.mk.inj h;exact⟨fs,f,s,h1,h2,h3,by simpa using h4,rfl⟩
abbrev flr {α:Type} (f : α→List AV) (l:List α):List AV:=l.flatMap f
theorem VX {α:Type} {f : α→List AV} {s:Nat} (hf:∀ a,(f a).length=s):∀ l:List α,(flr f l).length=l.length*s:=by
 intro l
 induction l with
 | nil=>simp[flr]
 | cons a l ih=>simp only[flr,gO,List.length_append,hf,gB,gG,jO] at *; omega
theorem flr_drop {α:Type} {f : α→List AV} {s:Nat} (hf:∀ a,(f a).length=s):∀ (l:List α) (i:Nat),(flr f l).drop (i*s)=flr f (l.drop i):=by
 intro l
 induction l with
 | nil=>intro i; simp[flr]
 | cons a l ih=>
  intro i
  cases i with
  | zero=>simp
  | succ i=>
   rw[List.drop_succ_cons,←ih i];simp only[flr,gO];rw[List.drop_append,List.drop_of_length_le (by rw[hf,gG]; omega),List.nil_append,hf,gG,jO,Nat.add_sub_cancel]
theorem flr_part {α:Type} [Inhabited α] {f : α→List AV} {s:Nat} (hf:∀ a,(f a).length=s) {l:List α} {i:Nat} (hi:i<l.length):((flr f l).drop (i*s)).take s=f (l.getD i default):=by
 rw[flr_drop hf,List.drop_eq_getElem_cons hi,fB,dW hi];simp only[flr,gO,jY];rw[List.take_append_of_le_length (by rw[hf]; omega),fQ (by rw[hf]; omega)]
theorem RU {α:Type} (f : α→List AV) (l:List α) (a : α):flr f l ++ f a=flr f (l ++ [a]):=by simp[flr]
section rules
variable {P:Program} {n:Nat} {ops:Array Oper} {ex:List Nat} {Q:KF→AHeap→Prop} {k:Nat} {os:List Oper} {K:KF} {h h0:AHeap} {d:Nat} {ty:TypeId} {pos:String} {after:Array Edge} {objs:List Obj}
theorem Ob {x : Operand} {p v : AV} {t : TypeId} {i off s j : Nat} [hx : EvK h.globs n K x p] [ht : FdT P t i off] (ha : AddrOf p v s j) (hk : ∀ q, AddrOf q v s (j + off) → KOps P n ops ex Q (k + 1) os ((d, q) :: K) h) :
    KOps P n ops ex Q k (⟨some d,.fieldAddr t x i,ty,pos,after,none⟩::os) K h:=by
 obtain⟨b,o,h1,rfl⟩:=ha;obtain⟨fs,f,z,h2,h3,h4,h5,h6⟩:=ht.fd;refine Kn rfl (v:=.ptr b (o+j+off)) ?_ (hk _ ⟨b,o,h1,by rw[Nat.add_assoc]⟩);simp only[K6,hx.eq,Y0,h2,h3,h4,gQ,gC];rw[if_neg h5,h6]
theorem Kt {x : Operand} {p : AV} {t : TypeId} {i m : Nat} {xs : List AV} {tip : Bool} [hx : EvK h.globs n K x p] [ht : AgT P t m] (st : St h0 h objs) (hk' : objs[i]? = some ⟨p, 0, xs, tip⟩) (ha : AddrOf p p 0 0) (hl : xs.length = m) (hm : 0 < m) (hk : KOps P n ops ex Q (k + 1) os ((d, .agg xs) :: K) h) :
    KOps P n ops ex Q k (⟨some d,.load t x,ty,pos,after,none⟩::os) K h:=by
 refine KOps.loadAgg ha (st.rd i hk') (z:=m) hm aI ?_;rw[jJ,fQ aI];exact hk
theorem KC {t : TypeId} {x y : Operand} {p : AV} {l cs : List AV} {i z : Nat} {tip : Bool} [hx : EvK h.globs n K x p] [hy : EvK h.globs n K y (.agg l)] [ht : AgT P t z] (st : St h0 h objs) (hex : ex.contains k = false) (hk' : objs[i]? = some ⟨p, 0, cs, tip⟩) (ha : AddrOf p p 0 0) (h1 : l.all AV.one = true) (hl : l.length = z) (hc : cs.length = z) (hz : 0 < z)
    (hk:∀ h',St h0 h' (objs.set i ⟨p,0,l,tip⟩)→KOps P n ops ex Q (k+1) os K h'):KOps P n ops ex Q k (⟨none,.store t x y,ty,pos,after,none⟩::os) K h:=by
 refine KOps.storeAgg st hex hk' ha h1 hl hz aI ?_;intro h' hS;refine hk h' ?_;have e:putL cs 0 l=l:=by
  have:l.length=cs.length:=by omega
  simp[putL,this]
 simp only[e] at hS;exact hS
theorem O6 {t : TypeId} {x : Operand} {l : List AV} [hx : EvK h.globs n K x (.agg l)] (st : St h0 h objs) (h1 : l.all AV.one = true) (hk : ∀ p h', AddrOf p p 0 0 → St h0 h' (⟨p, 0, l, true⟩ :: objs) → KOps P n ops ex Q (k + 1) os ((d, p) :: K) h') :
    KOps P n ops ex Q k (⟨some d,.box t x,ty,pos,after,none⟩::os) K h:=KOps.box st (by simp only[AV.cells?]; rw[if_pos h1]) hk
theorem Zl {α : Type} {f : α → List AV} {x : Operand} {v : AV} {t e : TypeId} {s : Nat} {l : List α} {zs : List AV} [hx : EvK h.globs n K x v] [ht : SlT P t e s zs] (hf : ∀ a, (f a).length = s) (hr : Rd h v s (flr f l)) (hk : KOps P n ops ex Q (k + 1) os ((d, .int .i64 l.length) :: K) h) :
    KOps P n ops ex Q k (⟨some d,.call {callee:=.builtin .len,args:=#[x],argTypes:=#[t]},ty,pos,after,none⟩::os) K h:=
  KOps.len (e:=e) (zs:=zs) (m:=l.length) hr (VX hf l) hk
theorem QJ {α : Type} {f : α → List AV} {x ix : Operand} {v : AV} {t e : TypeId} {s : Nat} {l : List α} {zs : List AV} {kd : IntKind} {i : Int} {j : Nat} [hx : EvK h.globs n K x v] [hi : EvK h.globs n K ix (.int kd i)] [ht : SlT P t e s zs] (hf : ∀ a, (f a).length = s) (hr : Rd h v s (flr f l)) (hj : i = (j : Int)) (hlt : j < l.length)
    (hk:∀ p,AddrOf p v s (j*s)→KOps P n ops ex Q (k+1) os ((d,p)::K) h):KOps P n ops ex Q k (⟨some d,.indexAddr t x ix,ty,pos,after,none⟩::os) K h:=by
 subst hj;exact KOps.indexAddr (e:=e) (zs:=zs) (m:=l.length) hr (VX hf l) aA aA (fun p hp=>hk p bL)
theorem QL {α : Type} [Inhabited α] {f : α → List AV} {x : Operand} {p v : AV} {t : TypeId} {s j : Nat} {l : List α} [hx : EvK h.globs n K x p] [ht : AgT P t s] (hf : ∀ a, (f a).length = s) (h0s : 0 < s) (ha : AddrOf p v s (j * s)) (hr : Rd h v s (flr f l)) (hj : j < l.length) (hk : KOps P n ops ex Q (k + 1) os ((d, .agg (f (l.getD j default))) :: K) h) :
    KOps P n ops ex Q k (⟨some d,.load t x,ty,pos,after,none⟩::os) K h:=by
 refine KOps.loadAgg ha hr h0s ?_ ?_;rw[VX hf];have:=Nat.mul_le_mul_right s (show j+1≤l.length by omega);rw[gG,jO] at this;exact this;rw[flr_part hf hj]; exact hk
theorem KOps.buildSliceS {t e : TypeId} {len s : Nat} {l : List (Nat × Operand)} {vs zs cs : List AV} [ht : SlT P t e s zs] [hl : EvKp h.globs n K l vs] (st : St h0 h objs) (hr : l.map (·.1) = gM len) (hp : YT s vs = some cs) (hcl : cs.length = len * s) (hsz : len * s ≤ 16777216 ∧ len ≤ 16777216)
    (hk:∀ v h',St h0 h' (⟨v,s,cs,true⟩::objs)→KOps P n ops ex Q (k+1) os ((d,v)::K) h'):KOps P n ops ex Q k (⟨some d,.buildSlice t len (gY l),ty,pos,after,none⟩::os) K h:=by
 obtain⟨z,hz,_⟩:=fH.1 ht.zero;refine KOps.allo (mk:=.slc len s true) (cs:=cs) rfl ?_ (hk _ _ (st.alloc (.inl ⟨len,true,rfl,hcl,ht.pos⟩)));simp only[Yg,ht.elem,ht.sz,hz,gQ,gC];rw[show(List.map (fun p=>KO h.globs n K p.2) l.toArray.toList)=vs from hl.eq,hp];simp only[gC];rw[if_pos ⟨hr,hsz.1,hsz.2⟩]
end rules
end Go.Am
namespace Go.Am
theorem Ur {P : Program} {ρ : Operand → AV} {o : Oper} {h : AHeap} {t : TypeId} {p : TypeId × TypeId} {x : Operand} {bm F : Nat} {es : List (AV × AV)} (ho : o.op = .range t x) (hm : Z8 P t = some p) (hs : ρ x = .mp bm) (hg : h.get bm = some (.obj F (.map es))) :
    Qa P ρ o h (.it h.next) (h.allocT (.mwalk bm es.length [])):=by
 refine⟨HGrow.allocT _ _,?_⟩;intro φ a w K Q hfr r hops hk;have hx:=hops x aR;have hu:=ZT hm;rw[hs] at hx;generalize hq:a.eval x=q at hx;cases hx;rename_i km i z hφm;have hφ : φ h.next=none:=hfr h.next (fJ _) ax;obtain⟨ms,h1,h2,h3⟩:=r.blk bm km i z _ hφm hg aY;obtain⟨r',tr⟩:=r.allocT hφ (.mwalk bm es.length []) (.mapIter (some km) ms.size #[] ms.size) (fun φ' w' hle hw=>⟨km,i,z,hle _ _ hφm,by rw[hw,h2]⟩);have hrun:(execOp a.eval o).run P w = .ok (.value (.pointer (some ⟨w.heap.size,0,none⟩))) (w.alloc (.mapIter (some km) ms.size #[] ms.size)):=by
  simp[execOp,ho,Instr.range,run_underlying hu,hq,fK h1]
 exact Kr hrun (hk _ _ _ tr r' (.it _ _ _ (Emb.upd_same _ _ _)))
theorem born_nodup {ms:Array MapEntry} (hb:∀ (j:Nat) m,ms[j]? = some m→m.born=j):(ms.toList.map (·.born)).Nodup:=by
 have:ms.toList.map (·.born)=gM ms.size:=by
  apply jC;simp;intro i h1 h2;simp only[List.length_map,fM] at h1;simp only[List.getElem_map,Array.getElem_toList,List.getElem_range];exact hb i _ (fE h1)
 rw[this]; exact jD
theorem UG {ms:Array MapEntry} {seen:List Nat} (hb:∀ (j:Nat) m,ms[j]? = some m→m.born=j) {e:MapEntry} (he:e∈(leftOf ms seen.toArray).toList):∃ j,ms[j]? = some e∧j ∉ seen∧e.born=j:=by
 simp only[leftOf,gR,jF,fF,Bool.not_eq_true',gH] at he;obtain⟨h1,h2⟩:=he;obtain⟨j,hj,rfl⟩:=fW h1;have h3:=hb j _ (fE hj);refine⟨j,fE hj,?_,h3⟩;rw[h3] at h2;intro hm;have:=gJ.2 hm;rw[this] at h2; cases h2
theorem left_size {ms:Array MapEntry} {seen:List Nat} (hb:∀ (j:Nat) m,ms[j]? = some m→m.born=j):(leftOf ms seen.toArray).size=0↔∀ j,j<ms.size→j∈seen:=by
 constructor
 ·intro h j hj;by_cases hm:j∈seen;exact hm
  ·exfalso;have h3:=hb j _ (fE hj);have:ms[j]∈(leftOf ms seen.toArray).toList:=by
    simp only[leftOf,gR,jF,fF,Bool.not_eq_true',gH];refine⟨jE hj,?_⟩;rw[h3]
    cases hc:seen.contains j with
    | false=>rfl
    | true=>exact absurd (gJ.1 hc) hm
   have h4:(leftOf ms seen.toArray).toList = []:=by rw[←gD,fM]; exact h
   rw[h4] at this; cases this
 ·intro h;rw[←fM,gD]
  cases hl:(leftOf ms seen.toArray).toList with
  | nil=>rfl
  | cons e l=>
   obtain⟨j,h1,h2,_⟩:=UG (seen:=seen) hb (e:=e) (by rw[hl]; simp);exact absurd (h j (fD.1 h1).1) h2
theorem HRel.mwalk {φ : Emb} {h : AHeap} {w : World} (r : HRel φ h w) {b k i z bm F Fm : Nat} {es : List (AV × AV)} {seen : List Nat} (hb : φ b = some (k, i, z)) (hg : h.get b = some (.obj F (.mwalk bm es.length seen))) (hm : h.get bm = some (.obj Fm (.map es))) :
    ∃ km im zm ms,φ bm=some (km,im,zm)∧w.heap[k]? = some (.mapIter (some km) ms.size seen.toArray ms.size)∧w.heap[km]? = some (.map ms ms.size)∧es.length=ms.size∧(∀ (j:Nat) (x:AV × AV) (m:MapEntry),es[j]? = some x→ms[j]? = some m→m.born=j∧VRel φ x.1 m.key∧VRel φ x.2 m.val)∧(∀ (j:Nat) m,ms[j]? = some m→m.born=j):=by
 obtain⟨km,im,zm,h1,h2⟩:=r.blk b k i z _ hb hg aY;obtain⟨ms,h3,h4,h5⟩:=r.blk bm km im zm _ h1 hm (by unfold AHeap.valid; rw[hm]);refine⟨km,im,zm,ms,h1,by rw[←h4]; exact h2,h3,h4,h5,?_⟩;intro j m hj;have hlt:=(fD.1 hj).1;exact(h5 j (es[j]'aA) m (dW _) hj).1
theorem mnext_over {P : Program} {ρ : Operand → AV} {o : Oper} {h : AHeap} {x : Operand} {b bm F Fm : Nat} {es : List (AV × AV)} {seen : List Nat} (ho : o.op = .next x false) (hx : ρ x = .it b) (hg : h.get b = some (.obj F (.mwalk bm es.length seen))) (hm : h.get bm = some (.obj Fm (.map es))) (hall : ∀ j, j < es.length → j ∈ seen) :
    Qa P ρ o h (.tup [.bool false]) h:=by
 refine⟨HGrow.refl _,?_⟩;intro φ a w K Q hfr r hops hk;have hv:=hops x aR;rw[hx] at hv;generalize hq:a.eval x=q at hv;cases hv;rename_i k z hφ;obtain⟨km,im,zm,ms,h1,h2,h3,h4,h5,h6⟩:=r.mwalk hφ hg hm;have hold:∀ y∈ms.toList,y.born<ms.size:=by
  intro y hy;obtain⟨j,hj,rfl⟩:=fW (fF.1 hy);rw[h6 j _ (fE hj)]; exact hj
 rcases run_next_at (P:=P) w o.type k km ms.size ms.size seen.toArray ms ms.size h2 h3 hold (fJ _) with ⟨_,hrun⟩|⟨e,he,_⟩
 ·have hop:(execOp a.eval o).run P w = .ok (.value (.tuple #[.bool false])) w:=by
   simp only[execOp,ho,hq,dX,hrun,dY,fA]
  refine Kr hop (hk φ _ w (Trans.refl _ _ _) r ?_);refine .tup _ [.bool false] rfl ?_;intro j y u hy hu
  match j,hy,hu with
  | 0,hy,hu=>cases hy; cases hu; exact .bool _
 obtain⟨j,hj1,hj2,_⟩:=UG h6 he;exact absurd (hall j (by have:=(fD.1 hj1).1; omega)) hj2
theorem mnext_more {P : Program} {o : Oper} {h : AHeap} {x : Operand} {b bm F Fm : Nat} {es : List (AV × AV)} {seen : List Nat} (ho : o.op = .next x false) (hg : h.get b = some (.obj F (.mwalk bm es.length seen))) (hm : h.get bm = some (.obj Fm (.map es))) {j0 : Nat} (hj0 : j0 < es.length) (hj1 : j0 ∉ seen)
    {φ:Emb} {a:Act} {w:World} {K:Act→World→Prop} {Q:Exit→Act→World→Prop} (r:HRel φ h w) (hv:VRel φ (.it b) (a.eval x))
    (hk:∀ j k v,j ∉ seen→es[j]? = some (k,v)→∀ c w',Trans φ h w φ (h.set b (.obj F (.mwalk bm es.length (seen ++ [j])))) w'→HRel φ (h.set b (.obj F (.mwalk bm es.length (seen ++ [j])))) w'→VRel φ (.tup [.bool true,k,v]) c→K (a.put o.dst c) w'):o.wp P a w K Q:=by
 generalize hq:a.eval x=q at hv;cases hv;rename_i k z hφ;obtain⟨km,im,zm,ms,h1,h2,h3,h4,h5,h6⟩:=r.mwalk hφ hg hm;have hold:∀ y∈ms.toList,y.born<ms.size:=by
  intro y hy;obtain⟨j,hj,rfl⟩:=fW (fF.1 hy);rw[h6 j _ (fE hj)]; exact hj
 rcases run_next_at (P:=P) w o.type k km ms.size ms.size seen.toArray ms ms.size h2 h3 hold (fJ _) with ⟨h0,_⟩|⟨e,he,w1,hw1,hrun⟩
 exact absurd ((left_size h6).1 h0 j0 aA) hj1
 ·obtain⟨j,hj2,hj3,hj4⟩:=UG h6 he;have hlt:=(fD.1 hj2).1;have hes:es[j]? = some (es[j]'aA):=dW _;obtain⟨_,hk1,hk2⟩:=h5 j _ e hes hj2;have hop:(execOp a.eval o).run P w = .ok (.value (.tuple #[.bool true,e.key,e.val])) (QY w1 k (.mapIter (some km) ms.size (seen.toArray.push e.born) ms.size)):=by
   simp only[execOp,ho,hq,dX,hrun,dY,fA];rfl
  have hBR:∀ w',w'.heap[k]? = some (.mapIter (some km) ms.size (seen.toArray.push e.born) ms.size)→BRel φ w' k 0 z (.obj F (.mwalk bm es.length (seen ++ [j]))):=by
   intro w' hw';refine⟨km,im,zm,h1,?_⟩;rw[hw',hj4,h4];simp
  have hr1:HRel φ h w1:=by
   rcases hw1 with rfl|rfl
   exact r;exact r.drew
  obtain⟨r',tr⟩:=hr1.setT hφ hg (.mwalk bm es.length (seen ++ [j])) _ hBR;have tr':Trans φ h w φ (h.set b (.obj F (.mwalk bm es.length (seen ++ [j])))) (QY w1 k (.mapIter (some km) ms.size (seen.toArray.push e.born) ms.size)):=by
   rcases hw1 with rfl|rfl
   exact tr;exact tr.drew
  refine Kr hop (hk j _ _ hj3 hes _ _ tr' r' ?_);refine .tup _ [.bool true,e.key,e.val] rfl ?_;intro j' y u hy hu
  match j',hy,hu with
  | 0,hy,hu=>cases hy; cases hu; exact .bool _
  | 1,hy,hu=>cases hy; cases hu; exact hk1
  | 2,hy,hu=>cases hy; cases hu; exact hk2
theorem Uq {P : Program} {ρ : Operand → AV} {o : Oper} {h : AHeap} {x : Operand} {b bm F Fm j : Nat} {es : List (AV × AV)} {seen : List Nat} {k v : AV} (ho : o.op = .entry x) (hx : ρ x = .it b) (hg : h.get b = some (.obj F (.mwalk bm es.length (seen ++ [j])))) (hm : h.get bm = some (.obj Fm (.map es))) (hj : es[j]? = some (k, v)) :
    Qa P ρ o h (.tup [k,v]) h:=by
 refine⟨HGrow.refl _,?_⟩;intro φ a w K Q hfr r hops hk;have hv:=hops x aR;rw[hx] at hv;generalize hq:a.eval x=q at hv;cases hv;rename_i kk z hφ;obtain⟨km,im,zm,ms,h1,h2,h3,h4,h5,h6⟩:=r.mwalk hφ hg hm;have hlt:j<ms.size:=by have:=(fI.1 hj).1; omega
 obtain⟨hb,hk1,hk2⟩:=h5 j _ _ hj (fE hlt);have h2':w.heap[kk]? = some (.mapIter (some km) ms.size (seen.toArray.push ms[j].born) ms.size):=by rw[h2,hb]; simp
 have hrun:=run_entry_at (P:=P) w kk km ms.size seen.toArray ms ms.size ms[j] h2' h3 (fF.2 (jE hlt)) (born_nodup h6);have hop:(execOp a.eval o).run P w = .ok (.value (.tuple #[ms[j].key,ms[j].val])) w:=by
  simp only[execOp,ho,hq,dX,hrun,dY,fA]
 refine Kr hop (hk φ _ w (Trans.refl _ _ _) r ?_);refine .tup _ [ms[j].key,ms[j].val] rfl ?_;intro j' y u hy hu
 match j',hy,hu with
 | 0,hy,hu=>cases hy; cases hu; exact hk1
 | 1,hy,hu=>cases hy; cases hu; exact hk2
def Weak (f g:List AV):Prop:=f.length=g.length∧∀ t:Nat,g[t]? = f[t]?∨g[t]? = some AV.bot
theorem Weak.rel {f g:List AV} (hw:Weak f g) {D:List Deferred} {φ:Emb} {a:Act} (h:FRel D φ f a):FRel D φ g a:=by
 refine⟨h.1,by rw[←hw.1]; exact h.2.1,?_⟩;intro t x v hx hv;rcases hw.2 t with h1|h1
 exact h.2.2 t x v (by rw[←h1]; exact hx) hv;rw[h1] at hx; cases hx; exact .bot v
theorem HRel.gone {φ:Emb} {h:AHeap} {w:World} (r:HRel φ h w) {b F:Nat} {x:Thing} (hg:h.get b=some (.obj F x)):HRel φ (h.set b (.obj F .gone)) w∧Trans φ h w φ (h.set b (.obj F .gone)) w:=by
 have hblt:=AHeap.get_lt hg;have hget:∀ b',(h.set b (.obj F .gone)).get b'=if b'=b then some (.obj F .gone) else h.get b':=by
  intro b';rw[AHeap.get_set];by_cases hbb:b'=b;subst hbb; rw[if_pos ⟨rfl,hblt⟩,if_pos rfl];rw[if_neg (by simp[hbb]),if_neg hbb]
 have hvalid:∀ b',b'≠b→(h.set b (.obj F .gone)).valid b'=h.valid b':=by
  intro b' hne;simp only[AHeap.valid,hget,if_neg hne];rfl
 have hcell:∀ {b' G p cs},(h.set b (.obj F .gone)).get b'=some (.cells G p cs)→b'≠b∧h.get b'=some (.cells G p cs):=by
  intro b' G p cs hB;rw[hget] at hB;by_cases hbb:b'=b;rw[if_pos hbb] at hB; cases hB;rw[if_neg hbb] at hB; exact⟨hbb,hB⟩
 refine⟨⟨r.glob,r.lt,?_,?_,?_,?_,?_,?_⟩,Emb.le_refl φ,?_,?_,?_,fun _ _ _=>rfl,rfl,rfl,rfl,fJ _⟩;intro b' k i z B hb' hB hv;rw[hget] at hB;by_cases hbb:b'=b;rw[if_pos hbb] at hB; cases hB; trivial;rw[if_neg hbb] at hB;rw[hvalid b' hbb] at hv;exact r.blk b' k i z B hb' hB hv;intro b' k i z G p cs hb' hB;exact r.arr b' k i z G p cs hb' (hcell hB).2;intro b1 b2 k i1 i2 z1 z2 F1 F2 p1 p2 cs1 cs2 hb1 hb2 hg1 hg2;exact r.one b1 b2 k i1 i2 z1 z2 F1 F2 p1 p2 cs1 cs2 hb1 hb2 (hcell hg1).2 (hcell hg2).2;intro b1 b2 k i1 i2 z1 z2 F1 p1 p2 cs1 cs2 hb1 hb2 hg1 hg2;exact r.sep b1 b2 k i1 i2 z1 z2 F1 p1 p2 cs1 cs2 hb1 hb2 (hcell hg1).2 (hcell hg2).2;intro b1 b2 k i1 i2 z1 z2 F1 x1 B hb1 hb2 hg1 hg2;rw[hget] at hg1 hg2;by_cases e1:b1=b;subst e1;by_cases e2:b2=b1;exact e2.symm;rw[if_neg e2] at hg2;exact r.map b1 b2 k i1 i2 z1 z2 F x B hb1 hb2 hg hg2;rw[if_neg e1] at hg1;by_cases e2:b2=b;subst e2;exact r.map b1 b2 k i1 i2 z1 z2 F1 x1 _ hb1 hb2 hg1 hg;rw[if_neg e2] at hg2;exact r.map b1 b2 k i1 i2 z1 z2 F1 x1 B hb1 hb2 hg1 hg2;intro b' G p cs hB;exact r.ext b' G p cs (hcell hB).2;intro b' h1 h2;have:(h.set b (.obj F .gone)).next=h.next:=by simp[AHeap.set,AHeap.next]
 omega;intro b' p h1 h2; rw[h1] at h2; cases h2;intro b' k' i' z' h1 h2; rw[h1] at h2; cases h2
def OkD (n:Nat) (D:List Nat):Prop:=D.Nodup∧∀ j∈D,j<n
theorem OkD.snoc {n:Nat} {D:List Nat} (h:OkD n D) {j:Nat} (hj:j ∉ D) (hn:j<n):OkD n (D ++ [j]):=by
 refine⟨List.nodup_append.2 ⟨h.1,by simp,?_⟩,?_⟩;rintro a ha b hb rfl;rw[gW] at hb;subst hb;exact hj ha;intro i hi;rw[List.mem_append,gW] at hi;rcases hi with hi|rfl
 exact h.2 i hi;exact hn
theorem Z1:∀ {l m:List Nat},l.Nodup→(∀ x∈l,x∈m)→l.length≤m.length:=by
 intro l
 induction l with
 | nil=>intro m _ _; exact Nat.zero_le _
 | cons a l ih=>
  intro m hn hs;have hn':=jG.1 hn;have ha:=hs a aU;have h1:=ih (m:=m.erase a) hn'.2 (fun x hx=>(List.mem_erase_of_ne (by rintro rfl; exact hn'.1 hx)).2 (hs x (by simp[hx])));rw[List.length_erase_of_mem ha] at h1;have:=List.length_pos_of_mem ha;rw[gB];omega
theorem OkD.full {n:Nat} {D:List Nat} (h:OkD n D) (hl:D.length=n):∀ j,j<n→j∈D:=by
 intro j hj;apply fN;intro hm;have:=Z1 (l:=j::D) (m:=gM n) (jG.2 ⟨hm,h.1⟩) (by
  intro x hx;rcases fR.1 hx with rfl|hx
  exact gK.2 hj;exact gK.2 (h.2 x hx))
 rw[gB,jI] at this;omega
theorem OkD.more {n:Nat} {D:List Nat} (h:OkD n D) (hl:D.length<n):∃ j,j<n∧j ∉ D:=by
 apply fN;intro hno;have hall:∀ j∈gM n,j∈D:=fun j hj=>fN fun hm=>hno ⟨j,gK.1 hj,hm⟩
 have:=Z1 jD hall;rw[jI] at this;omega
theorem AW.mapLoop {P : Program} {r1 id : Nat} {ops1 : Array Oper} {onx : Oper} {os1 : List Oper} {X : Code} {x : Operand} {b F bm Fm : Nat} {es : List (AV × AV)} {FZ : List Nat → List AV} {HS : List Nat → AHeap} {FE : List AV} {HE : AHeap} {Q : Ex → List AV → AHeap → Prop}
    (hl:ops1.toList=onx::os1) (ho:onx.op = .next x false) (hgd:onx.guard=none)
    (hx:∀ D,OkD es.length D→Zy (HS D).globs (FZ D) x = .it b) (hI:∀ D,OkD es.length D→(HS D).get b=some (.obj F (.mwalk bm es.length D))) (hM:∀ D,OkD es.length D→(HS D).get bm=some (.obj Fm (.map es)))
    (round:∀ D j k v,OkD es.length D→j ∉ D→es[j]? = some (k,v)→Q3 P ops1 TXT (fun fr h=>AW P X (fun e fr' h'=>e = .normal∧Weak fr' (FZ (D ++ [j]))∧h'=HS (D ++ [j])) fr h) 1 os1 (QO (FZ D) onx.dst (.tup [.bool true,k,v])) ((HS D).set b (.obj F (.mwalk bm es.length (D ++ [j])))))
    (last:∀ D,OkD es.length D→(∀ j,j<es.length→j∈D)→Q3 P ops1 TXT (fun fr h=>AW P X (fun e fr' h'=>e = .exit id∧Weak fr' FE∧(∃ y,h'.get b=some (.obj F y))∧h'.set b (.obj F .gone)=HE) fr h) 1 os1 (QO (FZ D) onx.dst (.tup [.bool false])) (HS D))
    (hQ:Q (.exit id) FE HE):AW P (.loop (.seq (.region r1 ops1 false) X)) Q (FZ []) (HS []):=by
 have ho0:ops1[0]? = some onx:=by rw[←fS,hl]; rfl
 have hrest:∀ i,os1[i]? = ops1[1+i]?:=by intro i; rw[←fS,hl,Nat.add_comm]; rfl
 have hsz:ops1.size=os1.length+1:=by rw[←fM,hl]; rfl
 have key : ∀ k D, OkD es.length D → D.length + k = es.length → HGrow (HS D) HE ∧ ∀ {Δ : List Deferred} (φ : Emb) (a : Act) (w : World), Fresh φ (HS D) HE → Sim Δ φ (FZ D) (HS D) a w →
     Code.rounds P (.seq (.region r1 ops1 false) X) (fun e' a' w'=>e' = .exit id∧∃ φ',Trans φ (HS D) w φ' HE w'∧Sim Δ φ' FE HE a' w') (k+1) a w:=by
   intro k
   induction k with
   | zero=>
     intro D hD hlen;have hfull:=hD.full aA;have hB:AW P (.seq (.region r1 ops1 false) X) (fun e fr' h'=>e = .exit id∧Weak fr' FE∧(∃ y,h'.get b=some (.obj F y))∧h'.set b (.obj F .gone)=HE) (FZ D) (HS D):=by
       refine AW.seq (AW.region (ex:=TXT) hl ?_);unfold Q3;simp only[hgd];exact⟨_,_,.inr ⟨trivial,mnext_over ho (hx D hD) (hI D hD) (hM D hD) hfull⟩,fun hc=>absurd hc aD,last D hD hfull⟩
     obtain⟨e,fr',h',⟨g,hrun⟩,rfl,hw,⟨y,hy⟩,rfl⟩:=hB;have g2:HGrow h' (h'.set b (.obj F .gone)):=HGrow.setT hy;refine⟨g.trans g2,?_⟩;intro Δ φ a w hfr s;rw[rounds_succ];refine wp_mono (hrun φ a w (hfr.left g2) s) ?_;rintro e' a' w' ⟨rfl,φ',t,s'⟩;obtain⟨r2,t2⟩:=s'.heap.gone hy;exact⟨rfl,φ',t.trans hfr g g2 t2,r2,hw.rel s'.fr⟩
   | succ k ih=>
     intro D hD hlen;obtain⟨j0,hj0,hj1⟩:=hD.more aA;have step:∀ j kk v,j ∉ D→es[j]? = some (kk,v)→HGrow (HS D) ((HS D).set b (.obj F (.mwalk bm es.length (D ++ [j])))):=fun j kk v _ _=>HGrow.setT (hI D hD)
     have hgr:HGrow (HS D) HE:=by
       obtain⟨fr1,h1,⟨e,fr2,h2,⟨g2,_⟩,_,_,rfl⟩,g1,_⟩:=UB os1 1 _ _ hrest (round D j0 _ _ hD hj1 (dW hj0));exact((step j0 _ _ hj1 (dW hj0)).trans g1).trans (g2.trans (ih _ (hD.snoc hj1 hj0) ar).1)
     refine⟨hgr,?_⟩;intro Δ φ a w hfr s;rw[rounds_succ];refine wp_seq (wp_region ?_);rw[List.range_eq_range',hsz,List.range'_succ];simp only[wpOps,ho0,Region.wanted,hgd,if_true];refine .inl (mnext_more ho (hI D hD) (hM D hD) hj0 hj1 s.heap (by rw[←hx D hD]; exact Ya s.heap s.fr x) ?_);intro j kk v hj2 hj3 c w1 t1 r1' hc;have hjl:=(fI.1 hj3).1;obtain⟨fr1,h1,⟨e,fr2,h2,⟨g2,hrun2⟩,rfl,hw2,rfl⟩,g1,hrun1⟩:=UB os1 1 _ _ hrest (round D j kk v hD hj2 hj3);obtain⟨g3,hrun3⟩:=ih _ (hD.snoc hj2 hjl) ar;have g0:=step j kk v hj2 hj3;have f1:Fresh φ ((HS D).set b (.obj F (.mwalk bm es.length (D ++ [j])))) HE:=hfr.right g0 t1;refine hrun1 φ _ w1 _ (f1.left (g2.trans g3)) ⟨r1',(s.fr).put onx.dst hc⟩ ?_;intro φ2 a2 w2 t2 s2;show X.wp P _ a2 w2;have f2:Fresh φ2 h1 HE:=f1.right g1 t2;refine wp_mono (hrun2 φ2 a2 w2 (f2.left g3) s2) ?_;rintro e' a3 w3 ⟨rfl,φ3,t3,s3⟩;show Code.rounds P _ _ (k+1) a3 w3;have f3:Fresh φ3 (HS (D ++ [j])) HE:=f2.right g2 t3;refine Ut ?_ _ _ _ (hrun3 φ3 a3 w3 f3 ⟨s3.heap,hw2.rel s3.fr⟩);rintro e'' a4 w4 ⟨rfl,φ4,t4,s4⟩;exact⟨rfl,φ4,t1.trans hfr g0 ((g1.trans g2).trans g3) (t2.trans f1 g1 (g2.trans g3) (t3.trans f2 g2 g3 t4)),s4⟩
 have hok:OkD es.length []:=⟨List.nodup_nil,by simp⟩;obtain⟨g,hrun⟩:=key es.length [] hok aU;exact⟨.exit id,FE,HE,⟨g,fun φ a w hfr s=>wp_loop_rounds _ (hrun φ a w hfr s)⟩,hQ⟩
theorem Weak.sub {n:Nat} {K K':KF} (hs:Sub K' K):Weak (KR n K) (KR n K'):=by
 refine⟨by rw[QM,QM],?_⟩;intro t;simp only[KR,gE];by_cases ht:t<n;rw[List.getElem?_range ht];simp only[fY,fU];rcases Sub.look hs t with h|h
 exact .inr h;exact .inl h;rw[List.getElem?_eq_none (by simpa using ht)];exact .inl rfl
theorem KA.mapLoop {P : Program} {n r1 id : Nat} {ops1 : Array Oper} {os1 : List Oper} {X : Code} {x : Operand} {a : Nat} {ty : TypeId} {pos : String} {after : Array Edge} {b F bm Fm : Nat} {es : List (AV × AV)} (KS : List Nat → KF) (HS : List Nat → AHeap) {KE K : KF} {HE h : AHeap} {Q : Ex → KF → AHeap → Prop}
    (hl:ops1.toList=⟨some a,.next x false,ty,pos,after,none⟩::os1)
    (hx:∀ D,OkD es.length D→KO (HS D).globs n (KS D) x = .it b) (hI:∀ D,OkD es.length D→(HS D).get b=some (.obj F (.mwalk bm es.length D))) (hM:∀ D,OkD es.length D→(HS D).get bm=some (.obj Fm (.map es)))
    (round:∀ D j k v,OkD es.length D→j ∉ D→es[j]? = some (k,v)→KOps P n ops1 TXT (fun K h=>KA P n X (fun e K' h'=>e = .normal∧Sub (KS (D ++ [j])) K'∧h'=HS (D ++ [j])) K h) 1 os1 ((a,.tup [.bool true,k,v])::KS D) ((HS D).set b (.obj F (.mwalk bm es.length (D ++ [j])))))
    (last:∀ D,OkD es.length D→(∀ j,j<es.length→j∈D)→KOps P n ops1 TXT (fun K h=>KA P n X (fun e K' h'=>e = .exit id∧Sub KE K'∧(∃ y,h'.get b=some (.obj F y))∧h'.set b (.obj F .gone)=HE) K h) 1 os1 ((a,.tup [.bool false])::KS D) (HS D))
    (hs:Sub (KS []) K) (hh:h=HS []) (hQ:Q (.exit id) KE HE):KA P n (.loop (.seq (.region r1 ops1 false) X)) Q K h:=by
 subst hh;refine KA.sub hs ?_;refine AW.mapLoop (FZ:=fun D=>KR n (KS D)) (HS:=HS) (FE:=KR n KE) (HE:=HE) (id:=id) hl rfl rfl (fun D hD=>by rw[XG]; exact hx D hD) hI hM ?_ ?_ ⟨KE,rfl,hQ⟩;intro D j k v hD hj hjk;have:=round D j k v hD hj hjk;unfold KOps at this;rw[←Xa] at this;refine Xv ?_ _ _ _ _ this;rintro fr h' ⟨K',rfl,hk⟩;refine AW.mono hk ?_;rintro e fr' h'' ⟨K'',rfl,he,hs',rfl⟩;exact⟨he,Weak.sub hs',rfl⟩;intro D hD hf;have:=last D hD hf;unfold KOps at this;rw[←Xa] at this;refine Xv ?_ _ _ _ _ this;rintro fr h' ⟨K',rfl,hk⟩;refine AW.mono hk ?_;rintro e fr' h'' ⟨K'',rfl,he,hs',hy,hg⟩;exact⟨he,Weak.sub hs',hy,hg⟩
end Go.Am
namespace Go.Am
def Xy (E:List (Int × Bool)) (l:List Int) (j:Nat):List Int:=match E[j]? with
  | some (w,m)=>l.set w.toNat (l.getD w.toNat 0+if m then 1 else -1)
  | none=>l
def Qs (E:List (Int × Bool)) (l:List Int) (D:List Nat):List Int:=D.foldl (Xy E) l
theorem UU (E:List (Int × Bool)) (l:List Int) (D:List Nat) (j:Nat):Qs E l (D ++ [j])=Xy E (Qs E l D) j:=by simp[Qs]
theorem Jc (E:List (Int × Bool)) (l:List Int) (j:Nat):(Xy E l j).length=l.length:=by unfold Xy; split <;> simp
theorem bumps_len (E:List (Int × Bool)) (D:List Nat):∀ l:List Int,(Qs E l D).length=l.length:=by
 induction D with
 | nil=>intro l; rfl
 | cons j D ih=>intro l; show(Qs E (Xy E l j) D).length=_; rw[ih,Jc]
theorem Q1 (e:List Int) (x i:Nat) (c:Int):(e.set x c).getD i 0=if i=x∧x<e.length then c else e.getD i 0:=by
 simp only[fB,gI];by_cases h:x=i;subst h;by_cases h2:x<e.length;simp[h2];simp[h2];simp[h,Ne.symm h]
theorem VB (E:List (Int × Bool)) (l:List Int) (j i:Nat):(Xy E l j).getD i 0=l.getD i 0+match E[j]? with
    | some (w,m)=>if w.toNat=i∧i<l.length then (if m then 1 else -1) else 0
    | none=>0:=by
 unfold Xy
 cases E[j]? with
 | none=>simp
 | some p=>
  obtain⟨w,m⟩:=p;simp only;rw[Q1];by_cases h:w.toNat=i∧i<l.length;obtain⟨rfl,h2⟩:=h;simp[h2];have h2:¬ (i=w.toNat∧w.toNat<l.length):=fun h3=>h ⟨h3.1.symm,by rw[h3.1]; exact h3.2⟩
  simp only[if_neg h,if_neg h2,Int.add_zero]
theorem extJ {a b:List Int} (hl:a.length=b.length) (h:∀ i,a.getD i 0=b.getD i 0):a=b:=by
 apply jC hl;intro i h1 h2;have:=h i;rwa [fB,fB,dW h1,dW h2] at this
theorem WS (E:List (Int × Bool)) (l:List Int) (i j:Nat):Xy E (Xy E l i) j=Xy E (Xy E l j) i:=by
 refine extJ (by simp only[Jc]) ?_;intro k;rw[VB,VB,VB,VB,Jc,Jc];omega
theorem bumps_perm {E:List (Int × Bool)} {D D':List Nat} (h:D.Perm D') (l:List Int):Qs E l D=Qs E l D':=
  h.foldl_eq' (fun x _ y _ z=>WS E z x y) l
def ZG (h1:AHeap) (bI FI bm n bn Fn pn:Nat) (cs:List AV) (off:Nat) (f:Fam) (D:List Nat) (xs:List AV):AHeap:=
  ((h1.set bI (.obj FI (.mwalk bm n D))).set bn (.cells (some Fn) pn (putL cs off xs))).setFam Fn (if D = [] then f else {f with live:=some [bn]})
section
variable {h1:AHeap} {bI FI bm n bn Fn pn:Nat} {cs:List AV} {off:Nat} {f:Fam}
theorem JK {D:List Nat} {xs:List AV} (b:Nat) (hI:bI<h1.next) (hn:bn<h1.next):(ZG h1 bI FI bm n bn Fn pn cs off f D xs).get b=if b=bn then some (.cells (some Fn) pn (putL cs off xs)) else if b=bI then some (.obj FI (.mwalk bm n D)) else h1.get b:=by
 unfold AHeap.next at hI hn;simp only[ZG,AHeap.setFam,AHeap.set,AHeap.get,gI,List.length_set];by_cases e1:bn=b;subst e1; simp[hn];by_cases e2:bI=b;subst e2; simp[e1,Ne.symm e1,hI];simp[e1,e2,Ne.symm e1,Ne.symm e2]
theorem hpush_fam {D:List Nat} {xs:List AV} (hF:Fn<h1.nfam):(ZG h1 bI FI bm n bn Fn pn cs off f D xs).fam Fn=some (if D = [] then f else {f with live:=some [bn]}):=by
 unfold AHeap.nfam at hF;simp[ZG,AHeap.setFam,AHeap.set,AHeap.fam,hF]
theorem UM {α:Type} {l:List α} {i:Nat} {a : α} (h:l[i]? = some a):l.set i a=l:=by
 obtain⟨hi,rfl⟩:=fI.1 h;exact List.set_getElem_self hi
theorem putL_same {cs xs:List AV} {off:Nat} (h:(cs.drop off).take xs.length=xs):putL cs off xs=cs:=by
 unfold putL;have h2:cs.drop off=xs ++ cs.drop (off+xs.length):=by
  have:=fT xs.length (cs.drop off);rw[h,List.drop_drop] at this;exact this.symm
 rw[List.append_assoc,←h2,fT]
theorem hpush_nil {xs:List AV} (hI:h1.get bI=some (.obj FI (.mwalk bm n []))) (hn:h1.get bn=some (.cells (some Fn) pn cs)) (hF:h1.fam Fn=some f) (hx:(cs.drop off).take xs.length=xs):ZG h1 bI FI bm n bn Fn pn cs off f [] xs=h1:=by
 unfold ZG;rw[putL_same hx,if_pos rfl];unfold AHeap.get at hI hn;unfold AHeap.fam at hF;unfold AHeap.setFam AHeap.set;simp only[UM hI,UM hn,UM hF]
theorem hpush_step {D D' : List Nat} {xs xs' : List AV} {c' : List AV} {f' : Fam} (hne : bI ≠ bn) (hD : D' ≠ []) (hc : c' = putL cs off xs') (hf : f' = { f with live := some [bn] }) :
    (((ZG h1 bI FI bm n bn Fn pn cs off f D xs).set bI (.obj FI (.mwalk bm n D'))).set bn (.cells (some Fn) pn c')).setFam Fn f'=ZG h1 bI FI bm n bn Fn pn cs off f D' xs':=by
 subst hc hf;unfold ZG;rw[if_neg hD];unfold AHeap.setFam AHeap.set;simp only[AHeap.mk.injEq,and_true];refine⟨?_,?_⟩;rw[gP _ _ hne.symm,fX,fX];rw[fX]
theorem hpush_gone {D D':List Nat} {xs:List AV} (hne:bI≠bn) (hD:D = []↔D' = []):(ZG h1 bI FI bm n bn Fn pn cs off f D xs).set bI (.obj FI .gone)=(ZG h1 bI FI bm n bn Fn pn cs off f D' xs).set bI (.obj FI .gone):=by
 unfold ZG;have:(if D = [] then f else {f with live:=some [bn]}:Fam)=if D' = [] then f else {f with live:=some [bn]}:=by
  by_cases h:D = [];rw[if_pos h,if_pos (hD.1 h)];rw[if_neg h,if_neg (fun h2=>h (hD.2 h2))]
 rw[this];unfold AHeap.setFam AHeap.set;simp only[AHeap.mk.injEq,and_true];rw[gP _ _ hne.symm,fX,gP _ _ hne.symm,fX]
end
theorem Tx {P:Program} {ρ:Operand→AV} {o:Oper} {h h':AHeap} {t:TypeId} {x ix y:Operand} (ho:o.op = .insert t x ix y) (hs:aput P h t (ρ x) (ρ ix) (ρ y)=some h'):Qa P ρ o h (.tup []) h':=by
 obtain⟨g,hrun⟩:=VZ (o:={o with op:=.mapUpdate t x ix y}) rfl hs;refine⟨g,?_⟩;intro φ a w K Q hfr r hops hk;have:=hrun φ a w K Q hfr r (fun z hz=>hops z (by rw[ho]; exact hz)) hk;have he:execOp a.eval o=execOp a.eval {o with op:=.mapUpdate t x ix y}:=by simp only[execOp,ho]
 unfold Oper.wp at this⊢;rw[he];exact this
section maps
variable {κ ν:Type} [DecidableEq κ]
variable {P:Program} {n:Nat} {ops:Array Oper} {ex:List Nat} {Q:KF→AHeap→Prop} {k:Nat} {os:List Oper} {K:KF} {h h0:AHeap} {d:Nat} {ty:TypeId} {pos:String} {after:Array Edge} {objs:List Obj}
theorem KOps.insertK {t kt : TypeId} {z : AV} {kf : κ → AV} {vf : ν → AV} {l : List (κ × ν)} {v u : AV} {x ix y : Operand} {a : κ} {b : ν} {i : Nat} [hx : EvK h.globs n K x v] (hi : KO h.globs n K ix = kf a) [hy : EvK h.globs n K y u] (hu : u = vf b) [ht : MpT P t kt z] [hkt : KeyT P kt kf]
    (st:St h0 h objs) (hv:Zq v) (hk':objs[i]? = some (mapO v (entL kf vf l))) (hex:ex.contains k=false)
    (hk:∀ h',St h0 h' (objs.set i (mapO v (entL kf vf (Ke l a b))))→KOps P n ops ex Q (k+1) os K h'):KOps P n ops ex Q k (⟨none,.insert t x ix y,ty,pos,after,none⟩::os) K h:=by
 obtain⟨bb,G,rfl,hg⟩:=St.rdM st i hk' hv;obtain⟨et,h1,h2⟩:=ht.mp;obtain⟨r,h3,-,h4⟩:=X9 (P:=P) (kt:=kt) (kf:=kf) (vf:=vf) l a;have hput:aput P h t (.mp bb) (kf a) (vf b)=some (h.set bb (.obj G (.map (entL kf vf (Ke l a b))))):=by
  simp only[aput,h1,hg,hkt.ok,if_true,h3,fY];rw[←h4 b]
 refine Q7 (v:=.tup []) (h':=h.set bb (.obj G (.map (entL kf vf (Ke l a b))))) rfl hex (Tx rfl ?_) (hk _ ?_);rw[hx.eq,hi,hy.eq,hu]; exact hput;refine St.setT (x:=.map (entL kf vf l)) (x':=.map (entL kf vf (Ke l a b))) st hk' (fun _=>rfl) rfl hg ?_;intro F hm;obtain⟨b',G',f,hF,hlo,hb',hg',hf⟩:=hm.map hv;cases hb';rw[hg] at hg'; cases hg';exact⟨hF,hlo,f,hf⟩
end maps
section drawS
variable {P:Program} {n:Nat} {Q:Ex→KF→AHeap→Prop} {K:KF} {h:AHeap}
theorem KA.drawS {id c r t a d : Nat} {ops : Array Oper} {l1 l2 : List Oper} {o : Oper} (ex : List Nat) (hm : P.follows .mixedOrders = true) (hl1 : ops.toList.take (c + 1) = l1) (hl2 : ops.toList.drop (c + 1) = l2) (hc : l1.length = c + 1) (hok : rgOk n ops.toList ex [(c, r)] = true) (ho : ops[r]? = some o) (hop : o.op = .load t (.tmp a)) (hod : o.dst = some d) (hdz : d < n) (hrc : r < c)
    (hno:((List.range' r (c+1 - r)).all fun j=>match ops[j]? with|some oj=>oj.dst != some a && (j == r || oj.dst != some d)|none=>true)=true)
    (hw:KOps P n ops ex (fun K1 h1=>Qr P h1 t ((KR n K1).getD a .bot)=some ((KR n K1).getD d .bot)∧KOps P n ops ex (Q .normal) (c+1) l2 K1 h1) 0 l1 K h):KA P n (.region id ops true) Q K h:=by
 refine AW.region_drawS (c:=c) (r:=r) (t:=t) (a:=a) (d:=d) (l1:=l1) (l2:=l2) hm (by rw[←hl1,←hl2,fT]) hc (Y8 rfl hok) (QM n K) hrc ho hop hod hdz ?_ ?_;intro j oj h1 h2 hj;have:=jU.1 hno j (gZ.2 ⟨h1,by omega⟩);simp only[hj,Bool.and_eq_true,bne_iff_ne,Bool.or_eq_true,beq_iff_eq] at this;exact⟨this.1,fun h3=>this.2.resolve_left (by omega)⟩;refine Xv ?_ _ _ _ _ hw;rintro fr1 h1 ⟨K1,rfl,hchk,hrest⟩;exact⟨hchk,hrest⟩
end drawS
section drawS2
variable {P:Program} {n:Nat} {ops:Array Oper} {ex:List Nat} {Q:KF→AHeap→Prop} {k:Nat} {K:KF} {h:AHeap}
theorem KOps.doneS {t a d s j : Nat} {l2 : List Oper} {p v y : AV} {xs : List AV} [hla : Look K a p] [hld : Look K d y] [ht : ScT P t] (hna : gX n a = false) (hnd : gX n d = false) (ha : AddrOf p v s j) (hr : Rd h v s xs) (hy : xs[j]? = some y) (hrest : KOps P n ops ex Q k l2 K h) :
    KOps P n ops ex (fun K1 h1=>Qr P h1 t ((KR n K1).getD a .bot)=some ((KR n K1).getD d .bot)∧KOps P n ops ex Q k l2 K1 h1) k [] K h:=by
 refine Og ⟨?_,hrest⟩;rw[Zd,Zd,hna,hnd,cond_false,cond_false,hla.eq,hld.eq];exact hr.load ha hy
end drawS2
section calls
variable {P:Program} {n:Nat} {ops:Array Oper} {ex:List Nat} {Q:KF→AHeap→Prop} {k:Nat} {os:List Oper} {K:KF} {h:AHeap} {d:Nat} {ty:TypeId} {pos:String} {after:Array Edge}
theorem Ks {f : FuncId} {g : Operand} {caps : List AV} {l : List Operand} {vs : List AV} {tys : Array TypeId} {R : AV → AHeap → Prop} [hg : EvK h.globs n K g (.fn f caps)] [hl : EvKs h.globs n K l vs] (hR : ∀ r h', R r h' → Keeps h h')
    (hc:ACalls P f (vs ++ caps) h R) (hk:∀ r h',R r h'→KOps P n ops ex Q (k+1) os ((d,r)::K) h'):KOps P n ops ex Q k (⟨some d,.call {callee:=.value g,args:=gY l,argTypes:=tys},ty,pos,after,none⟩::os) K h:=by
 obtain⟨r,h',hev,hr⟩:=hc;refine ZB (v:=r) (h':=h') ?_ (fun _ hw=>(hR r h' hr).hext hw) (hk r h' hr);refine Ev.step (g:=g) (args:=gY l) (tys:=tys) rfl hg.eq ?_;rw[List.toList_toArray,hl.eq];exact hev
end calls
section rules
variable {P:Program} {n:Nat} {ops:Array Oper} {ex:List Nat} {Q:KF→AHeap→Prop} {k:Nat} {os:List Oper} {K:KF} {h h':AHeap} {ty:TypeId} {pos:String} {after:Array Edge}
theorem KOps.storeE {t : TypeId} {x y : Operand} {p v : AV} [hx : EvK h.globs n K x p] [hy : EvK h.globs n K y v] (hex : ex.contains k = false) (hs : XS P h t p v = some (.tup [], h')) (hk : KOps P n ops ex Q (k + 1) os K h') :
    KOps P n ops ex Q k (⟨none,.store t x y,ty,pos,after,none⟩::os) K h:=by
 refine KOps.chain0 (kill:=true) (v:=.tup []) rfl ?_ (fun hc=>by rw[hex] at hc; cases hc) hk;simp only[Xu,hx.eq,hy.eq];exact hs
end rules
end Go.Am
