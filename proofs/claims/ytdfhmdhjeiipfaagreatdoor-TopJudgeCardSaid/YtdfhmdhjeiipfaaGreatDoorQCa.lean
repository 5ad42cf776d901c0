/-
  The abstract machine: a function that defers a closure.
  Conditions: none.
-/
import Derived.Test.YtdfhmdhjeiipfaaGreatDoorAnf
import Derived.Defers
import Derived.Lib.SliceRun
import Derived.Shelf.Strings.SlTrimAscii
import Derived.Shelf.LaysM
import Derived.Shelf.Strconv.Itoa3
import Derived.Shelf.Strings.Split
import Derived.Ground.Names2Prog
import Derived.Ground.SlgnProg
import Derived.Test.YtdfhmdhjeiipfaaGreatDoorProg
import Derived.Shelf.Strings.BuilderK
import Derived.Lib.ConvBytes
import Derived.Laws.BytesString
import Derived.Test.YtdfhmdhjeiipfaaGreatDoorAmU
open Array renaming getElem?_eq_getElem → dW, getElem?_toList → fE, length_toList → gA
open Go.Builtin renaming clear_ → fC, zeroCells → gG
open Go.Shelf renaming Ren → fH
open Go.Utf8 renaming decode → fD
open Go.Value renaming int → fB
open List renaming getElem?_eq_getElem → dO, getD_eq_getElem?_getD → dU, replicate → dY, getElem?_eq_some_iff → dP, append_assoc → dQ, length_replicate → dS, getElem?_map → dV, eraseIdx_cons_succ → dZ, getElem?_set_self → fA, getElem?_append_right → fO, getD_cons_succ → fU, length_map → fY, perm_append_comm → fF, toArray → fG, mem_map → fJ, mem_of_getElem? → fK, map_congr_left → fL, map_cons → fM, getElem?_append_left → fN, getElem?_replicate → fP, take_append_drop → fS, getElem?_eq_none → fT, getElem?_set_ne → fW, eraseIdx_set_eq → fX, mem_cons → fZ, length_append → gE, getElem?_take → gO, getElem?_drop → gU, set_cons_zero → gB, set_cons_succ → gC, mem_range'_1 → gD, getElem?_set → gH, all_eq_true → gJ, getElem_mem → gK, append_nil → gL
open List.Perm renaming append_right → dR, append_left → fV, refl → gP
open Nat renaming le_of_ble_eq_true → dT, zero_le → dX, le_refl → fR, zero_add → gI, add_zero → gY
open Option renaming getD_some → fI, map_eq_some_iff → fQ, map_some → gN
set_option maxRecDepth 99999
set_option maxHeartbeats 4000000
namespace Go.Am
def IsDef (φ:Emb) (g:FuncId) (caps:List AV) (d:Deferred):Prop:=∃ cs:List Value,d=⟨.fn (.func g) cs.toArray,#[]⟩∧VRels φ caps cs
def DW (P:Program) (g:FuncId) (c:Code) (Q:List AV→Ex→List AV→AHeap→Prop) (fr:List AV) (h:AHeap):Prop:=
  ∃ e fr' h' caps, (HGrow h h' ∧ ∀ (φ : Emb) (a : Act) (w : World), Fresh φ h h' → Sim [] φ fr h a w →
    c.wp P (fun e' a' w'=>e'=e.toExit∧∃ φ' d,Trans φ h w φ' h' w'∧Sim [d] φ' fr' h' a' w'∧IsDef φ' g caps d) a w)∧Q caps e fr' h'
theorem DW.seqA {P:Program} {g:FuncId} {c d:Code} {Q:List AV→Ex→List AV→AHeap→Prop} {fr:List AV} {h:AHeap} (hw:AW P c (fun e fr h=>e = .normal∧DW P g d Q fr h) fr h):DW P g (.seq c d) Q fr h:=by
 obtain⟨e,fr1,h1,⟨g1,hx1⟩,he,hq1⟩:=hw;subst he;obtain⟨e2,fr2,h2,caps,⟨g2,hx2⟩,hq2⟩:=hq1;refine⟨e2,fr2,h2,caps,⟨g1.trans g2,?_⟩,hq2⟩;intro φ a w hfr s;refine wp_seq (wp_mono (hx1 φ a w (hfr.left g2) s) ?_);rintro e' a' w' ⟨rfl,φ1,t1,s1⟩;show d.wp P _ a' w';refine wp_mono (hx2 φ1 a' w' (hfr.right g1 t1) s1) ?_;rintro e'' a'' w'' ⟨rfl,φ2,dd,t2,s2,hd⟩;exact⟨rfl,φ2,dd,t1.trans hfr g1 g2 t2,s2,hd⟩
theorem DW.seqD {P:Program} {g:FuncId} {c d:Code} {Q:List AV→Ex→List AV→AHeap→Prop} {fr:List AV} {h:AHeap} (hw:DW P g c (fun caps e fr h=>e = .normal∧AW P d (Q caps) fr h) fr h):DW P g (.seq c d) Q fr h:=by
 obtain⟨e,fr1,h1,caps,⟨g1,hx1⟩,he,hq1⟩:=hw;subst he;obtain⟨e2,fr2,h2,⟨g2,hx2⟩,hq2⟩:=hq1;refine⟨e2,fr2,h2,caps,⟨g1.trans g2,?_⟩,hq2⟩;intro φ a w hfr s;refine wp_seq (wp_mono (hx1 φ a w (hfr.left g2) s) ?_);rintro e' a' w' ⟨rfl,φ1,dd,t1,s1,cs,hd,hv⟩;show d.wp P _ a' w';refine wp_mono (hx2 φ1 a' w' (hfr.right g1 t1) s1) ?_;rintro e'' a'' w'' ⟨rfl,φ2,t2,s2⟩;exact⟨rfl,φ2,dd,t1.trans hfr g1 g2 t2,s2,cs,hd,hv.mono t2.le⟩
theorem DW.defer {P : Program} {g : FuncId} {id t : Nat} {ty ty2 : TypeId} {pos pos2 : String} {after after2 : Array Edge} {tys : Array TypeId} {l : List Operand} {Q : List AV → Ex → List AV → AHeap → Prop} {fr : List AV} {h : AHeap} (ht : t < fr.length)
    (hq:Q (l.map (evalA h.globs fr)) .normal (fr.set t (.fn g (l.map (evalA h.globs fr)))) h) :
    DW P g (.region id #[⟨some t,.makeFunc (.func g) #[] (fG l),ty,pos,after,none⟩,⟨none,.defer {callee:=.value (.tmp t),args:=#[],argTypes:=tys},ty2,pos2,after2,none⟩] false) Q fr h:=by
 refine⟨.normal,_,h,_,⟨HGrow.refl h,?_⟩,hq⟩;intro φ a w _ s;refine wp_region ?_;have hv:VRel φ (.fn g (l.map (evalA h.globs fr))) (.func (.func g) #[] (l.map a.eval).toArray):=by
  refine .fn _ _ _ aK ?_;intro j x y hx hy;rw[dV,fQ] at hx hy;obtain⟨o,ho,rfl⟩:=hx;obtain⟨o',ho',rfl⟩:=hy;rw[ho] at ho';cases ho';exact evalA_rel s.heap s.fr o
 have hts:t<a.tmps.size:=by rw[←s.fr.2.1]; exact ht
 have hev:(a.put (some t) (.func (.func g) #[] (l.map a.eval).toArray)).eval (.tmp t) = .func (.func g) #[] (l.map a.eval).toArray:=by
  simp[Act.eval,Act.put,Array.getD_eq_getD_getElem?,hts]
 have e1:(execOp a.eval ⟨some t,.makeFunc (.func g) #[] (fG l),ty,pos,after,none⟩).run P w = .ok (.value (.func (.func g) #[] (l.map a.eval).toArray)) w:=by
  simp[execOp,Instr.makeFunc]
 have e2:(execOp (a.put (some t) (.func (.func g) #[] (l.map a.eval).toArray)).eval ⟨none,.defer {callee:=.value (.tmp t),args:=#[],argTypes:=tys},ty2,pos2,after2,none⟩).run P w = .ok (.defer ⟨.fn (.func g) (l.map a.eval).toArray,#[]⟩) w:=by
  simp[execOp,resolve,hev,Deferred.ofValue]
 have hr:List.range 2 = [0,1]:=rfl;show wpOps P _ _ (List.range 2) a w;rw[hr];simp only[wpOps];refine .inl ?_;show Oper.upon P (⟨some t,.makeFunc (.func g) #[] (fG l),ty,pos,after,none⟩:Oper) a _ _ ((execOp a.eval (⟨some t,.makeFunc (.func g) #[] (fG l),ty,pos,after,none⟩:Oper)).run P w);rw[e1,Oper.upon_value];refine .inl ?_;show Oper.upon P (⟨none,.defer {callee:=.value (.tmp t),args:=#[],argTypes:=tys},ty2,pos2,after2,none⟩:Oper) _ _ _ ((execOp (a.put (some t) (.func (.func g) #[] (l.map a.eval).toArray)).eval (⟨none,.defer {callee:=.value (.tmp t),args:=#[],argTypes:=tys},ty2,pos2,after2,none⟩:Oper)).run P w);rw[e2,Oper.upon_defer];show _∧_;refine⟨rfl,φ,⟨.fn (.func g) (l.map a.eval).toArray,#[]⟩,Trans.refl φ h w,⟨s.heap,?_⟩,l.map a.eval,rfl,by simp,?_⟩;have hp:=s.fr.put (some t) hv;refine⟨?_,hp.2.1,hp.2.2⟩;show _::_=_;rw[show(a.put (some t) (.func (.func g) #[] (l.map a.eval).toArray)).defers=a.defers from rfl,s.fr.1];intro j x y hx hy;rw[dV,fQ] at hx hy;obtain⟨o,ho,rfl⟩:=hx;obtain⟨o',ho',rfl⟩:=hy;rw[ho] at ho';cases ho';exact evalA_rel s.heap s.fr o
def ABody (P:Program) (f:FuncId) (args:List AV) (h:AHeap) (R:AV→AHeap→Prop):Prop:=
  ∃ fn c,P.funcs[f]? = some fn∧fn.body=some c∧(fn.name == "runtime.NumGoroutine")=false∧AW P c (fun e fr' h'=>(e = .normal∨e = .ret)∧∃ x,Z7 fr' fn.results.toList=some x∧R x h') (Q7 args fn.ntmps) h
theorem ABody.mono {P:Program} {f:FuncId} {args:List AV} {h:AHeap} {R R':AV→AHeap→Prop} (hb:ABody P f args h R) (hr:∀ r h',R r h'→R' r h'):ABody P f args h R':=by
 obtain⟨fn,c,h1,h2,h3,hw⟩:=hb;exact⟨fn,c,h1,h2,h3,AW.mono hw fun e fr h ⟨he,x,hx,q⟩=>⟨he,x,hx,hr _ _ q⟩⟩
theorem Sim.enter {φ:Emb} {args:List AV} {cs:List Value} {n:Nat} {h:AHeap} {w:World} (r:HRel φ h w) (hargs:VRels φ args cs):Sim [] φ (Q7 args n) h {tmps:=cs.toArray ++ Array.replicate (n - cs.toArray.size) undef,defers:=[]} w:=by
 refine⟨r,rfl,?_,?_⟩;simp[Q7,hargs.1];intro t y v hy hv;simp only[Q7] at hy;rw[←fE] at hv;simp only[Array.toList_append,Array.toList_replicate] at hv;rw[List.getElem?_append] at hy hv;rw[hargs.1] at hy;split at hy;rename_i hlt;rw[if_pos hlt] at hv;exact hargs.2 t y v hy hv;rename_i hlt;rw[if_neg hlt] at hv;rw[fP] at hy hv;split at hy;cases hy;split at hv
 cases hv; exact VRel.undef φ
 cases hv;cases hy
theorem ACalls.of_defer {P : Program} {f g : FuncId} {fn : Func} {c : Code} {args : List AV} {h : AHeap} {R : AV → AHeap → Prop} (hf : P.funcs[f]? = some fn) (hb : fn.body = some c) (hn : (fn.name == "runtime.NumGoroutine") = false)
    (hw:DW P g c (fun caps e fr' h'=>(e = .normal∨e = .ret)∧∃ x,Z7 fr' fn.results.toList=some x∧ABody P g caps h' (fun _ h''=>R x h'')) (Q7 args fn.ntmps) h):ACalls P f args h R:=by
 obtain⟨e,fr',h',caps,⟨g1,hx⟩,he,x,hr,fn2,c2,hf2,hb2,hn2,e2,fr2,h2,⟨g2,hx2⟩,he2,x2,hr2,hR⟩:=hw;refine⟨x,h2,⟨⟨fn,hf,hn,by rw[hb]; rfl⟩,g1.trans g2,?_⟩,hR⟩;intro φ w cs hfr r hargs;refine calls_of_wp_defers hf hb ?_;refine wp_mono (hx φ _ w (hfr.left g2) (Sim.enter r hargs)) ?_;rintro e' a' w' ⟨rfl,φ1,d,t1,s1,cs1,hd,hv1⟩;subst hd;obtain⟨v,hv,hrel⟩:=Y2 (P:=P) s1.fr w' hr;have key:Leaves P fn a'.tmps (fun e w'=>∃ v φ',e=Ending.returned v∧Trans φ h w φ' h2 w'∧HRel φ' h2 w'∧VRel φ' x v) a'.defers .returning w':=by
  rw[s1.fr.1];refine leaves_cons (f:=g) (args:=cs1.toArray) (by nofun) ?_ ?_;simp only[invoke,callFunc,Sem.run_bind,run_program,Result.andThen_ok,hf2,hn2,hb2,Bool.false_eq_true,if_false];simp;refine CallsD.mono (callsD_of_wp (R:=fun e w''=>∃ v φ',e=Ending.returned v∧Trans φ h w φ' h2 w''∧HRel φ' h2 w''∧φ1.le φ') hf2 hb2 ?_) ?_;refine wp_mono (hx2 φ1 _ w' (hfr.right g1 t1) (Sim.enter s1.heap hv1)) ?_;rintro e' a2 w2 ⟨rfl,φ2,t2,s2⟩;obtain⟨v2,hv2,hrel2⟩:=Y2 (P:=P) s2.fr w2 hr2;have hT:=t1.trans hfr g1 g2 t2;rcases he2 with rfl|rfl
  exact⟨s2.fr.1,v2,hv2,v2,φ2,rfl,hT,s2.heap,t2.le⟩;exact⟨s2.fr.1,v2,hv2,v2,φ2,rfl,hT,s2.heap,t2.le⟩;rintro e' u' w2 ⟨rfl,v2,φ2,rfl,hT,hh,hle⟩;show Leaves P fn a'.tmps _ [] (settle .returning) w2;obtain⟨v3,hv3,hrel3⟩:=Y2 (P:=P) s1.fr w2 hr;exact⟨v3,hv3,v3,φ2,rfl,hT,hh,hrel3.mono hle⟩
 rcases he with rfl|rfl
 exact key;exact key
def KD (P:Program) (n:Nat) (g:FuncId) (c:Code) (Q:List AV→Ex→KF→AHeap→Prop) (K:KF) (h:AHeap):Prop:=DW P g c (fun caps e fr h=>∃ K',fr=KJ n K'∧Q caps e K' h) (KJ n K) h
def sqD (P:Program) (n:Nat) (g:FuncId) (d:Code) (Q:List AV→Ex→KF→AHeap→Prop) (e:Ex) (K:KF) (h:AHeap):Prop:=e = .normal∧KD P n g d Q K h
section
variable {P:Program} {n:Nat} {g:FuncId} {Q:List AV→Ex→KF→AHeap→Prop} {K:KF} {h:AHeap}
theorem KD.seq {c d:Code} (hw:KA P n c (sqD P n g d Q) K h):KD P n g (.seq c d) Q K h:=by
 refine DW.seqA (AW.mono hw ?_);rintro e fr h ⟨K,rfl,he,q⟩;exact⟨he,q⟩
theorem sqD.normal {d:Code} (hq:KD P n g d Q K h):sqD P n g d Q .normal K h:=⟨rfl,hq⟩
theorem KD.defer {d : Code} {id t : Nat} {ty ty2 : TypeId} {pos pos2 : String} {after after2 : Array Edge} {tys : Array TypeId} {l : List Operand} {vs : List AV} [hl : EvKs h.globs n K l vs] (ht : Nat.blt t n = true)
    (hk:KA P n d (Q vs) ((t,.fn g vs)::K) h) :
    KD P n g (.seq (.region id #[⟨some t,.makeFunc (.func g) #[] (fG l),ty,pos,after,none⟩,⟨none,.defer {callee:=.value (.tmp t),args:=#[],argTypes:=tys},ty2,pos2,after2,none⟩] false) d) Q K h:=by
 refine DW.seqD (DW.defer (by rw[Qg]; exact Nat.blt_eq ▸ ht) ⟨rfl,?_⟩);have hm:l.map (evalA h.globs (KJ n K))=vs:=by
  rw[←hl.eq];exact fL fun x _=>by rw[ZY]
 rw[hm,ZB];exact hk
def fnD (P:Program) (n:Nat) (g:FuncId) (rs:List ResultVar) (R:AV→AHeap→Prop) (caps:List AV) (e:Ex) (K:KF) (h:AHeap):Prop:=(e = .normal∨e = .ret)∧∃ l,JB n K rs=some l∧ABody P g caps h (fun _ h'=>R (Xu l) h')
theorem fnD.ret1 {R:AV→AHeap→Prop} {rs:List ResultVar} {v:AV} {caps:List AV} [hr:ResL n K rs [v]] (hR:ABody P g caps h (fun _ h'=>R v h')):fnD P n g rs R caps .ret K h:=⟨.inr rfl,_,hr.eq,hR⟩
theorem KD.fn {f : FuncId} {fn : Func} {c : Code} {args : List AV} {R : AV → AHeap → Prop} (n : Nat) (rs : List ResultVar) (hf : P.funcs[f]? = some fn) (hb : fn.body = some c) (hn : (fn.name == "runtime.NumGoroutine") = false)
    (h1:fn.ntmps=n) (h2:fn.results.toList=rs) (hle:args.length≤n) (hw:KD P n g c (fnD P n g rs R) (Vc 0 args) h):ACalls P f args h R:=by
 subst h1 h2;refine ACalls.of_defer (g:=g) hf hb hn ?_;obtain⟨e,fr',h',caps,⟨g1,hx⟩,K,rfl,he,l,hl,hR⟩:=hw;refine⟨e,_,h',caps,⟨g1,fun φ a w hfr s=>hx φ a w hfr ⟨s.heap,s.fr.args hle⟩⟩,he,Xu l,?_,hR⟩;rw[Z7,Uf,hl];rfl
theorem KA.fnB {f : FuncId} {fn : Func} {c : Code} {args : List AV} {R : AV → AHeap → Prop} (n : Nat) (rs : List ResultVar) (hf : P.funcs[f]? = some fn) (hb : fn.body = some c) (hn : (fn.name == "runtime.NumGoroutine") = false)
    (h1:fn.ntmps=n) (h2:fn.results.toList=rs) (hle:args.length≤n) (hw:KA P n c (fnQ n rs R) (Vc 0 args) h):ABody P f args h R:=by
 subst h1 h2;obtain⟨e,fr',h',⟨g1,hx⟩,K,rfl,he,l,hl,hR⟩:=hw;refine⟨fn,c,hf,hb,hn,e,_,h',⟨g1,fun φ a w hfr s=>hx φ a w hfr ⟨s.heap,s.fr.args hle⟩⟩,he,Xu l,?_,hR⟩;rw[Z7,Uf,hl];rfl
end
end Go.Am
namespace Go.Am
def X8 : AV → Nat
  | .slc b _ _ _ _=>b
  | .ptr b _=>b
  | _=>0
theorem blkV_mk (mk:Mk) (b:Nat):X8 (mk.val b)=b:=by cases mk <;> rfl
theorem AW.region_drawSA {P : Program} {id c r j t a d e : Nat} {ops : Array Oper} {l0 l1 l2 : List Oper} {ex : List Nat} {sz : Nat} {o oj : Oper} {Q : Ex → List AV → AHeap → Prop} {fr : List AV} {h : AHeap} (hm : P.follows .mixedOrders = true) (hl : ops.toList = l0 ++ (l1 ++ l2)) (hj : l0.length = j + 1) (hc : l1.length = c - j)
    (hok:RgOk sz ops ex [(c,r),(c,j)]) (hsz:fr.length=sz) (hrc:r<j) (hjc:j<c) (ho:ops[r]? = some o) (hop:o.op = .load t (.tmp a)) (hod:o.dst=some d) (hdz:d<sz) (hno:∀ i (oi:Oper),r≤i→i≤c→ops[i]? = some oi→oi.dst≠some a∧(r<i→oi.dst≠some d))
    (hoj:ops[j]? = some oj) (hjg:oj.guard=none) (hjc2:clsOf oj.op = .allo) (hjd:oj.dst=some e) (hez:e<sz) (hmid:∀ i (oi:Oper),j<i→i<c→ops[i]? = some oi→clsOf oi.op = .pure∨clsOf oi.op = .read)
    (hw:AOps P ops ex (fun fr0 h0=>AOps P ops ex (fun fr1 h1=>K9 P h1 t (fr1.getD a .bot)=some (fr1.getD d .bot)∧h1.get (X8 (fr0.getD e .bot))=h0.get (X8 (fr0.getD e .bot))∧AOps P ops ex (Q .normal) (c+1) l2 fr1 h1) (j+1) l1 fr0 h0) 0 l0 fr h):AW P (.region id ops true) Q fr h:=by
 have hsize:ops.size=l0.length+(l1.length+l2.length):=by rw[←gA,hl,gE,gE]
 have g0:∀ i,i<l0.length→l0[i]? = ops[0+i]?:=by
  intro i hi;rw[gI,←fE,hl,fN hi]
 have g1:∀ i,i<l1.length→l1[i]? = ops[j+1+i]?:=by
  intro i hi;rw[←fE,hl,fO aA,hj,Nat.add_sub_cancel_left,fN hi]
 have g2:∀ i,l2[i]? = ops[c+1+i]?:=by
  intro i;rw[←fE,hl,fO aA,fO aA];congr 1;omega
 obtain⟨ws1,fs1,ks1,a1,a2,hKA,hallA⟩:=aops_textP hok.ntx l0 0 fr h g0 hw;simp only[gI,hj] at hKA hallA;obtain⟨ws2,fs2,ks2,b1,b2,⟨hchkB,hchkC,hKB⟩,hallB⟩:=aops_textP hok.ntx l1 (j+1) _ _ g1 hKA;rw[show j+1+l1.length=c+1 by omega] at hchkB hchkC hKB hallB;obtain⟨vs1,frs1,hs1,e1,e2,hchk,hchk2,hK1,hall1⟩:∃ (vs:Nat→AV) (frs:Nat→List AV) (hs:Nat→AHeap),frs 0=fr∧hs 0=h∧K9 P (hs (c+1)) t ((frs (c+1)).getD a .bot)=some ((frs (c+1)).getD d .bot)∧(hs (c+1)).get (X8 ((frs (j+1)).getD e .bot))=(hs (j+1)).get (X8 ((frs (j+1)).getD e .bot))∧AOps P ops ex (Q .normal) (c+1) l2 (frs (c+1)) (hs (c+1))∧∀ i o,0≤i→i<c+1→ops[i]? = some o→TS P ops ex i o (frs i) (hs i) (vs i) (frs (i+1)) (hs (i+1)):=by
  refine⟨fun i=>if i≤j then ws1 i else ws2 i,fun i=>if i≤j then fs1 i else fs2 i,fun i=>if i≤j then ks1 i else ks2 i,by simp[a1],by simp[a2],?_,?_,?_,?_⟩;simp only[if_neg (show¬ c+1≤j by omega)]; exact hchkB;simp only[if_neg (show¬ c+1≤j by omega),if_neg (show¬ j+1≤j by omega),b1,b2]; exact hchkC;simp only[if_neg (show¬ c+1≤j by omega)]; exact hKB;intro i oi _ hi hoi;by_cases h1:i≤j;have ht:=hallA i oi (dX _) aA hoi;by_cases h2:i+1≤j;simp only[if_pos h1,if_pos h2]; exact ht;have h3:i=j:=by omega
  subst h3;simp only[if_pos h1,if_neg h2,b1,b2];exact ht;simp only[if_neg h1,if_neg (show¬ i+1≤j by omega)];exact hallB i oi aA aA hoi
 obtain⟨vs2,frs2,hs2,e3,e4,hK2,hall2⟩:=aops_text hok.ntx l2 (c+1) _ _ g2 hK1;have hlen:∀ i,i≤c+1→(frs1 i).length=sz:=by
  intro i
  induction i with
  | zero=>intro _; rw[e1]; exact hsz
  | succ i ih=>
   intro hi;have ht:=hall1 i _ (dX _) aA (dW aA);rw[ht.1];unfold setF;split;rw[List.length_set]; exact ih aA;exact ih aA
 have hget:∀ (l:List AV) (dst:Option Tmp) (v:AV) (x:Nat),dst≠some x→(setF l dst v).getD x .bot=l.getD x .bot:=by
  intro l dst v x hx;unfold setF;split;rename_i y;rw[dU,dU,fW (by rintro rfl; exact hx rfl)];rfl
 have ha:∀ i,r≤i→i≤c+1→(frs1 i).getD a .bot=(frs1 r).getD a .bot:=by
  intro i h1
  induction i with
  | zero=>intro _; rw[show r=0 by omega]
  | succ i ih=>
   intro h2;rcases Nat.lt_or_eq_of_le h1 with h3|h3
   have ho2:=dW (xs:=ops) (i:=i) aA;have ht:=hall1 i _ (dX _) aA ho2;rw[ht.1,hget _ _ _ _ (hno i _ aA aA ho2).1,ih aA aA];rw[←h3]
 have hd:∀ i,r<i→i≤c+1→(frs1 i).getD d .bot=vs1 r:=by
  intro i h1
  induction i with
  | zero=>omega
  | succ i ih=>
   intro h2;have ho2:=dW (xs:=ops) (i:=i) aA;have ht:=hall1 i _ (dX _) aA ho2;rw[ht.1];by_cases hir:i=r;subst hir;rw[ho2] at ho;cases ho;rw[hod];simp only[setF];rw[dU,fA (by rw[hlen i aA]; exact hdz)];rfl;rw[hget _ _ _ _ ((hno i _ aA aA ho2).2 aA)];exact ih aA aA
 have hblk:X8 ((frs1 (j+1)).getD e .bot)=(hs1 j).next:=by
  have ht:=hall1 j oj (dX _) aA hoj;rw[ht.1,hjd];simp only[setF];rw[dU,fA (by rw[hlen j aA]; exact hez)];rcases ht.2 with ⟨_,_,_,h1,_⟩|⟨_,hs,_⟩
  rw[hjg] at h1; cases h1;unfold SemStep at hs;rw[hjc2] at hs;obtain⟨mk,cs,_,hv,_⟩:=hs;rw[hv];exact blkV_mk mk _
 have hsame:∀ i,j<i→i≤c→hs1 i=hs1 (j+1):=by
  intro i h1
  induction i with
  | zero=>omega
  | succ i ih=>
   intro h2;by_cases hij:i=j;rw[hij];have hoi:=dW (xs:=ops) (i:=i) aA;have ht:=hall1 i _ (dX _) aA hoi;rw[←ih aA aA];rcases ht.2 with ⟨_,_,_,_,_,_,_,h3⟩|⟨_,hs,_⟩
   exact h3;unfold SemStep at hs;rcases hmid i _ aA aA hoi with h3|h3
   rw[h3] at hs; exact hs.2;rw[h3] at hs; exact hs.2
 have hstA:(hs1 (c+1)).get (hs1 j).next=(hs1 c).get (hs1 j).next:=by
  rw[←hblk,hchk2,hsame c hjc (fR _)]
 refine AW.region_run hm hok hsz (vs:=fun i=>if i≤c then vs1 i else vs2 i) (frs:=fun i=>if i≤c then frs1 i else frs2 i) (hs:=fun i=>if i≤c then hs1 i else hs2 i) (by simp[e1]) (by simp[e2]) ?_ ?_ ?_ ?_;simp only[if_neg (show¬ ops.size≤c by omega)];rw[show ops.size=c+1+l2.length by omega];exact hK2;intro i oi hi hoi;by_cases h1:i≤c;have ht:=hall1 i oi (dX _) aA hoi;by_cases h2:i+1≤c;simp only[if_pos h1,if_pos h2]; exact ht;have h3:i=c:=by omega
 subst h3;simp only[if_pos h1,if_neg h2,e3,e4];exact ht;simp only[if_neg h1,if_neg (show¬ i+1≤c by omega)];exact hall2 i oi aA aA hoi;intro c' r' o' hcr _ ho' hcl;have hcr':(c'=c∧r'=r)∨(c'=c∧r'=j):=by simpa using hcr
 rcases hcr' with ⟨rfl,rfl⟩|⟨rfl,rfl⟩
 rw[ho] at ho';cases ho';rw[if_pos (show r'<c' by omega)];simp only[if_neg (show¬ c'+1≤c' by omega),if_pos (show r'≤c' by omega),e4];rw[hop];show K9 P _ t ((frs1 r').getD a .bot)=_;rw[←ha (c'+1) aA (fR _),←hd (c'+1) aA (fR _)];exact hchk;rw[hoj] at ho';cases ho';rw[hjc2] at hcl; cases hcl;intro c' j' o' hcr _ ho' hcl;have hcr':(c'=c∧j'=r)∨(c'=c∧j'=j):=by simpa using hcr
 rcases hcr' with ⟨rfl,rfl⟩|⟨rfl,rfl⟩
 rw[ho] at ho';cases ho';rw[hop] at hcl; cases hcl;simp only[if_neg (show¬ c'+1≤c' by omega),if_pos (fR c'),if_pos (show j'≤c' by omega),e4];exact hstA
section
variable {P:Program} {n:Nat} {Q:Ex→KF→AHeap→Prop} {K:KF} {h:AHeap}
theorem KA.drawSA {id c r j t a d e : Nat} {ops : Array Oper} {l0 l1 l2 : List Oper} {o oj : Oper} (ex : List Nat) (hm : P.follows .mixedOrders = true) (hl0 : ops.toList.take (j + 1) = l0) (hl1 : (ops.toList.drop (j + 1)).take (c - j) = l1) (hl2 : (ops.toList.drop (j + 1)).drop (c - j) = l2) (hj : l0.length = j + 1) (hc : l1.length = c - j) (hok : rgOk n ops.toList ex [(c, r), (c, j)] = true)
    (ho:ops[r]? = some o) (hop:o.op = .load t (.tmp a)) (hod:o.dst=some d) (hdz:d<n) (hrc:r<j) (hjc:j<c)
    (hno:((List.range' r (c+1 - r)).all fun j=>match ops[j]? with|some oj=>oj.dst != some a && (j == r || oj.dst != some d)|none=>true)=true)
    (hoj:ops[j]? = some oj) (hjg:oj.guard=none) (hjc2:clsOf oj.op = .allo) (hjd:oj.dst=some e) (hez:e<n) (hmid:((List.range' (j+1) (c - 1 - j)).all fun i=>match ops[i]? with|some oi=>clsOf oi.op == .pure || clsOf oi.op == .read|none=>true)=true)
    (hw:KOps P n ops ex (fun K0 h0=>KOps P n ops ex (fun K1 h1=>K9 P h1 t ((KJ n K1).getD a .bot)=some ((KJ n K1).getD d .bot)∧h1.get (X8 ((KJ n K0).getD e .bot))=h0.get (X8 ((KJ n K0).getD e .bot))∧KOps P n ops ex (Q .normal) (c+1) l2 K1 h1) (j+1) l1 K0 h0) 0 l0 K h):KA P n (.region id ops true) Q K h:=by
 refine AW.region_drawSA (c:=c) (r:=r) (j:=j) (t:=t) (a:=a) (d:=d) (e:=e) (l0:=l0) (l1:=l1) (l2:=l2) hm (by rw[←hl0,←hl1,←hl2,fS,fS]) hj hc (rgOk_sound rfl hok) (Qg n K) hrc hjc ho hop hod hdz ?_ hoj hjg hjc2 hjd hez ?_ ?_;intro j oj h1 h2 hj;have:=gJ.1 hno j (gD.2 ⟨h1,by omega⟩);simp only[hj,Bool.and_eq_true,bne_iff_ne,Bool.or_eq_true,beq_iff_eq] at this;exact⟨this.1,fun h3=>this.2.resolve_left aA⟩;intro i oi h1 h2 hi;have:=gJ.1 hmid i (gD.2 ⟨h1,by omega⟩);simpa only[hi,Bool.or_eq_true,beq_iff_eq] using this;refine QN ?_ _ _ _ _ hw;rintro fr0 h0 ⟨K0,rfl,hrest0⟩;refine QN ?_ _ _ _ _ hrest0;rintro fr1 h1 ⟨K1,rfl,hchk,hchk2,hrest⟩;exact⟨hchk,hchk2,hrest⟩
end
theorem TZ {P:Program} {h h':AHeap} {t:TypeId} {p y v:AV} (hs:Z3 P h t p y=some (v,h')) (b:Nat) (hb:∀ o,p≠.ptr b o):h'.get b=h.get b:=by
 unfold Z3 at hs;split at hs;rename_i b0 o;split at hs;simp only[Option.bind_eq_bind,Option.bind_eq_some_iff] at hs;obtain⟨f,_,l,_,s,_,hs⟩:=hs;split at hs;cases hs;simp only[AHeap.setFam,AHeap.set,AHeap.get];exact fW (by rintro rfl; exact hb o rfl);cases hs;cases hs;cases hs
theorem St.apart {h0 h:AHeap} {objs:List Obj} (st:St h0 h objs) {i k jj:Nat} {o o':Obj} {p:AV} (hi:objs[i]? = some o) (hk:objs[k]? = some o') (hne:i≠k) (ha:AddrOf p o.v o.s jj) (ho:o'.xs≠[]) (hs : 0<o'.s):∀ oo,p≠.ptr (X8 o'.v) oo:=by
 intro oo hp;obtain⟨kp,fs,hlen,hm,hd,hb⟩:=st;have hilt:i<objs.length:=(dP.1 hi).1;have hklt:k<objs.length:=(dP.1 hk).1;have h1:=hm i o (fs[i]'aA) hi (dO aA);have h2:=hm k o' (fs[k]'aA) hk (dO aA);have e1:fs[i]? = some (fs[i]'aA):=dO aA;have e2:fs[k]? = some (fs[k]'aA):=dO aA
 cases hF:fs[i]'aA with
 | none=>
  rw[hF] at h1;obtain⟨bb,oo2,hx,hy⟩:=ha;rw[h1.1] at hx;rcases hx with ⟨_,_,_,hx⟩|⟨_,hx⟩ <;> cases hx
 | some F=>
  cases hG:fs[k]'aA with
  | none=>rw[hG] at h2; exact ho h2.2
  | some G=>
   rw[hF] at h1 e1;rw[hG] at h2 e2;rcases h1 with ⟨b,off,q,cs,f,_,hv,hg,_⟩|⟨b,x,f,_,hx,_⟩
   rotate_left
   rw[hx] at ha; exact ha.thing.elim;rcases h2 with ⟨b',off',q',cs',f',_,hv',hg',_⟩|⟨b',x',f',_,_,hs',_⟩
   rotate_left
   omega;have e3:=hv.addr ha;have e4:X8 o'.v=b':=by
    rcases hv' with ⟨_,_,h3,_⟩|⟨h3,_⟩
    rw[h3]; rfl;omega
   rw[hp,e4] at e3;cases e3;rw[hg] at hg';cases hg';exact hne (hd i k F e1 e2)
section
variable {P:Program} {n:Nat} {ops:Array Oper} {ex:List Nat} {Q:KF→AHeap→Prop} {k:Nat} {os:List Oper} {K:KF} {h h0:AHeap} {d:Nat} {ty:TypeId} {pos:String} {after:Array Edge} {objs:List Obj}
theorem KOps.storeG {t : TypeId} {x y : Operand} {p v : AV} {i j : Nat} {o : Obj} [hx : EvK h.globs n K x p] [hy : EvK h.globs n K y v] [ht : ScT P t] (st : St h0 h objs) (hex : ex.contains k = false) (hk' : objs[i]? = some o) (ha : AddrOf p o.v o.s j) (h1 : v.one = true) (hj : j < o.xs.length)
    (hk:∀ h',(∀ b,(∀ oo,p≠.ptr b oo)→h'.get b=h.get b)→St h0 h' (objs.set i {o with xs:=o.xs.set j v})→KOps P n ops ex Q (k+1) os K h'):KOps P n ops ex Q k (⟨none,.store t x y,ty,pos,after,none⟩::os) K h:=by
 obtain⟨h',h2,h3⟩:=st.store (P:=P) (t:=t) hk' ha (AV.cells_one h1) ht.sz aK bG;rw[JA _ _ _ hj] at h3;refine KOps.chain0 (kill:=true) (v:=.tup []) rfl ?_ (fun hc=>by rw[hex] at hc; cases hc) (hk h' (TZ h2) h3);simp only[Zo,hx.eq,hy.eq];exact h2
theorem KOps.doneSA {t a d e s j : Nat} {l2 : List Oper} {hA : AHeap} {KA : KF} {p v y z : AV} {xs : List AV} [hla : Look K a p] [hld : Look K d y] [hle : Look KA e z] [ht : ScT P t] (hna : Nat.ble n a = false) (hnd : Nat.ble n d = false) (hne : Nat.ble n e = false) (ha : AddrOf p v s j) (hr : Rd h v s xs) (hy : xs[j]? = some y) (hz : h.get (X8 z) = hA.get (X8 z)) (hrest : KOps P n ops ex Q k l2 K h) :
    KOps P n ops ex (fun K1 h1=>K9 P h1 t ((KJ n K1).getD a .bot)=some ((KJ n K1).getD d .bot)∧h1.get (X8 ((KJ n KA).getD e .bot))=hA.get (X8 ((KJ n KA).getD e .bot))∧KOps P n ops ex Q k l2 K1 h1) k [] K h:=by
 refine Og ⟨?_,?_,hrest⟩;rw[QP,QP,hna,hnd,cond_false,cond_false,hla.eq,hld.eq];exact hr.load ha hy;rw[QP,hne,cond_false,hle.eq];exact hz
end
end Go.Am
namespace Go.Am
theorem St.put {h0 h : AHeap} {objs : List Obj} (st : St h0 h objs) {k : Nat} {o : Obj} (hk : objs[k]? = some o) {p : AV} {j : Nat} {l : List AV} (ha : AddrOf p o.v o.s j) (h0l : 0 < l.length) (hj : j + l.length ≤ o.xs.length) :
    ∃ b off q cs F f,View o.v o.s b off o.xs.length∧h.get b=some (.cells (some F) q cs)∧h.fam F=some f∧h.valid b=true∧off+o.xs.length≤cs.length∧St h0 ((h.set b (.cells (some F) q (putL cs (off+j) l))).setFam F {f with live:=some [b]}) (objs.set k {o with xs:=putL o.xs j l}):=by
 obtain⟨kp,fs,hlen,hm,hd,hb⟩:=id st;have hklt:k<objs.length:=(dP.1 hk).1;have hkf:k<fs.length:=by omega
 have hmk:=hm k o fs[k] hk (dO hkf)
 cases hF:fs[k] with
 | none=>rw[hF] at hmk; rw[hmk.2,List.length_nil] at hj; omega
 | some F=>
  rw[hF] at hmk;rcases hmk with ⟨b,off,q,cs,f,hlo,hview,hget,hfam,hsee,hpart,htip⟩|⟨b,x,f,_,hx,_⟩
  rotate_left
  rw[hx] at ha; exact ha.thing.elim;have hp:=hview.addr ha;subst hp;have hvalid:h.valid b=true:=by unfold AHeap.valid; rw[hget]; simp only[hfam,hsee]
  have hcl:off+o.xs.length≤cs.length:=by
   have:=congrArg List.length hpart;simp at this; omega
  refine⟨b,off,q,cs,F,f,hview,hget,hfam,hvalid,hcl,?_⟩
  ·refine st.upd hk (by simp[AHeap.setFam,AHeap.set,AHeap.next]) (by simp[AHeap.setFam,AHeap.set,AHeap.nfam]) rfl ?_;intro F' hmu hge;have hblt:=AHeap.get_lt hget;have hFlt:=AHeap.fam_lt hfam;have hFF:F'=some F:=by
    cases F' with
    | none=>rw[hmu.1] at hview; rcases hview with ⟨_,_,h1,_⟩|⟨_,h1⟩ <;> cases h1
    | some G=>
     rcases hmu with ⟨b',off',q',cs',f',_,hv',hg',_⟩|⟨b',x',f',_,hx',_⟩
     rotate_left
     rw[hx'] at ha; exact ha.thing.elim;have:=hv'.addr ha;simp only[AV.ptr.injEq] at this;obtain⟨rfl,_⟩:=this;rw[hget] at hg';cases hg';rfl
   subst hFF;refine⟨some F,.inl ⟨b,off,q,putL cs (off+j) l,{f with live:=some [b]},hlo,?_,?_,?_,?_,?_,?_⟩,.inl rfl,?_,?_⟩;simpa [KY _ _ _ hj] using hview;simp only[AHeap.setFam,AHeap.set,AHeap.get]; exact fA hblt;simp only[AHeap.setFam,AHeap.set,AHeap.fam]; exact fA hFlt;simp[Fam.sees];apply List.ext_getElem?;intro i;simp only[KY _ _ _ hj];rw[gO,QU _ _ _ hj];by_cases hi:i<o.xs.length;rw[if_pos hi,gU,QU _ _ _ aA];have hpi:=congrArg (fun l=>l[i]?) hpart;simp only[gO,hi,if_true,gU] at hpi;by_cases hc:j≤i∧i<j+l.length;rw[if_pos aA,if_pos hc]; congr 1; omega;rw[if_neg aA,if_neg hc]; exact hpi;rw[if_neg hi,if_neg aA,fT aA];intro ht;rcases htip ht with hx|hx
   exact .inl hx;right; simp only[KY _ _ _ hj]; exact hx;intro b' hb' hno;by_cases hbb:b=b';subst hbb; exact((hno F rfl aA).1 q cs hget).elim;simp[AHeap.setFam,AHeap.set,AHeap.get,hbb];intro G hG hne;have:F≠G:=fun he=>hne (by rw[he])
   simp[AHeap.setFam,AHeap.set,AHeap.fam,this]
theorem WD {P : Program} {ρ : Operand → AV} {o : Oper} {h : AHeap} {t : TypeId} {x : Operand} {b off s : Nat} {full : Bool} (ho : o.op = .call { callee := .builtin .clear, args := #[x], argTypes := #[t] }) (ht : Q6 P t = true)
    (hρ : ρ x = .nils∨ρ x = .slc b off 0 s full):StepS P ρ o h (.tup []) h:=by
 refine⟨HGrow.refl h,?_⟩;intro φ a w K Q hfr r hops hk;have hx:=hops x aV;have hu:∃ u,P.underlying t=some u:=by
  unfold Q6 at ht;split at ht;rename_i h; exact⟨_,h⟩;cases ht
 obtain⟨u,hu⟩:=hu;have hrun:(fC #[t] o.type #[a.eval x]).run P w = .ok (.tuple #[]) w:=by
  rcases hρ with hρ|hρ
  rw[hρ] at hx;generalize hq:a.eval x=q at hx;cases hx;simp[fC,run_underlying hu];rw[hρ] at hx;generalize hq:a.eval x=q at hx;cases hx;simp[fC,run_underlying hu]
 have hop:(execOp a.eval o).run P w = .ok (.value (.tuple #[])) w:=by
  simp[execOp,ho,resolve,invoke,builtin,hrun]
 exact wp_of_run hop (hk φ _ _ (Trans.refl φ h w) r (VRel.undef φ))
theorem clear_step {P : Program} {ρ : Operand → AV} {o : Oper} {h : AHeap} {t e : TypeId} {x : Operand} {b off n F q : Nat} {full : Bool} {cs : List AV} {f : Fam} (ho : o.op = .call { callee := .builtin .clear, args := #[x], argTypes := #[t] })
    (he:ZX P t=some e) (hz:Qf P e=some (.int .i64 0)) (hρ : ρ x = .slc b off n 1 full) (hn : 0<n) (hg:h.get b=some (.cells (some F) q cs)) (hf:h.fam F=some f) (hv:h.valid b=true) (hfit:off+n≤cs.length) :
    StepS P ρ o h (.tup []) ((h.set b (.cells (some F) q (putL cs off (dY n (.int .i64 0))))).setFam F {f with live:=some [b]}):=by
 refine⟨HGrow.store hg (by rw[dS]; exact hfit),?_⟩;intro φ a w K Q hfr r hops hk;have hvx:=hops x aV;rw[hρ] at hvx;obtain⟨a1,c1,hx,hn1,hadr⟩:∃ a1 c1,a.eval x = .slice (some a1) n c1∧n≤c1∧(c1=0∨∃ k i z,φ b=some (k,i,z)∧a1=⟨k,i+off,none⟩∧i+off+c1*1≤z):=by
  generalize a.eval x=cx at hvx
  cases hvx with|slc _ _ _ _ _ a c hn hc hf hadr=>exact⟨a,c,rfl,hn,hadr⟩
 rcases hadr with hadr|⟨k,i,z,hb,ha1,hfz⟩
 omega;obtain⟨i0,zv,hzi,hzv,hzr⟩:=Qo hz;have hzv0:zv = .int .i64 0:=by
  have:=hzr φ
  cases this; rfl
 subst hzv0;have hzrun:∀ w,(zeroValue e).run P w = .ok (.int .i64 0) w:=by intro w; simp[zeroValue,typeInfo,hzi,hzv]
 have hl:VRels φ (dY n (.int .i64 0)) (dY n (fB .i64 0)):=by
  refine⟨by simp,?_⟩;intro j x y hx hy;rw[fP] at hx hy;split at hx;cases hx;split at hy
  cases hy; exact .int _ _
  rename_i hj1 hj2; exact absurd hj1 hj2;cases hx
 obtain⟨c,e',h1,hfit',r',tr⟩:=r.store hb hg hv hf (o:=off) (by rw[dS]; exact hfit) hl;have hst:=RowAt.store (P:=P) (g:=k) (o:=i+off) (t:=e') (dY n (fB .i64 0)) 0 c w h1 (by simpa using hfit') (by intro u hu; rw[List.eq_of_mem_replicate hu]; rfl);simp only[gY] at hst;have hu:=Zh he;have hzc:(gG (fB .i64 0).cells n).toList=dY n (fB .i64 0):=by
  have hc1:(fB .i64 0).cells = #[fB .i64 0]:=rfl;rw[hc1];simp[gG];apply List.ext_getElem;simp;intro i h1 h2;simp[Nat.mod_one]
 have hrun:(fC #[t] o.type #[a.eval x]).run P w = .ok (.tuple #[]) (w.setRow k (putL c.toList (i+off) (dY n (fB .i64 0))).toArray):=by
  obtain⟨m,rfl⟩:∃ m,n=m+1:=⟨n - 1,by omega⟩;rw[hx,ha1];simp only[fC,List.getElem?_toArray,List.getElem?_cons_zero,Sem.run_bind,run_underlying hu,Result.andThen_ok,hzrun,hzc,hst,Sem.run_pure,putL]
 have hop:(execOp a.eval o).run P w = .ok (.value (.tuple #[])) (w.setRow k (putL c.toList (i+off) (dY n (fB .i64 0))).toArray):=by
  simp[execOp,ho,resolve,invoke,builtin,hrun]
 exact wp_of_run hop (hk φ _ _ tr r' (VRel.undef φ))
section
variable {P:Program} {n:Nat} {ops:Array Oper} {ex:List Nat} {Q:KF→AHeap→Prop} {k:Nat} {os:List Oper} {K:KF} {h h0:AHeap} {d:Nat} {ty:TypeId} {pos:String} {after:Array Edge} {objs:List Obj}
theorem KOps.clearI0 {t e : TypeId} {v r : AV} {x : Operand} {i j : Nat} {l : List Int} {tip : Bool} [hx : EvK h.globs n K x r] [ht : SlT P t e 1 [.int .i64 0]] (hz1 : Qf P e = some (.int .i64 0)) (st : St h0 h objs) (hex : ex.contains k = false) (hk' : objs[i]? = some ⟨v, 1, ints l, tip⟩) (hj : j ≤ l.length) (hp : PartOf r v 1 j l.length)
    (hk:∀ h',St h0 h' (objs.set i ⟨v,1,ints (l.take j ++ dY (l.length - j) 0),tip⟩)→KOps P n ops ex Q (k+1) os K h'):KOps P n ops ex Q k (⟨none,.call {callee:=.builtin .clear,args:=#[x],argTypes:=#[t]},ty,pos,after,none⟩::os) K h:=by
 have hsame:l.length - j=0→objs.set i ⟨v,1,ints (l.take j ++ dY (l.length - j) 0),tip⟩=objs:=by
  intro h0;rw[h0,List.replicate_zero,gL,List.take_of_length_le aA];exact obj_eq hk'
 rcases hp with ⟨hr,_,h1,h2⟩|⟨b,off,m,full,full',hv,hr,hm⟩
 have:=hk h (by rw[hsame aA]; exact st);exact Zn rfl hex (WD (b:=0) (off:=0) (s:=0) (full:=true) rfl ht.sl (.inl (by rw[hx.eq]; exact hr))) this;by_cases hz:l.length - j=0;have:=hk h (by rw[hsame hz]; exact st);refine Zn rfl hex (WD (b:=b) (off:=off+j*1) (s:=1) (full:=full') rfl ht.sl (.inr ?_)) this;rw[hx.eq,hr,hz];obtain⟨b',off',q,cs,F,f,hview,hget,hfam,hval,hcl,hS⟩:=st.put hk' (p:=.ptr b (off+j)) (j:=j) (l:=dY (l.length - j) (.int .i64 0)) ⟨b,off,.inl ⟨Nat.zero_lt_one,m,full,hv⟩,rfl⟩ (by rw[dS]; omega) (by simp only[dS,ints,fY]; omega);have hb:b'=b∧off'=off:=by
  rcases hview with ⟨n',full2,h3,_⟩|⟨h3,_⟩
  simp only at h3; rw[hv] at h3; cases h3; exact⟨rfl,rfl⟩;cases h3
 obtain⟨rfl,rfl⟩:=hb;refine Zn rfl hex (clear_step (e:=e) (b:=b') (off:=off'+j) (n:=l.length - j) (full:=full') rfl ht.elem hz1 ?_ aA hget hfam hval ?_) (hk _ ?_);rw[hx.eq,hr,Nat.mul_one];simp only[ints,fY] at hcl; omega;have e1:putL (ints l) j (dY (l.length - j) (.int .i64 0))=ints (l.take j ++ dY (l.length - j) 0):=by
  unfold putL ints;rw[dS,show j+(l.length - j)=l.length by omega,List.drop_of_length_le aK,gL,List.map_append,List.map_replicate,List.map_take]
 simp only at hS;rw[e1] at hS;exact hS
theorem KOps.shrinkI {x u : Operand} {v : AV} {t e : TypeId} {i m : Nat} {l : List Int} {tip : Bool} {zs : List AV} {ku : IntKind} {y : Int} [hx : EvK h.globs n K x v] [hu : EvK h.globs n K u (.int ku y)] [ht : SlT P t e 1 zs] (st : St h0 h objs) (hk' : objs[i]? = some ⟨v, 1, ints l, tip⟩) (hy : y = (m : Int)) (hm : m ≤ l.length)
    (hk:∀ r,r.one=true→St h0 h (objs.set i ⟨r,1,ints (l.take m),false⟩)→KOps P n ops ex Q (k+1) os ((d,r)::K) h):KOps P n ops ex Q k (⟨some d,.slice t x none (some u) none,ty,pos,after,none⟩::os) K h:=by
 subst hy;refine KOps.sliceHi (e:=e) (zs:=zs) (st.rd i hk') (m:=l.length) aK aA aA ?_;intro r hp;have hS:=St.slice st hk' (m:=l.length) aK hp (dX _) aA;have e2:List.take (((m:Int).toNat - 0)*1) (List.drop (0*1) (ints l))=ints (l.take m):=by simp[ints,List.map_take]
 simp only at hS;rw[e2] at hS;refine hk r ?_ hS;rcases hp with ⟨rfl,_⟩|⟨_,_,_,_,_,_,rfl,_⟩ <;> rfl
end
end Go.Am
namespace Go.Proofs
open Go.Shelf
def Tryz.laysM171_ren:fH:=⟨fun|171=>25|243=>52|246=>89|283=>127|284=>128|285=>129|286=>130|129=>168|317=>167|318=>169|319=>170|320=>171|337=>195|338=>182|n=>n,fun|3=>3|9=>9|2=>2|4=>4|171=>208|0=>0|53=>209|37=>37|5=>5|173=>212|212=>249|51=>202|20=>20|213=>250|46=>190|232=>315|233=>302|n=>n,fun|17=>1|18=>3|19=>2|n=>n⟩
theorem Tryz.laysM171 : Go.Proofs.LaysM.n171 Tryz.prog Tryz.laysM171_ren := {
  mixed:=by kernel_rfl
  f129:=Tryz.func168.trans (congrArg some (by kernel_rfl))
  f171:=Tryz.func25.trans (congrArg some (by kernel_rfl))
  f243:=Tryz.func52.trans (congrArg some (by kernel_rfl))
  f246:=Tryz.func89.trans (congrArg some (by kernel_rfl))
  f283:=Tryz.func127.trans (congrArg some (by kernel_rfl))
  f284:=Tryz.func128.trans (congrArg some (by kernel_rfl))
  f285:=Tryz.func129.trans (congrArg some (by kernel_rfl))
  f286:=Tryz.func130.trans (congrArg some (by kernel_rfl))
  f317:=Tryz.func167.trans (congrArg some (by kernel_rfl))
  f318:=Tryz.func169.trans (congrArg some (by kernel_rfl))
  f319:=Tryz.func170.trans (congrArg some (by kernel_rfl))
  f320:=Tryz.func171.trans (congrArg some (by kernel_rfl))
  f337:=Tryz.func195.trans (congrArg some (by kernel_rfl))
  f338:=Tryz.func182.trans (congrArg some (by kernel_rfl))
  t0:=Tryz.underlying0
  a0:=Tryz.isAgg0
  z0:=Tryz.sizeOf0
  v0:=Tryz.zeroValue0
  t2:=Tryz.underlying2
  a2:=Tryz.isAgg2
  z2:=Tryz.sizeOf2
  v2:=Tryz.zeroValue2
  t3:=Tryz.underlying3
  a3:=Tryz.isAgg3
  z3:=Tryz.sizeOf3
  v3:=Tryz.zeroValue3
  t4:=Tryz.underlying4
  a4:=Tryz.isAgg4
  z4:=Tryz.sizeOf4
  v4:=Tryz.zeroValue4
  t5:=Tryz.underlying5
  a5:=Tryz.isAgg5
  z5:=Tryz.sizeOf5
  v5:=Tryz.zeroValue5
  t9:=Tryz.underlying9
  a9:=Tryz.isAgg9
  z9:=Tryz.sizeOf9
  v9:=Tryz.zeroValue9
  t20:=Tryz.underlying20
  a20:=Tryz.isAgg20
  z20:=Tryz.sizeOf20
  v20:=Tryz.zeroValue20
  t37:=Tryz.underlying37
  a37:=Tryz.isAgg37
  z37:=Tryz.sizeOf37
  v37:=Tryz.zeroValue37
  t46:=Tryz.underlying190
  a46:=Tryz.isAgg190
  z46:=Tryz.sizeOf190
  v46:=Tryz.zeroValue190
  t51:=Tryz.underlying202
  a51:=Tryz.isAgg202
  z51:=Tryz.sizeOf202
  v51:=Tryz.zeroValue202
  t53:=Tryz.underlying209
  a53:=Tryz.isAgg209
  z53:=Tryz.sizeOf209
  v53:=Tryz.zeroValue209
  t171:=Tryz.underlying208
  a171:=Tryz.isAgg208
  z171:=Tryz.sizeOf208
  v171:=Tryz.zeroValue208
  t173:=Tryz.underlying212
  a173:=Tryz.isAgg212
  z173:=Tryz.sizeOf212
  v173:=Tryz.zeroValue212
  t212:=Tryz.underlying249
  a212:=Tryz.isAgg249
  z212:=Tryz.sizeOf249
  v212:=Tryz.zeroValue249
  t213:=Tryz.underlying250
  a213:=Tryz.isAgg250
  z213:=Tryz.sizeOf250
  t232:=Tryz.underlying315
  a232:=Tryz.isAgg315
  z232:=Tryz.sizeOf315
  v232:=Tryz.zeroValue315
  t233:=Tryz.underlying302
  a233:=Tryz.isAgg302
  z233:=Tryz.sizeOf302
  v233:=Tryz.zeroValue302
  g17:=by kernel_rfl
  g18:=by kernel_rfl
  g19:=by kernel_rfl
  i0:=by kernel_rfl
  i2:=by kernel_rfl
  i3:=by kernel_rfl
  i4:=by kernel_rfl
  i5:=by kernel_rfl
  i9:=by kernel_rfl
  i20:=by kernel_rfl
  i37:=by kernel_rfl
  i46:=by kernel_rfl
  i51:=by kernel_rfl
  i53:=by kernel_rfl
  i171:=by kernel_rfl
  i173:=by kernel_rfl
  i212:=by kernel_rfl
  i232:=by kernel_rfl
  i233:=by kernel_rfl
  m17:=by kernel_rfl
  m18:=by kernel_rfl
  m19:=by kernel_rfl}
open Go.RowKit Go.Sort Go.Lib in
theorem Tryz.strconv_Itoa (n : Int) (h0 : -9223372036854775808 ≤ n) (h1 : n ≤ 9223372036854775807) (w : World) (htab : Lib.TabIs Tryz.prog w "internal/strconv.uint64pow10" .u64 Lib.pow10Tab) :
    Calls Tryz.prog 25 #[.int .i64 n] w fun e w'=>e = .returned (.string ⟨(Lib.itoa n).toArray⟩)∧∃ k os,w'=grow (w.drewN k) os:=Any.strconv_Itoa Tryz.laysM171 n h0 h1 w htab
def Tryz.lays171_ren:fH:=⟨fun|171=>25|243=>52|246=>89|283=>127|284=>128|285=>129|286=>130|129=>168|317=>167|318=>169|319=>170|320=>171|337=>195|338=>182|n=>n,fun|3=>3|9=>9|2=>2|4=>4|171=>208|0=>0|53=>209|37=>37|5=>5|173=>212|212=>249|51=>202|20=>20|213=>250|46=>190|232=>315|233=>302|n=>n,fun|17=>1|18=>3|19=>2|n=>n⟩
theorem Tryz.lays171 : Go.Proofs.Lays.n171 Tryz.prog Tryz.lays171_ren := {
  mixed:=by kernel_rfl
  f129:=Tryz.func168.trans (congrArg some (by kernel_rfl))
  f171:=Tryz.func25.trans (congrArg some (by kernel_rfl))
  f243:=Tryz.func52.trans (congrArg some (by kernel_rfl))
  f246:=Tryz.func89.trans (congrArg some (by kernel_rfl))
  f283:=Tryz.func127.trans (congrArg some (by kernel_rfl))
  f284:=Tryz.func128.trans (congrArg some (by kernel_rfl))
  f285:=Tryz.func129.trans (congrArg some (by kernel_rfl))
  f286:=Tryz.func130.trans (congrArg some (by kernel_rfl))
  f317:=Tryz.func167.trans (congrArg some (by kernel_rfl))
  f318:=Tryz.func169.trans (congrArg some (by kernel_rfl))
  f319:=Tryz.func170.trans (congrArg some (by kernel_rfl))
  f320:=Tryz.func171.trans (congrArg some (by kernel_rfl))
  f337:=Tryz.func195.trans (congrArg some (by kernel_rfl))
  f338:=Tryz.func182.trans (congrArg some (by kernel_rfl))
  t0:=Tryz.underlying0
  a0:=Tryz.isAgg0
  z0:=Tryz.sizeOf0
  v0:=Tryz.zeroValue0
  t2:=Tryz.underlying2
  a2:=Tryz.isAgg2
  z2:=Tryz.sizeOf2
  v2:=Tryz.zeroValue2
  t3:=Tryz.underlying3
  a3:=Tryz.isAgg3
  z3:=Tryz.sizeOf3
  v3:=Tryz.zeroValue3
  t4:=Tryz.underlying4
  a4:=Tryz.isAgg4
  z4:=Tryz.sizeOf4
  v4:=Tryz.zeroValue4
  t5:=Tryz.underlying5
  a5:=Tryz.isAgg5
  z5:=Tryz.sizeOf5
  v5:=Tryz.zeroValue5
  t9:=Tryz.underlying9
  a9:=Tryz.isAgg9
  z9:=Tryz.sizeOf9
  v9:=Tryz.zeroValue9
  t20:=Tryz.underlying20
  a20:=Tryz.isAgg20
  z20:=Tryz.sizeOf20
  v20:=Tryz.zeroValue20
  t37:=Tryz.underlying37
  a37:=Tryz.isAgg37
  z37:=Tryz.sizeOf37
  v37:=Tryz.zeroValue37
  t46:=Tryz.underlying190
  a46:=Tryz.isAgg190
  z46:=Tryz.sizeOf190
  v46:=Tryz.zeroValue190
  t51:=Tryz.underlying202
  a51:=Tryz.isAgg202
  z51:=Tryz.sizeOf202
  v51:=Tryz.zeroValue202
  t53:=Tryz.underlying209
  a53:=Tryz.isAgg209
  z53:=Tryz.sizeOf209
  v53:=Tryz.zeroValue209
  t171:=Tryz.underlying208
  a171:=Tryz.isAgg208
  z171:=Tryz.sizeOf208
  v171:=Tryz.zeroValue208
  t173:=Tryz.underlying212
  a173:=Tryz.isAgg212
  z173:=Tryz.sizeOf212
  v173:=Tryz.zeroValue212
  t212:=Tryz.underlying249
  a212:=Tryz.isAgg249
  z212:=Tryz.sizeOf249
  v212:=Tryz.zeroValue249
  t213:=Tryz.underlying250
  a213:=Tryz.isAgg250
  z213:=Tryz.sizeOf250
  t232:=Tryz.underlying315
  a232:=Tryz.isAgg315
  z232:=Tryz.sizeOf315
  v232:=Tryz.zeroValue315
  t233:=Tryz.underlying302
  a233:=Tryz.isAgg302
  z233:=Tryz.sizeOf302
  v233:=Tryz.zeroValue302
  g17:=by kernel_rfl
  g18:=by kernel_rfl
  g19:=by kernel_rfl}
open Go.RowKit Go.Sort Go.Lib in
theorem Tryz.strconv_Itoa_small (i : Nat) (hi : i < 100) (w : World) :
    Calls Tryz.prog 25 #[.int .i64 i] w fun e w'=>e = .returned (.string ⟨(Lib.decDigits i).toArray⟩)∧w'=w:=Any.strconv_Itoa_small Tryz.lays171 i hi w
def Tryz.lays146_ren:fH:=⟨fun|146=>134|221=>173|268=>196|138=>197|143=>198|195=>221|197=>222|218=>223|219=>224|260=>239|217=>240|225=>241|224=>242|267=>243|266=>255|314=>256|n=>n,fun|9=>9|31=>71|3=>3|4=>4|0=>0|105=>316|21=>21|5=>5|46=>190|119=>351|139=>354|138=>353|146=>238|51=>202|n=>n,fun|1=>4|3=>5|4=>6|n=>n⟩
theorem Tryz.lays146 : Go.Proofs.Lays.n146 Tryz.prog Tryz.lays146_ren := {
  mixed:=by kernel_rfl
  f138:=Tryz.func197.trans (congrArg some (by kernel_rfl))
  f143:=Tryz.func198.trans (congrArg some (by kernel_rfl))
  f146:=Tryz.func134.trans (congrArg some (by kernel_rfl))
  f195:=Tryz.func221.trans (congrArg some (by kernel_rfl))
  f197:=Tryz.func222.trans (congrArg some (by kernel_rfl))
  f217:=Tryz.func240.trans (congrArg some (by kernel_rfl))
  f218:=Tryz.func223.trans (congrArg some (by kernel_rfl))
  f219:=Tryz.func224.trans (congrArg some (by kernel_rfl))
  f221:=Tryz.func173.trans (congrArg some (by kernel_rfl))
  f224:=Tryz.func242.trans (congrArg some (by kernel_rfl))
  f225:=Tryz.func241.trans (congrArg some (by kernel_rfl))
  f260:=Tryz.func239.trans (congrArg some (by kernel_rfl))
  f266:=Tryz.func255.trans (congrArg some (by kernel_rfl))
  f267:=Tryz.func243.trans (congrArg some (by kernel_rfl))
  f268:=Tryz.func196.trans (congrArg some (by kernel_rfl))
  f314:=Tryz.func256.trans (congrArg some (by kernel_rfl))
  t0:=Tryz.underlying0
  a0:=Tryz.isAgg0
  z0:=Tryz.sizeOf0
  v0:=Tryz.zeroValue0
  t3:=Tryz.underlying3
  a3:=Tryz.isAgg3
  z3:=Tryz.sizeOf3
  v3:=Tryz.zeroValue3
  t4:=Tryz.underlying4
  a4:=Tryz.isAgg4
  z4:=Tryz.sizeOf4
  v4:=Tryz.zeroValue4
  t5:=Tryz.underlying5
  a5:=Tryz.isAgg5
  z5:=Tryz.sizeOf5
  v5:=Tryz.zeroValue5
  t9:=Tryz.underlying9
  a9:=Tryz.isAgg9
  z9:=Tryz.sizeOf9
  v9:=Tryz.zeroValue9
  t21:=Tryz.underlying21
  a21:=Tryz.isAgg21
  z21:=Tryz.sizeOf21
  v21:=Tryz.zeroValue21
  t31:=Tryz.underlying71
  a31:=Tryz.isAgg71
  z31:=Tryz.sizeOf71
  v31:=Tryz.zeroValue71
  t46:=Tryz.underlying190
  a46:=Tryz.isAgg190
  z46:=Tryz.sizeOf190
  v46:=Tryz.zeroValue190
  t51:=Tryz.underlying202
  a51:=Tryz.isAgg202
  z51:=Tryz.sizeOf202
  v51:=Tryz.zeroValue202
  t105:=Tryz.underlying316
  a105:=Tryz.isAgg316
  z105:=Tryz.sizeOf316
  v105:=Tryz.zeroValue316
  t119:=Tryz.underlying351
  a119:=Tryz.isAgg351
  z119:=Tryz.sizeOf351
  t138:=Tryz.underlying353
  a138:=Tryz.isAgg353
  z138:=Tryz.sizeOf353
  v138:=Tryz.zeroValue353
  t139:=Tryz.underlying354
  a139:=Tryz.isAgg354
  z139:=Tryz.sizeOf354
  v139:=Tryz.zeroValue354
  t146:=Tryz.underlying238
  a146:=Tryz.isAgg238
  z146:=Tryz.sizeOf238
  v146:=Tryz.zeroValue238
  g1:=by kernel_rfl
  g3:=by kernel_rfl
  g4:=by kernel_rfl}
open Go.RowKit Go.Lib in
theorem Tryz.strings_Split (s sep : ByteArray) (m : Int) (w : World) (hs : s.size < 4294967281) (hm : w.cell? ⟨4, 0, none⟩ = some (.int .i64 m)) (h1 : 1 ≤ sep.size) :
    Calls Tryz.prog 134 #[.string s,.string sep] w fun e w'=>
      e = .returned (.slice (some ⟨w.heap.size,0,none⟩) (Lib.countB s sep+1) (Lib.countB s sep+1))∧w'=w.alloc (.cells ((Lib.splitB sep 0 (Lib.countB s sep) s).map Value.string).toArray 9):=Any.strings_Split Tryz.lays146 (by kernel_rfl) s sep m w hs hm h1
def Tryz.lays160_ren:fH:=⟨fun|160=>176|232=>201|231=>200|227=>202|234=>204|233=>203|236=>206|235=>205|228=>225|271=>227|151=>226|197=>222|120=>245|152=>244|260=>239|137=>257|119=>258|224=>242|225=>241|217=>240|266=>255|n=>n,fun|9=>9|4=>4|3=>3|5=>5|117=>297|116=>296|0=>0|124=>300|21=>21|105=>316|46=>190|119=>351|139=>354|138=>353|n=>n,fun|3=>5|4=>6|n=>n⟩
theorem Tryz.lays160 : Go.Proofs.Lays.n160 Tryz.prog Tryz.lays160_ren := {
  mixed:=by kernel_rfl
  f119:=Tryz.func258.trans (congrArg some (by kernel_rfl))
  f120:=Tryz.func245.trans (congrArg some (by kernel_rfl))
  f137:=Tryz.func257.trans (congrArg some (by kernel_rfl))
  f151:=Tryz.func226.trans (congrArg some (by kernel_rfl))
  f152:=Tryz.func244.trans (congrArg some (by kernel_rfl))
  f160:=Tryz.func176.trans (congrArg some (by kernel_rfl))
  f197:=Tryz.func222.trans (congrArg some (by kernel_rfl))
  f217:=Tryz.func240.trans (congrArg some (by kernel_rfl))
  f224:=Tryz.func242.trans (congrArg some (by kernel_rfl))
  f225:=Tryz.func241.trans (congrArg some (by kernel_rfl))
  f227:=Tryz.func202.trans (congrArg some (by kernel_rfl))
  f228:=Tryz.func225.trans (congrArg some (by kernel_rfl))
  f231:=Tryz.func200.trans (congrArg some (by kernel_rfl))
  f232:=Tryz.func201.trans (congrArg some (by kernel_rfl))
  f233:=Tryz.func203.trans (congrArg some (by kernel_rfl))
  f234:=Tryz.func204.trans (congrArg some (by kernel_rfl))
  f235:=Tryz.func205.trans (congrArg some (by kernel_rfl))
  f236:=Tryz.func206.trans (congrArg some (by kernel_rfl))
  f260:=Tryz.func239.trans (congrArg some (by kernel_rfl))
  f266:=Tryz.func255.trans (congrArg some (by kernel_rfl))
  f271:=Tryz.func227.trans (congrArg some (by kernel_rfl))
  t0:=Tryz.underlying0
  a0:=Tryz.isAgg0
  z0:=Tryz.sizeOf0
  v0:=Tryz.zeroValue0
  t3:=Tryz.underlying3
  a3:=Tryz.isAgg3
  z3:=Tryz.sizeOf3
  v3:=Tryz.zeroValue3
  t4:=Tryz.underlying4
  a4:=Tryz.isAgg4
  z4:=Tryz.sizeOf4
  v4:=Tryz.zeroValue4
  t5:=Tryz.underlying5
  a5:=Tryz.isAgg5
  z5:=Tryz.sizeOf5
  v5:=Tryz.zeroValue5
  t9:=Tryz.underlying9
  a9:=Tryz.isAgg9
  z9:=Tryz.sizeOf9
  v9:=Tryz.zeroValue9
  t21:=Tryz.underlying21
  a21:=Tryz.isAgg21
  z21:=Tryz.sizeOf21
  v21:=Tryz.zeroValue21
  t46:=Tryz.underlying190
  a46:=Tryz.isAgg190
  z46:=Tryz.sizeOf190
  v46:=Tryz.zeroValue190
  t105:=Tryz.underlying316
  a105:=Tryz.isAgg316
  z105:=Tryz.sizeOf316
  v105:=Tryz.zeroValue316
  t116:=Tryz.underlying296
  a116:=Tryz.isAgg296
  z116:=Tryz.sizeOf296
  t117:=Tryz.underlying297
  a117:=Tryz.isAgg297
  z117:=Tryz.sizeOf297
  v117:=Tryz.zeroValue297
  t119:=Tryz.underlying351
  a119:=Tryz.isAgg351
  z119:=Tryz.sizeOf351
  t124:=Tryz.underlying300
  a124:=Tryz.isAgg300
  z124:=Tryz.sizeOf300
  v124:=Tryz.zeroValue300
  t138:=Tryz.underlying353
  a138:=Tryz.isAgg353
  z138:=Tryz.sizeOf353
  v138:=Tryz.zeroValue353
  t139:=Tryz.underlying354
  a139:=Tryz.isAgg354
  z139:=Tryz.sizeOf354
  v139:=Tryz.zeroValue354
  g3:=by kernel_rfl
  g4:=by kernel_rfl}
open Go.RowKit Go.Lib in
theorem Tryz.strings_Trim_laid (s cutset : ByteArray) (w : World) (hs : s.size ≤ 9223372036854775807) (hcs : cutset.size < 4294967281)
    (hascii:∀ (j:Nat) b,cutset.data.toList[j]? = some b→b.toNat<128) :
    Calls Tryz.prog 176 #[.string s,.string cutset] w fun e w'=>e = .returned (.string ⟨(Lib.trimS s.data.toList cutset.data.toList).toArray⟩)∧Below w.heap.size w w':=Any.strings_Trim_laid Tryz.lays160 (by kernel_rfl) s cutset w hs hcs hascii
end Go.Proofs
namespace Go.Proofs
open Go.Shelf
def Tryz.lays169_ren:fH:=⟨fun|169=>85|n=>n,fun|70=>154|9=>9|0=>0|72=>156|37=>37|127=>201|3=>3|5=>5|n=>n,fun|n=>n⟩
theorem Tryz.lays169 : Go.Proofs.Lays.n169 Tryz.prog Tryz.lays169_ren := {
  mixed:=by kernel_rfl
  f169:=Tryz.func85.trans (congrArg some (by kernel_rfl))
  t0:=Tryz.underlying0
  a0:=Tryz.isAgg0
  z0:=Tryz.sizeOf0
  v0:=Tryz.zeroValue0
  t3:=Tryz.underlying3
  a3:=Tryz.isAgg3
  z3:=Tryz.sizeOf3
  v3:=Tryz.zeroValue3
  t9:=Tryz.underlying9
  a9:=Tryz.isAgg9
  z9:=Tryz.sizeOf9
  v9:=Tryz.zeroValue9
  t37:=Tryz.underlying37
  a37:=Tryz.isAgg37
  z37:=Tryz.sizeOf37
  v37:=Tryz.zeroValue37
  t70:=Tryz.underlying154
  a70:=Tryz.isAgg154
  z70:=Tryz.sizeOf154
  v70:=Tryz.zeroValue154
  t72:=Tryz.underlying156
  a72:=Tryz.isAgg156
  z72:=Tryz.sizeOf156
  v72:=Tryz.zeroValue156
  t127:=Tryz.underlying201
  a127:=Tryz.isAgg201
  z127:=Tryz.sizeOf201
  v127:=Tryz.zeroValue201}
theorem Tryz.Builder_Extra_169 : Builder.Extra Tryz.prog Tryz.lays169_ren := {
  sizeBuilder:=by kernel_rfl
  liesBuilder:=by kernel_rfl
  t5:=Tryz.underlying5
  a5:=Tryz.isAgg5
  z5:=Tryz.sizeOf5
  v5:=Tryz.zeroValue5
  infoByte:=by kernel_rfl
  cellsByte:=by kernel_rfl
  sizeByte:=by kernel_rfl
  neB5:=by decide}
open Go.RowKit in
theorem Tryz.Builder_String_any_k (B b : Nat) (l : List UInt8) (w : World) (h : Lib.IsBuilderF 156 5 B b (Lib.byteCells l) w) (hBw : B ≤ w.heap.size) :
    Calls Tryz.prog 85 #[.pointer (some ⟨b,0,none⟩)] w fun e w'=>e = .returned (.string ⟨l.toArray⟩)∧(Lib.IsBuilderF 156 5 B b (Lib.byteCells l) w'∧Below B w w'∧Lib.OthersKept 5 (some b) w w'):=Any.Builder_String_any_k Tryz.lays169 Tryz.Builder_Extra_169 B b l w h hBw
end Go.Proofs
namespace Go.Am
abbrev Str:=List UInt8
def wdQ (l:Str):ByteArray:=⟨l.toArray⟩
theorem ba_ext {a b:ByteArray} (h:a.data.toList=b.data.toList):a=b:=by
 cases a; cases b
 congr 1;exact Array.toList_inj.1 h
theorem XK (l:Str):(wdQ l).data.toList=l:=rfl
theorem TC (l:Str):(wdQ l).toList=l:=by rw[ByteArray.toList_eq,XK]
theorem wd_inj {a b:Str} (h:wdQ a=wdQ b):a=b:=by rw[←XK a,←XK b,h]
theorem wd_size (l:Str):(wdQ l).size=l.length:=by
 show(wdQ l).data.size=_;rw[←gA,XK]
theorem Rr (l:Str) (i j:Nat):(wdQ l).extract i j=wdQ ((l.take j).drop i):=ba_ext (by
  rw[ByteArray.data_extract,Array.toList_extract,XK,XK,List.extract_eq_take_drop];rw[List.drop_take])
theorem wd_get (l:Str) (i:Nat):(wdQ l)[i]? = l[i]?:=by
 have h:=wd_size l;by_cases hi:i<l.length;rw[getElem?_pos (wdQ l) i (by rw[h]; exact hi),dO hi];rfl;rw[getElem?_neg (wdQ l) i (by rw[h]; exact hi),fT aA]
theorem wd_eql (a b:Str):((wdQ a).toList == (wdQ b).toList)=decide (a=b):=by
 rw[TC,TC,Bool.eq_iff_iff,beq_iff_eq,decide_eq_true_iff]
theorem UJ {l:Str} {p:Nat} (hp:p<l.length):(wdQ l).get! p=l.getD p 0:=by
 have h:=wd_get l p;rw[dO hp] at h;have hs:p<(wdQ l).size:=by rw[wd_size]; exact hp
 rw[getElem?_pos (wdQ l) p hs] at h;have h2:(wdQ l).get! p=(wdQ l)[p]'hs:=by
  show(wdQ l).data[p]! = (wdQ l).data[p]'hs;rw[getElem!_pos _ p hs]
 rw[h2,dU,dO hp];exact Option.some.inj h
instance (priority:=2000) instWC (globs:List Nat) (n:Nat) (K:KF) (l:Str):EvK globs n K (.const (.string ⟨l.toArray⟩)) (.str (wdQ l)):=⟨rfl⟩
abbrev kstr (s:Str):AV:=.str (wdQ s)
theorem KeyT.wstr {P:Program} {kt:TypeId} (h:ZK P kt=true):KeyT P kt kstr:=by
 refine⟨fun a=>by simp[Zp,h],fun a b=>?_⟩;simp only[Yl,h,if_true];congr 1;rw[Bool.eq_iff_iff,decide_eq_true_iff,decide_eq_true_iff];exact⟨wd_inj,fun h=>by rw[h]⟩
abbrev wcsQ (l:List Str):List AV:=l.map fun w=>AV.str (wdQ w)
abbrev WRowQ (h:AHeap) (v:AV) (l:List Str):Prop:=Rd h v 1 (wcsQ l)
section
variable {P:Program} {n:Nat} {ops:Array Oper} {ex:List Nat} {Q:KF→AHeap→Prop} {k:Nat} {os:List Oper} {K:KF} {h h0:AHeap} {d:Nat} {ty:TypeId} {pos:String} {after:Array Edge} {objs:List Obj}
theorem KOps.wEql {t t':TypeId} {x y:Operand} {a b:Str} [hx:EvK h.globs n K x (.str (wdQ a))] [hy:EvK h.globs n K y (.str (wdQ b))] (hk:KOps P n ops ex Q (k+1) os ((d,.bool (decide (a=b)))::K) h):KOps P n ops ex Q k (⟨some d,.binOp .eql t x y t',ty,pos,after,none⟩::os) K h:=
  O9 rfl (by simp only[apure,hx.eq,hy.eq,ZG,astr,wd_eql]) hk
theorem str_und {t:TypeId} (ht:ZK P t=true):P.underlying t=some .string:=by
 unfold ZK at ht;split at ht;rename_i h; exact h;cases ht
theorem KOps.lenStr {x : Operand} {t : TypeId} {s : ByteArray} [hx : EvK h.globs n K x (.str s)] [ht : StT P t] (hk : KOps P n ops ex Q (k + 1) os ((d, .int .i64 s.size) :: K) h) :
    KOps P n ops ex Q k (⟨some d,.call {callee:=.builtin .len,args:=#[x],argTypes:=#[t]},ty,pos,after,none⟩::os) K h:=by
 refine O9 rfl (v:=.int .i64 s.size) ?_ hk;simp only[apure,hx.eq,alen,str_und ht.st]
theorem KOps.lenW {x : Operand} {t : TypeId} {l : Str} [hx : EvK h.globs n K x (.str (wdQ l))] [ht : StT P t] (hk : KOps P n ops ex Q (k + 1) os ((d, .int .i64 (l.length : Int)) :: K) h) :
    KOps P n ops ex Q k (⟨some d,.call {callee:=.builtin .len,args:=#[x],argTypes:=#[t]},ty,pos,after,none⟩::os) K h:=
  KOps.lenStr (by rw[wd_size]; exact hk)
theorem KOps.wAt {t : TypeId} {x ix : Operand} {l : Str} {kd : IntKind} {i : Int} {j : Nat} [hx : EvK h.globs n K x (.str (wdQ l))] [hi : EvK h.globs n K ix (.int kd i)] [ht : StT P t] (hj : i = (j : Int)) (hlt : j < l.length) (hk : KOps P n ops ex Q (k + 1) os ((d, .int .u8 ((l.getD j 0).toNat : Int)) :: K) h) :
    KOps P n ops ex Q k (⟨some d,.index t x ix,ty,pos,after,none⟩::os) K h:=
  KOps.sAt hj (by rw[wd_size]; exact hlt) (by rw[UJ hlt]; exact hk)
end
section
variable {P:Program} {n:Nat} {ops:Array Oper} {ex:List Nat} {Q:KF→AHeap→Prop} {k:Nat} {os:List Oper} {K:KF} {h h0:AHeap} {d:Nat} {ty:TypeId} {pos:String} {after:Array Edge} {objs pre rest:List Obj}
theorem KOps.loadM {x : Operand} {p v : AV} {t : TypeId} {j : Nat} {α : Type} {f : α → AV} {l : List α} (d0 : α) [hx : EvK h.globs n K x p] [ht : ScT P t] (ha : AddrOf p v 1 j) (hr : Rd h v 1 (l.map f)) (hj : j < l.length) (hk : KOps P n ops ex Q (k + 1) os ((d, f (l.getD j d0)) :: K) h) :
    KOps P n ops ex Q k (⟨some d,.load t x,ty,pos,after,none⟩::os) K h:=
  Of ha hr (by simp[dV,dO hj,dU]) hk
theorem KO {x : Operand} {p v : AV} {t : TypeId} {j : Nat} {l : List Str} [hx : EvK h.globs n K x p] [ht : ScT P t] (ha : AddrOf p v 1 j) (hr : WRowQ h v l) (hj : j < l.length) (hk : KOps P n ops ex Q (k + 1) os ((d, .str (wdQ (l.getD j []))) :: K) h) :
    KOps P n ops ex Q k (⟨some d,.load t x,ty,pos,after,none⟩::os) K h:=
  KOps.loadM (f:=fun w=>AV.str (wdQ w)) [] ha hr hj hk
theorem wcs_len (l:List Str):(wcsQ l).length=l.length*1:=by simp
theorem KOps.appendW {t e : TypeId} {x y : Operand} {v u : AV} {i : Nat} {p q : List Str} {zs : List AV} {tip tip' : Bool} [hx : EvK h.globs n K x v] [hy : EvK h.globs n K y u] [ht : SlT P t e 1 zs] (st : St h0 h (⟨u, 1, wcsQ q, tip'⟩ :: objs)) (hex : ex.contains k = true → tip = true) (hk' : objs[i]? = some ⟨v, 1, wcsQ p, tip⟩) (hsz : p.length + q.length ≤ 4294967296)
    (hk:∀ r h',r.one=true→St h0 h' (objs.set i ⟨r,1,wcsQ (p ++ q),tip⟩)→KOps P n ops ex Q (k+1) os ((d,r)::K) h') :
    KOps P n ops ex Q k (⟨some d,.call {callee:=.builtin .append,args:=#[x,y],argTypes:=#[t,t]},ty,pos,after,none⟩::os) K h:=by
 refine QV (e:=e) (zs:=zs) (s:=1) (i:=i+1) (a:=p.length) (b:=q.length) (xs:=wcsQ p) (ys:=wcsQ q) (tip:=tip) st hex (by simpa using hk') (wcs_len p) (st.rd 0 rfl) (wcs_len q) (by simp[AV.one]) hsz ?_;intro r h' hS;have hS':St h0 h' (objs.set i ⟨r,1,wcsQ (p ++ q),tip⟩):=by
  have:=St.tail hS;simpa [wcsQ] using this
 have hlt:=(dP.1 hk').1;exact hk r h' (hS'.one (k:=i) (o:=⟨r,1,wcsQ (p ++ q),tip⟩) a8) hS'
theorem KOps.appendW1 {t e : TypeId} {x y : Operand} {v u : AV} {i : Nat} {p : List Str} {a : Str} {zs : List AV} {tip tip' : Bool} [hx : EvK h.globs n K x v] [hy : EvK h.globs n K y u] [ht : SlT P t e 1 zs] (st : St h0 h (⟨u, 1, [.str (wdQ a)], tip'⟩ :: objs)) (hex : ex.contains k = true → tip = true) (hk' : objs[i]? = some ⟨v, 1, wcsQ p, tip⟩) (hsz : p.length + 1 ≤ 4294967296)
    (hk:∀ r h',r.one=true→St h0 h' (objs.set i ⟨r,1,wcsQ (p ++ [a]),tip⟩)→KOps P n ops ex Q (k+1) os ((d,r)::K) h') :
    KOps P n ops ex Q k (⟨some d,.call {callee:=.builtin .append,args:=#[x,y],argTypes:=#[t,t]},ty,pos,after,none⟩::os) K h:=
  KOps.appendW (e:=e) (zs:=zs) (q:=[a]) st hex hk' hsz hk
end
end Go.Am
namespace Go.Am
theorem dec_lo {s:ByteArray} {p:Nat} (h:(s.get! p).toNat<128):fD s p=((s.get! p).toNat,1):=by
 unfold fD;simp only[gY];rw[if_pos h]
theorem dec_hi {s:ByteArray} {p:Nat} (h : 128≤(s.get! p).toNat) : 128≤(fD s p).1:=by
 unfold fD;simp only[gY];rw[if_neg aA];have h9:(128:Nat)≤Utf8.runeError:=by decide
 split;split;rename_i h; exact h;exact h9;split;split;rename_i h; simp at h; omega;exact h9;split;split;rename_i h; simp at h; omega;exact h9;exact h9
theorem YX {l:Str} {p:Nat} (hp:p<l.length) (h:(l.getD p 0).toNat<128):fD (wdQ l) p=((l.getD p 0).toNat,1):=by
 have:=dec_lo (s:=wdQ l) (p:=p) (by rw[UJ hp]; exact h);rw[UJ hp] at this;exact this
theorem Wc {l:Str} {p:Nat} (hp:p<l.length) (h : 128≤(l.getD p 0).toNat) : 128≤(fD (wdQ l) p).1:=dec_hi (by rw[UJ hp]; exact h)
theorem wrap32 {a:Int} (h1 : -2147483648≤a) (h2:a≤2147483647):IntKind.i32.wrap a=a:=by
 unfold IntKind.wrap;simp[IntKind.bits,IntKind.signed];omega
section
variable {P:Program} {n:Nat} {ops:Array Oper} {ex:List Nat} {Q:KF→AHeap→Prop} {k:Nat} {os:List Oper} {K:KF} {h:AHeap} {d:Nat} {ty:TypeId} {pos:String} {after:Array Edge}
theorem KOps.subK {t t' : TypeId} {x y : Operand} {kd : IntKind} {a b : Int} [hx : EvK h.globs n K x (.int kd a)] [hy : EvK h.globs n K y (.int kd b)] (hw : kd.wrap (a - b) = a - b)
    (hk:KOps P n ops ex Q (k+1) os ((d,.int kd (a - b))::K) h):KOps P n ops ex Q k (⟨some d,.binOp .sub t x y t',ty,pos,after,none⟩::os) K h:=
  K8 (.inr (.inr rfl)) (by simp only[Xi,hw]) hk
theorem KOps.nilEqY {t t' e:TypeId} {s:Nat} {zs:List AV} {x y:Operand} {v:AV} [hx:EvK h.globs n K x v] [hy:EvK h.globs n K y .nils] [ht:SlT P t e s zs] (hv:v = .nils) (hk:KOps P n ops ex Q (k+1) os ((d,.bool true)::K) h):KOps P n ops ex Q k (⟨some d,.binOp .eql t x y t',ty,pos,after,none⟩::os) K h:=
  O9 rfl (by simp only[apure,hx.eq,hy.eq,hv,ZG]; rw[if_pos ht.sl]) hk
theorem KOps.nilNeY {t t' e:TypeId} {s:Nat} {zs:List AV} {x y:Operand} {v:AV} [hx:EvK h.globs n K x v] [hy:EvK h.globs n K y .nils] [ht:SlT P t e s zs] (hv:v = .nils) (hk:KOps P n ops ex Q (k+1) os ((d,.bool false)::K) h):KOps P n ops ex Q k (⟨some d,.binOp .neq t x y t',ty,pos,after,none⟩::os) K h:=
  O9 rfl (by simp only[apure,hx.eq,hy.eq,hv,ZG]; rw[if_pos ht.sl]) hk
def Je (v:AV):Prop:=∃ b o m z full,v = .slc b o m z full
theorem Rd.nilOr {v:AV} {xs:List AV} {z:Nat} (hr:Rd h v z xs) (hz : 0<z):(v = .nils∧xs = [])∨Je v:=by
 rcases hr with h2|⟨b,o,F,p,cs,h1,_⟩|⟨_,_,_,_,h0,_⟩
 exact .inl h2;rcases h1 with ⟨m,full,h1,_⟩|⟨h0,_⟩
 exact .inr ⟨b,o,m,_,full,h1⟩;omega;omega
theorem KOps.nilEqS {t t' e:TypeId} {s:Nat} {zs:List AV} {x y:Operand} {v:AV} [hx:EvK h.globs n K x v] [hy:EvK h.globs n K y .nils] [ht:SlT P t e s zs] (hv:Je v) (hk:KOps P n ops ex Q (k+1) os ((d,.bool false)::K) h):KOps P n ops ex Q k (⟨some d,.binOp .eql t x y t',ty,pos,after,none⟩::os) K h:=by
 obtain⟨b,o,m,z,full,rfl⟩:=hv;exact O9 rfl (by simp only[apure,hx.eq,hy.eq,ZG]; rw[if_pos ht.sl]) hk
theorem KOps.nilNeS {t t' e:TypeId} {s:Nat} {zs:List AV} {x y:Operand} {v:AV} [hx:EvK h.globs n K x v] [hy:EvK h.globs n K y .nils] [ht:SlT P t e s zs] (hv:Je v) (hk:KOps P n ops ex Q (k+1) os ((d,.bool true)::K) h):KOps P n ops ex Q k (⟨some d,.binOp .neq t x y t',ty,pos,after,none⟩::os) K h:=by
 obtain⟨b,o,m,z,full,rfl⟩:=hv;exact O9 rfl (by simp only[apure,hx.eq,hy.eq,ZG]; rw[if_pos ht.sl]) hk
theorem KOps.ptrEqY {t t':TypeId} {x y:Operand} {v:AV} [hx:EvK h.globs n K x v] [hy:EvK h.globs n K y .nilp] (ht:XN P t=true) (hv:v = .nilp) (hk:KOps P n ops ex Q (k+1) os ((d,.bool true)::K) h):KOps P n ops ex Q k (⟨some d,.binOp .eql t x y t',ty,pos,after,none⟩::os) K h:=
  O9 rfl (by simp only[apure,hx.eq,hy.eq,hv,ZG]; rw[if_pos ht]) hk
theorem KOps.ptrNeY {t t':TypeId} {x y:Operand} {v:AV} [hx:EvK h.globs n K x v] [hy:EvK h.globs n K y .nilp] (ht:XN P t=true) (hv:v = .nilp) (hk:KOps P n ops ex Q (k+1) os ((d,.bool false)::K) h):KOps P n ops ex Q k (⟨some d,.binOp .neq t x y t',ty,pos,after,none⟩::os) K h:=
  O9 rfl (by simp only[apure,hx.eq,hy.eq,hv,ZG]; rw[if_pos ht]) hk
theorem Uz {v:AV} (ha:AddrOf v v 0 0):∃ b o,v = .ptr b o:=by
 obtain⟨b,o,h,_⟩:=ha;rcases h with ⟨h0,_⟩|⟨_,h1⟩
 omega;exact⟨b,o,h1⟩
theorem KOps.ptrEqN {t t':TypeId} {x y:Operand} {v:AV} [hx:EvK h.globs n K x v] [hy:EvK h.globs n K y .nilp] (ht:XN P t=true) (ha:AddrOf v v 0 0) (hk:KOps P n ops ex Q (k+1) os ((d,.bool false)::K) h):KOps P n ops ex Q k (⟨some d,.binOp .eql t x y t',ty,pos,after,none⟩::os) K h:=by
 obtain⟨b,o,rfl⟩:=Uz ha;exact O9 rfl af hk
theorem KOps.ptrNeN {t t':TypeId} {x y:Operand} {v:AV} [hx:EvK h.globs n K x v] [hy:EvK h.globs n K y .nilp] (ht:XN P t=true) (ha:AddrOf v v 0 0) (hk:KOps P n ops ex Q (k+1) os ((d,.bool true)::K) h):KOps P n ops ex Q k (⟨some d,.binOp .neq t x y t',ty,pos,after,none⟩::os) K h:=by
 obtain⟨b,o,rfl⟩:=Uz ha;exact O9 rfl af hk
theorem KOps.nilNeB (b:Bool) {t t' e:TypeId} {s:Nat} {zs:List AV} {x y:Operand} {v:AV} [hx:EvK h.globs n K x v] [hy:EvK h.globs n K y .nils] [ht:SlT P t e s zs] (h0:b=false→v = .nils) (h1:b=true→Je v) (hk:KOps P n ops ex Q (k+1) os ((d,.bool b)::K) h):KOps P n ops ex Q k (⟨some d,.binOp .neq t x y t',ty,pos,after,none⟩::os) K h:=by
 cases b;exact KOps.nilNeY (h0 rfl) hk;exact KOps.nilNeS (h1 rfl) hk
theorem KOps.ptrNeB (b:Bool) {t t':TypeId} {x y:Operand} {v:AV} [hx:EvK h.globs n K x v] [hy:EvK h.globs n K y .nilp] (ht:XN P t=true) (h0:b=false→v = .nilp) (h1:b=true→AddrOf v v 0 0) (hk:KOps P n ops ex Q (k+1) os ((d,.bool b)::K) h):KOps P n ops ex Q k (⟨some d,.binOp .neq t x y t',ty,pos,after,none⟩::os) K h:=by
 cases b;exact KOps.ptrNeY ht (h0 rfl) hk;exact KOps.ptrNeN ht (h1 rfl) hk
theorem KOps.ptrEqB (b:Bool) {t t':TypeId} {x y:Operand} {v:AV} [hx:EvK h.globs n K x v] [hy:EvK h.globs n K y .nilp] (ht:XN P t=true) (h0:b=true→v = .nilp) (h1:b=false→AddrOf v v 0 0) (hk:KOps P n ops ex Q (k+1) os ((d,.bool b)::K) h):KOps P n ops ex Q k (⟨some d,.binOp .eql t x y t',ty,pos,after,none⟩::os) K h:=by
 cases b;exact KOps.ptrEqN ht (h1 rfl) hk;exact KOps.ptrEqY ht (h0 rfl) hk
end
end Go.Am
namespace Go.Am
theorem waysE_lost (r:Int) (ws:List W):∀ k,QS r ws k≠12:=by
 intro k
 induction k with
 | zero=>simp[QS]
 | succ k ih=>
  rw[QS];split;unfold Qa;split;decide;split;decide;split <;> decide;exact ih
theorem chkB_lost (r:Int) (ws:List W):KX r ws≠12:=by
 unfold KX;split;decide;split;decide;exact waysE_lost r ws _
theorem RY (rm:Int) (ws:List W):(Qc rm ws=12→QR rm ws=false∧KX rm ws=0)∧(Qc rm ws≠12→QR rm ws=decide (Qc rm ws=0)∧KX rm ws=Qc rm ws):=by
 have h1:=chkB_lost rm ws;unfold Qc;by_cases h:KX rm ws=0
 ·rw[if_pos h]
  cases hc:QR rm ws with
  | true=>exact⟨fun h2=>absurd h2 aE,fun _=>⟨rfl,h⟩⟩
  | false=>exact⟨fun _=>⟨rfl,h⟩,fun h2=>absurd rfl h2⟩
 rw[if_neg h];refine⟨fun h2=>absurd h2 h1,fun _=>⟨?_,rfl⟩⟩;rw[QR,decide_eq_false h]; rfl
theorem stCan_c {h:AHeap} {rm:Int} {vW:AV} {ws:List W} (hv:Rd h vW 4 (flr wc ws)):ACalls Go.Proofs.Tryz.prog 21 [.agg [.int .i64 rm,vW]] h (fun q h'=>q = .tup [.bool (QR rm ws),.int .i64 (KX rm ws)]∧Keeps h h'):=by
 refine OK 16 [.tmp 2,.tmp 3] Go.Proofs.Tryz.func21 rfl aE rfl rfl (dT rfl) ?_;have hS:=St.refl h;have hvo:vW.one=true:=hv.one;show KA _ 16 _ _ [(0,.agg [.int .i64 rm,vW])] _;refine be ?_;intro p1 h' hp1 hS;refine dN ?_;refine Oo rfl (Ux (Rd.ext hS.keeps hv)) ?_;rintro _ h5 ⟨qp,rfl,hK,hqp,hyes⟩;refine Oa [5] ?_;refine Oa [5,12] ?_;refine On ?_ ?_;intro c12;refine cA ?_;have h1:=(RY rm ws).1 c12;exact⟨by rw[h1.1,h1.2],hS.keeps.trans hK⟩;intro c12;refine OD [5] ?_;refine cA ?_;have h1:=(RY rm ws).2 c12;exact⟨by rw[h1.1,h1.2],hS.keeps.trans hK⟩
end Go.Am
namespace Go.Am
theorem Row.nil (h:AHeap):Row h .nils []:=.inl ⟨rfl,rfl⟩
end Go.Am
namespace Go.Am
def O4 {κ : Type} [DecidableEq κ] : List κ → κ → Nat
  | [],_=>0
  | a::l,k=>if k=a then 0 else O4 l k+1
theorem Y9 {κ:Type} [DecidableEq κ]:∀ {l:List κ} {k : κ},k∈l→O4 l k<l.length:=by
 intro l
 induction l with
 | nil=>intro k h; cases h
 | cons a l ih=>
  intro k h;simp only[O4,List.length_cons];split;omega;rename_i hne;have:=ih ((fZ.1 h).resolve_left hne);omega
theorem Ju {κ:Type} [DecidableEq κ]:∀ {l:List κ} {k : κ},k∈l→l[O4 l k]? = some k:=by
 intro l
 induction l with
 | nil=>intro k h; cases h
 | cons a l ih=>
  intro k h;simp only[O4];split;rename_i he; rw[he]; rfl;rename_i hne;exact ih ((fZ.1 h).resolve_left hne)
structure Lane where
  pl:Nat
  fr:Nat
  to:Nat
  told:Option Int
  top:Option Int
  packs:List Int
  paid:Bool
instance:Inhabited Lane:=⟨⟨0,0,0,none,none,[],false⟩⟩
def Lane.lo (l:Lane):Int:=if l.paid then l.told.getD 0 else match l.told with
  | some n=>max (l.packs.length:Int) n
  | none=>l.packs.length
def Lane.hi (l:Lane):Int:=if l.paid then l.told.getD 0 else l.top.getD 99
structure Off where
  rooms:List Str
  ways:List (Str × Lane)
  packs:List (Int × (Str × Int))
  ever:List Int
  claims:List Str
def off0:Off:=⟨[],[],[],[],[]⟩
def Off.ws (o:Off):List W:=o.ways.map fun p=>⟨p.2.fr,p.2.to,p.2.lo,p.2.hi⟩
def Off.rm (o:Off):Int:=o.rooms.length
inductive Tell where
  | room (r:Str)
  | way (w f t:Str)
  | bound (w:Str) (n:Int) (most:Bool)
  | pack (p:Int) (w:Str)
  | move (p s:Int)
  | claim (w:Str) (n:Int)
  | free (w:Str)
def chB (n:Int) (most:Bool) (l:Lane):Lane:=if most then {l with top:=some n} else {l with told:=some n}
def chP (p:Int) (l:Lane):Lane:={l with packs:=l.packs ++ [p]}
def Zg (l:List (Str × Lane)) (w:Str) (f:Lane→Lane):List (Str × Lane):=l.map fun p=>if p.1=w then (p.1,f p.2) else p
def Off.mod (o:Off) (w:Str) (f:Lane→Lane):Off:={o with ways:=Zg o.ways w f}
def Off.tries (o:Off) (w:Str) (f:Lane→Lane) (l:Lane):Int:=
  if (f l).hi<(f l).lo then 15 else if QR o.rm (o.mod w f).ws then 0 else 13
noncomputable def Off.spLo (o:Off) (i:Nat):Int:=if Xb o.rm o.ws i=0 then J8 o.ws i else 0
noncomputable def Off.spHi (o:Off) (i:Nat):Int:=if Xb o.rm o.ws i=0 then JZ o.ws i else 0
noncomputable def Off.wrong (o : Off) : Tell → Int
  | .room r=>if r∈o.rooms then 6 else if o.rooms.length=6 then 3 else 0
  | .way w f t=>if (OE o.ways w).isSome then 6 else if f ∉ o.rooms∨t ∉ o.rooms then 2 else if f=t then 13 else if o.ways.length=12 then 3 else 0
  | .bound w n most=>match OE o.ways w with
    | none=>2
    | some l=>if l.paid then 20 else o.tries w (chB n most) l
  | .pack p w=>if p∈o.ever then 6 else match OE o.ways w with
    | none=>2
    | some l=>if o.packs.length=20 then 3 else if l.hi≤l.packs.length then 15 else o.tries w (chP p) l
  | .move p s=>match OE o.packs p with
    | none=>2
    | some d=>if (s=2∨s=0)∧d.2≠1 then 20 else if s=3∧d.2≠2∨s=1∧d.2≠3 then 21 else 0
  | .claim w n=>match OE o.ways w with
    | none=>2
    | some l=>if l.paid then 20 else if n<o.spLo l.pl∨o.spHi l.pl<n then 14 else if o.spLo l.pl<o.spHi l.pl then 21 else 0
  | .free w=>match OE o.ways w with
    | none=>2
    | some l=>if l.paid then 20 else 0
def Off.tell (o : Off) : Tell → Off
  | .room r=>{o with rooms:=o.rooms ++ [r]}
  | .way w f t=>{o with ways:=o.ways ++ [(w,⟨o.ways.length,O4 o.rooms f,O4 o.rooms t,none,none,[],false⟩)]}
  | .bound w n most=>o.mod w (chB n most)
  | .pack p w=>{o.mod w (chP p) with packs:=o.packs ++ [(p,(w,1))],ever:=o.ever ++ [p]}
  | .move p s=>match OE o.packs p with
    | none=>o
    | some d=>if s=0 then {o.mod d.1 (fun l=>{l with packs:=l.packs.filter fun q=>!decide (q=p)}) with packs:=Jv o.packs p} else {o with packs:=Qn o.packs p (d.1,s)}
  | .claim w n=>{o.mod w (fun l=>{l with paid:=true,told:=some n}) with claims:=o.claims ++ [w]}
  | .free w=>o.mod w (fun l=>{l with told:=none,top:=none})
def Kf (c : UInt8) : Str → List Str
  | []=>[[]]
  | x::l=>if x=c then []::Kf c l else match Kf c l with
    | w::ws=>(x::w)::ws
    | []=>[[x]]
def Z0 (l:Str):Int:=l.foldl (fun n c=>10*n+((c.toNat:Int) - 48)) 0
def Qm (l:Str) (most:Nat):Bool:=decide (l≠[]) && decide (l.length≤most) && (decide (l.length=1) || !decide (l.head? = some 48)) && l.all fun c=>decide (48≤c.toNat∧c.toNat≤57)
def isName (l:Str):Bool:=decide (l≠[]) && decide (l.length≤12) && l.all fun c=>decide (97≤c.toNat∧c.toNat≤122)
def OY:Str:=[114,111,111,109]
def Ka:Str:=[119,97,121]
def OO:Str:=[108,101,97,115,116]
def OT:Str:=[109,111,115,116]
def OU:Str:=[112,97,99,107]
def OZ:Str:=[115,101,97,108]
def OX:Str:=[100,101,97,108]
def OV:Str:=[98,97,99,107]
def OW:Str:=[98,117,114,110]
def ON:Str:=[99,108,97,105,109]
def Kh:Str:=[102,114,101,101]
def O3 (k:Str):Str:=if k=OY∨k=Kh then [119] else if k=Ka then [119,119,119] else if k=OO∨k=OT∨k=ON then [119,110] else if k=OU then [112,119] else if k=OZ∨k=OX∨k=OV∨k=OW then [112] else []
def Kj (c:UInt8) (w:Str):Int:=if c=119 then (if isName w then 0 else 10) else if Qm w 3 then 0 else 9
def Kr (c:UInt8) (w:Str):Bool:=(decide (c=112) && decide (Z0 w=0)) || (decide (c=110) && decide (99<Z0 w))
def QT : Str → List Str → Int
  | c::f,w::l=>if Kj c w=0 then QT f l else Kj c w
  | _,_=>0
def VY : Str → List Str → Bool
  | c::f,w::l=>Kr c w || VY f l
  | _,_=>false
def V3 : Str → List Str → Int → Int
  | c::f,w::l,n=>V3 f l (if c=119 then n else Z0 w)
  | _,_,n=>n
def Qp (l:List Str) (n:Int):Tell:=
  let k:=l.getD 0 []
  if k=OY then .room (l.getD 1 []) else if k=Ka then .way (l.getD 1 []) (l.getD 2 []) (l.getD 3 []) else if k=OO∨k=OT then .bound (l.getD 1 []) n (decide (k=OT))
  else if k=OU then .pack n (l.getD 2 []) else if k=OZ then .move n 2 else if k=OX then .move n 3 else if k=OV then .move n 1 else if k=OW then .move n 0 else if k=ON then .claim (l.getD 1 []) n else .free (l.getD 1 [])
def Ky (line:Str):Int:=
  let l:=Kf 32 line
  let f:=O3 (l.getD 0 [])
  if 40<line.length then 19 else if []∈l∨(line.any fun c=>decide (c.toNat<32∨126<c.toNat)) then 9 else if f = [] then 8 else if l.length≠f.length+1 then 5
  else if QT f (l.drop 1)≠0 then QT f (l.drop 1) else if VY f (l.drop 1) then 1 else 0
def K4 (line:Str):Tell:=
  let l:=Kf 32 line
  Qp l (V3 (O3 (l.getD 0 [])) (l.drop 1) 0)
def after (lines:List Str):Off:=lines.foldl (fun o x=>o.tell (K4 x)) off0
noncomputable def KB (lines:List Str) (line:Str):Int:=
  let e:=if Ky line=0 then (after lines).wrong (K4 line) else Ky line
  if e=0∧lines.length=100 then 16 else e
noncomputable def doL (lines:List Str) (line:Str):List Str:=if KB lines line=0 then lines ++ [line] else lines
inductive Done:List Str→Prop where
  | nil:Done []
  | snoc {lines:List Str} {line:Str} (h:Done lines) (he:KB lines line=0):Done (lines ++ [line])
theorem ZV (lines:List Str) (x:Str):after (lines ++ [x])=(after lines).tell (K4 x):=by simp[after]
end Go.Am
namespace Go.Am
structure LA where
  p:AV
  told:AV
  top:AV
  packs:AV
  t1:Bool
  t2:Bool
  t3:Bool
instance:Inhabited LA:=⟨⟨.nilp,.nils,.nils,.nils,false,false,false⟩⟩
def lcells (a:LA) (l:Lane):List AV:=[.int .i64 (l.pl:Int),.int .i64 (l.fr:Int),.int .i64 (l.to:Int),a.told,a.top,a.packs,.bool l.paid]
def lobj (a:LA) (l:Lane):Obj:=⟨a.p,0,lcells a l,true⟩
def toldO (a:LA) (l:Lane):Obj:=⟨a.told,1,ints l.told.toList,a.t1⟩
def topO (a:LA) (l:Lane):Obj:=⟨a.top,1,ints l.top.toList,a.t2⟩
def Ra (a:LA) (l:Lane):Obj:=⟨a.packs,1,ints l.packs,a.t3⟩
def KT (a:LA) (l:Lane):List Obj:=[lobj a l,toldO a l,topO a l,Ra a l]
def KQ : List LA → List (Str × Lane) → List Obj
  | a::la,p::ws=>KT a p.2 ++ KQ la ws
  | _,_=>[]
structure LOk (a:LA) (l:Lane):Prop where
  ad:AddrOf a.p a.p 0 0
  told:l.told=none→a.told = .nils
  top:l.top=none→a.top = .nils
structure RLane (h:AHeap) (a:LA) (l:Lane):Prop where
  ok:LOk a l
  rd:Rd h a.p 0 (lcells a l)
  rtold:Row h a.told l.told.toList
  rtop:Row h a.top l.top.toList
  rpacks:Row h a.packs l.packs
theorem RLane.ext {h h':AHeap} {a:LA} {l:Lane} (r:RLane h a l) (k:Keeps h h'):RLane h' a l:=⟨r.ok,r.rd.ext k,r.rtold.ext k,r.rtop.ext k,r.rpacks.ext k⟩
theorem St.rlane {h0 h:AHeap} {a:LA} {l:Lane} {G:List Obj} (st:St h0 h (KT a l ++ G)) (ok:LOk a l):RLane h a l:=
  ⟨ok,st.rd 0 rfl,st.rd 1 rfl,st.rd 2 rfl,st.rd 3 rfl⟩
structure OA where
  po:AV
  vr:AV
  vn:AV
  vw:AV
  vp:AV
  ve:AV
  vc:AV
  la:List LA
  da:List AV
def Qe : List AV → List (Int × (Str × Int)) → List Obj
  | a::da,p::ps=>⟨a,0,[.str (wdQ p.2.1),.int .i64 p.2.2],true⟩::Qe da ps
  | _,_=>[]
def Q9 (la:List LA) (ws:List (Str × Lane)):List (Str × AV):=(ws.map (·.1)).zip (la.map (·.p))
def K5 (da:List AV) (ps:List (Int × (Str × Int))):List (Int × AV):=(ps.map (·.1)).zip da
abbrev kintQ (i:Int):AV:=.int .i64 i
abbrev idV (v:AV):AV:=v
def Xd (A:OA) (O:Off):List Obj:=
  ⟨A.po,0,[A.vr,A.vn,A.vw,A.vp,A.ve,A.vc],true⟩::⟨A.vr,1,wcsQ O.rooms,true⟩::⟨A.vn,1,wcsQ (O.ways.map (·.1)),true⟩::dmapO A.vw (entL kstr idV (Q9 A.la O.ways)) ::
  dmapO A.vp (entL kintQ idV (K5 A.da O.packs))::dmapO A.ve (entL kintQ AV.bool (O.ever.map fun x=>(x,true)))::⟨A.vc,1,wcsQ O.claims,true⟩ :: []
def Kt (A:OA) (O:Off):List Obj:=Xd A O ++ (KQ A.la O.ways ++ Qe A.da O.packs)
structure AOk (A:OA) (O:Off):Prop where
  po:AddrOf A.po A.po 0 0
  vw:Zr A.vw
  vp:Zr A.vp
  ve:Zr A.ve
  ll:A.la.length=O.ways.length
  lok:∀ i,i<O.ways.length→LOk (A.la.getD i default) (O.ways.getD i default).2
  dl:A.da.length=O.packs.length
  dok:∀ i,i<O.packs.length→AddrOf (A.da.getD i .bot) (A.da.getD i .bot) 0 0
theorem WT (a:LA) (la:List LA) (p:Str × Lane) (ws:List (Str × Lane)):KQ (a::la) (p::ws)=KT a p.2 ++ KQ la ws:=rfl
theorem V2:∀ (la:List LA) (ws:List (Str × Lane)) (i:Nat),la.length=ws.length→i<ws.length→(KQ la ws).Perm (KT (la.getD i default) (ws.getD i default).2 ++ KQ (la.eraseIdx i) (ws.eraseIdx i)):=by
 intro la
 induction la with
 | nil=>intro ws i hl hi; simp at hl; omega
 | cons a la ih=>
  intro ws i hl hi
  cases ws with
  | nil=>simp at hi
  | cons p ws=>
   cases i with
   | zero=>exact gP _
   | succ i=>
    have:=ih ws i ar ab;rw[WT,fU,fU,dZ,dZ,WT];refine(fV _ this).trans ?_;rw[←dQ,←dQ];exact dR _ fF
theorem TJ (la:List LA) (ws:List (Str × Lane)) (i:Nat) (hl:la.length=ws.length) (hi:i<ws.length) (a:LA) (p:Str × Lane):(KT a p.2 ++ KQ (la.eraseIdx i) (ws.eraseIdx i)).Perm (KQ (la.set i a) (ws.set i p)):=by
 have:=V2 (la.set i a) (ws.set i p) i bE ab;rw[dU,dU,gH,gH,if_pos rfl,if_pos rfl,if_pos aA,if_pos hi,fI,fI] at this;have e1:(la.set i a).eraseIdx i=la.eraseIdx i:=fX;have e2:(ws.set i p).eraseIdx i=ws.eraseIdx i:=fX;rw[e1,e2] at this;exact this.symm
theorem WI (a:AV) (da:List AV) (p:Int × (Str × Int)) (ps:List (Int × (Str × Int))):Qe (a::da) (p::ps)=⟨a,0,[.str (wdQ p.2.1),.int .i64 p.2.2],true⟩::Qe da ps:=rfl
theorem WH:∀ (da:List AV) (ps:List (Int × (Str × Int))) (i:Nat),da.length=ps.length→i<ps.length→(Qe da ps).Perm (⟨da.getD i .bot,0,[.str (wdQ (ps.getD i default).2.1),.int .i64 (ps.getD i default).2.2],true⟩::Qe (da.eraseIdx i) (ps.eraseIdx i)):=by
 intro da
 induction da with
 | nil=>intro ps i hl hi; simp at hl; omega
 | cons a da ih=>
  intro ps i hl hi
  cases ps with
  | nil=>simp at hi
  | cons p ps=>
   cases i with
   | zero=>exact gP _
   | succ i=>
    have:=ih ps i ar ab;rw[WI,fU,fU,dZ,dZ,WI];exact(List.Perm.cons _ this).trans (List.Perm.swap _ _ _)
theorem Sw {κ ν:Type} [DecidableEq κ]:∀ (ks:List κ) (vs:List ν) (k : κ),ks.length=vs.length→OE (ks.zip vs) k=if k∈ks then vs[O4 ks k]? else none:=by
 intro ks
 induction ks with
 | nil=>intro vs k _; simp[OE]
 | cons a ks ih=>
  intro vs k hl
  cases vs with
  | nil=>simp at hl
  | cons v vs=>
   simp only[List.zip_cons_cons,OE,O4];by_cases h:k=a;rw[if_pos h,if_pos h,if_pos (by simp[h])];rfl;rw[if_neg h,if_neg h,ih vs k ar];by_cases hm:k∈ks;rw[if_pos hm,if_pos (by simp[hm])];rfl;rw[if_neg hm,if_neg (by simp[h,hm])]
theorem Vt {κ ν:Type} [DecidableEq κ]:∀ (l:List (κ × ν)) (k : κ),OE l k=if k∈l.map (·.1) then (l[O4 (l.map (·.1)) k]?).map (·.2) else none:=by
 intro l
 induction l with
 | nil=>intro k; rfl
 | cons a l ih=>
  intro k;simp only[fM,OE,O4];by_cases h:k=a.1;rw[if_pos h,if_pos h,if_pos (by simp[h])];rfl;rw[if_neg h,if_neg h,ih k];by_cases hm:k∈l.map (·.1);rw[if_pos hm,if_pos (List.mem_cons_of_mem _ hm)];rfl;rw[if_neg hm,if_neg (fun hc=>(fZ.1 hc).elim h hm)]
theorem UA {κ ν:Type} [DecidableEq κ] {l:List (κ × ν)} {k : κ} {v : ν} (h:OE l k=some v):∃ i,i<l.length∧l[i]? = some (k,v)∧i=O4 (l.map (·.1)) k:=by
 rw[Vt] at h;split at h;rename_i hm;have hlt:O4 (l.map (·.1)) k<l.length:=by have:=Y9 hm; rwa [fY] at this
 have hg:=Ju hm;rw[dV,dO hlt,gN,Option.some.injEq] at hg;rw[dO hlt,gN,Option.some.injEq] at h;exact⟨_,hlt,by rw[dO hlt]; exact congrArg some (Prod.ext hg h),rfl⟩;cases h
theorem Wj {κ ν:Type} [DecidableEq κ] {l:List (κ × ν)} {k : κ} (h:OE l k=none):k ∉ l.map (·.1):=by
 intro hm;have hlt:O4 (l.map (·.1)) k<l.length:=by have:=Y9 hm; rwa [fY] at this
 rw[Vt,if_pos hm,dO hlt] at h;cases h
theorem SN {la:List LA} {ws:List (Str × Lane)} (hl:la.length=ws.length) {w:Str}:(OE ws w=none→OE (Q9 la ws) w=none)∧∀ i l,i=O4 (ws.map (·.1)) w→ws[i]? = some (w,l)→OE (Q9 la ws) w=some (la.getD i default).p:=by
 have hz:=Sw (ws.map (·.1)) (la.map (·.p)) w bE;refine⟨fun h=>?_,fun i l hi h=>?_⟩;rw[Q9,hz,if_neg (Wj h)];have hlt:=(dP.1 h).1;have hm:w∈ws.map (·.1):=fJ.2 ⟨_,fK h,rfl⟩;rw[Q9,hz,if_pos hm,←hi,dV,dU,dO (show i<la.length by omega)];rfl
theorem packE_get {da:List AV} {ps:List (Int × (Str × Int))} (hl:da.length=ps.length) {p:Int}:(OE ps p=none→OE (K5 da ps) p=none)∧∀ i d,i=O4 (ps.map (·.1)) p→ps[i]? = some (p,d)→OE (K5 da ps) p=some (da.getD i .bot):=by
 have hz:=Sw (ps.map (·.1)) da p bE;refine⟨fun h=>?_,fun i l hi h=>?_⟩;rw[K5,hz,if_neg (Wj h)];have hlt:=(dP.1 h).1;have hm:p∈ps.map (·.1):=fJ.2 ⟨_,fK h,rfl⟩;rw[K5,hz,if_pos hm,←hi,dU,dO (show i<da.length by omega)];rfl
theorem Vv:∀ {ws:List (Str × Lane)} {i:Nat} {w:Str} {l:Lane} (f:Lane→Lane),(ws.map (·.1)).Nodup→ws[i]? = some (w,l)→Zg ws w f=ws.set i (w,f l):=by
 intro ws
 induction ws with
 | nil=>intro i w l f _ h; simp at h
 | cons p ws ih=>
  intro i w l f hn h;rw[fM,List.nodup_cons] at hn;have key:p.1 ∉ ws.map (·.1)→Zg ws p.1 f=ws:=by
   intro hp;unfold Zg;refine(fL fun q hq=>?_).trans (List.map_id ws);rw[if_neg (fun e=>hp (fJ.2 ⟨q,hq,e⟩))];rfl
  cases i with
  | zero=>
   cases h;simp only[Zg,fM,if_true,gB];exact congrArg _ (key hn.1)
  | succ i=>
   have h':ws[i]? = some (w,l):=h;have hne:p.1≠w:=fun e=>hn.1 (fJ.2 ⟨_,fK h',e.symm⟩)
   simp only[Zg,fM,if_neg hne,gC];exact congrArg _ (ih f hn.2 h')
theorem Yb (ws:List (Str × Lane)) (w:Str) (f:Lane→Lane):(Zg ws w f).map (·.1)=ws.map (·.1):=by
 rw[Zg,List.map_map];refine fL fun q _=>?_
 simp only[Function.comp_apply];split <;> rfl
theorem Vu (ws:List (Str × Lane)) (w:Str) (f:Lane→Lane):(Zg ws w f).length=ws.length:=fY _
structure ROff (h:AHeap) (A:OA) (O:Off):Prop where
  ok:AOk A O
  off:Rd h A.po 0 [A.vr,A.vn,A.vw,A.vp,A.ve,A.vc]
  rooms:WRowQ h A.vr O.rooms
  names:WRowQ h A.vn (O.ways.map (·.1))
  ways:RdD h A.vw (entL kstr idV (Q9 A.la O.ways))
  packs:RdD h A.vp (entL kintQ idV (K5 A.da O.packs))
  ever:RdD h A.ve (entL kintQ AV.bool (O.ever.map fun x=>(x,true)))
  claims:WRowQ h A.vc O.claims
  lane:∀ i,i<O.ways.length→RLane h (A.la.getD i default) (O.ways.getD i default).2
  deck:∀ i,i<O.packs.length→Rd h (A.da.getD i .bot) 0 [.str (wdQ (O.packs.getD i default).2.1),.int .i64 (O.packs.getD i default).2.2]
theorem ROff.ext {h h':AHeap} {A:OA} {O:Off} (r:ROff h A O) (k:Keeps h h'):ROff h' A O:=
  ⟨r.ok,r.off.ext k,r.rooms.ext k,r.names.ext k,r.ways.ext k,r.packs.ext k,r.ever.ext k,r.claims.ext k,fun i hi=>(r.lane i hi).ext k,fun i hi=>(r.deck i hi).ext k⟩
theorem St.roff {h0 h:AHeap} {A:OA} {O:Off} {G:List Obj} (st:St h0 h (Kt A O ++ G)) (ok:AOk A O):ROff h A O:=by
 refine⟨ok,st.rd 0 rfl,st.rd 1 rfl,st.rd 2 rfl,st.rdD 3 rfl ok.vw,st.rdD 4 rfl ok.vp,st.rdD 5 rfl ok.ve,st.rd 6 rfl,?_,?_⟩;intro i hi;have hp:(Kt A O ++ G).Perm (KT (A.la.getD i default) (O.ways.getD i default).2 ++ (Xd A O ++ (KQ (A.la.eraseIdx i) (O.ways.eraseIdx i) ++ Qe A.da O.packs) ++ G)):=by
  unfold Kt;have h1:=V2 A.la O.ways i ok.ll hi;have h2:(Xd A O ++ (KQ A.la O.ways ++ Qe A.da O.packs)).Perm (KT (A.la.getD i default) (O.ways.getD i default).2 ++ (Xd A O ++ (KQ (A.la.eraseIdx i) (O.ways.eraseIdx i) ++ Qe A.da O.packs))):=by
   refine(fV _ (dR _ h1)).trans ?_;rw[dQ,←dQ,←dQ (KT _ _)];exact dR _ fF
  rw[←dQ];exact dR _ h2
 exact(St.perm hp st).rlane (ok.lok i hi);intro i hi;have h1:=WH A.da O.packs i ok.dl hi;have hp:(Kt A O ++ G).Perm ((⟨A.da.getD i .bot,0,[.str (wdQ (O.packs.getD i default).2.1),.int .i64 (O.packs.getD i default).2.2],true⟩::Qe (A.da.eraseIdx i) (O.packs.eraseIdx i)) ++ (Xd A O ++ KQ A.la O.ways ++ G)):=by
  unfold Kt;have h2:(Xd A O ++ (KQ A.la O.ways ++ Qe A.da O.packs)).Perm (Qe A.da O.packs ++ (Xd A O ++ KQ A.la O.ways)):=by
   rw[←dQ];exact fF
  refine(dR G h2).trans ?_;rw[dQ];exact dR _ h1
 exact(St.perm hp st).rd 0 rfl
structure WF (O:Off):Prop where
  nd:(O.ways.map (·.1)).Nodup
  paid:∀ p∈O.ways,p.2.paid=true→p.2.told.isSome=true
  pl:∀ i,i<O.ways.length→(O.ways.getD i default).2.pl=i
  rooms:O.rooms.length≤6
  ways:O.ways.length≤12
  packs:O.packs.length≤20
  lp:∀ p∈O.ways,p.2.packs.length≤99
  ever:O.ever.length≤100
  claims:O.claims.length≤100
  home:∀ p∈O.packs,p.2.1∈O.ways.map (·.1)
  pnd:(O.packs.map (·.1)).Nodup
  rk:∀ p∈O.ways,p.2.fr<O.rooms.length∧p.2.to<O.rooms.length∧p.2.fr≠p.2.to
  rg:∀ p∈O.ways,0≤p.2.lo∧p.2.lo≤p.2.hi∧p.2.hi≤99
  pev:∀ p∈O.packs,p.1∈O.ever
theorem getD_memQ {α:Type} {l:List α} {i:Nat} {d : α} (h:i<l.length):l.getD i d∈l:=by
 rw[dU,dO h]; exact gK h
theorem way_at {A:OA} {O:Off} (ok:AOk A O) (nd:(O.ways.map (·.1)).Nodup) {i:Nat} (hi:i<O.ways.length):OE (Q9 A.la O.ways) (O.ways.getD i default).1=some (A.la.getD i default).p:=by
 have h1:O.ways[i]? = some ((O.ways.getD i default).1,(O.ways.getD i default).2):=by rw[dU,dO hi]; rfl
 refine(SN ok.ll).2 i (O.ways.getD i default).2 ?_ h1;have hm:(O.ways.getD i default).1∈O.ways.map (·.1):=fJ.2 ⟨_,getD_memQ hi,rfl⟩;have h2:=Ju hm;exact Uc nd (by rw[dV,h1]; rfl) h2
end Go.Am
namespace Go.Am
def ixE (l:List Str) (x:Str):Int:=if x∈l then (O4 l x:Int) else -1
theorem ixOf_no {κ:Type} [DecidableEq κ] {l:List κ} {x : κ} {i:Nat} (hi:i<l.length) (hx:x=l[i]) (hno:∀ j (hj:j<i),x≠l[j]'aA):O4 l x=i:=by
 induction l generalizing i with
 | nil=>simp at hi
 | cons a l ih=>
  simp only[O4]
  cases i with
  | zero=>rw[if_pos au]
  | succ i=>
   have h0:=hno 0 aA;rw[if_neg (by simpa using h0),ih (i:=i) ab au (fun j hj=>by simpa using hno (j+1) aA)]
theorem We {h:AHeap} {v:AV} {l:List Str} {x:Str} (hv:WRowQ h v l) (hl:l.length≤1000000):ACalls Go.Proofs.Tryz.prog 174 [v,.str (wdQ x)] h (fun q h'=>q = .int .i64 (ixE l x)∧h=h'):=by
 refine OK 19 [.tmp 4] Go.Proofs.Tryz.func174 rfl aE rfl rfl (dT rfl) ?_;show KA _ 19 _ _ [(0,v),(1,.str (wdQ x))] _;refine b6 ?_;refine Kv hv ?_;refine Oa [0,1,7,8] ?_;refine Oz ?_;refine Kd (X:=Nat) (fun i=>[(0,v),(1,.str (wdQ x)),(7,.int .i64 (l.length:Int)),(8,.int .i64 (i:Int))]) (fun i h'=>i≤l.length∧(∀ j,j<i→x≠l.getD j [])∧h=h') (fun i=>l.length - i) 0 ⟨dX _,fun j hj=>absurd hj (Nat.not_lt_zero _),rfl⟩ ?_;rintro i h2 ⟨hi,hno,rfl⟩;refine bg ?_;refine On ?_ ?_
 ·intro c9;refine ct ?_;refine Oy hv (j:=i) rfl aC ?_;intro p14 hp14;refine KO hp14 hv aC ?_;refine Oa [0,1,5,7,8,16] ?_;refine On ?_ ?_;intro c16;refine ba ?_;have hil:i<l.length:=by omega
  rw[dU,dO hil,fI] at c16;have hio:=ixOf_no hil c16 (fun j hj=>by
   have:=hno j hj;rw[dU,dO (show j<l.length by omega),fI] at this;exact this)
  exact⟨by rw[ixE,if_pos (c16 ▸ gK hil),hio],rfl⟩;intro c16;refine bd ?_;refine Ow [0,1,7,8] ?_;refine bX ?_;exact lpN (i+1) ⟨by omega,fun j hj=>by
   rcases Nat.lt_succ_iff_lt_or_eq.1 hj with q|rfl
   exact hno j q;exact c16,rfl⟩ aA
 intro c9;refine bx ?_;have hie:i=l.length:=by omega
 refine⟨?_,rfl⟩;rw[ixE,if_neg];intro hm;obtain⟨j,hj,he⟩:=List.mem_iff_getElem.1 hm;refine hno j aA ?_;rw[dU,dO hj,fI,he]
theorem YC {h:AHeap} {v:AV} {l:List Str} {x:Str} (hv:WRowQ h v l) (hl:l.length≤1000000):ACalls Go.Proofs.Tryz.prog 135 [v,.str (wdQ x)] h (fun q h'=>q = .bool (decide (x∈l))∧h=h'):=by
 refine OK 9 [.tmp 4] Go.Proofs.Tryz.func135 rfl aE rfl rfl (dT rfl) ?_;show KA _ 9 _ _ [(0,v),(1,.str (wdQ x))] _;refine b6 ?_;refine Oo rfl (We hv aA) ?_;rintro _ _ ⟨rfl,rfl⟩;refine ba ?_;refine cU ?_;unfold ixE;by_cases hm:x∈l;rw[if_pos hm,decide_eq_true hm,decide_eq_true aA];rw[if_neg hm,decide_eq_false hm,decide_eq_false aA]
theorem cloneI_nil {h:AHeap}:ACalls Go.Proofs.Tryz.prog 188 [.nils] h (fun q h'=>q = .nils∧h=h'):=by
 refine OK 8 [.tmp 2] Go.Proofs.Tryz.func188 rfl aE rfl rfl (dT rfl) ?_;show KA _ 8 _ _ [(0,.nils)] _;refine Oa [0] ?_;refine Oc ?_;refine KOps.nilEqY rfl ?_;refine Oj [0,4] ?_;refine KW ?_;refine bY ?_;exact⟨rfl,rfl⟩
theorem cloneI_slc {h:AHeap} {v:AV} {l:List Int} (hv:Row h v l) (hs:Je v) (hl:l.length≤1000000):ACalls Go.Proofs.Tryz.prog 188 [v] h (fun q h'=>St h h' [⟨q,1,ints l,true⟩]):=by
 refine OK 8 [.tmp 2] Go.Proofs.Tryz.func188 rfl aE rfl rfl (dT rfl) ?_;have hS:=St.refl h;show KA _ 8 _ _ [(0,v)] _;refine Oa [0] ?_;refine Oc ?_;refine KOps.nilEqS hs ?_;refine Oj [0,4] ?_;refine OM ?_;refine OD [0] ?_;refine Ot ?_;refine b5 ?_;intro v5 h' hS;refine Oe ?_;refine QV hS (fun _=>rfl) (i:=0) rfl (a:=0) rfl (Rd.ext hS.keeps hv) (b:=l.length) aK (by simp[AV.one]) aA ?_;intro v7 h' hS;simp only[gB,gC,gI] at hS;refine bY ?_;exact hS
theorem T7 {h:AHeap} {v:AV} {l:List Int} (hv:Row h v l) (hl:l.length≤1000000):ACalls Go.Proofs.Tryz.prog 188 [v] h (fun q h'=>St h h' [⟨q,1,ints l,true⟩]):=by
 rcases Rd.nilOr hv aE with ⟨h1,h2⟩|h1
 subst h1;have e:l = []:=by simpa using h2
 subst e;refine cloneI_nil.mono ?_;rintro q h' ⟨rfl,rfl⟩;exact(St.refl h).nil 1;exact cloneI_slc hv h1 hl
end Go.Am
