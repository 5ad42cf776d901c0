/-
  The abstract machine: maps compared with nil.
  Conditions: none.
-/
import Derived.Test.YtgnogfjajnnaoaaGreatDoorAmM
import Derived.Test.YtgnogfjajnnaoaaGreatDoorProg
import Derived.Test.YtgnogfjajnnaoaaGreatDoorAmC
open Array renaming getElem?_toList → dR, getElem?_eq_getElem → dW, length_toList → fB, mem_of_getElem? → fP, toList_extract → fR, toList_append → fW, ext' → gF
open Bool renaming false_eq_true → dJ, eq_iff_iff → gH
open Go.Builtin renaming delete_ → fY, len_ → gE, clear_ → gK
open Go.Instr renaming mapUpdate → fU, lookup → gA
open Go.MapKept renaming run_getObj_map → dU, run_setObj_map → dH
open Go.Result renaming andThen_ok → dE
open Go.Sem renaming run_bind → dI, run_pure → dY
open List renaming getElem?_eq_getElem → dA, getD_eq_getElem?_getD → dO, getElem?_eq_some_iff → dB, getElem?_map → dC, range → dG, toArray → dK, map_cons → dL, mem_of_getElem? → dM, length_singleton → dS, getElem?_eq_none → dT, getElem?_append_right → dV, length_map → dX, mem_range → dZ, getElem?_cons_zero → fA, getElem?_cons_succ → fE, getElem?_toArray → fI, mem_map → fO, getElem?_append_left → fD, extract_eq_take_drop → fF, length_take → fG, length_set → fJ, nodup_cons → fK, foldl_cons → fL, getElem?_eraseIdx → fN, length_eraseIdx → fQ, mem_cons_of_mem → fS, mem_cons → fT, toList_toArray → fV, length_append → fX, getElem?_set → gI, append_assoc → gO, length_range → gU, length_cons → gY, length_drop → gB, nodup_range → gC, getElem_mem → gD, map_append → gG
open Nat renaming zero_le → fC, add_sub_cancel_left → fH, le_refl → fM, lt_or_eq_of_le → fZ, beq → gJ
open Option renaming bind_eq_bind → dD, map_eq_some_iff → dF, bind_some → dN, map_some → dP
open Option.some renaming injEq → dQ
set_option maxRecDepth 99999
set_option maxHeartbeats 4000000
namespace Go.Am
theorem eqIn_nilm {P:Program} {t kt et:TypeId} (d:Nat) (h:P.underlying t=some (.map kt et)) (b:Option Nat) (w:World):(Op.equalIn (d+1) t (.map b) (.map none)).run P w = .ok b.isNone w:=by
 cases b <;> simp[Op.equalIn,run_underlying h]
theorem eq_nilm {P:Program} {t kt et:TypeId} (h:P.underlying t=some (.map kt et)) (b:Option Nat) (w:World):(Op.equal t (.map b) (.map none)).run P w = .ok b.isNone w:=eqIn_nilm 9999 h b w
theorem W6 {P:Program} {t kt et:TypeId} (h:P.underlying t=some (.map kt et)) (b:Option Nat) (w:World):(binOp .eql t (.map b) (.map none)).run P w = .ok (.bool b.isNone) w:=by
 have:binOp .eql t (.map b) (.map none)=(do pure (Value.bool (←Op.equal t (.map b) (.map none))):Sem Value):=by cases b <;> rfl
 rw[this]; simp[eq_nilm h]
theorem W7 {P:Program} {t kt et:TypeId} (h:P.underlying t=some (.map kt et)) (b:Option Nat) (w:World):(binOp .neq t (.map b) (.map none)).run P w = .ok (.bool !b.isNone) w:=by
 have:binOp .neq t (.map b) (.map none)=(do pure (Value.bool (!(←Op.equal t (.map b) (.map none)))):Sem Value):=by cases b <;> rfl
 rw[this]; simp[eq_nilm h]
theorem PartOf.one {r v:AV} {s lo hi:Nat} (h:PartOf r v s lo hi):r.one=true:=by
 rcases h with ⟨rfl,_⟩|⟨b,off,n,full,full',_,rfl,_⟩ <;> rfl
def AV.mapNil : AV → Option Bool
  | .nilm=>some true
  | .mp _=>some false
  | _=>none
theorem AV.mapNil_mp {q:AV} (h:q.mapNil=some false):ZE q:=by
 cases q <;> simp[AV.mapNil] at h
 exact⟨_,rfl⟩
theorem Wu {P : Program} {ρ : Operand → AV} {o : Oper} {h : AHeap} {t t' : TypeId} {p : TypeId × TypeId} {x y : Operand} {b : Bool} {op : BinOp} (ho : o.op = .binOp op t x y t') (hop : op = .eql ∨ op = .neq) (hm : Z8 P t = some p) (hx : (ρ x).mapNil = some b) (hy : ρ y = .nilm) :
    K6 P ρ o h (.bool (if op = .eql then b else !b)) h:=by
 refine⟨HGrow.refl _,?_⟩;intro φ a w K Q hfr r hops hk;have hvx:=hops x aU;have hvy:=hops y aU;have hu:=ZK hm;rw[hy] at hvy;generalize hqx:a.eval x=qx at hvx;generalize hqy:a.eval y=qy at hvy;cases hvy;have hex:∃ q,qx = .map q∧q.isNone=b:=by
  generalize ρ x=vx at hx hvx
  cases vx <;> simp only[AV.mapNil,dQ,reduceCtorEq] at hx
  cases hvx; subst hx; exact⟨_,rfl,rfl⟩
  cases hvx; subst hx; exact⟨_,rfl,rfl⟩
 obtain⟨q,rfl,hb⟩:=hex;have hrun:(execOp a.eval o).run P w = .ok (.value (.bool (if op = .eql then b else !b))) w:=by
  rcases hop with rfl|rfl
  simp[execOp,ho,hqx,hqy,eqGuard_at_map,W6 hu,hb];simp[execOp,ho,hqx,hqy,eqGuard_at_map,W7 hu,hb]
 exact Km hrun (hk φ _ w (Trans.refl _ _ _) r (.bool _))
theorem build_s1 {P:Program} {t:TypeId} {z0 z1 z2 x:AV} (hz:Qv P t=some (.agg [z0,z1,z2])) (hz1 : [z0,z1,z2].all AV.one=true) (hok:ZG P t=true) (hp0:QE P t 0=some (0,1)) (hx:x.one=true):Z1 P t [(0,x)]=some (.agg [x,z1,z2]):=by
 have h0:(AV.agg [z0,z1,z2]).cells? = some [z0,z1,z2]:=by simp only[AV.cells?]; rw[if_pos hz1]
 simp only[Z1,hz,h0,hok,if_true,dD,dN,Xd,hp0,AV.cells_one hx];simp[putL,Xd]
theorem build_s3 {P:Program} {t:TypeId} {z0 z1 z2 x y u:AV} (hz:Qv P t=some (.agg [z0,z1,z2])) (hz1 : [z0,z1,z2].all AV.one=true) (hok:ZG P t=true) (hp0:QE P t 0=some (0,1)) (hp1:QE P t 1=some (1,1)) (hp2:QE P t 2=some (2,1)) (hx:x.one=true) (hy:y.one=true) (hu:u.one=true):Z1 P t [(0,x),(1,y),(2,u)]=some (.agg [x,y,u]):=by
 have h0:(AV.agg [z0,z1,z2]).cells? = some [z0,z1,z2]:=by simp only[AV.cells?]; rw[if_pos hz1]
 simp only[Z1,hz,h0,hok,if_true,dD,dN,Xd,hp0,hp1,hp2,AV.cells_one hx,AV.cells_one hy,AV.cells_one hu];simp[putL,Xd]
theorem build_a1 {P:Program} {t:TypeId} {z0 z1 z2 x y:AV} (hz:Qv P t=some (.agg [z0,z1,z2])) (hz1 : [z0,z1,z2].all AV.one=true) (hok:ZG P t=true) (hp0:QE P t 0=some (0,2)) (hx:x.one=true) (hy:y.one=true):Z1 P t [(0,.agg [x,y])]=some (.agg [x,y,z2]):=by
 have h0:(AV.agg [z0,z1,z2]).cells? = some [z0,z1,z2]:=by simp only[AV.cells?]; rw[if_pos hz1]
 have h1:(AV.agg [x,y]).cells? = some [x,y]:=by simp only[AV.cells?]; rw[if_pos (by simp[hx,hy])]
 simp only[Z1,hz,h0,hok,if_true,dD,dN,Xd,hp0,h1];simp[putL,Xd]
theorem WO {P:Program} {ρ:Operand→AV} {o:Oper} {h:AHeap} {f:FuncId} {first cap:Array Operand} (ho:o.op = .makeFunc (.func f) first cap):K6 P ρ o h (.fnm f (first.toList.map ρ) (cap.toList.map ρ)) h:=by
 refine⟨HGrow.refl _,?_⟩;intro φ a w K Q hfr r hops hk;have hrun:(execOp a.eval o).run P w = .ok (.value (.func (.func f) (first.toList.map a.eval).toArray (cap.toList.map a.eval).toArray)) w:=by
  simp only[execOp,ho,Instr.makeFunc];simp;exact⟨by apply gF; simp,by apply gF; simp⟩
 have hin:∀ q,q∈first.toList∨q∈cap.toList→VRel φ (ρ q) (a.eval q):=by
  intro q hq;refine hops q ?_;simp only[ho,Op.operands];rcases hq with hq|hq
  exact Array.mem_append_left _ (by simpa using hq);exact Array.mem_append_right _ (by simpa using hq)
 refine Km hrun (hk φ _ w (Trans.refl _ _ _) r (.fnm _ _ _ _ _ aV ?_ aV ?_));intro j x y hx hy;rw[dC,dF] at hx hy;obtain⟨q,hq,rfl⟩:=hx;obtain⟨q',hq',rfl⟩:=hy;rw[hq] at hq'; cases hq';exact hin q (.inl (dM hq));intro j x y hx hy;rw[dC,dF] at hx hy;obtain⟨q,hq,rfl⟩:=hx;obtain⟨q',hq',rfl⟩:=hy;rw[hq] at hq'; cases hq';exact hin q (.inr (dM hq))
theorem Ev.stepM {P : Program} {ρ : Operand → AV} {o : Oper} {h h' : AHeap} {f : FuncId} {first caps : List AV} {r : AV} {g : Operand} {args : Array Operand} {tys : Array TypeId}
    (ho:o.op = .call {callee:=.value g,args:=args,argTypes:=tys}) (hg : ρ g = .fnm f first caps) (hev:Ev P f (first ++ args.toList.map ρ ++ caps) h r h'):SemStep P ρ o h r h':=by
 have hc:O7 o.op = .chain:=by rw[ho]; rfl
 unfold SemStep;rw[hc];obtain⟨⟨fn,hf,hn,hb⟩,hgrow,hcalls⟩:=hev;refine⟨hgrow,?_⟩;intro φ a w K Q hfr rr hops hk;have hgv:=hops g aa;rw[hg] at hgv;generalize hgc:a.eval g=cg at hgv
 cases hgv with|fnm _ _ _ fs cs hl hh hl' hh'=>
 have hrun:(execOp a.eval o).run P w = .ok (.enter f ((fs ++ args.toList.map a.eval ++ cs).toArray)) w:=by
  simp only[execOp,ho,resolve,hgc,Deferred.ofValue,dI,dY,dE,invoke,callFunc,run_program,hf,hn,hb,dJ,if_false];simp
 unfold Oper.wp;rw[hrun];refine(hcalls φ w _ hfr rr ?_).mono ?_;refine VRels.append (VRels.append ⟨hl,hh⟩ ⟨by simp,?_⟩) ⟨hl',hh'⟩;intro j x y hx hy;rw[dC,dF] at hx hy;obtain⟨q,hq,rfl⟩:=hx;obtain⟨q',hq',rfl⟩:=hy;rw[hq] at hq'; cases hq';refine hops q ?_;simp[ho,Op.operands,Call.operands];exact .inr (fP (by simpa using hq));rintro e w' ⟨v,φ',rfl,t,r',hv⟩;exact hk φ' v w' t r' hv
section
variable {P:Program} {n:Nat} {ops:Array Oper} {ex:List Nat} {Q:KF→AHeap→Prop} {k:Nat} {os:List Oper} {K:KF} {h:AHeap} {d:Nat} {ty:TypeId} {pos:String} {after:Array Edge}
theorem KOps.makeMeth {f : FuncId} {x : Operand} {v : AV} [hx : EvK h.globs n K x v] (hk : KOps P n ops TXT Q (k + 1) os ((d, .fnm f [v] []) :: K) h) (hlt : gJ k 1000000 = false := by rfl) :
    KOps P n ops TXT Q k (⟨some d,.makeFunc (.func f) #[x] #[],ty,pos,after,none⟩::os) K h:=by
 have h1:=WO (P:=P) (ρ:=KJ h.globs n K) (o:=⟨some d,.makeFunc (.func f) #[x] #[],ty,pos,after,none⟩) (h:=h) rfl;simp only[dL,List.map_nil,hx.eq] at h1;exact KOps.stepT h1 hk hlt
theorem KOps.callM {f : FuncId} {g : Operand} {first caps : List AV} {l : List Operand} {vs : List AV} {tys : Array TypeId} {R : AV → AHeap → Prop} [hg : EvK h.globs n K g (.fnm f first caps)] [hl : EvKs h.globs n K l vs] (hx : ex.contains k = false)
    (hc:ACalls P f (first ++ vs ++ caps) h R) (hk:∀ r h',R r h'→KOps P n ops ex Q (k+1) os ((d,r)::K) h'):KOps P n ops ex Q k (⟨some d,.call {callee:=.value g,args:=dK l,argTypes:=tys},ty,pos,after,none⟩::os) K h:=by
 obtain⟨r,h',hev,hR⟩:=hc;refine Ze (v:=r) (h':=h') ?_ (fun hc=>by rw[hx] at hc; cases hc) (hk r h' hR);refine Ev.stepM (g:=g) (args:=dK l) (tys:=tys) rfl hg.eq ?_;rw[fV,hl.eq];exact hev
def CallsV (P:Program) (v:AV) (vs:List AV) (h:AHeap) (R:AV→AHeap→Prop):Prop:=match v with
  | .fn f caps=>ACalls P f (vs ++ caps) h R
  | .fnm f first caps=>ACalls P f (first ++ vs ++ caps) h R
  | _=>False
theorem KOps.callV {g : Operand} {v : AV} {l : List Operand} {vs : List AV} {tys : Array TypeId} {R : AV → AHeap → Prop} [hg : EvK h.globs n K g v] [hl : EvKs h.globs n K l vs] (hx : ex.contains k = false)
    (hc:CallsV P v vs h R) (hk:∀ r h',R r h'→KOps P n ops ex Q (k+1) os ((d,r)::K) h'):KOps P n ops ex Q k (⟨some d,.call {callee:=.value g,args:=dK l,argTypes:=tys},ty,pos,after,none⟩::os) K h:=by
 cases v <;> first|exact Oi hx hc hk|exact KOps.callM hx hc hk|exact hc.elim
end
section
variable {P:Program} {n:Nat} {ops:Array Oper} {Q:KF→AHeap→Prop} {k:Nat} {os:List Oper} {K:KF} {h:AHeap} {d:Nat} {ty:TypeId} {pos:String} {after:Array Edge}
theorem KOps.eqNilm {t t' : TypeId} {x : Operand} {v : AV} {b : Bool} {p : TypeId × TypeId} [hx : EvK h.globs n K x v] (hm : Z8 P t = some p) (hv : v.mapNil = some b) (hk : KOps P n ops TXT Q (k + 1) os ((d, .bool b) :: K) h) (hlt : gJ k 1000000 = false := by rfl) :
    KOps P n ops TXT Q k (⟨some d,.binOp .eql t x (.const (.map none)) t',ty,pos,after,none⟩::os) K h:=
  KOps.stepT (Wu (op:=.eql) rfl (.inl rfl) hm (by rw[hx.eq]; exact hv) rfl) hk hlt
theorem KOps.neqNilm {t t' : TypeId} {x : Operand} {v : AV} {b : Bool} {p : TypeId × TypeId} [hx : EvK h.globs n K x v] (hm : Z8 P t = some p) (hv : v.mapNil = some b) (hk : KOps P n ops TXT Q (k + 1) os ((d, .bool !b) :: K) h) (hlt : gJ k 1000000 = false := by rfl) :
    KOps P n ops TXT Q k (⟨some d,.binOp .neq t x (.const (.map none)) t',ty,pos,after,none⟩::os) K h:=
  KOps.stepT (Wu (op:=.neq) rfl (.inr rfl) hm (by rw[hx.eq]; exact hv) rfl) hk hlt
end
section
variable {P:Program} {n:Nat} {ops:Array Oper} {ex:List Nat} {Q:KF→AHeap→Prop} {k:Nat} {os:List Oper} {K:KF} {h:AHeap} {d:Nat} {ty:TypeId} {pos:String} {after:Array Edge}
theorem Qe {x ix : Operand} {p v : AV} {t : TypeId} {m s c : Nat} {kd : IntKind} {i : Int} {j : Nat} [hx : EvK h.globs n K x p] [hi : EvK h.globs n K ix (.int kd i)] [ht : ArT P t m] (ha : AddrOf p v s c) (hj : i = (j : Int)) (hlt : j < m)
    (hk:∀ q,AddrOf q v s (c+j)→KOps P n ops ex Q (k+1) os ((d,q)::K) h):KOps P n ops ex Q k (⟨some d,.indexAddr t x ix,ty,pos,after,none⟩::os) K h:=by
 subst hj;obtain⟨b,o,h1,rfl⟩:=ha;obtain⟨e,he,hs⟩:=ht.arr;refine Ki rfl (v:=.ptr b (o+c+j)) ?_ (hk _ ⟨b,o,h1,by rw[Nat.add_assoc]⟩);simp only[KX,hx.eq,hi.eq,Xe,he,hs,dD,dN];rw[if_pos ⟨by omega,by omega⟩];simp
theorem KOps.buildS1 {t : TypeId} {x0 : Operand} {v0 : AV} [hx0 : EvK h.globs n K x0 v0] {z0 z1 z2 : AV} (hz : Qv P t = some (.agg [z0, z1, z2])) (hz1 : [z0, z1, z2].all AV.one = true) (hok : ZG P t = true) (hp0 : QE P t 0 = some (0, 1)) (hov0 : v0.one = true) (hk : KOps P n ops ex Q (k + 1) os ((d, .agg [v0, z1, z2]) :: K) h) :
    KOps P n ops ex Q k (⟨some d,.build t (dK [(0,x0)]),ty,pos,after,none⟩::os) K h:=
  KOps.build (vs:=[v0]) (build_s1 hz hz1 hok hp0 hov0) hk
theorem KOps.buildS3 {t : TypeId} {x0 x1 x2 : Operand} {v0 v1 v2 : AV} [hx0 : EvK h.globs n K x0 v0] [hx1 : EvK h.globs n K x1 v1] [hx2 : EvK h.globs n K x2 v2] {z0 z1 z2 : AV} (hz : Qv P t = some (.agg [z0, z1, z2])) (hz1 : [z0, z1, z2].all AV.one = true) (hok : ZG P t = true) (hp0 : QE P t 0 = some (0, 1)) (hp1 : QE P t 1 = some (1, 1)) (hp2 : QE P t 2 = some (2, 1)) (hov0 : v0.one = true) (hov1 : v1.one = true) (hov2 : v2.one = true) (hk : KOps P n ops ex Q (k + 1) os ((d, .agg [v0, v1, v2]) :: K) h) :
    KOps P n ops ex Q k (⟨some d,.build t (dK [(0,x0),(1,x1),(2,x2)]),ty,pos,after,none⟩::os) K h:=
  KOps.build (vs:=[v0,v1,v2]) (build_s3 hz hz1 hok hp0 hp1 hp2 hov0 hov1 hov2) hk
theorem KOps.buildA1 {t : TypeId} {x0 : Operand} {v00 v01 : AV} [hx0 : EvK h.globs n K x0 (.agg [v00, v01])] {z0 z1 z2 : AV} (hz : Qv P t = some (.agg [z0, z1, z2])) (hz1 : [z0, z1, z2].all AV.one = true) (hok : ZG P t = true) (hp0 : QE P t 0 = some (0, 2)) (hov00 : v00.one = true) (hov01 : v01.one = true) (hk : KOps P n ops ex Q (k + 1) os ((d, .agg [v00, v01, z2]) :: K) h) :
    KOps P n ops ex Q k (⟨some d,.build t (dK [(0,x0)]),ty,pos,after,none⟩::os) K h:=
  KOps.build (vs:=[.agg [v00,v01]]) (build_a1 hz hz1 hok hp0 hov00 hov01) hk
end
end Go.Am
namespace Go.Am
theorem AW.region_drawS2 {P : Program} {id c r t a d : Nat} {ops : Array Oper} {l1 l2 : List Oper} {oc : Oper} {ex : List Nat} {sz : Nat} {o : Oper} {Q : Ex → List AV → AHeap → Prop} {fr : List AV} {h : AHeap} (hm : P.follows .mixedOrders = true) (hl : ops.toList = l1 ++ oc :: l2) (hc : l1.length = c + 1)
    (hok:RgOk sz ops ex [(c,r),(c+1,r)]) (hsz:fr.length=sz) (hrc:r<c) (ho:ops[r]? = some o) (hop:o.op = .load t (.tmp a)) (hod:o.dst=some d) (hdz:d<sz) (hno:∀ j (oj:Oper),r≤j→j≤c+1→ops[j]? = some oj→oj.dst≠some a∧(r<j→oj.dst≠some d))
    (hw:QQ P ops ex (fun fr1 h1=>Qu P h1 t (fr1.getD a .bot)=some (fr1.getD d .bot)∧QQ P ops ex (fun fr2 h2=>Qu P h2 t (fr2.getD a .bot)=some (fr2.getD d .bot)∧QQ P ops ex (Q .normal) (c+2) l2 fr2 h2) (c+1) [oc] fr1 h1) 0 l1 fr h):AW P (.region id ops true) Q fr h:=by
 have hsize:ops.size=l1.length+(l2.length+1):=by rw[←fB,hl,fX,gY]
 have g1:∀ i,i<l1.length→l1[i]? = ops[0+i]?:=by
  intro i hi;rw[Nat.zero_add,←dR,hl,fD hi]
 have g3:∀ i,i < [oc].length→[oc][i]? = ops[c+1+i]?:=by
  intro i hi;simp only[dS] at hi;rw[←dR,hl,dV aA,hc,fH,show i=0 by omega];rfl
 have g2:∀ i,l2[i]? = ops[c+2+i]?:=by
  intro i;rw[←dR,hl,dV aA,hc,show c+2+i - (c+1)=i+1 by omega];rfl
 obtain⟨ws1,fs1,ks1,a1,a2,⟨hchkA,hKA⟩,hallA⟩:=Ys hok.ntx l1 0 fr h g1 hw;simp only[Nat.zero_add,hc] at hchkA hKA hallA;obtain⟨ws2,fs2,ks2,b1,b2,⟨hchkB,hKB⟩,hallB⟩:=Ys hok.ntx [oc] (c+1) _ _ g3 hKA;simp only[dS] at hchkB hKB hallB;obtain⟨vs1,frs1,hs1,e1,e2,hchk1,hchk,hK1,hall1⟩:∃ (vs:Nat→AV) (frs:Nat→List AV) (hs:Nat→AHeap),frs 0=fr∧hs 0=h∧Qu P (hs (c+1)) t ((frs (c+1)).getD a .bot)=some ((frs (c+1)).getD d .bot)∧Qu P (hs (c+2)) t ((frs (c+2)).getD a .bot)=some ((frs (c+2)).getD d .bot)∧QQ P ops ex (Q .normal) (c+2) l2 (frs (c+2)) (hs (c+2))∧∀ i o,0≤i→i<c+2→ops[i]? = some o→TS P ops ex i o (frs i) (hs i) (vs i) (frs (i+1)) (hs (i+1)):=by
  refine⟨fun i=>if i≤c then ws1 i else ws2 i,fun i=>if i≤c then fs1 i else fs2 i,fun i=>if i≤c then ks1 i else ks2 i,by simp[a1],by simp[a2],?_,?_,?_,?_⟩;simp only[if_neg (show¬ c+1≤c by omega),b1,b2]; exact hchkA;simp only[if_neg (show¬ c+2≤c by omega)]; exact hchkB;simp only[if_neg (show¬ c+2≤c by omega)]; exact hKB;intro i oi _ hi hoi;by_cases h1:i≤c;have ht:=hallA i oi (fC _) aA hoi;by_cases h2:i+1≤c;simp only[if_pos h1,if_pos h2]; exact ht;have h3:i=c:=by omega
  subst h3;simp only[if_pos h1,if_neg h2,b1,b2];exact ht;simp only[if_neg h1,if_neg (show¬ i+1≤c by omega)];exact hallB i oi aA aA hoi
 obtain⟨vs2,frs2,hs2,e3,e4,hK2,hall2⟩:=V8 hok.ntx l2 (c+2) _ _ g2 hK1;have hlen:∀ i,i≤c+2→(frs1 i).length=sz:=by
  intro i
  induction i with
  | zero=>intro _; rw[e1]; exact hsz
  | succ i ih=>
   intro hi;have ht:=hall1 i _ (fC _) aA (dW aA);rw[ht.1];unfold QI;split;rw[fJ]; exact ih aA;exact ih aA
 have hget:∀ (l:List AV) (dst:Option Tmp) (v:AV) (x:Nat),dst≠some x→(QI l dst v).getD x .bot=l.getD x .bot:=by
  intro l dst v x hx;unfold QI;split;rename_i y;rw[dO,dO,List.getElem?_set_ne (by rintro rfl; exact hx rfl)];rfl
 have ha:∀ j,r≤j→j≤c+2→(frs1 j).getD a .bot=(frs1 r).getD a .bot:=by
  intro j h1
  induction j with
  | zero=>intro _; rw[show r=0 by omega]
  | succ j ih=>
   intro h2;rcases fZ h1 with h3|h3
   have ho2:=dW (xs:=ops) (i:=j) aA;have ht:=hall1 j _ (fC _) aA ho2;rw[ht.1,hget _ _ _ _ (hno j _ aA aA ho2).1,ih aA aA];rw[←h3]
 have hd:∀ j,r<j→j≤c+2→(frs1 j).getD d .bot=vs1 r:=by
  intro j h1
  induction j with
  | zero=>omega
  | succ j ih=>
   intro h2;have ho2:=dW (xs:=ops) (i:=j) aA;have ht:=hall1 j _ (fC _) aA ho2;rw[ht.1];by_cases hj:j=r;subst hj;rw[ho2] at ho;cases ho;rw[hod];simp only[QI];rw[dO,List.getElem?_set_self (by rw[hlen j aA]; exact hdz)];rfl;rw[hget _ _ _ _ ((hno j _ aA aA ho2).2 aA)];exact ih aA aA
 refine AW.region_run hm hok hsz (vs:=fun i=>if i≤c+1 then vs1 i else vs2 i) (frs:=fun i=>if i≤c+1 then frs1 i else frs2 i) (hs:=fun i=>if i≤c+1 then hs1 i else hs2 i) (by simp[e1]) (by simp[e2]) ?_ ?_ ?_ (by
  intro c' j' o' hcr _ ho' hcl;have hcr':(c'=c∧j'=r)∨(c'=c+1∧j'=r):=by simpa using hcr
  rcases hcr' with ⟨rfl,rfl⟩|⟨rfl,rfl⟩ <;>
  ·rw[ho] at ho';cases ho';rw[hop] at hcl
   cases hcl)
 simp only[if_neg (show¬ ops.size≤c+1 by omega)];rw[show ops.size=c+2+l2.length by omega];exact hK2;intro i oi hi hoi;by_cases h1:i≤c+1;have ht:=hall1 i oi (fC _) aA hoi;by_cases h2:i+1≤c+1;simp only[if_pos h1,if_pos h2]; exact ht;have h3:i=c+1:=by omega
 subst h3;simp only[if_pos h1,if_neg h2,e3,e4];exact ht;simp only[if_neg h1,if_neg (show¬ i+1≤c+1 by omega)];exact hall2 i oi aA aA hoi;intro c' r' o' hcr _ ho' _;have hcr':(c'=c∧r'=r)∨(c'=c+1∧r'=r):=by simpa using hcr
 rcases hcr' with ⟨rfl,rfl⟩|⟨rfl,rfl⟩
 rw[ho] at ho';cases ho';rw[if_pos (show r'<c' by omega)];simp only[if_pos (show c'+1≤c'+1 by omega),if_pos (show r'≤c'+1 by omega)];rw[hop];show Qu P _ t ((frs1 r').getD a .bot)=_;rw[←ha (c'+1) aA aA,←hd (c'+1) aA aA];exact hchk1;rw[ho] at ho';cases ho';rw[if_pos (show r'<c+1 by omega)];simp only[if_neg (show¬ c+1+1≤c+1 by omega),if_pos (show r'≤c+1 by omega),e4];rw[hop];show Qu P _ t ((frs1 r').getD a .bot)=_;rw[←ha (c+2) aA (fM _),←hd (c+2) aA (fM _)];exact hchk
section drawS
variable {P:Program} {n:Nat} {Q:Ex→KF→AHeap→Prop} {K:KF} {h:AHeap}
theorem KA.drawS2 {id c r t a d : Nat} {ops : Array Oper} {l1 l2 : List Oper} {oc o : Oper} (ex : List Nat) (hm : P.follows .mixedOrders = true) (hl1 : ops.toList.take (c + 1) = l1) (hl2 : ops.toList.drop (c + 1) = oc :: l2) (hc : l1.length = c + 1) (hok : rgOk n ops.toList ex [(c, r), (c + 1, r)] = true) (ho : ops[r]? = some o) (hop : o.op = .load t (.tmp a)) (hod : o.dst = some d) (hdz : d < n) (hrc : r < c)
    (hno:((List.range' r (c+2 - r)).all fun j=>match ops[j]? with|some oj=>oj.dst != some a && (j == r || oj.dst != some d)|none=>true)=true)
    (hw:KOps P n ops ex (fun K1 h1=>Qu P h1 t ((KP n K1).getD a .bot)=some ((KP n K1).getD d .bot)∧KOps P n ops ex (fun K2 h2=>Qu P h2 t ((KP n K2).getD a .bot)=some ((KP n K2).getD d .bot)∧KOps P n ops ex (Q .normal) (c+2) l2 K2 h2) (c+1) [oc] K1 h1) 0 l1 K h):KA P n (.region id ops true) Q K h:=by
 refine AW.region_drawS2 (c:=c) (r:=r) (t:=t) (a:=a) (d:=d) (l1:=l1) (oc:=oc) (l2:=l2) hm (by rw[←hl1,←hl2,List.take_append_drop]) hc (VX rfl hok) (Qz n K) hrc ho hop hod hdz ?_ ?_;intro j oj h1 h2 hj;have:=List.all_eq_true.1 hno j (List.mem_range'_1.2 ⟨h1,by omega⟩);simp only[hj,Bool.and_eq_true,bne_iff_ne,Bool.or_eq_true,beq_iff_eq] at this;exact⟨this.1,fun h3=>this.2.resolve_left aA⟩;refine XF ?_ _ _ _ _ hw;rintro fr1 h1 ⟨K1,rfl,hchk,hrest⟩;refine⟨hchk,XF ?_ _ _ _ _ hrest⟩;rintro fr2 h2 ⟨K2,rfl,hchk2,hrest2⟩;exact⟨hchk2,hrest2⟩
end drawS
section drawS2
variable {P:Program} {n:Nat} {ops:Array Oper} {ex:List Nat} {k:Nat} {K:KF} {h:AHeap}
theorem ZQ {t a d s j : Nat} {R : KF → AHeap → Prop} {p v y : AV} {xs : List AV} [hla : Look K a p] [hld : Look K d y] [ht : ScT P t] (hna : Nat.ble n a = false) (hnd : Nat.ble n d = false) (ha : AddrOf p v s j) (hr : Rd h v s xs) (hy : xs[j]? = some y) (hrest : R K h) :
    KOps P n ops ex (fun K1 h1=>Qu P h1 t ((KP n K1).getD a .bot)=some ((KP n K1).getD d .bot)∧R K1 h1) k [] K h:=by
 refine Of ⟨?_,hrest⟩;rw[Zg,Zg,hna,hnd,cond_false,cond_false,hla.eq,hld.eq];exact hr.load ha hy
end drawS2
end Go.Am
namespace Go.Am
open Go.RowKit
abbrev mwalkO (v:AV) (bm n:Nat) (D:List Nat):Obj:=⟨v,0,Thing.enc (.mwalk bm n D),false⟩
theorem Mu.mwalk {lo:Nat} {h:AHeap} {F:Option Nat} {v:AV} {bm n:Nat} {D:List Nat} (hv:IsIt v) (hm:Mu lo h F (mwalkO v bm n D)):∃ b G f,F=some G∧lo≤b∧v = .it b∧h.get b=some (.obj G (.mwalk bm n D))∧h.fam G=some f:=by
 obtain⟨b0,rfl⟩:=hv
 cases F with
 | none=>cases hm.1
 | some G=>
  rcases hm with ⟨b,off,p,cs,f,_,hw,_⟩|⟨b,x,f,h1,h2,h3,h4,h5,h6⟩
  rcases hw with ⟨_,_,hw,_⟩|⟨_,hw⟩ <;> cases hw
  ·cases x with
   | map es'=>cases h2
   | dmap es'=>cases h2
   | walk _ _=>simp[Thing.enc] at h6
   | gone=>simp[Thing.enc] at h6
   | mwalk bm' n' D'=>
    simp only[Thing.at,AV.it.injEq] at h2;subst h2;simp only[Thing.enc,List.cons.injEq,AV.mp.injEq,AV.int.injEq,AV.tup.injEq,and_true,true_and] at h6;obtain⟨e1,e2,e3⟩:=h6;have e3:D'=D:=by
     refine(List.map_inj_right (f:=fun i:Nat=>AV.int .i64 (i:Int)) ?_).1 ?_;intro x y hxy; simp only[AV.int.injEq,true_and] at hxy; omega
     first|exact e3|exact e3.symm
    have e2:n'=n:=by omega
    subst e1 e2 e3;exact⟨b0,G,f,rfl,h1,rfl,h4,h5⟩
end Go.Am
namespace Go.Am
inductive PartsAt (P:Program) (t:TypeId) (n:Nat):List (Nat × AV)→List (Nat × List AV)→Prop where
  | nil:PartsAt P t n [] []
  | cons {i off s:Nat} {v:AV} {l:List AV} {ps:List (Nat × AV)} {qs:List (Nat × List AV)} (hp:QE P t i=some (off,s)) (hc:v.cells? = some l) (hl:l.length=s) (hn:off+s≤n) (h:PartsAt P t n ps qs):PartsAt P t n ((i,v)::ps) ((off,l)::qs)
theorem cells_agg {l:List AV} (h:l.all AV.one=true):(AV.agg l).cells? = some l:=by simp only[AV.cells?]; rw[if_pos h]
theorem putL_len2 {α:Type} {cs l:List α} {o:Nat} (h:o+l.length≤cs.length):(putL cs o l).length=cs.length:=by
 simp only[putL,fX,fG,gB]; omega
theorem PartsAt.fill {P:Program} {t:TypeId} {n:Nat} {ps:List (Nat × AV)} {qs:List (Nat × List AV)} (h:PartsAt P t n ps qs):∀ {cs:List AV},cs.length=n→Xd (QE P t) cs ps=some (qs.foldl (fun cs q=>putL cs q.1 q.2) cs):=by
 induction h with
 | nil=>intro cs _; rfl
 | cons hp hc hl hn _ ih=>
  intro cs hcs;simp only[Xd,hp,hc];rw[if_pos ⟨hl,by omega⟩];exact ih (by rw[putL_len2 aA]; exact hcs)
section
variable {P:Program} {n:Nat} {ops:Array Oper} {ex:List Nat} {Q:KF→AHeap→Prop} {k:Nat} {os:List Oper} {K:KF} {h0 h:AHeap} {objs:List Obj} {d:Nat} {ty:TypeId} {pos:String} {after:Array Edge}
theorem Kt {t : TypeId} {l : List (Nat × Operand)} {vs zs cs : List AV} {qs : List (Nat × List AV)} [hl : EvKp h.globs n K l vs] (hz : Qv P t = some (.agg zs)) (hz1 : zs.all AV.one = true) (hok : ZG P t = true) (hp : PartsAt P t zs.length ((l.map (·.1)).zip vs) qs)
    (he:qs.foldl (fun cs q=>putL cs q.1 q.2) zs=cs) (hk:KOps P n ops ex Q (k+1) os ((d,.agg cs)::K) h) :
    KOps P n ops ex Q k (⟨some d,.build t (dK l),ty,pos,after,none⟩::os) K h:=by
 refine KOps.build (vs:=vs) (v:=.agg cs) ?_ hk;simp only[Z1,hz,cells_agg hz1,hok,if_true,dD,dN,hp.fill rfl,he]
end
theorem St.pickF {h0 h:AHeap} {A A' F:List Obj} (k:Nat) (σ:List Nat) (hk:A.length=k) (hn : σ.Nodup) (hlt:∀ i∈σ,i<k) (he : σ.map (fun i=>A[i]?)=A'.map some) (st:St h0 h (A ++ F)):St h0 h (A' ++ F):=by
 have hp:St h0 h (F ++ A'):=by
  have h1:St h0 h (F ++ A):=st.rot;refine h1.pick ((dG F.length) ++ σ.map (· + F.length)) ?_ ?_;refine List.nodup_append.2 ⟨gC,?_,?_⟩;exact(List.pairwise_map.2 (hn.imp fun h e=>h aA));intro a ha b hb;have:=dZ.1 ha;obtain⟨c,_,rfl⟩:=fO.1 hb;omega;rw[gG,gG];congr 1;refine List.ext_getElem? fun i=>?_
  simp only[dC];by_cases hi:i<F.length;rw[dA af,dA hi];simp[fD hi,dA hi];rw[dT af,dT aA]; rfl;rw[List.map_map,←he];refine List.map_congr_left fun i _=>?_
  show(F ++ A)[i+F.length]? = A[i]?;rw[dV aA,Nat.add_sub_cancel]
 exact hp.rot
end Go.Am
namespace Go.Am
theorem WN {P:Program} {ρ:Operand→AV} {o:Oper} {h:AHeap} {t:TypeId} (ho:o.op = .makeMap t none):K6 P ρ o h (.mp h.next) (h.allocT (.dmap [])):=by
 refine⟨HGrow.allocT _ _,?_⟩;intro φ a w K Q hfr r _ hk;have hφ : φ h.next=none:=hfr h.next (fM _) au;obtain⟨r',tr⟩:=r.allocT hφ (.dmap []) (.map #[] 0) (fun φ' w' _ hw=>⟨#[],0,hw,rfl,by simp⟩);have hrun:(execOp a.eval o).run P w = .ok (.value (.map (some w.heap.size))) (w.alloc (.map #[] 0)):=by
  simp[execOp,ho,Instr.makeMap]
 exact Km hrun (hk _ _ _ tr r' (.mp _ _ _ _ (Emb.upd_same _ _ _)))
def JA (h : AHeap) : AV → Option (List (AV × AV))
  | .nilm=>some []
  | .mp b=>match h.get b with
    | some (.obj _ (.dmap es))=>some es
    | _=>none
  | _=>none
def Uk (P:Program) (h:AHeap) (t:TypeId) (x key:AV) (ok:Bool):Option AV:=
  match Z8 P t,JA h x with
  | some (kt,et),some es=>if Zn P kt key=true then
      match Q6 P kt key es,Qv P et with
      | some r,some z=>some (match r with
        | some (_,v)=>if ok then .tup [v,.bool true] else v
        | none=>if ok then .tup [z,.bool false] else z)
      | _,_=>none
    else none
  | _,_=>none
theorem Rp {P:Program} {ρ:Operand→AV} {o:Oper} {h:AHeap} {t:TypeId} {x ix:Operand} {ok:Bool} {v:AV} (ho:o.op = .lookup t x ix ok) (hs:Uk P h t (ρ x) (ρ ix) ok=some v):ReadS P ρ o h v:=by
 intro φ w ev r hops;unfold Uk at hs;split at hs
 ·rename_i kt et es hm hes;split at hs
  ·rename_i hkey;split at hs
   ·rename_i fr z hf hz;simp only[dQ] at hs;subst hs;have hx:=hops x aU;have hi:=hops ix aU;obtain⟨i,zv,hzi,hzv,hzr⟩:=QA hz;have hzrun:(zeroValue et).run P w = .ok zv w:=by simp[zeroValue,typeInfo,hzi,hzv]
    have hu:=ZK hm
    obtain ⟨ms, hlen, hrel, hget⟩ : ∃ ms : Array MapEntry, es.length = ms.toList.length ∧ (∀ (j : Nat) y m, es[j]? = some y → ms.toList[j]? = some m → VRel φ y.1 m.key ∧ VRel φ y.2 m.val) ∧
        ((ev x = .map none∧ms = #[])∨∃ k n,ev x = .map (some k)∧w.heap[k]? = some (.map ms n)):=by
      unfold JA at hes;split at hes
      · rename_i hρ;cases hes;rw[hρ] at hx;generalize hq:ev x=q at hx;cases hx;exact⟨#[],rfl,by simp,.inl ⟨rfl,rfl⟩⟩
      · rename_i b hρ;rw[hρ] at hx;generalize hq:ev x=q at hx;cases hx;rename_i k i' z' hφ;split at hes
        · rename_i F es' hg;cases hes;obtain⟨ms,n,h1,h2,h3⟩:=r.blk b k i' z' _ hφ hg aZ;exact⟨ms,by simpa using h2,fun j y m hy hm=>h3 j y m hy ap,.inr ⟨k,n,rfl,h1⟩⟩
        · cases hes
      · cases hes
    obtain⟨cr,h1,h2,h3⟩:=Xt (P:=P) hkey hi w es ms.toList fr hlen hrel hf;have hck:=Z6 (P:=P) hkey hi ms.isEmpty w;have hrun:∀ (c:Value) (b:Bool),(match cr with|some (_,v)=>(v,true)|none=>(zv,false))=(c,b)→(gA t (ev x) (ev ix) ok).run P w = .ok (if ok then .tuple #[c,.bool b] else c) w:=by
     intro c b hcb;rcases hget with ⟨hq,rfl⟩|⟨k,n,hq,hw⟩
     ·have hcr:cr=none:=by
       cases cr with
       | none=>rfl
       | some p=>
        cases fr with
        | none=>exact h2 rfl
        | some p'=>obtain⟨_,_,_,_,h4,_⟩:=h3 p'.1 p'.2 rfl; simp at h4
      subst hcr;cases hcb;simp only[gA,dI,run_underlying hu,dE,hq,dY,hck,h1,hzrun]
     ·simp only[gA,dI,run_underlying hu,dE,hq,dU hw,dY,hck,h1]
      cases cr with
      | none=>cases hcb; simp only[dI,hzrun,dE,dY]
      | some p=>obtain⟨p1,p2⟩:=p; cases hcb; simp only[dI,dY,dE]
    cases fr with
    | none=>
     have hcr:=h2 rfl;subst hcr;have hrun:=hrun zv false rfl;have hop:(execOp ev o).run P w = .ok (.value (if ok then .tuple #[zv,.bool false] else zv)) w:=by simp only[execOp,ho,dI,hrun,dE,dY]
     refine⟨_,hop,?_⟩
     cases ok with
     | true=>exact Vg (hzr φ) false
     | false=>exact hzr φ
    | some p=>
     obtain⟨i',v'⟩:=p;obtain⟨cv,m,rfl,h5,_,_,_⟩:=h3 i' v' rfl;have hrun:=hrun cv true rfl;have hop:(execOp ev o).run P w = .ok (.value (if ok then .tuple #[cv,.bool true] else cv)) w:=by simp only[execOp,ho,dI,hrun,dE,dY]
     refine⟨_,hop,?_⟩
     cases ok with
     | true=>exact Vg h5 true
     | false=>exact h5
   cases hs
  cases hs
 cases hs
def aputD (P:Program) (h:AHeap) (t:TypeId) (x key val:AV):Option AHeap:=
  match Z8 P t,x with
  | some (kt,_),.mp b=>match h.get b with
    | some (.obj F (.dmap es))=>if Zn P kt key=true then
        (Q6 P kt key es).map fun r=>h.set b (.obj F (.dmap (match r with|some (i,_)=>es.set i (key,val)|none=>es ++ [(key,val)])))
      else none
    | _=>none
  | _,_=>none
theorem UB {P:Program} {ρ:Operand→AV} {o:Oper} {h h':AHeap} {t:TypeId} {x ix y:Operand} (ho:o.op = .mapUpdate t x ix y) (hs:aputD P h t (ρ x) (ρ ix) (ρ y)=some h'):K6 P ρ o h (.tup []) h':=by
 unfold aputD at hs;split at hs
 ·rename_i kt et b hm hρ;split at hs
  ·rename_i F es hg;split at hs
   ·rename_i hkey;simp only[dF] at hs;obtain⟨fr,hf,rfl⟩:=hs;refine⟨HGrow.setT hg,?_⟩;intro φ a w K Q hfr r hops hk;have hx:=hops x aU;have hi:=hops ix aU;have hy:=hops y aU;have hu:=ZK hm;rw[hρ] at hx;generalize hq:a.eval x=q at hx;cases hx;rename_i k i' z' hφ;obtain⟨ms,cl,h1,h2,h3⟩:=r.blk b k i' z' _ hφ hg aZ;obtain⟨cr,g1,g2,g3⟩:=Xt (P:=P) hkey hi w es ms.toList fr bJ (fun j y m hy hm=>h3 j y m hy ap) hf;have hck:=Z6 (P:=P) hkey hi false w;have hst:=Ji (P:=P) hkey hi w
    cases fr with
    | none=>
     have hcr:=g2 rfl;subst hcr;have hrun:(fU t (a.eval x) (a.eval ix) (a.eval y)).run P w = .ok () (QU w k (.map (ms.push {key:=a.eval ix,val:=a.eval y,born:=cl}) (cl+1))):=by
      simp only[fU,dI,run_underlying hu,dE,hq,dU h1,hck,g1,dH _ h1];rfl
     have hop:(execOp a.eval o).run P w = .ok .skip (QU w k (.map (ms.push {key:=a.eval ix,val:=a.eval y,born:=cl}) (cl+1))):=by simp only[execOp,ho,dI,hrun,dE,dY]
     obtain⟨r',tr⟩:=r.setT hφ hg (.dmap (es ++ [(ρ ix,ρ y)])) (.map (ms.push {key:=a.eval ix,val:=a.eval y,born:=cl}) (cl+1)) (by
      intro w' hw';refine⟨ms.push {key:=a.eval ix,val:=a.eval y,born:=cl},cl+1,hw',by simp[h2],?_⟩;intro j p m hp hm;rw[List.getElem?_append] at hp;rw[Array.getElem?_push] at hm;split at hp;rename_i hj;rw[if_neg aA] at hm;exact h3 j p m hp hm;rename_i hj;have hj0:j=ms.size:=by
       have:=(dB.1 hp).1;simp at this; omega
      rw[if_pos hj0] at hm;cases hm;rw[show j - es.length=0 by omega] at hp;cases hp;exact⟨hi,hy⟩)
     exact XV hop (hk φ _ _ tr r' (VRel.undef φ))
    | some p=>
     obtain⟨i,v⟩:=p;obtain⟨cv,m,rfl,g5,g6,g7,g8⟩:=g3 i v rfl;have hmi:ms[i]? = some m:=by simpa using g6
     have hrun:(fU t (a.eval x) (a.eval ix) (a.eval y)).run P w = .ok () (QU w k (.map (ms.modify i fun e=>{e with key:=a.eval ix,val:=a.eval y}) cl)):=by
      simp only[fU,dI,run_underlying hu,dE,hq,dU h1,hck,g1,hmi,dP,Option.getD_some,g7,hst,dH _ h1];rfl
     have hop:(execOp a.eval o).run P w = .ok .skip (QU w k (.map (ms.modify i fun e=>{e with key:=a.eval ix,val:=a.eval y}) cl)):=by simp only[execOp,ho,dI,hrun,dE,dY]
     obtain⟨r',tr⟩:=r.setT hφ hg (.dmap (es.set i (ρ ix,ρ y))) (.map (ms.modify i fun e=>{e with key:=a.eval ix,val:=a.eval y}) cl) (by
      intro w' hw';refine⟨ms.modify i fun e=>{e with key:=a.eval ix,val:=a.eval y},cl,hw',by simp[h2],?_⟩;intro j p m' hp hm;rw[gI] at hp;rw[Array.getElem?_modify] at hm;by_cases hij:i=j;subst hij;rw[if_pos rfl] at hp hm;rw[hmi] at hm;cases hm;split at hp;cases hp;exact⟨hi,hy⟩;cases hp;rw[if_neg hij] at hp hm;exact h3 j p m' hp hm)
     exact XV hop (hk φ _ _ tr r' (VRel.undef φ))
   cases hs
  cases hs
 cases hs
theorem Rr {P : Program} {ρ : Operand → AV} {o : Oper} {h : AHeap} {t : TypeId} {p : TypeId × TypeId} {x : Operand} {es : List (AV × AV)} (ho : o.op = .call { callee := .builtin .len, args := #[x], argTypes := #[t] })
    (hm:Z8 P t=some p) (hs:JA h (ρ x)=some es):K6 P ρ o h (.int .i64 es.length) h:=by
 refine⟨HGrow.refl _,?_⟩;intro φ a w K Q hfr r hops hk;have hx:=hops x aa;have hu:=ZK hm;have hrun:(gE #[t] o.type #[a.eval x]).run P w = .ok (.int .i64 es.length) w:=by
  unfold JA at hs;split at hs;rename_i hρ;cases hs;rw[hρ] at hx;generalize hq:a.eval x=q at hx;cases hx;simp[gE,run_underlying hu,goInt];rename_i b hρ;rw[hρ] at hx;generalize hq:a.eval x=q at hx;cases hx;rename_i k i' z' hφ;split at hs;rename_i F es' hg;cases hs;obtain⟨ms,n,h1,h2,h3⟩:=r.blk b k i' z' _ hφ hg aZ;simp[gE,run_underlying hu,goInt,dU h1,h2];cases hs;cases hs
 have hop:(execOp a.eval o).run P w = .ok (.value (.int .i64 es.length)) w:=by
  simp[execOp,ho,resolve,invoke,builtin,hrun]
 exact Km hop (hk φ _ w (Trans.refl _ _ _) r (.int _ _))
def Uu (es : List (AV × AV)) : Option (Nat × AV) → List (AV × AV)
  | some (i,_)=>es.eraseIdx i
  | none=>es
theorem U8 {P : Program} {ρ : Operand → AV} {o : Oper} {h : AHeap} {t t' : TypeId} {p : TypeId × TypeId} {x ix : Operand} {b F : Nat} {es : List (AV × AV)} {fr : Option (Nat × AV)} (ho : o.op = .call { callee := .builtin .delete, args := #[x, ix], argTypes := #[t, t'] })
    (hm:Z8 P t=some p) (hρ : ρ x = .mp b) (hg:h.get b=some (.obj F (.dmap es))) (hkey:Zn P p.1 (ρ ix)=true) (hf:Q6 P p.1 (ρ ix) es=some fr) :
    K6 P ρ o h (.tup []) (h.set b (.obj F (.dmap (Uu es fr)))):=by
 refine⟨HGrow.setT hg,?_⟩;intro φ a w K Q hfr r hops hk;have hx:=hops x aa;have hi:=hops ix aa;have hu:=ZK hm;rw[hρ] at hx;generalize hq:a.eval x=q at hx;cases hx;rename_i k i' z' hφ;obtain⟨ms,cl,h1,h2,h3⟩:=r.blk b k i' z' _ hφ hg aZ;obtain⟨cr,g1,g2,g3⟩:=Xt (P:=P) hkey hi w es ms.toList fr bJ (fun j y m hy hm=>h3 j y m hy ap) hf;have hck:=Z6 (P:=P) hkey hi ms.isEmpty w
 cases fr with
 | none=>
  have hcr:=g2 rfl;subst hcr;have hrun:(fY #[t,t'] o.type #[a.eval x,a.eval ix]).run P w = .ok (.tuple #[]) (QU w k (.map ms cl)):=by
   simp only[fY,dI,run_underlying hu,dE,fI,fA,fE,hq,dU h1,hck,g1,dH _ h1];rfl
  have hop:(execOp a.eval o).run P w = .ok (.value (.tuple #[])) (QU w k (.map ms cl)):=by
   simp[execOp,ho,resolve,invoke,builtin,hrun]
  obtain⟨r',tr⟩:=r.setT hφ hg (.dmap es) (.map ms cl) (fun w' hw'=>⟨ms,cl,hw',h2,h3⟩);exact Km hop (hk φ _ _ tr r' (VRel.undef φ))
 | some p=>
  obtain⟨i,v⟩:=p;obtain⟨cv,m,rfl,g5,g6,g7,g8⟩:=g3 i v rfl;have hrun:(fY #[t,t'] o.type #[a.eval x,a.eval ix]).run P w = .ok (.tuple #[]) (QU w k (.map (ms.eraseIdxIfInBounds i) cl)):=by
   simp only[fY,dI,run_underlying hu,dE,fI,fA,fE,hq,dU h1,hck,g1,dH _ h1];rfl
  have hop:(execOp a.eval o).run P w = .ok (.value (.tuple #[])) (QU w k (.map (ms.eraseIdxIfInBounds i) cl)):=by
   simp[execOp,ho,resolve,invoke,builtin,hrun]
  obtain⟨r',tr⟩:=r.setT hφ hg (.dmap (es.eraseIdx i)) (.map (ms.eraseIdxIfInBounds i) cl) (by
   intro w' hw';have hlt:i<ms.toList.length:=(dB.1 g6).1;have hlt':i<ms.size:=by simpa using hlt
   have htl:(ms.eraseIdxIfInBounds i).toList=ms.toList.eraseIdx i:=by
    unfold Array.eraseIdxIfInBounds;rw[dif_pos hlt'];exact Array.toList_eraseIdx
   have hsz:(ms.eraseIdxIfInBounds i).size=ms.size - 1:=by
    rw[←fB,htl,fQ,if_pos hlt];simp
   refine⟨ms.eraseIdxIfInBounds i,cl,hw',?_,?_⟩;rw[hsz,fQ,if_pos aA,h2];intro j y m' hy hm;rw[←dR,htl,fN] at hm;rw[fN] at hy;split at hy;rename_i hj; rw[if_pos hj] at hm; exact h3 j y m' hy ap;rename_i hj; rw[if_neg hj] at hm; exact h3 (j+1) y m' hy ap)
  exact Km hop (hk φ _ _ tr r' (VRel.undef φ))
theorem WP {P : Program} {ρ : Operand → AV} {o : Oper} {h : AHeap} {t : TypeId} {p : TypeId × TypeId} {x : Operand} {b F : Nat} {es : List (AV × AV)} (ho : o.op = .call { callee := .builtin .clear, args := #[x], argTypes := #[t] })
    (hm:Z8 P t=some p) (hρ : ρ x = .mp b) (hg:h.get b=some (.obj F (.dmap es))):K6 P ρ o h (.tup []) (h.set b (.obj F (.dmap []))):=by
 refine⟨HGrow.setT hg,?_⟩;intro φ a w K Q hfr r hops hk;have hx:=hops x aa;have hu:=ZK hm;rw[hρ] at hx;generalize hq:a.eval x=q at hx;cases hx;rename_i k i' z' hφ;obtain⟨ms,cl,h1,h2,h3⟩:=r.blk b k i' z' _ hφ hg aZ;have hrun:(gK #[t] o.type #[a.eval x]).run P w = .ok (.tuple #[]) (QU w k (.map #[] cl)):=by
  simp only[gK,dI,run_underlying hu,dE,fI,fA,fE,hq,dU h1,dH _ h1];rfl
 have hop:(execOp a.eval o).run P w = .ok (.value (.tuple #[])) (QU w k (.map #[] cl)):=by
  simp[execOp,ho,resolve,invoke,builtin,hrun]
 obtain⟨r',tr⟩:=r.setT hφ hg (.dmap []) (.map #[] cl) (fun w' hw'=>⟨#[],cl,hw',rfl,by simp⟩);exact Km hop (hk φ _ _ tr r' (VRel.undef φ))
abbrev dmapO (v:AV) (es:List (AV × AV)):Obj:=⟨v,0,Thing.enc (.dmap es),false⟩
def RdD (h:AHeap) (v:AV) (es:List (AV × AV)):Prop:=∃ b F,v = .mp b∧h.get b=some (.obj F (.dmap es))
theorem RdD.ext {h0 h:AHeap} (k:Keeps h0 h) {v:AV} {es:List (AV × AV)} (hr:RdD h0 v es):RdD h v es:=let⟨b,F,hv,hg⟩:=hr; ⟨b,F,hv,k.get_some hg⟩
theorem Ri {es es':List (AV × AV)} (h:Thing.enc (.dmap es)=Thing.enc (.dmap es')):es=es':=by
 simp only[Thing.enc,List.cons.injEq,true_and] at h;exact JR h
theorem Mu.dmap {lo:Nat} {h:AHeap} {F:Option Nat} {v:AV} {es:List (AV × AV)} (hv:ZE v) (hm:Mu lo h F (dmapO v es)):∃ b G f,F=some G∧lo≤b∧v = .mp b∧h.get b=some (.obj G (.dmap es))∧h.fam G=some f:=by
 obtain⟨b0,rfl⟩:=hv
 cases F with
 | none=>cases hm.1
 | some G=>
  rcases hm with ⟨b,off,p,cs,f,_,hw,_⟩|⟨b,x,f,h1,h2,h3,h4,h5,h6⟩
  rcases hw with ⟨_,_,hw,_⟩|⟨_,hw⟩ <;> cases hw
  ·cases x with
   | walk s pos=>cases h2
   | mwalk _ _ _=>cases h2
   | gone=>cases h2
   | map es'=>cases es' <;> simp[Thing.enc] at h6
   | dmap es'=>
    simp only[Thing.at,AV.mp.injEq] at h2;subst h2;have:=Ri h6;subst this;exact⟨b0,G,f,rfl,h1,rfl,h4,h5⟩
theorem St.rdD {h0 h:AHeap} {objs:List Obj} (st:St h0 h objs) (k:Nat) {v:AV} {es:List (AV × AV)} (hk:objs[k]? = some (dmapO v es)) (hv:ZE v):RdD h v es:=by
 obtain⟨_,fs,h1,h2,_⟩:=st;have hlt:k<fs.length:=by rw[h1]; exact(dB.1 hk).1
 obtain⟨b,G,f,_,_,h3,h4,_⟩:=(h2 k _ _ hk (dA hlt)).dmap hv;exact⟨b,G,h3,h4⟩
theorem RdD.ents {h:AHeap} {v:AV} {es:List (AV × AV)} (hr:RdD h v es):JA h v=some es:=by
 obtain⟨b,F,rfl,hg⟩:=hr;simp only[JA,hg]
theorem St.setD {h0 h:AHeap} {objs:List Obj} (st:St h0 h objs) {i b G:Nat} {es es':List (AV × AV)} (hk:objs[i]? = some (dmapO (.mp b) es)) (hg:h.get b=some (.obj G (.dmap es))):St h0 (h.set b (.obj G (.dmap es'))) (objs.set i (dmapO (.mp b) es')):=by
 refine St.setT (x:=.dmap es) (x':=.dmap es') st hk (fun _=>rfl) rfl hg ?_;intro F hm;obtain⟨b',G',f,hF,hlo,hb',hg',hf⟩:=hm.dmap ⟨b,rfl⟩;cases hb';rw[hg] at hg'; cases hg';exact⟨hF,hlo,f,hf⟩
section maps
variable {κ ν:Type} [DecidableEq κ]
def Zr : List (κ × ν) → κ → List (κ × ν)
  | [],_=>[]
  | p::l,a=>if a=p.1 then l else p::Zr l a
theorem mdel_ent {P : Program} {kt : TypeId} {kf : κ → AV} {vf : ν → AV} [hk : KeyT P kt kf] (l : List (κ × ν)) (a : κ) :
    ∃ r,Q6 P kt (kf a) (entL kf vf l)=some r∧Uu (entL kf vf l) r=entL kf vf (Zr l a):=by
 induction l with
 | nil=>exact⟨none,rfl,rfl⟩
 | cons p l ih=>
  obtain⟨r,h1,h3⟩:=ih;by_cases h:a=p.1;refine⟨some (0,vf p.2),?_,?_⟩;simp only[entL,dL,Q6,hk.eq,h,decide_true];simp[Zr,h,Uu]
  ·refine⟨r.map fun q=>(q.1+1,q.2),?_,?_⟩;have h1':Q6 P kt (kf a) (List.map (fun p=>(kf p.1,vf p.2)) l)=some r:=h1;simp only[entL,dL,Q6,hk.eq,h,decide_false,h1',dP]
   ·simp only[Zr,if_neg h]
    cases r with
    | none=>simp only[Option.map_none,Uu] at h3⊢; simp only[entL,dL] at h3⊢; rw[←h3]
    | some q=>simp only[dP,Uu] at h3⊢; simp only[entL,dL,List.eraseIdx_cons_succ] at h3⊢; rw[h3]
variable {P:Program} {n:Nat} {ops:Array Oper} {ex:List Nat} {Q:KF→AHeap→Prop} {k:Nat} {os:List Oper} {K:KF} {h h0:AHeap} {d:Nat} {ty:TypeId} {pos:String} {after:Array Edge} {objs:List Obj}
theorem KOps.makeMapD {t:TypeId} (st:St h0 h objs) (hex:ex.contains k=false) (hk:∀ v h',ZE v→St h0 h' (dmapO v []::objs)→KOps P n ops ex Q (k+1) os ((d,v)::K) h'):KOps P n ops ex Q k (⟨some d,.makeMap t none,ty,pos,after,none⟩::os) K h:=
  KOps.chainS rfl hex (WN rfl) (hk _ _ ⟨_,rfl⟩ (St.allocT st (.dmap [])))
theorem RdD.look {t kt : TypeId} {z : AV} {kf : κ → AV} {vf : ν → AV} {l : List (κ × ν)} {v : AV} [ht : MpT P t kt z] [hkt : KeyT P kt kf] (hr : RdD h v (entL kf vf l)) (a : κ) (ok : Bool) :
    Uk P h t v (kf a) ok=some (match Oo l a with|some w=>if ok then .tup [vf w,.bool true] else vf w|none=>if ok then .tup [z,.bool false] else z):=by
 obtain⟨et,h1,h2⟩:=ht.mp;obtain⟨r,h3,h4,-⟩:=Ye (P:=P) (kt:=kt) (kf:=kf) (vf:=vf) l a;simp only[Uk,h1,hr.ents,hkt.ok,if_true,h3,h2]
 cases r with
 | none=>
  cases hm:Oo l a with
  | none=>rfl
  | some w=>rw[hm] at h4; cases h4
 | some q=>
  cases hm:Oo l a with
  | none=>rw[hm] at h4; cases h4
  | some w=>rw[hm] at h4; simp only[dP,dQ] at h4; obtain⟨q1,q2⟩:=q; simp only at h4; subst h4; rfl
theorem KOps.lookD {t kt : TypeId} {z : AV} {kf : κ → AV} {vf : ν → AV} {l : List (κ × ν)} {v : AV} {x ix : Operand} {a : κ} [hx : EvK h.globs n K x v] (hi : KJ h.globs n K ix = kf a) [ht : MpT P t kt z] [hkt : KeyT P kt kf] (hr : RdD h v (entL kf vf l))
    (hk:KOps P n ops ex Q (k+1) os ((d,match Oo l a with|some w=>vf w|none=>z)::K) h):KOps P n ops ex Q k (⟨some d,.lookup t x ix false,ty,pos,after,none⟩::os) K h:=by
 refine KOps.readS rfl (Rp rfl ?_) hk;rw[hx.eq,hi,hr.look]
 cases Oo l a <;> rfl
theorem KOps.lookDS {t kt : TypeId} {z : AV} {kf : κ → AV} {vf : ν → AV} {l : List (κ × ν)} {v : AV} {x ix : Operand} {a : κ} {w : ν} [hx : EvK h.globs n K x v] (hi : KJ h.globs n K ix = kf a) [ht : MpT P t kt z] [hkt : KeyT P kt kf] (hr : RdD h v (entL kf vf l)) (hm : Oo l a = some w)
    (hk:KOps P n ops ex Q (k+1) os ((d,vf w)::K) h):KOps P n ops ex Q k (⟨some d,.lookup t x ix false,ty,pos,after,none⟩::os) K h:=by
 refine KOps.lookD hi hr ?_;rw[hm]; exact hk
theorem KOps.lookDN {t kt : TypeId} {z : AV} {kf : κ → AV} {vf : ν → AV} {l : List (κ × ν)} {v : AV} {x ix : Operand} {a : κ} [hx : EvK h.globs n K x v] (hi : KJ h.globs n K ix = kf a) [ht : MpT P t kt z] [hkt : KeyT P kt kf] (hr : RdD h v (entL kf vf l)) (hm : Oo l a = none)
    (hk:KOps P n ops ex Q (k+1) os ((d,z)::K) h):KOps P n ops ex Q k (⟨some d,.lookup t x ix false,ty,pos,after,none⟩::os) K h:=by
 refine KOps.lookD hi hr ?_;rw[hm]; exact hk
theorem KOps.putD {t kt : TypeId} {z : AV} {kf : κ → AV} {vf : ν → AV} {l : List (κ × ν)} {v u : AV} {x ix y : Operand} {a : κ} {b : ν} {i : Nat} [hx : EvK h.globs n K x v] (hi : KJ h.globs n K ix = kf a) [hy : EvK h.globs n K y u] (hu : u = vf b) [ht : MpT P t kt z] [hkt : KeyT P kt kf]
    (st:St h0 h objs) (hv:ZE v) (hk':objs[i]? = some (dmapO v (entL kf vf l))) (hex:ex.contains k=false)
    (hk:∀ h',St h0 h' (objs.set i (dmapO v (entL kf vf (Ka l a b))))→KOps P n ops ex Q (k+1) os K h'):KOps P n ops ex Q k (⟨none,.mapUpdate t x ix y,ty,pos,after,none⟩::os) K h:=by
 obtain⟨bb,G,rfl,hg⟩:=St.rdD st i hk' hv;obtain⟨et,h1,h2⟩:=ht.mp;obtain⟨r,h3,-,h4⟩:=Ye (P:=P) (kt:=kt) (kf:=kf) (vf:=vf) l a;have hput:aputD P h t (.mp bb) (kf a) (vf b)=some (h.set bb (.obj G (.dmap (entL kf vf (Ka l a b))))):=by
  simp only[aputD,h1,hg,hkt.ok,if_true,h3,dP];have h5:=h4 b
  cases r with
  | none=>simp only at h5⊢; rw[h5]
  | some q=>simp only at h5⊢; rw[h5]
 refine QX (v:=.tup []) (h':=h.set bb (.obj G (.dmap (entL kf vf (Ka l a b))))) rfl hex (UB rfl ?_) (hk _ (St.setD st hk' hg));rw[hx.eq,hi,hy.eq,hu]; exact hput
theorem KOps.lenD {t kt : TypeId} {z : AV} {es : List (AV × AV)} {v : AV} {x : Operand} [hx : EvK h.globs n K x v] [ht : MpT P t kt z] (hr : RdD h v es) (hk : KOps P n ops TXT Q (k + 1) os ((d, .int .i64 es.length) :: K) h) (hlt : gJ k 1000000 = false := by rfl) :
    KOps P n ops TXT Q k (⟨some d,.call {callee:=.builtin .len,args:=#[x],argTypes:=#[t]},ty,pos,after,none⟩::os) K h:=by
 obtain⟨et,h1,h2⟩:=ht.mp;exact KOps.stepT (Rr rfl h1 (by rw[hx.eq]; exact hr.ents)) hk hlt
theorem KOps.delD0 {t t' kt : TypeId} {z : AV} {kf : κ → AV} {vf : ν → AV} {l : List (κ × ν)} {v : AV} {x ix : Operand} {a : κ} {i : Nat} [hx : EvK h.globs n K x v] (hi : KJ h.globs n K ix = kf a) [ht : MpT P t kt z] [hkt : KeyT P kt kf]
    (st:St h0 h objs) (hv:ZE v) (hk':objs[i]? = some (dmapO v (entL kf vf l))) (hex:ex.contains k=false)
    (hk:∀ h',St h0 h' (objs.set i (dmapO v (entL kf vf (Zr l a))))→KOps P n ops ex Q (k+1) os K h'):KOps P n ops ex Q k (⟨none,.call {callee:=.builtin .delete,args:=#[x,ix],argTypes:=#[t,t']},ty,pos,after,none⟩::os) K h:=by
 obtain⟨bb,G,rfl,hg⟩:=St.rdD st i hk' hv;obtain⟨et,h1,h2⟩:=ht.mp;obtain⟨r,h3,h4⟩:=mdel_ent (P:=P) (kt:=kt) (kf:=kf) (vf:=vf) l a;refine QX rfl hex (U8 (p:=(kt,et)) rfl h1 hx.eq hg (by rw[hi]; exact hkt.ok a) (by rw[hi]; exact h3)) (hk _ ?_);rw[h4];exact St.setD st hk' hg
theorem KOps.clearD0 {t kt : TypeId} {z : AV} {es : List (AV × AV)} {v : AV} {x : Operand} {i : Nat} [hx : EvK h.globs n K x v] [ht : MpT P t kt z]
    (st:St h0 h objs) (hv:ZE v) (hk':objs[i]? = some (dmapO v es)) (hex:ex.contains k=false)
    (hk:∀ h',St h0 h' (objs.set i (dmapO v []))→KOps P n ops ex Q (k+1) os K h'):KOps P n ops ex Q k (⟨none,.call {callee:=.builtin .clear,args:=#[x],argTypes:=#[t]},ty,pos,after,none⟩::os) K h:=by
 obtain⟨bb,G,rfl,hg⟩:=St.rdD st i hk' hv;obtain⟨et,h1,h2⟩:=ht.mp;exact QX rfl hex (WP (p:=(kt,et)) rfl h1 hx.eq hg) (hk _ (St.setD st hk' hg))
end maps
end Go.Am
namespace Go.Am
theorem Ev.stepI {P : Program} {ρ : Operand → AV} {o : Oper} {h h' : AHeap} {f : FuncId} {t : TypeId} {x r : AV} {recv : Operand} {name : String} {args : Array Operand} {tys : Array TypeId}
    (ho:o.op = .call {callee:=.invoke recv name,args:=args,argTypes:=tys}) (hg : ρ recv = .ifc t x) (hm:X9 P t name=some f) (hev:Ev P f (x::args.toList.map ρ) h r h'):SemStep P ρ o h r h':=by
 have hc:O7 o.op = .chain:=by rw[ho]; rfl
 unfold SemStep;rw[hc];obtain⟨⟨fn,hf,hn,hb⟩,hgrow,hcalls⟩:=hev;refine⟨hgrow,?_⟩;intro φ a w K Q hfr rr hops hk;have hgv:=hops recv aa;rw[hg] at hgv;generalize hgc:a.eval recv=cg at hgv
 cases hgv with|ifc _ _ v hv=>
 have hmr:=methA_run hm v w;have hrun:(execOp a.eval o).run P w = .ok (.enter f ((v::args.toList.map a.eval).toArray)) w:=by
  have he:(#[a.eval recv] ++ args.map a.eval).extract 1 (#[a.eval recv] ++ args.map a.eval).size=args.map a.eval:=by
   apply gF;simp only[fR,fW,Array.toList_map,fF,List.cons_append,List.nil_append,List.drop_succ_cons,List.drop_zero,Array.size_append,Array.size_map];refine List.take_of_length_le ?_;simp
  have h0:(#[a.eval recv] ++ args.map a.eval)[0]? = some (.iface t v):=by
   rw[hgc,Array.getElem?_append_left Nat.zero_lt_one];rfl
  have hcm:(callMethod (.iface t v) name (args.map a.eval)).run P w = .ok (.enter f (#[v] ++ args.map a.eval)) w:=by
   simp only[callMethod,dI,run_program,dE,hmr,callFunc,hf,hn,hb,dJ,if_false,dY]
  simp only[execOp,ho,resolve,dI,dY,dE,invoke,he,h0,hcm];congr 2;simp
 unfold Oper.wp;rw[hrun];refine(hcalls φ w _ hfr rr ?_).mono ?_
 ·refine VRels.append (l:=[x]) (cs:=[v]) ⟨rfl,?_⟩ ⟨by simp,?_⟩
  ·intro j y u hy hu
   cases j with
   | zero=>cases hy; cases hu; exact hv
   | succ j=>simp at hy
  intro j y u hy hu;rw[dC,dF] at hy hu;obtain⟨q,hq,rfl⟩:=hy;obtain⟨q',hq',rfl⟩:=hu;rw[hq] at hq'; cases hq';refine hops q ?_;simp[ho,Op.operands,Call.operands];exact .inr (fP (by simpa using hq))
 rintro e w' ⟨v,φ',rfl,t,r',hv⟩;exact hk φ' v w' t r' hv
section
variable {P:Program} {n:Nat} {ops:Array Oper} {ex:List Nat} {Q:KF→AHeap→Prop} {k:Nat} {os:List Oper} {K:KF} {h:AHeap} {d:Nat} {ty:TypeId} {pos:String} {after:Array Edge}
theorem KOps.callI {f : FuncId} {t : TypeId} {x : AV} {recv : Operand} {name : String} {l : List Operand} {vs : List AV} {tys : Array TypeId} {R : AV → AHeap → Prop} [hg : EvK h.globs n K recv (.ifc t x)] [hl : EvKs h.globs n K l vs] (hx : ex.contains k = false) (hm : X9 P t name = some f)
    (hc:ACalls P f (x::vs) h R) (hk:∀ r h',R r h'→KOps P n ops ex Q (k+1) os ((d,r)::K) h'):KOps P n ops ex Q k (⟨some d,.call {callee:=.invoke recv name,args:=dK l,argTypes:=tys},ty,pos,after,none⟩::os) K h:=by
 obtain⟨r,h',hev,hR⟩:=hc;refine Ze (v:=r) (h':=h') ?_ (fun hc=>by rw[hx] at hc; cases hc) (hk r h' hR);refine Ev.stepI (recv:=recv) (args:=dK l) (tys:=tys) rfl hg.eq hm ?_;rw[fV,hl.eq];exact hev
instance instNili (globs:List Nat) (n:Nat) (K:KF):EvK globs n K (.const .nilIface) .nili:=⟨rfl⟩
theorem Kz {t:TypeId} {x:Operand} {v:AV} [hx:EvK h.globs n K x v] (hc:concA P t=true) (hk:KOps P n ops ex Q (k+1) os ((d,.ifc t v)::K) h):KOps P n ops ex Q k (⟨some d,.makeInterface t x,ty,pos,after,none⟩::os) K h:=by
 refine Ki (v:=.ifc t v) rfl ?_ hk;simp only[KX];rw[hx.eq,if_pos hc]
theorem KOps.makeFmeth {x:Operand} {v:AV} {name:String} [hx:EvK h.globs n K x v] (hk:KOps P n ops ex Q (k+1) os ((d,.fmeth name v)::K) h):KOps P n ops ex Q k (⟨some d,.makeFunc (.method name) #[x] #[],ty,pos,after,none⟩::os) K h:=by
 refine Ki (v:=.fmeth name v) rfl ?_ hk;show some (AV.fmeth name (KJ h.globs n K x))=_;rw[hx.eq]
theorem KOps.nilMeth {x:Operand} {name:String} {t:TypeId} {y:AV} [hx:EvK h.globs n K x (.fmeth name (.ifc t y))] (hm:(X9 P t name).isSome=true) (hk:KOps P n ops ex Q (k+1) os ((d,.fmeth name (.ifc t y))::K) h):KOps P n ops ex Q k (⟨some d,.nilCheck x,ty,pos,after,none⟩::os) K h:=by
 refine Ki (v:=.fmeth name (.ifc t y)) rfl ?_ hk;simp only[KX];rw[hx.eq];simp only[hm,if_true]
end
end Go.Am
namespace Go.Am
abbrev Str:=List UInt8
def wd (l:Str):ByteArray:=⟨l.toArray⟩
theorem ba_ext {a b:ByteArray} (h:a.data.toList=b.data.toList):a=b:=by
 cases a; cases b
 congr 1;exact Array.toList_inj.1 h
theorem Xo (l:Str):(wd l).data.toList=l:=rfl
theorem WG (l:Str):(wd l).toList=l:=by rw[ByteArray.toList_eq,Xo]
theorem wd_inj {a b:Str} (h:wd a=wd b):a=b:=by rw[←Xo a,←Xo b,h]
theorem wd_size (l:Str):(wd l).size=l.length:=by
 show(wd l).data.size=_;rw[←fB,Xo]
theorem wd_append (a b:Str):wd a ++ wd b=wd (a ++ b):=ba_ext (by rw[ByteArray.data_append,fW,Xo,Xo,Xo])
theorem UV (l:Str) (i j:Nat):(wd l).extract i j=wd ((l.take j).drop i):=ba_ext (by
  rw[ByteArray.data_extract,fR,Xo,Xo,fF];rw[List.drop_take])
theorem wd_get (l:Str) (i:Nat):(wd l)[i]? = l[i]?:=by
 have h:=wd_size l;by_cases hi:i<l.length;rw[getElem?_pos (wd l) i (by rw[h]; exact hi),dA hi];rfl;rw[getElem?_neg (wd l) i (by rw[h]; exact hi),dT aA]
theorem wd_eql (a b:Str):((wd a).toList == (wd b).toList)=decide (a=b):=by
 rw[WG,WG,gH,beq_iff_eq,decide_eq_true_iff]
theorem JN {l:Str} {p:Nat} (hp:p<l.length):(wd l).get! p=l.getD p 0:=by
 have h:=wd_get l p;rw[dA hp] at h;have hs:p<(wd l).size:=by rw[wd_size]; exact hp
 rw[getElem?_pos (wd l) p hs] at h;have h2:(wd l).get! p=(wd l)[p]'hs:=by
  show(wd l).data[p]! = (wd l).data[p]'hs;rw[getElem!_pos _ p hs]
 rw[h2,dO,dA hp];exact Option.some.inj h
instance instWC (globs:List Nat) (n:Nat) (K:KF) (l:Str):EvK globs n K (.const (.string ⟨l.toArray⟩)) (.str (wd l)):=⟨rfl⟩
abbrev kstr (s:Str):AV:=.str (wd s)
theorem KeyT.wstr {P:Program} {kt:TypeId} (h:ZO P kt=true):KeyT P kt kstr:=by
 refine⟨fun a=>by simp[Zn,h],fun a b=>?_⟩;simp only[Yj,h,if_true];congr 1;rw[gH,decide_eq_true_iff,decide_eq_true_iff];exact⟨wd_inj,fun h=>by rw[h]⟩
abbrev wcs (l:List Str):List AV:=l.map fun w=>AV.str (wd w)
abbrev WRow (h:AHeap) (v:AV) (l:List Str):Prop:=Rd h v 1 (wcs l)
section
variable {P:Program} {n:Nat} {ops:Array Oper} {ex:List Nat} {Q:KF→AHeap→Prop} {k:Nat} {os:List Oper} {K:KF} {h h0:AHeap} {d:Nat} {ty:TypeId} {pos:String} {after:Array Edge} {objs:List Obj}
theorem KOps.strAdd {t t':TypeId} {x y:Operand} {a b:ByteArray} [hx:EvK h.globs n K x (.str a)] [hy:EvK h.globs n K y (.str b)] (hs:a.size+b.size≤4294967296) (hk:KOps P n ops ex Q (k+1) os ((d,.str (a ++ b))::K) h):KOps P n ops ex Q k (⟨some d,.binOp .add t x y t',ty,pos,after,none⟩::os) K h:=
  Ki rfl (by simp only[KX,hx.eq,hy.eq,ZF,astr]; rw[if_pos aA]) hk
theorem KT {t t':TypeId} {x y:Operand} {a b:Str} [hx:EvK h.globs n K x (.str (wd a))] [hy:EvK h.globs n K y (.str (wd b))] (hs:a.length+b.length≤4294967296) (hk:KOps P n ops ex Q (k+1) os ((d,.str (wd (a ++ b)))::K) h):KOps P n ops ex Q k (⟨some d,.binOp .add t x y t',ty,pos,after,none⟩::os) K h:=
  KOps.strAdd (by rw[wd_size,wd_size]; exact hs) (by rw[wd_append]; exact hk)
theorem KOps.wEql {t t':TypeId} {x y:Operand} {a b:Str} [hx:EvK h.globs n K x (.str (wd a))] [hy:EvK h.globs n K y (.str (wd b))] (hk:KOps P n ops ex Q (k+1) os ((d,.bool (decide (a=b)))::K) h):KOps P n ops ex Q k (⟨some d,.binOp .eql t x y t',ty,pos,after,none⟩::os) K h:=
  Ki rfl (by simp only[KX,hx.eq,hy.eq,ZF,astr,wd_eql]) hk
theorem KOps.wNeq {t t':TypeId} {x y:Operand} {a b:Str} [hx:EvK h.globs n K x (.str (wd a))] [hy:EvK h.globs n K y (.str (wd b))] (hk:KOps P n ops ex Q (k+1) os ((d,.bool (!decide (a=b)))::K) h):KOps P n ops ex Q k (⟨some d,.binOp .neq t x y t',ty,pos,after,none⟩::os) K h:=
  Ki rfl (by simp only[KX,hx.eq,hy.eq,ZF,astr,wd_eql]) hk
theorem str_und {t:TypeId} (ht:ZO P t=true):P.underlying t=some .string:=by
 unfold ZO at ht;split at ht;rename_i h; exact h;cases ht
theorem KOps.lenStr {x : Operand} {t : TypeId} {s : ByteArray} [hx : EvK h.globs n K x (.str s)] [ht : StT P t] (hk : KOps P n ops ex Q (k + 1) os ((d, .int .i64 s.size) :: K) h) :
    KOps P n ops ex Q k (⟨some d,.call {callee:=.builtin .len,args:=#[x],argTypes:=#[t]},ty,pos,after,none⟩::os) K h:=by
 refine Ki rfl (v:=.int .i64 s.size) ?_ hk;simp only[KX,hx.eq,alen,str_und ht.st]
theorem KOps.lenW {x : Operand} {t : TypeId} {l : Str} [hx : EvK h.globs n K x (.str (wd l))] [ht : StT P t] (hk : KOps P n ops ex Q (k + 1) os ((d, .int .i64 (l.length : Int)) :: K) h) :
    KOps P n ops ex Q k (⟨some d,.call {callee:=.builtin .len,args:=#[x],argTypes:=#[t]},ty,pos,after,none⟩::os) K h:=
  KOps.lenStr (by rw[wd_size]; exact hk)
theorem KOps.sAt {t : TypeId} {x ix : Operand} {s : ByteArray} {kd : IntKind} {i : Int} {j : Nat} [hx : EvK h.globs n K x (.str s)] [hi : EvK h.globs n K ix (.int kd i)] [ht : StT P t] (hj : i = (j : Int)) (hlt : j < s.size) (hk : KOps P n ops ex Q (k + 1) os ((d, .int .u8 ((s.get! j).toNat : Int)) :: K) h) :
    KOps P n ops ex Q k (⟨some d,.index t x ix,ty,pos,after,none⟩::os) K h:=by
 subst hj;refine Ki rfl (v:=.int .u8 ((s.get! j).toNat:Int)) ?_ hk;simp only[KX,hx.eq,hi.eq,Uj,ht.st,Int.toNat_natCast];rw[if_pos ⟨trivial,by omega⟩,getElem?_pos s j hlt];have h2:s.get! j=s[j]'hlt:=by
  show s.data[j]! = s.data[j]'hlt;rw[getElem!_pos _ j hlt]
 rw[h2]; rfl
theorem KOps.wAt {t : TypeId} {x ix : Operand} {l : Str} {kd : IntKind} {i : Int} {j : Nat} [hx : EvK h.globs n K x (.str (wd l))] [hi : EvK h.globs n K ix (.int kd i)] [ht : StT P t] (hj : i = (j : Int)) (hlt : j < l.length) (hk : KOps P n ops ex Q (k + 1) os ((d, .int .u8 ((l.getD j 0).toNat : Int)) :: K) h) :
    KOps P n ops ex Q k (⟨some d,.index t x ix,ty,pos,after,none⟩::os) K h:=
  KOps.sAt hj (by rw[wd_size]; exact hlt) (by rw[JN hlt]; exact hk)
end
section
variable {P:Program} {n:Nat} {ops:Array Oper} {ex:List Nat} {Q:KF→AHeap→Prop} {k:Nat} {os:List Oper} {K:KF} {h h0:AHeap} {d:Nat} {ty:TypeId} {pos:String} {after:Array Edge} {objs pre rest:List Obj}
theorem KOps.loadM {x : Operand} {p v : AV} {t : TypeId} {j : Nat} {α : Type} {f : α → AV} {l : List α} (d0 : α) [hx : EvK h.globs n K x p] [ht : ScT P t] (ha : AddrOf p v 1 j) (hr : Rd h v 1 (l.map f)) (hj : j < l.length) (hk : KOps P n ops ex Q (k + 1) os ((d, f (l.getD j d0)) :: K) h) :
    KOps P n ops ex Q k (⟨some d,.load t x,ty,pos,after,none⟩::os) K h:=
  Oe ha hr (by simp[dC,dA hj,dO]) hk
theorem OY {x : Operand} {p v : AV} {t : TypeId} {j : Nat} {l : List Str} [hx : EvK h.globs n K x p] [ht : ScT P t] (ha : AddrOf p v 1 j) (hr : WRow h v l) (hj : j < l.length) (hk : KOps P n ops ex Q (k + 1) os ((d, .str (wd (l.getD j []))) :: K) h) :
    KOps P n ops ex Q k (⟨some d,.load t x,ty,pos,after,none⟩::os) K h:=
  KOps.loadM (f:=fun w=>AV.str (wd w)) [] ha hr hj hk
theorem wcs_len (l:List Str):(wcs l).length=l.length*1:=by simp
theorem KOps.appendW {t e : TypeId} {x y : Operand} {v u : AV} {i : Nat} {p q : List Str} {zs : List AV} {tip tip' : Bool} [hx : EvK h.globs n K x v] [hy : EvK h.globs n K y u] [ht : SlT P t e 1 zs] (st : St h0 h (⟨u, 1, wcs q, tip'⟩ :: objs)) (hex : ex.contains k = true → tip = true) (hk' : objs[i]? = some ⟨v, 1, wcs p, tip⟩) (hsz : p.length + q.length ≤ 4294967296)
    (hk:∀ r h',r.one=true→St h0 h' (objs.set i ⟨r,1,wcs (p ++ q),tip⟩)→KOps P n ops ex Q (k+1) os ((d,r)::K) h') :
    KOps P n ops ex Q k (⟨some d,.call {callee:=.builtin .append,args:=#[x,y],argTypes:=#[t,t]},ty,pos,after,none⟩::os) K h:=by
 refine KOps.append (e:=e) (zs:=zs) (s:=1) (i:=i+1) (a:=p.length) (b:=q.length) (xs:=wcs p) (ys:=wcs q) (tip:=tip) st hex (by simpa using hk') (wcs_len p) (st.rd 0 rfl) (wcs_len q) (by simp[AV.one]) hsz ?_;intro r h' hS;have hS':St h0 h' (objs.set i ⟨r,1,wcs (p ++ q),tip⟩):=by
  have:=St.tail hS;simpa [wcs] using this
 have hlt:=(dB.1 hk').1;exact hk r h' (hS'.one (k:=i) (o:=⟨r,1,wcs (p ++ q),tip⟩) (by rw[gI,if_pos rfl,if_pos hlt])) hS'
theorem KC {t e : TypeId} {x y : Operand} {v u : AV} {i : Nat} {p : List Str} {a : Str} {zs : List AV} {tip tip' : Bool} [hx : EvK h.globs n K x v] [hy : EvK h.globs n K y u] [ht : SlT P t e 1 zs] (st : St h0 h (⟨u, 1, [.str (wd a)], tip'⟩ :: objs)) (hex : ex.contains k = true → tip = true) (hk' : objs[i]? = some ⟨v, 1, wcs p, tip⟩) (hsz : p.length + 1 ≤ 4294967296)
    (hk:∀ r h',r.one=true→St h0 h' (objs.set i ⟨r,1,wcs (p ++ [a]),tip⟩)→KOps P n ops ex Q (k+1) os ((d,r)::K) h') :
    KOps P n ops ex Q k (⟨some d,.call {callee:=.builtin .append,args:=#[x,y],argTypes:=#[t,t]},ty,pos,after,none⟩::os) K h:=
  KOps.appendW (e:=e) (zs:=zs) (q:=[a]) st hex hk' hsz hk
theorem KOps.storeW {t : TypeId} {x y : Operand} {p v : AV} {i j : Nat} {c : Str} {l : List Str} {tip : Bool} [hx : EvK h.globs n K x p] [hy : EvK h.globs n K y (.str (wd c))] [ht : ScT P t] (st : St h0 h objs) (hex : ex.contains k = false) (hk' : objs[i]? = some ⟨v, 1, wcs l, tip⟩) (ha : AddrOf p v 1 j) (hj : j < l.length)
    (hk:∀ h',St h0 h' (objs.set i ⟨v,1,wcs (l.set j c),tip⟩)→KOps P n ops ex Q (k+1) os K h'):KOps P n ops ex Q k (⟨none,.store t x y,ty,pos,after,none⟩::os) K h:=by
 refine KL st hex hk' ha rfl (by simpa using hj) ?_;intro h' hS;refine hk h' ?_;have e:(wcs l).set j (.str (wd c))=wcs (l.set j c):=by simp[wcs,List.map_set]
 simp only[e] at hS;exact hS
end
end Go.Am
namespace Go.Am
instance:ScT Go.Proofs.Tryz.prog 3:=ScT.of aE
instance:IntT Go.Proofs.Tryz.prog 3 .i64:=IntT.of aE
instance:ZeT Go.Proofs.Tryz.prog 3 [.int .i64 0]:=⟨by kernel_rfl⟩
instance:ScT Go.Proofs.Tryz.prog 4:=ScT.of aE
instance:ScT Go.Proofs.Tryz.prog 5:=ScT.of aE
instance:IntT Go.Proofs.Tryz.prog 5 .u8:=IntT.of aE
instance:ScT Go.Proofs.Tryz.prog 9:=ScT.of aE
instance:IntT Go.Proofs.Tryz.prog 21 .i32:=IntT.of aE
instance:ScT Go.Proofs.Tryz.prog 22:=ScT.of aE
instance:SlT Go.Proofs.Tryz.prog 22 9 1 [.str ⟨#[]⟩]:=SlT.of aE rfl aD
instance:ScT Go.Proofs.Tryz.prog 37:=ScT.of aE
instance:ScT Go.Proofs.Tryz.prog 44:=ScT.of aE
instance:ZeT Go.Proofs.Tryz.prog 44 [.nils]:=⟨by kernel_rfl⟩
instance:SlT Go.Proofs.Tryz.prog 44 3 1 [.int .i64 0]:=SlT.of aE rfl aD
instance:SlT Go.Proofs.Tryz.prog 53 87 4 [.int .u8 0,.int .u8 0,.int .u8 0,.int .u8 0]:=SlT.of aE rfl aD
instance:ScT Go.Proofs.Tryz.prog 58:=ScT.of aE
instance:ZeT Go.Proofs.Tryz.prog 58 [.nilm]:=⟨by kernel_rfl⟩
instance:AgT Go.Proofs.Tryz.prog 87 4:=AgT.of aE
instance:ZeT Go.Proofs.Tryz.prog 87 [.int .u8 0,.int .u8 0,.int .u8 0,.int .u8 0]:=⟨by kernel_rfl⟩
instance:ScT Go.Proofs.Tryz.prog 101:=ScT.of aE
instance:SlT Go.Proofs.Tryz.prog 101 151 4 [.int .i64 0,.int .i64 0,.int .i64 0,.int .i64 0]:=SlT.of aE rfl aD
instance:AgT Go.Proofs.Tryz.prog 103 2:=AgT.of aE
instance:ZeT Go.Proofs.Tryz.prog 103 [.int .i64 0,.nils]:=⟨by kernel_rfl⟩
instance:ScT Go.Proofs.Tryz.prog 120:=ScT.of aE
instance:AgT Go.Proofs.Tryz.prog 127 7:=AgT.of aE
instance:ZeT Go.Proofs.Tryz.prog 127 [.int .i64 0,.int .i64 0,.int .i64 0,.nils,.nils,.nils,.bool false]:=⟨by kernel_rfl⟩
instance:ScT Go.Proofs.Tryz.prog 128:=ScT.of aE
instance:ScT Go.Proofs.Tryz.prog 129:=ScT.of aE
instance:ScT Go.Proofs.Tryz.prog 130:=ScT.of aE
instance:AgT Go.Proofs.Tryz.prog 151 4:=AgT.of aE
instance:ZeT Go.Proofs.Tryz.prog 151 [.int .i64 0,.int .i64 0,.int .i64 0,.int .i64 0]:=⟨by kernel_rfl⟩
instance:ScT Go.Proofs.Tryz.prog 173:=ScT.of aE
instance:SlT Go.Proofs.Tryz.prog 173 221 4 [.int .i64 0,.int .i64 0,.int .i64 0,.int .i64 0]:=SlT.of aE rfl aD
instance:ScT Go.Proofs.Tryz.prog 185:=ScT.of aE
instance:AgT Go.Proofs.Tryz.prog 203 3:=AgT.of aE
instance:AgT Go.Proofs.Tryz.prog 205 2:=AgT.of aE
instance:AgT Go.Proofs.Tryz.prog 221 4:=AgT.of aE
instance:ZeT Go.Proofs.Tryz.prog 221 [.int .i64 0,.int .i64 0,.int .i64 0,.int .i64 0]:=⟨by kernel_rfl⟩
instance:ScT Go.Proofs.Tryz.prog 229:=ScT.of aE
instance:AgT Go.Proofs.Tryz.prog 293 3:=AgT.of aE
instance:ZeT Go.Proofs.Tryz.prog 293 [.int .i64 0,.int .i64 0,.bool false]:=⟨by kernel_rfl⟩
instance:ScT Go.Proofs.Tryz.prog 294:=ScT.of aE
instance:ZeT Go.Proofs.Tryz.prog 294 [.nilm]:=⟨by kernel_rfl⟩
end Go.Am
namespace Go.Am
instance ky3:KeyT Go.Proofs.Tryz.prog 3 (AV.int .i64):=KeyT.int aE
instance st9:StT Go.Proofs.Tryz.prog 9:=⟨by kernel_rfl⟩
instance fd39_0:FdT Go.Proofs.Tryz.prog 39 0 0:=FdT.of aE
instance fd39_1:FdT Go.Proofs.Tryz.prog 39 1 1:=FdT.of aE
instance mp58:MpT Go.Proofs.Tryz.prog 58 9 (.str ⟨#[]⟩):=MpT.of aE
instance fd103_0:FdT Go.Proofs.Tryz.prog 103 0 0:=FdT.of aE
instance fd103_1:FdT Go.Proofs.Tryz.prog 103 1 1:=FdT.of aE
instance fd127_0:FdT Go.Proofs.Tryz.prog 127 0 0:=FdT.of aE
instance fd127_1:FdT Go.Proofs.Tryz.prog 127 1 1:=FdT.of aE
instance fd127_2:FdT Go.Proofs.Tryz.prog 127 2 2:=FdT.of aE
instance fd127_3:FdT Go.Proofs.Tryz.prog 127 3 3:=FdT.of aE
instance fd127_4:FdT Go.Proofs.Tryz.prog 127 4 4:=FdT.of aE
instance fd127_5:FdT Go.Proofs.Tryz.prog 127 5 5:=FdT.of aE
instance fd127_6:FdT Go.Proofs.Tryz.prog 127 6 6:=FdT.of aE
instance mp128:MpT Go.Proofs.Tryz.prog 128 9 (.nilp):=MpT.of aE
instance mp129:MpT Go.Proofs.Tryz.prog 129 3 (.nilp):=MpT.of aE
instance mp130:MpT Go.Proofs.Tryz.prog 130 3 (.bool false):=MpT.of aE
instance fd132_0:FdT Go.Proofs.Tryz.prog 132 0 0:=FdT.of aE
instance fd132_1:FdT Go.Proofs.Tryz.prog 132 1 1:=FdT.of aE
instance fd132_2:FdT Go.Proofs.Tryz.prog 132 2 2:=FdT.of aE
instance fd132_3:FdT Go.Proofs.Tryz.prog 132 3 3:=FdT.of aE
instance fd132_4:FdT Go.Proofs.Tryz.prog 132 4 4:=FdT.of aE
instance fd132_5:FdT Go.Proofs.Tryz.prog 132 5 5:=FdT.of aE
instance fd136_0:FdT Go.Proofs.Tryz.prog 136 0 0:=FdT.of aE
instance fd136_1:FdT Go.Proofs.Tryz.prog 136 1 1:=FdT.of aE
instance fd151_0:FdT Go.Proofs.Tryz.prog 151 0 0:=FdT.of aE
instance fd151_1:FdT Go.Proofs.Tryz.prog 151 1 1:=FdT.of aE
instance fd151_2:FdT Go.Proofs.Tryz.prog 151 2 2:=FdT.of aE
instance fd151_3:FdT Go.Proofs.Tryz.prog 151 3 3:=FdT.of aE
instance fd175_0:FdT Go.Proofs.Tryz.prog 175 0 0:=FdT.of aE
instance fd175_1:FdT Go.Proofs.Tryz.prog 175 1 1:=FdT.of aE
instance fd199_0:FdT Go.Proofs.Tryz.prog 199 0 0:=FdT.of aE
instance fd201_0:FdT Go.Proofs.Tryz.prog 201 0 0:=FdT.of aE
instance fd201_1:FdT Go.Proofs.Tryz.prog 201 1 1:=FdT.of aE
instance fd201_2:FdT Go.Proofs.Tryz.prog 201 2 2:=FdT.of aE
instance fd203_0:FdT Go.Proofs.Tryz.prog 203 0 0:=FdT.of aE
instance fd203_1:FdT Go.Proofs.Tryz.prog 203 1 1:=FdT.of aE
instance fd203_2:FdT Go.Proofs.Tryz.prog 203 2 2:=FdT.of aE
instance fd205_0:FdT Go.Proofs.Tryz.prog 205 0 0:=FdT.of aE
instance fd205_1:FdT Go.Proofs.Tryz.prog 205 1 1:=FdT.of aE
instance fd207_0:FdT Go.Proofs.Tryz.prog 207 0 0:=FdT.of aE
instance fd207_1:FdT Go.Proofs.Tryz.prog 207 1 1:=FdT.of aE
instance fd209_0:FdT Go.Proofs.Tryz.prog 209 0 0:=FdT.of aE
instance fd209_1:FdT Go.Proofs.Tryz.prog 209 1 1:=FdT.of aE
instance fd211_0:FdT Go.Proofs.Tryz.prog 211 0 0:=FdT.of aE
instance fd221_0:FdT Go.Proofs.Tryz.prog 221 0 0:=FdT.of aE
instance fd221_1:FdT Go.Proofs.Tryz.prog 221 1 1:=FdT.of aE
instance fd221_2:FdT Go.Proofs.Tryz.prog 221 2 2:=FdT.of aE
instance fd221_3:FdT Go.Proofs.Tryz.prog 221 3 3:=FdT.of aE
instance ar230:ArT Go.Proofs.Tryz.prog 230 64:=ArT.of aE
instance fd265_0:FdT Go.Proofs.Tryz.prog 265 0 0:=FdT.of aE
instance fd265_1:FdT Go.Proofs.Tryz.prog 265 1 2:=FdT.of aE
instance fd293_0:FdT Go.Proofs.Tryz.prog 293 0 0:=FdT.of aE
instance fd293_1:FdT Go.Proofs.Tryz.prog 293 1 1:=FdT.of aE
instance fd293_2:FdT Go.Proofs.Tryz.prog 293 2 2:=FdT.of aE
instance mp294:MpT Go.Proofs.Tryz.prog 294 3 (.agg [.int .i64 0,.int .i64 0,.bool false]):=MpT.of aE
theorem mixed:Go.Proofs.Tryz.prog.follows .mixedOrders=true:=by kernel_rfl
end Go.Am
namespace Go.Am
theorem RQ {E:List (Int × Bool)} (B:Int):∀ (D:List Nat) (l:List Int),(∀ x∈l,-B≤x∧x≤B)→∀ x∈Qi E l D,-(B+D.length)≤x∧x≤B+D.length:=by
 intro D
 induction D generalizing B with
 | nil=>intro l h x hx; simpa using h x hx
 | cons j D ih=>
  intro l h x hx;have h1:∀ y∈Z5 E l j,-(B+1)≤y∧y≤B+1:=by
   intro y hy;unfold Z5 at hy;split at hy
   ·rename_i w m _;rcases List.mem_or_eq_of_mem_set hy with hy|rfl
    have:=h y hy; omega
    ·have h2 : -B≤l.getD w.toNat 0∧l.getD w.toNat 0≤B∨l.getD w.toNat 0=0:=by
      rw[dO];by_cases hw:w.toNat<l.length;rw[dA hw]; exact .inl (h _ (gD hw));rw[dT aA]; exact .inr rfl
     by_cases hB : 0≤B;split <;> omega
     ·have:l = []:=by
       cases l with
       | nil=>rfl
       | cons a l=>have:=h a aV; omega
      subst this;simp at hy
   have:=h y hy; omega
  have h2:=ih (B+1) (Z5 E l j) h1 x hx;rw[gY];omega
abbrev entB (E:List (Int × Bool)):List (AV × AV):=entL (AV.int .i64) AV.bool E
theorem push_c {h0 h : AHeap} {pf vn vm a0 a1 : AV} {ns : List Int} {E : List (Int × Bool)} {tf tn : Bool} {G : List Obj} (hpf : AddrOf pf pf 0 0) (hvm : ZE vm) (hn0 : ns ≠ []) (hE : ∀ p ∈ E, 0 ≤ p.1 ∧ p.1 < ns.length) (hb : ∀ x ∈ ns, -1000000000 ≤ x ∧ x ≤ 1000000000) (hEl : E.length ≤ 1000000000)
    (hS:St h0 h (⟨pf,0,[a0,a1,vn],tf⟩::⟨vn,1,ints ns,tn⟩::mapO vm (entB E)::G)) :
    ACalls Go.Proofs.Tryz.prog 219 [pf,vm] h (fun _ h'=>St h0 h' (⟨pf,0,[a0,a1,vn],tf⟩::⟨vn,1,ints (Qi E ns (dG E.length)),tn⟩::mapO vm (entB E)::G)):=by
 obtain⟨bm,Fm,hvm',hgm⟩:=St.rdM hS 2 rfl hvm;have hlen:(entB E).length=E.length:=by simp[entB]
 have hS1:=St.allocT hS (.mwalk bm (entB E).length []);have hgI:(h.allocT (.mwalk bm (entB E).length [])).get h.next=some (.obj h.nfam (.mwalk bm (entB E).length [])):=by rw[AHeap.get_allocT,if_pos rfl]
 have hgM:(h.allocT (.mwalk bm (entB E).length [])).get bm=some (.obj Fm (.map (entB E))):=by
  rw[AHeap.get_allocT,if_neg (by have:=AHeap.get_lt hgm; omega)]; exact hgm
 generalize hh1:h.allocT (.mwalk bm (entB E).length [])=h1 at hS1 hgI hgM;have hrow:∃ bn off full Fn pn cs f,vn = .slc bn off ns.length 1 full∧h1.get bn=some (.cells (some Fn) pn cs)∧h1.fam Fn=some f∧f.sees bn=true∧(cs.drop off).take ns.length=ints ns:=by
  obtain⟨_,fs,e1,e2,_⟩:=id hS1;have hlt : 2<fs.length:=by rw[e1]; simp
  have hmu:=e2 2 _ _ rfl (dA hlt);generalize fs[2]'hlt=F at hmu
  cases F with
  | none=>
   have:=hmu.2;simp only[ints,List.map_eq_nil_iff] at this;exact absurd this hn0
  | some Fn=>
   rcases hmu with ⟨bn,off,pn,cs,f,_,hv,hg,hf,hs,hx,_⟩|⟨_,_,_,_,_,hz,_⟩
   rcases hv with ⟨m,full,hv,hm,_⟩|⟨hz,_⟩
   simp only[ints,dX,Nat.mul_one] at hm hx;subst hm;exact⟨bn,off,full,Fn,pn,cs,f,hv,hg,hf,hs,by simpa [ints] using hx⟩;cases hz;cases hz
 obtain⟨bn,off,full,Fn,pn,cs,f,hvn,hgn,hfn,hsee,hcut⟩:=hrow;have hne:h.next≠bn:=by rintro rfl; rw[hgI] at hgn; cases hgn
 have hneM:bm≠bn:=by rintro rfl; rw[hgM] at hgn; cases hgn
 have hneI:bm≠h.next:=by have:=AHeap.get_lt hgm; omega
 have hIlt:=AHeap.get_lt hgI;have hnlt:=AHeap.get_lt hgn;have hFlt:=AHeap.fam_lt hfn;have hcl:off+ns.length≤cs.length:=by
  have h2:=congrArg List.length hcut;have h3:=List.length_pos_iff.2 hn0;simp only[fG,gB,ints,dX] at h2;omega
 let HS:List Nat→AHeap:=fun D=>Zq h1 h.next h.nfam bm (entB E).length bn Fn pn cs off f D (ints (Qi E ns D))
 have hbl:∀ D,(Qi E ns D).length=ns.length:=fun D=>bumps_len E D ns
 have hH0:HS []=h1:=hpush_nil hgI hgn hfn (by simpa [Qi] using hcut);have hgetI:∀ D,(HS D).get h.next=some (.obj h.nfam (.mwalk bm (entB E).length D)):=fun D=>by
  show(Zq _ _ _ _ _ _ _ _ _ _ _ _ _).get _=_;rw[Jg _ hIlt hnlt,if_neg hne,if_pos rfl]
 have hgetM:∀ D,(HS D).get bm=some (.obj Fm (.map (entB E))):=fun D=>by
  show(Zq _ _ _ _ _ _ _ _ _ _ _ _ _).get _=_;rw[Jg _ hIlt hnlt,if_neg hneM,if_neg hneI]; exact hgM
 have hgetN:∀ D,(HS D).get bn=some (.cells (some Fn) pn (putL cs off (ints (Qi E ns D)))):=fun D=>by
  show(Zq _ _ _ _ _ _ _ _ _ _ _ _ _).get _=_;rw[Jg _ hIlt hnlt,if_pos rfl]
 have hfamN:∀ D,(HS D).fam Fn=some (if D = [] then f else {f with live:=some [bn]}):=fun D=>hpush_fam hFlt
 have hmove : ∀ (D : List Nat) (j : Nat), St h0 (HS D) (⟨.it h.next, 0, Thing.enc (.mwalk bm (entB E).length D), false⟩ :: ⟨pf, 0, [a0, a1, vn], tf⟩ :: ⟨vn, 1, ints (Qi E ns D), tn⟩ :: mapO vm (entB E) :: G) →
     St h0 ((HS D).set h.next (.obj h.nfam (.mwalk bm (entB E).length (D ++ [j])))) (⟨.it h.next,0,Thing.enc (.mwalk bm (entB E).length (D ++ [j])),false⟩::⟨pf,0,[a0,a1,vn],tf⟩::⟨vn,1,ints (Qi E ns D),tn⟩::mapO vm (entB E)::G):=by
   intro D j hD;refine St.setT (k:=0) hD rfl (x:=.mwalk bm (entB E).length D) (x':=.mwalk bm (entB E).length (D ++ [j])) (fun _=>rfl) rfl (hgetI D) ?_;intro F hmu
   cases F with
   | none=>cases hmu.1
   | some F=>
     rcases hmu with ⟨b,o,p,c,f',_,hv,_⟩|⟨b,x,f',hlo,hv,_,hg,hf,_⟩
     · rcases hv with ⟨_,_,hv,_⟩|⟨_,hv⟩ <;> cases hv
     · have hbb:h.next=b:=by cases x <;> first|exact AV.it.inj hv|cases hv
       subst hbb;rw[hgetI D] at hg;cases hg;exact⟨rfl,hlo,f',hf⟩
 have hput:∀ (xs:List AV) (w:Nat) (x:AV),w<xs.length→off+xs.length≤cs.length→putL (putL cs off xs) (off+w) [x]=putL cs off (xs.set w x):=by
  intro xs w x hw hc;have hl:(putL cs off xs).length=cs.length:=KZ _ _ _ hc;have hl2:(putL cs off (xs.set w x)).length=cs.length:=KZ _ _ _ (by rw[fJ]; exact hc);rw[VV _ _ _ aA];unfold putL;have e1:(cs.take off).length=off:=by rw[fG]; omega
  rw[gO,gO,List.set_append_right _ _ aA,e1,fH,List.set_append_left _ _ hw,fJ]
 have hints:∀ (l:List Int) (w:Nat) (c:Int),(ints l).set w (.int .i64 c)=ints (l.set w c):=fun l w c=>by simp[ints,List.map_set]
 have hbump:∀ (D:List Nat) (j:Nat) (w:Int) (m:Bool),E[j]? = some (w,m)→Qi E ns (D ++ [j])=(Qi E ns D).set w.toNat ((Qi E ns D).getD w.toNat 0+if m then 1 else -1):=by
  intro D j w m hj;rw[Uo,Z5,hj]
 have hstore:∀ (D:List Nat) (j:Nat) (w:Int) (m:Bool),E[j]? = some (w,m)→Xr Go.Proofs.Tryz.prog ((HS D).set h.next (.obj h.nfam (.mwalk bm (entB E).length (D ++ [j])))) 3 (.ptr bn (off+w.toNat)) (.int .i64 ((Qi E ns D).getD w.toNat 0+if m then 1 else -1))=some (.tup [],HS (D ++ [j])):=by
  intro D j w m hj;have hwl:=hE _ (dM hj);dsimp only at hwl;have hg:((HS D).set h.next (.obj h.nfam (.mwalk bm (entB E).length (D ++ [j])))).get bn=some (.cells (some Fn) pn (putL cs off (ints (Qi E ns D)))):=by
   rw[AHeap.get_set,if_neg (by rintro⟨rfl,_⟩; exact hne rfl)]; exact hgetN D
  have hf:((HS D).set h.next (.obj h.nfam (.mwalk bm (entB E).length (D ++ [j])))).fam Fn=some (if D = [] then f else {f with live:=some [bn]}):=hfamN D;have hlp:(putL cs off (ints (Qi E ns D))).length=cs.length:=KZ _ _ _ (by simpa [ints,hbl D] using hcl);have hsz:szA Go.Proofs.Tryz.prog 3=some 1:=ScT.sz;have hval:((HS D).set h.next (.obj h.nfam (.mwalk bm (entB E).length (D ++ [j])))).valid bn=true:=by
   unfold AHeap.valid;rw[hg];simp only[hf];by_cases hD:D = [];rw[if_pos hD]; exact hsee;rw[if_neg hD]; simp[Fam.sees]
  simp only[Xr,hg,hf,hsz,AV.cells?,AV.one,if_true,dD,dN];rw[if_pos ⟨hval,rfl,by rw[hlp]; simp only[dS]; omega⟩];refine congrArg (fun q=>some (AV.tup [],q)) ?_;refine hpush_step hne aV ?_ ?_;rw[hput _ _ _ (by simp only[ints,dX,hbl]; omega) (by simpa [ints,hbl D] using hcl),hints,hbump D j w m hj];by_cases hD:D = [];rw[if_pos hD];rw[if_neg hD]
 have hEj:∀ j,j<(entB E).length→∃ w m,E[j]? = some (w,m):=fun j hj=>⟨_,_,dA aA⟩
 have hSt:∀ (k:Nat) (D:List Nat),D.length=k→(∀ j∈D,j<(entB E).length)→St h0 (HS D) (⟨.it h.next,0,Thing.enc (.mwalk bm (entB E).length D),false⟩::⟨pf,0,[a0,a1,vn],tf⟩::⟨vn,1,ints (Qi E ns D),tn⟩::mapO vm (entB E)::G):=by
  intro k
  induction k with
  | zero=>
   intro D hD _;obtain rfl:=List.length_eq_zero_iff.1 hD;rw[hH0];exact hS1
  | succ k ih=>
   intro D hD hin;rcases List.eq_nil_or_concat D with rfl|⟨D',j,rfl⟩
   cases hD;rw[List.concat_eq_append] at hD hin⊢;have hD':=ih D' (by simpa using hD) (fun i hi=>hin i (by simp[hi]));obtain⟨w,m,hj⟩:=hEj j (hin j aV);have hwl:=hE _ (dM hj);dsimp only at hwl;have hm:=hmove D' j hD';obtain⟨h',e1,e2⟩:=St.store (P:=Go.Proofs.Tryz.prog) (t:=3) hm (k:=2) rfl (p:=.ptr bn (off+w.toNat)) (y:=.int .i64 ((Qi E ns D').getD w.toNat 0+if m then 1 else -1)) (j:=w.toNat) (l:=[.int .i64 ((Qi E ns D').getD w.toNat 0+if m then 1 else -1)]) ⟨bn,off,.inl ⟨Nat.one_pos,_,_,hvn⟩,rfl⟩ rfl ScT.sz aV (by simp only[ints,dX,hbl,dS]; omega);rw[hstore D' j w m hj] at e1;simp only[dQ,Prod.mk.injEq,true_and] at e1;subst e1;simp only[List.set_cons_succ,List.set_cons_zero] at e2;rw[VV _ _ _ (by simp only[ints,dX,hbl]; omega),hints,←hbump D' j w m hj] at e2;exact e2
 have hmap:Z8 Go.Proofs.Tryz.prog 130=some (3,4):=by kernel_rfl
 refine OL 32 [] Go.Proofs.Tryz.func219 rfl aD rfl rfl (Nat.le_of_ble_eq_true rfl) ?_;show KA _ 32 _ _ [(0,pf),(1,vm)] _;refine Ou ?_;refine KOps.stepT (R0 rfl hmap (EvK.eq.trans hvm') hgm) ?_;refine Of ?_;refine Od ?_;refine Oz ?_;rw[hh1];refine KA.mapLoop (b:=h.next) (F:=h.nfam) (bm:=bm) (Fm:=Fm) (es:=entB E) (id:=0) (fun D=>[(0,pf),(7,.it h.next)]) HS (KE:=[]) (HE:=(HS (dG (entB E).length)).set h.next (.obj h.nfam .gone)) rfl (fun _ _=>EvK.eq) (fun D _=>hgetI D) (fun D _=>hgetM D) ?_ ?_ (Sub.cons Look.eq (Sub.cons Look.eq (Sub.nil _))) hH0.symm ?_
 ·intro D j k v hD hj hjk;have hjl:=(dB.1 hjk).1;obtain⟨w,m,hw⟩:=hEj j hjl;have hkv:k = .int .i64 w∧v = .bool m:=by
   simp only[entB,entL,dC,hw,dP,dQ,Prod.mk.injEq] at hjk;exact⟨hjk.1.symm,hjk.2.symm⟩
  obtain⟨rfl,rfl⟩:=hkv;have hwl:=hE _ (dM hw);dsimp only at hwl;have hSt':=hmove D j (hSt D.length D rfl hD.2);have hst:=hstore D j w m hw;have hDl:D.length≤1000000000:=by
   have:=Xa (m:=dG (entB E).length) hD.1 (fun x hx=>dZ.2 (hD.2 x hx));rw[gU] at this;omega
  have hbd:=RQ (E:=E) 1000000000 D ns hb ((Qi E ns D).getD w.toNat 0) (by
   rw[dO,dA aq];exact gD _)
  have hgI':((HS D).set h.next (.obj h.nfam (.mwalk bm (entB E).length (D ++ [j])))).get h.next=some (.obj h.nfam (.mwalk bm (entB E).length (D ++ [j]))):=by
   rw[AHeap.get_set,if_pos ⟨rfl,AHeap.get_lt (hgetI D)⟩]
  have hgM':((HS D).set h.next (.obj h.nfam (.mwalk bm (entB E).length (D ++ [j])))).get bm=some (.obj Fm (.map (entB E))):=by
   rw[AHeap.get_set,if_neg (by rintro⟨h3,_⟩; exact hneI h3)]; exact hgetM D
  refine K5 ?_;refine Of ?_;refine Ov ?_;refine KN ?_;refine Oy ?_;refine Od ?_;refine Oz ?_;refine Ox ?_;refine KOps.stepT (RX rfl EvK.eq hgI' hgM' hjk) ?_;refine Ou ?_;refine Of ?_;refine Od ?_;refine Ou ?_;refine Of ?_;refine Od ?_
  cases m with
  | true=>
   refine KN ?_
   ·skip
    refine Ou ?_;refine cA ?_;intro p16 hp16;refine Oe hp16 (hSt'.rd 1 rfl) rfl ?_;refine Oh ?_;refine Ow (hSt'.rd 2 rfl) (j:=w.toNat) aA aq ?_;intro q hq;refine Kj hq (hSt'.rd 2 rfl) aq ?_;refine Ko aA aA ?_;refine Ow (hSt'.rd 2 rfl) (j:=w.toNat) aA aq ?_;intro q2 hq2;obtain⟨bq,oq,hq3,rfl⟩:=hq2;rcases hq3 with ⟨_,_,_,hq4⟩|⟨hq4,_⟩
    rotate_left
    cases hq4;rw[hvn] at hq4;cases hq4;refine KOps.storeE rfl (h':=HS (D ++ [j])) ?_ ?_;exact hst;refine Of ?_;refine Oj ?_;exact⟨rfl,Sub.cons Look.eq (Sub.cons Look.eq (Sub.nil _)),rfl⟩
  | false=>
   refine ON ?_
   ·skip
    refine Ou ?_;refine cA ?_;intro p25 hp25;refine Oe hp25 (hSt'.rd 1 rfl) rfl ?_;refine Oh ?_;refine Ow (hSt'.rd 2 rfl) (j:=w.toNat) aA aq ?_;intro q hq;refine Kj hq (hSt'.rd 2 rfl) aq ?_;refine Zl aA aA ?_;refine Ow (hSt'.rd 2 rfl) (j:=w.toNat) aA aq ?_;intro q2 hq2;obtain⟨bq,oq,hq3,rfl⟩:=hq2;rcases hq3 with ⟨_,_,_,hq4⟩|⟨hq4,_⟩
    rotate_left
    cases hq4;rw[hvn] at hq4;cases hq4;refine KOps.storeE rfl (h':=HS (D ++ [j])) ?_ ?_;rw[show(Qi E ns D).getD w.toNat 0 - 1=(Qi E ns D).getD w.toNat 0 + -1 from rfl]; exact hst;refine Of ?_;refine Oj ?_;exact⟨rfl,Sub.cons Look.eq (Sub.cons Look.eq (Sub.nil _)),rfl⟩
 intro D hD hf;have hperm:D.Perm (dG (entB E).length):=(List.perm_ext_iff_of_nodup hD.1 gC).2 fun i=>⟨fun hi=>dZ.2 (hD.2 i hi),fun hi=>hf i (dZ.1 hi)⟩
 refine K5 ?_;refine Of ?_;refine Ov ?_;refine ON ?_;refine Kc ?_;refine OZ ?_;refine⟨rfl,Sub.nil _,⟨_,hgetI D⟩,?_⟩;show(Zq _ _ _ _ _ _ _ _ _ _ _ D _).set _ _=(Zq _ _ _ _ _ _ _ _ _ _ _ _ _).set _ _;rw[bumps_perm hperm ns];refine hpush_gone hne ⟨fun h3=>?_,fun h3=>?_⟩;subst h3; exact(List.nil_perm.1 hperm);rw[h3] at hperm; exact List.perm_nil.1 hperm
 ·refine O3 ?_;refine Qb ?_;have h3:=hSt _ (dG (entB E).length) (gU) (fun i hi=>dZ.1 hi);have h4:St h0 ((HS (dG (entB E).length)).set h.next (.obj h.nfam .gone)) (⟨.it h.next,0,Thing.enc .gone,false⟩::⟨pf,0,[a0,a1,vn],tf⟩::⟨vn,1,ints (Qi E ns (dG (entB E).length)),tn⟩::mapO vm (entB E)::G):=by
   refine St.setT (k:=0) h3 rfl (x:=.mwalk bm (entB E).length (dG (entB E).length)) (x':=.gone) (fun _=>rfl) rfl (hgetI _) ?_;intro F hmu
   cases F with
   | none=>cases hmu.1
   | some F=>
    rcases hmu with ⟨b,o,p,c,f',_,hv,_⟩|⟨b,x,f',hlo,hv,_,hg,hf,_⟩
    rcases hv with ⟨_,_,hv,_⟩|⟨_,hv⟩ <;> cases hv
    have hbb:h.next=b:=by cases x <;> first|exact AV.it.inj hv|cases hv
    subst hbb;rw[hgetI] at hg;cases hg;exact⟨rfl,hlo,f',hf⟩
  rw[←hlen];exact St.tail h4
end Go.Am
namespace Go.Am
structure W where
  f:Int
  t:Int
  l:Int
  m:Int
  deriving DecidableEq,Inhabited
abbrev wc (w:W):List AV:=[.int .i64 w.f,.int .i64 w.t,.int .i64 w.l,.int .i64 w.m]
theorem KU (w:W):(wc w).length=4:=rfl
def Kw (r:Int) (w:W):Int:=
  if ¬ (0≤w.f∧w.f<r∧0≤w.t∧w.t<r) then 2 else if w.f=w.t then 13 else if ¬ (0≤w.l∧w.l≤w.m∧w.m≤99) then 1 else 0
def QG (r : Int) (ws : List W) : Nat → Int
  | 0=>0
  | i+1=>if QG r ws i=0 then Kw r (ws.getD i default) else QG r ws i
def Ky (r:Int) (ws:List W):Int:=if ¬ (2≤r∧r≤6) then 1 else if 12<ws.length then 3 else QG r ws ws.length
theorem waysE_zero {r:Int} {ws:List W}:∀ {n i:Nat},i≤n→QG r ws n=0→QG r ws i=0:=by
 intro n
 induction n with
 | zero => intro i hi h; obtain rfl : i = 0 := by omega
           exact h
 | succ n ih=>
  intro i hi h;have h1:QG r ws n=0:=by
   rw[QG] at h;by_cases h2:QG r ws n=0;exact h2;rw[if_neg h2] at h; exact h
  rcases fZ hi with h3|rfl
  exact ih aA h1;exact h
theorem UU {r:Int} {ws:List W} {i:Nat} (h0:QG r ws i=0) (he:Kw r (ws.getD i default)≠0):∀ {n:Nat},i<n→QG r ws n=Kw r (ws.getD i default):=by
 intro n
 induction n with
 | zero=>intro h; omega
 | succ n ih=>
  intro h;rcases Nat.lt_succ_iff_lt_or_eq.1 h with h1|rfl
  rw[QG,ih h1,if_neg he];rw[QG,if_pos h0]
theorem waysE_all {r:Int} {ws:List W} {n:Nat} (h:QG r ws n=0) {i:Nat} (hi:i<n):Kw r (ws.getD i default)=0:=by
 have h1:=waysE_zero (show i≤n by omega) h;by_cases h2:Kw r (ws.getD i default)=0;exact h2;rw[UU h1 h2 hi] at h; exact absurd h h2
structure WOk (r:Int) (w:W):Prop where
  f0 : 0≤w.f
  f1:w.f<r
  t0 : 0≤w.t
  t1:w.t<r
  ne:w.f≠w.t
  l0 : 0≤w.l
  lm:w.l≤w.m
  m1:w.m≤99
theorem WOk.of {r:Int} {w:W} (h:Kw r w=0):WOk r w:=by
 unfold Kw at h;by_cases h1:¬ (0≤w.f∧w.f<r∧0≤w.t∧w.t<r);rw[if_pos h1] at h; cases h;rw[if_neg h1] at h;by_cases h2:w.f=w.t;rw[if_pos h2] at h; cases h;rw[if_neg h2] at h;by_cases h3:¬ (0≤w.l∧w.l≤w.m∧w.m≤99);rw[if_pos h3] at h; cases h;have h1:=Decidable.not_not.1 h1;have h3:=Decidable.not_not.1 h3;exact⟨h1.1,h1.2.1,h1.2.2.1,h1.2.2.2,h2,h3.1,h3.2.1,h3.2.2⟩
structure BOk (r:Int) (ws:List W):Prop where
  r2 : 2≤r
  r6:r≤6
  len:ws.length≤12
  way:∀ i,i<ws.length→WOk r (ws.getD i default)
theorem BOk.of {r:Int} {ws:List W} (h:Ky r ws=0):BOk r ws:=by
 unfold Ky at h;by_cases h1:¬ (2≤r∧r≤6);rw[if_pos h1] at h; cases h;rw[if_neg h1] at h;by_cases h2 : 12<ws.length;rw[if_pos h2] at h; cases h;rw[if_neg h2] at h;have h1:=Decidable.not_not.1 h1;exact⟨h1.1,h1.2,by omega,fun i hi=>WOk.of (waysE_all h hi)⟩
end Go.Am
namespace Go.Am
def dl (a b:Int):Int:=if a=b then 1 else 0
def KI (ws : List W) (n : List Int) (x : Int) : Nat → Int
  | 0=>0
  | i+1=>KI ws n x i+n.getD i 0*(dl (ws.getD i default).t x - dl (ws.getD i default).f x)
abbrev kept (ws:List W) (n:List Int) (x:Int):Int:=KI ws n x ws.length
structure Within (ws:List W) (n:List Int):Prop where
  len:n.length=ws.length
  lo:∀ i,i<ws.length→(ws.getD i default).l≤n.getD i 0
  hi:∀ i,i<ws.length→n.getD i 0≤(ws.getD i default).m
structure Flow (ws:List W) (n:List Int):Prop extends Within ws n where
  kp:∀ x,kept ws n x=0
def InR (r:Int) (ws:List W):Prop:=∀ i,i<ws.length→0≤(ws.getD i default).f∧(ws.getD i default).f<r∧0≤(ws.getD i default).t∧(ws.getD i default).t<r
theorem keptTo_set {ws:List W} {n:List Int} {x:Int} {i:Nat} {c:Int} (hi:i<n.length):∀ k,KI ws (n.set i c) x k=KI ws n x k+if i<k then (c - n.getD i 0)*(dl (ws.getD i default).t x - dl (ws.getD i default).f x) else 0:=by
 intro k
 induction k with
 | zero=>simp[KI]
 | succ k ih=>
  by_cases h:i=k;subst h;have e1:(n.set i c).getD i 0=c:=by rw[QF,if_pos ⟨rfl,hi⟩]
  rw[KI,KI,ih,e1,if_neg (Nat.lt_irrefl i),if_pos (Nat.lt_succ_self i),Int.sub_mul];omega;have e1:(n.set i c).getD k 0=n.getD k 0:=by rw[QF,if_neg (fun h2=>h h2.1.symm)]
  rw[KI,KI,ih,e1];by_cases h3:i<k;rw[if_pos h3,if_pos (show i<k+1 by omega)]; omega;rw[if_neg h3,if_neg (show¬ i<k+1 by omega)]; omega
theorem Ro {ws:List W} {n:List Int} {x:Int} {i:Nat} {c:Int} (hi:i<n.length) (hw:i<ws.length):kept ws (n.set i c) x=kept ws n x+(c - n.getD i 0)*(dl (ws.getD i default).t x - dl (ws.getD i default).f x):=by
 rw[kept,keptTo_set hi,if_pos hw]
def V5 (ws:List W) (n:List Int) (A:Nat→Bool) (u v:Int) (i:Nat) (more:Bool):Prop:=
  i<ws.length∧A i=true∧if more then (ws.getD i default).f=u∧(ws.getD i default).t=v∧n.getD i 0<(ws.getD i default).m else (ws.getD i default).t=u∧(ws.getD i default).f=v∧(ws.getD i default).l<n.getD i 0
inductive Path (ws:List W) (n:List Int) (A:Nat→Bool) (u:Int):List Int→Int→List (Int × Bool)→Prop where
  | nil:Path ws n A u [u] u []
  | snoc {vs:List Int} {v x:Int} {E:List (Int × Bool)} {i:Nat} {more:Bool} (p:Path ws n A u vs v E) (s:V5 ws n A v x i more) (hx:x ∉ vs):Path ws n A u (x::vs) x (((i:Int),more)::E)
section
variable {ws:List W} {n:List Int} {A:Nat→Bool} {u v:Int} {vs:List Int} {E:List (Int × Bool)}
theorem Path.last (p:Path ws n A u vs v E):v∈vs:=by cases p <;> simp
theorem Path.ends (p:Path ws n A u vs v E):∀ q∈E,∃ i:Nat,q.1=(i:Int)∧i<ws.length∧A i=true∧(ws.getD i default).f∈vs∧(ws.getD i default).t∈vs∧(if q.2 then n.getD i 0<(ws.getD i default).m else (ws.getD i default).l<n.getD i 0):=by
 induction p with
 | nil=>intro q hq; cases hq
 | @snoc vs v x E i more p s hx ih=>
  intro q hq;rcases fT.1 hq with rfl|hq
  ·refine⟨i,rfl,s.1,s.2.1,?_⟩;have hv:=p.last;have hs:=s.2.2
   cases more with
   | true=>
    simp only[if_true] at hs⊢;exact⟨by rw[hs.1]; simp[hv],by rw[hs.2.1]; simp,hs.2.2⟩
   | false=>
    simp only[dJ,if_false] at hs⊢;exact⟨by rw[hs.2.1]; simp,by rw[hs.1]; simp[hv],hs.2.2⟩
  obtain⟨j,h1,h2,h3,h4,h5,h6⟩:=ih q hq;exact⟨j,h1,h2,h3,fS _ h4,fS _ h5,h6⟩
theorem Path.keys (p:Path ws n A u vs v E):(E.map (·.1)).Nodup:=by
 induction p with
 | nil=>exact List.nodup_nil
 | @snoc vs v x E i more p s hx ih=>
  rw[dL,fK];refine⟨?_,ih⟩;intro hm;obtain⟨q,hq,he⟩:=fO.1 hm;obtain⟨j,h1,_,_,h4,h5,_⟩:=p.ends q hq;have hij:j=i:=by
   have:(j:Int)=(i:Int):=by rw[←h1]; exact he
   omega
  subst hij;have hs:=s.2.2
  cases more with
  | true=>simp only[if_true] at hs; rw[hs.2.1] at h5; exact hx h5
  | false=>simp only[dJ,if_false] at hs; rw[hs.2.1] at h4; exact hx h4
def QW (l:List Int) (q:Int × Bool):List Int:=l.set q.1.toNat (l.getD q.1.toNat 0+if q.2 then 1 else -1)
def Ql (E:List (Int × Bool)) (n:List Int):List Int:=E.foldr (fun q l=>QW l q) n
theorem bump1_len (l:List Int) (q:Int × Bool):(QW l q).length=l.length:=by simp[QW]
theorem XJ (E:List (Int × Bool)) (n:List Int):(Ql E n).length=n.length:=by
 induction E with
 | nil=>rfl
 | cons q E ih=>show(QW (Ql E n) q).length=_; rw[bump1_len,ih]
theorem Vr {E:List (Int × Bool)} {l:List Int} {j:Nat} {q:Int × Bool} (h:E[j]? = some q):Z5 E l j=QW l q:=by
 unfold Z5 QW;rw[h]
theorem bump1_comm (l:List Int) (p q:Int × Bool):QW (QW l p) q=QW (QW l q) p:=by
 have h:=Wo [p,q] l 0 1;rw[Vr (E:=[p,q]) (j:=0) rfl,Vr (E:=[p,q]) (j:=1) rfl,Vr (E:=[p,q]) (j:=1) rfl,Vr (E:=[p,q]) (j:=0) rfl] at h;exact h
theorem RR (E:List (Int × Bool)) (n:List Int):∀ k,k≤E.length→Qi E n (dG k)=(E.take k).foldl QW n:=by
 intro k
 induction k with
 | zero=>intro _; rfl
 | succ k ih=>
  intro hk;have hg:E[k]? = some (E[k]'aA):=dA _;rw[List.range_succ,Uo,ih aA,Vr hg,List.take_add_one,hg,List.foldl_append];rfl
theorem foldl_one (E:List (Int × Bool)):∀ (n:List Int) (q:Int × Bool),E.foldl QW (QW n q)=QW (E.foldl QW n) q:=by
 induction E with
 | nil=>intro n q; rfl
 | cons p E ih=>intro n q; rw[fL,fL,bump1_comm,ih]
theorem bumps_push (E:List (Int × Bool)) (n:List Int):Qi E n (dG E.length)=Ql E n:=by
 rw[RR E n _ (fM _),List.take_length]
 induction E with
 | nil=>rfl
 | cons q E ih=>rw[fL,foldl_one,ih]; rfl
theorem Yc {E:List (Int × Bool)} {n:List Int} {i:Nat} (h:∀ q∈E,q.1.toNat≠i):(Ql E n).getD i 0=n.getD i 0:=by
 induction E with
 | nil=>rfl
 | cons q E ih=>
  show(QW (Ql E n) q).getD i 0=_;rw[QW,QF,if_neg (fun h2=>h q aV h2.1.symm),ih (fun p hp=>h p (by simp[hp]))]
theorem pushE_at {E:List (Int × Bool)} {n:List Int} (hk:(E.map (·.1)).Nodup) (h0:∀ q∈E,0≤q.1) {q:Int × Bool} (hq:q∈E) (hl:q.1.toNat<n.length):(Ql E n).getD q.1.toNat 0=n.getD q.1.toNat 0+if q.2 then 1 else -1:=by
 induction E with
 | nil=>cases hq
 | cons p E ih=>
  rw[dL,fK] at hk;show(QW (Ql E n) p).getD _ 0=_;rw[QW,QF,XJ];rcases fT.1 hq with rfl|hq
  rw[if_pos ⟨rfl,hl⟩,Yc];intro p' hp' he;have h1:=h0 p' (by simp[hp']);have h2:=h0 q aV;exact hk.1 (fO.2 ⟨p',hp',by omega⟩);have hne:¬ q.1.toNat=p.1.toNat:=by
   intro he;have h1:=h0 q (by simp[hq]);have h2:=h0 p aV;exact hk.1 (fO.2 ⟨q,hq,by omega⟩)
  rw[if_neg (fun h=>hne h.1)];exact ih hk.2 (fun p' hp'=>h0 p' (by simp[hp'])) hq
theorem Path.kept (p:Path ws n A u vs v E) (hl:n.length=ws.length) (x:Int):kept ws (Ql E n) x=Go.Am.kept ws n x+dl v x - dl u x:=by
 induction p with
 | nil=>show Go.Am.kept ws n x=_; omega
 | @snoc vs v y E i more p s hy ih=>
  have hk:=(Path.snoc p s hy).keys;rw[dL,fK] at hk;have hot:(Ql E n).getD i 0=n.getD i 0:=by
   refine Yc ?_;intro q hq he;obtain⟨j,h1,_⟩:=p.ends q hq;refine hk.1 (fO.2 ⟨q,hq,?_⟩);rw[h1] at he⊢;simp only[Int.toNat_natCast] at he;rw[he]
  show Go.Am.kept ws (QW (Ql E n) ((i:Int),more)) x=_;unfold QW;simp only[Int.toNat_natCast];rw[Ro (by rw[XJ,hl]; exact s.1) s.1,ih,hot];have hs:=s.2.2
  cases more with
  | true=>
   simp only[if_true] at hs⊢;rw[hs.1,hs.2.1];have:n.getD i 0+1 - n.getD i 0=1:=by omega
   rw[this,Int.one_mul]; omega
  | false=>
   simp only[dJ,if_false] at hs⊢;rw[hs.1,hs.2.1];have:n.getD i 0 + -1 - n.getD i 0 = -1:=by omega
   rw[this]; omega
theorem Path.within (p:Path ws n A u vs v E) (h:Within ws n):Within ws (Ql E n):=by
 have hk:=p.keys;have h0:∀ q∈E,0≤q.1:=fun q hq=>by obtain⟨j,h1,_⟩:=p.ends q hq; omega
 have key:∀ i,i<ws.length→(ws.getD i default).l≤(Ql E n).getD i 0∧(Ql E n).getD i 0≤(ws.getD i default).m:=by
  intro i hi;have h1:=h.lo i hi;have h2:=h.hi i hi;by_cases hm:∃ q∈E,q.1.toNat=i;obtain⟨q,hq,rfl⟩:=hm;have h3:=pushE_at hk h0 hq (n:=n) (by rw[h.len]; exact hi);obtain⟨j,h4,h5,_,_,_,h6⟩:=p.ends q hq;have hj:q.1.toNat=j:=by omega
  rw[hj] at h1 h2 h3⊢;rw[h3];split at h6;rename_i hm; rw[if_pos hm]; omega;rename_i hm; rw[if_neg hm]; omega;rw[Yc (fun q hq he=>hm ⟨q,hq,he⟩)];exact⟨h1,h2⟩
 exact⟨by rw[XJ,h.len],fun i hi=>(key i hi).1,fun i hi=>(key i hi).2⟩
theorem Path.same (p:Path ws n A u vs v E) {i:Nat} (hA:A i=false):(Ql E n).getD i 0=n.getD i 0:=by
 refine Yc ?_;intro q hq he;obtain⟨j,h4,_,h5,_⟩:=p.ends q hq;have:j=i:=by omega
 subst this;rw[hA] at h5; cases h5
end
def Yd (ws:List W) (n:List Int) (A:Nat→Bool) (R:Int→Prop):Prop:=∀ i,i<ws.length→A i=true→(R (ws.getD i default).f→n.getD i 0<(ws.getD i default).m→R (ws.getD i default).t)∧(R (ws.getD i default).t→(ws.getD i default).l<n.getD i 0→R (ws.getD i default).f)
theorem Vy {ws:List W} {n:List Int} {A:Nat→Bool} (u:Int):Yd ws n A (fun x=>∃ vs E,Path ws n A u vs x E):=by
 have short:∀ {vs v E},Path ws n A u vs v E→∀ x,x∈vs→∃ vs' E',Path ws n A u vs' x E':=by
  intro vs v E p
  induction p with
  | nil=>intro x hx; rw[List.mem_singleton] at hx; subst hx; exact⟨_,_,.nil⟩
  | @snoc vs v y E i more p s hy ih=>
   intro x hx;rcases fT.1 hx with rfl|hx
   exact⟨_,_,.snoc p s hy⟩;exact ih x hx
 intro i hi hA;constructor;rintro⟨vs,E,p⟩ hlt;by_cases hm:(ws.getD i default).t∈vs;exact short p _ hm;exact⟨_,_,.snoc p (i:=i) (more:=true) ⟨hi,hA,by simp only[if_true]; exact⟨trivial,trivial,hlt⟩⟩ hm⟩;rintro⟨vs,E,p⟩ hlt;by_cases hm:(ws.getD i default).f∈vs;exact short p _ hm;exact⟨_,_,.snoc p (i:=i) (more:=false) ⟨hi,hA,by simp only[dJ,if_false]; exact⟨trivial,trivial,hlt⟩⟩ hm⟩
end Go.Am
