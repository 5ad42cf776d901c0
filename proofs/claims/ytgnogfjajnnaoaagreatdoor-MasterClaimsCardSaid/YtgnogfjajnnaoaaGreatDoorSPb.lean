/-
  The abstract machine: maps compared with nil.
  Conditions: none.
-/
import Derived.Test.YtgnogfjajnnaoaaGreatDoorAmM
import Derived.Test.YtgnogfjajnnaoaaGreatDoorProg
import Derived.Test.YtgnogfjajnnaoaaGreatDoorAmC
open Array renaming getElem?_toList → fM, getElem?_eq_getElem → fR, length_toList → gI, mem_of_getElem? → gK, toList_extract → gM, toList_append → gR, ext' → jY
open Bool renaming false_eq_true → fD, eq_iff_iff → jC
open Go.Builtin renaming delete_ → gE, len_ → gW, clear_ → jF
open Go.Instr renaming mapUpdate → gA, lookup → gV
open Go.MapKept renaming run_getObj_map → fA, run_setObj_map → fC
open Go.Result renaming andThen_ok → dW
open Go.Sem renaming run_bind → dX, run_pure → fE
open List renaming getElem?_eq_getElem → dY, getD_eq_getElem?_getD → dZ, getElem?_eq_some_iff → fI, getElem?_map → fO, range → fB, toArray → fF, map_cons → fG, mem_of_getElem? → fH, length_singleton → fN, getElem?_eq_none → fP, getElem?_append_right → fQ, length_map → fS, mem_range → fT, getElem?_cons_zero → fV, getElem?_cons_succ → fW, getElem?_toArray → fX, mem_map → fZ, getElem?_append_left → gU, extract_eq_take_drop → gY, length_take → gB, length_set → gD, nodup_cons → gF, foldl_cons → gG, getElem?_eraseIdx → gJ, length_eraseIdx → gL, mem_cons_of_mem → gN, mem_cons → gP, toList_toArray → gQ, length_append → gS, getElem?_set → gX, append_assoc → gZ, length_range → jA, length_cons → jE, length_drop → jI, nodup_range → jO, getElem_mem → jU, map_append → jB
open Nat renaming zero_le → gO, add_sub_cancel_left → gC, le_refl → gH, lt_or_eq_of_le → gT, beq → jD
open Option renaming bind_eq_bind → fU, map_eq_some_iff → fY, bind_some → fJ, map_some → fK
open Option.some renaming injEq → fL
set_option maxRecDepth 99999
set_option maxHeartbeats 4000000
namespace Go.Am
theorem eqIn_nilm {P:Program} {t kt et:TypeId} (d:Nat) (h:P.underlying t=some (.map kt et)) (b:Option Nat) (w:World):(Op.equalIn (d+1) t (.map b) (.map none)).run P w = .ok b.isNone w:=by
 cases b <;> simp[Op.equalIn,run_underlying h]
theorem eq_nilm {P:Program} {t kt et:TypeId} (h:P.underlying t=some (.map kt et)) (b:Option Nat) (w:World):(Op.equal t (.map b) (.map none)).run P w = .ok b.isNone w:=eqIn_nilm 9999 h b w
theorem RB {P:Program} {t kt et:TypeId} (h:P.underlying t=some (.map kt et)) (b:Option Nat) (w:World):(binOp .eql t (.map b) (.map none)).run P w = .ok (.bool b.isNone) w:=by
 have:binOp .eql t (.map b) (.map none)=(do pure (Value.bool (←Op.equal t (.map b) (.map none))):Sem Value):=by cases b <;> rfl
 rw[this]; simp[eq_nilm h]
theorem RC {P:Program} {t kt et:TypeId} (h:P.underlying t=some (.map kt et)) (b:Option Nat) (w:World):(binOp .neq t (.map b) (.map none)).run P w = .ok (.bool !b.isNone) w:=by
 have:binOp .neq t (.map b) (.map none)=(do pure (Value.bool (!(←Op.equal t (.map b) (.map none)))):Sem Value):=by cases b <;> rfl
 rw[this]; simp[eq_nilm h]
theorem PartOf.one {r v:AV} {s lo hi:Nat} (h:PartOf r v s lo hi):r.one=true:=by
 rcases h with ⟨rfl,_⟩|⟨b,off,n,full,full',_,rfl,_⟩ <;> rfl
def AV.mapNil : AV → Option Bool
  | .nilm=>some true
  | .mp _=>some false
  | _=>none
theorem AV.mapNil_mp {q:AV} (h:q.mapNil=some false):Zq q:=by
 cases q <;> simp[AV.mapNil] at h
 exact⟨_,rfl⟩
theorem W6 {P : Program} {ρ : Operand → AV} {o : Oper} {h : AHeap} {t t' : TypeId} {p : TypeId × TypeId} {x y : Operand} {b : Bool} {op : BinOp} (ho : o.op = .binOp op t x y t') (hop : op = .eql ∨ op = .neq) (hm : Z8 P t = some p) (hx : (ρ x).mapNil = some b) (hy : ρ y = .nilm) :
    Qa P ρ o h (.bool (if op = .eql then b else !b)) h:=by
 refine⟨HGrow.refl _,?_⟩;intro φ a w K Q hfr r hops hk;have hvx:=hops x aR;have hvy:=hops y aR;have hu:=ZT hm;rw[hy] at hvy;generalize hqx:a.eval x=qx at hvx;generalize hqy:a.eval y=qy at hvy;cases hvy;have hex:∃ q,qx = .map q∧q.isNone=b:=by
  generalize ρ x=vx at hx hvx
  cases vx <;> simp only[AV.mapNil,fL,reduceCtorEq] at hx
  cases hvx; subst hx; exact⟨_,rfl,rfl⟩
  cases hvx; subst hx; exact⟨_,rfl,rfl⟩
 obtain⟨q,rfl,hb⟩:=hex;have hrun:(execOp a.eval o).run P w = .ok (.value (.bool (if op = .eql then b else !b))) w:=by
  rcases hop with rfl|rfl
  simp[execOp,ho,hqx,hqy,eqGuard_at_map,RB hu,hb];simp[execOp,ho,hqx,hqy,eqGuard_at_map,RC hu,hb]
 exact Kr hrun (hk φ _ w (Trans.refl _ _ _) r (.bool _))
theorem build_s1 {P:Program} {t:TypeId} {z0 z1 z2 x:AV} (hz:QS P t=some (.agg [z0,z1,z2])) (hz1 : [z0,z1,z2].all AV.one=true) (hok:Z6 P t=true) (hp0:Q0 P t 0=some (0,1)) (hx:x.one=true):Xt P t [(0,x)]=some (.agg [x,z1,z2]):=by
 have h0:(AV.agg [z0,z1,z2]).cells? = some [z0,z1,z2]:=by simp only[AV.cells?]; rw[if_pos hz1]
 simp only[Xt,hz,h0,hok,if_true,fU,fJ,XD,hp0,AV.cells_one hx];simp[putL,XD]
theorem build_s3 {P:Program} {t:TypeId} {z0 z1 z2 x y u:AV} (hz:QS P t=some (.agg [z0,z1,z2])) (hz1 : [z0,z1,z2].all AV.one=true) (hok:Z6 P t=true) (hp0:Q0 P t 0=some (0,1)) (hp1:Q0 P t 1=some (1,1)) (hp2:Q0 P t 2=some (2,1)) (hx:x.one=true) (hy:y.one=true) (hu:u.one=true):Xt P t [(0,x),(1,y),(2,u)]=some (.agg [x,y,u]):=by
 have h0:(AV.agg [z0,z1,z2]).cells? = some [z0,z1,z2]:=by simp only[AV.cells?]; rw[if_pos hz1]
 simp only[Xt,hz,h0,hok,if_true,fU,fJ,XD,hp0,hp1,hp2,AV.cells_one hx,AV.cells_one hy,AV.cells_one hu];simp[putL,XD]
theorem build_a1 {P:Program} {t:TypeId} {z0 z1 z2 x y:AV} (hz:QS P t=some (.agg [z0,z1,z2])) (hz1 : [z0,z1,z2].all AV.one=true) (hok:Z6 P t=true) (hp0:Q0 P t 0=some (0,2)) (hx:x.one=true) (hy:y.one=true):Xt P t [(0,.agg [x,y])]=some (.agg [x,y,z2]):=by
 have h0:(AV.agg [z0,z1,z2]).cells? = some [z0,z1,z2]:=by simp only[AV.cells?]; rw[if_pos hz1]
 have h1:(AV.agg [x,y]).cells? = some [x,y]:=by simp only[AV.cells?]; rw[if_pos (by simp[hx,hy])]
 simp only[Xt,hz,h0,hok,if_true,fU,fJ,XD,hp0,h1];simp[putL,XD]
theorem Ro {P:Program} {ρ:Operand→AV} {o:Oper} {h:AHeap} {f:FuncId} {first cap:Array Operand} (ho:o.op = .makeFunc (.func f) first cap):Qa P ρ o h (.fnm f (first.toList.map ρ) (cap.toList.map ρ)) h:=by
 refine⟨HGrow.refl _,?_⟩;intro φ a w K Q hfr r hops hk;have hrun:(execOp a.eval o).run P w = .ok (.value (.func (.func f) (first.toList.map a.eval).toArray (cap.toList.map a.eval).toArray)) w:=by
  simp only[execOp,ho,Instr.makeFunc];simp;exact⟨by apply jY; simp,by apply jY; simp⟩
 have hin:∀ q,q∈first.toList∨q∈cap.toList→VRel φ (ρ q) (a.eval q):=by
  intro q hq;refine hops q ?_;simp only[ho,Op.operands];rcases hq with hq|hq
  exact Array.mem_append_left _ (by simpa using hq);exact Array.mem_append_right _ (by simpa using hq)
 refine Kr hrun (hk φ _ w (Trans.refl _ _ _) r (.fnm _ _ _ _ _ aU ?_ aU ?_));intro j x y hx hy;rw[fO,fY] at hx hy;obtain⟨q,hq,rfl⟩:=hx;obtain⟨q',hq',rfl⟩:=hy;rw[hq] at hq'; cases hq';exact hin q (.inl (fH hq));intro j x y hx hy;rw[fO,fY] at hx hy;obtain⟨q,hq,rfl⟩:=hx;obtain⟨q',hq',rfl⟩:=hy;rw[hq] at hq'; cases hq';exact hin q (.inr (fH hq))
theorem Ev.stepM {P : Program} {ρ : Operand → AV} {o : Oper} {h h' : AHeap} {f : FuncId} {first caps : List AV} {r : AV} {g : Operand} {args : Array Operand} {tys : Array TypeId}
    (ho:o.op = .call {callee:=.value g,args:=args,argTypes:=tys}) (hg : ρ g = .fnm f first caps) (hev:Ev P f (first ++ args.toList.map ρ ++ caps) h r h'):SemStep P ρ o h r h':=by
 have hc:Kh o.op = .chain:=by rw[ho]; rfl
 unfold SemStep;rw[hc];obtain⟨⟨fn,hf,hn,hb⟩,hgrow,hcalls⟩:=hev;refine⟨hgrow,?_⟩;intro φ a w K Q hfr rr hops hk;have hgv:=hops g ac;rw[hg] at hgv;generalize hgc:a.eval g=cg at hgv
 cases hgv with|fnm _ _ _ fs cs hl hh hl' hh'=>
 have hrun:(execOp a.eval o).run P w = .ok (.enter f ((fs ++ args.toList.map a.eval ++ cs).toArray)) w:=by
  simp only[execOp,ho,resolve,hgc,Deferred.ofValue,dX,fE,dW,invoke,callFunc,run_program,hf,hn,hb,fD,if_false];simp
 unfold Oper.wp;rw[hrun];refine(hcalls φ w _ hfr rr ?_).mono ?_;refine VRels.append (VRels.append ⟨hl,hh⟩ ⟨by simp,?_⟩) ⟨hl',hh'⟩;intro j x y hx hy;rw[fO,fY] at hx hy;obtain⟨q,hq,rfl⟩:=hx;obtain⟨q',hq',rfl⟩:=hy;rw[hq] at hq'; cases hq';refine hops q ?_;simp[ho,Op.operands,Call.operands];exact .inr (gK (by simpa using hq));rintro e w' ⟨v,φ',rfl,t,r',hv⟩;exact hk φ' v w' t r' hv
section
variable {P:Program} {n:Nat} {ops:Array Oper} {ex:List Nat} {Q:KF→AHeap→Prop} {k:Nat} {os:List Oper} {K:KF} {h:AHeap} {d:Nat} {ty:TypeId} {pos:String} {after:Array Edge}
theorem KOps.makeMeth {f : FuncId} {x : Operand} {v : AV} [hx : EvK h.globs n K x v] (hk : KOps P n ops TXT Q (k + 1) os ((d, .fnm f [v] []) :: K) h) (hlt : jD k 1000000 = false := by rfl) :
    KOps P n ops TXT Q k (⟨some d,.makeFunc (.func f) #[x] #[],ty,pos,after,none⟩::os) K h:=by
 have h1:=Ro (P:=P) (ρ:=KO h.globs n K) (o:=⟨some d,.makeFunc (.func f) #[x] #[],ty,pos,after,none⟩) (h:=h) rfl;simp only[fG,List.map_nil,hx.eq] at h1;exact ZK h1 hk hlt
theorem KOps.callM {f : FuncId} {g : Operand} {first caps : List AV} {l : List Operand} {vs : List AV} {tys : Array TypeId} {R : AV → AHeap → Prop} [hg : EvK h.globs n K g (.fnm f first caps)] [hl : EvKs h.globs n K l vs] (hx : ex.contains k = false)
    (hc:ACalls P f (first ++ vs ++ caps) h R) (hk:∀ r h',R r h'→KOps P n ops ex Q (k+1) os ((d,r)::K) h'):KOps P n ops ex Q k (⟨some d,.call {callee:=.value g,args:=fF l,argTypes:=tys},ty,pos,after,none⟩::os) K h:=by
 obtain⟨r,h',hev,hR⟩:=hc;refine ZB (v:=r) (h':=h') ?_ (fun hc=>by rw[hx] at hc; cases hc) (hk r h' hR);refine Ev.stepM (g:=g) (args:=fF l) (tys:=tys) rfl hg.eq ?_;rw[gQ,hl.eq];exact hev
def CallsV (P:Program) (v:AV) (vs:List AV) (h:AHeap) (R:AV→AHeap→Prop):Prop:=match v with
  | .fn f caps=>ACalls P f (vs ++ caps) h R
  | .fnm f first caps=>ACalls P f (first ++ vs ++ caps) h R
  | _=>False
theorem KOps.callV {g : Operand} {v : AV} {l : List Operand} {vs : List AV} {tys : Array TypeId} {R : AV → AHeap → Prop} [hg : EvK h.globs n K g v] [hl : EvKs h.globs n K l vs] (hx : ex.contains k = false)
    (hc:CallsV P v vs h R) (hk:∀ r h',R r h'→KOps P n ops ex Q (k+1) os ((d,r)::K) h'):KOps P n ops ex Q k (⟨some d,.call {callee:=.value g,args:=fF l,argTypes:=tys},ty,pos,after,none⟩::os) K h:=by
 cases v <;> first|exact Ol hx hc hk|exact KOps.callM hx hc hk|exact hc.elim
end
section
variable {P:Program} {n:Nat} {ops:Array Oper} {Q:KF→AHeap→Prop} {k:Nat} {os:List Oper} {K:KF} {h:AHeap} {d:Nat} {ty:TypeId} {pos:String} {after:Array Edge}
theorem KOps.eqNilm {t t' : TypeId} {x : Operand} {v : AV} {b : Bool} {p : TypeId × TypeId} [hx : EvK h.globs n K x v] (hm : Z8 P t = some p) (hv : v.mapNil = some b) (hk : KOps P n ops TXT Q (k + 1) os ((d, .bool b) :: K) h) (hlt : jD k 1000000 = false := by rfl) :
    KOps P n ops TXT Q k (⟨some d,.binOp .eql t x (.const (.map none)) t',ty,pos,after,none⟩::os) K h:=
  ZK (W6 (op:=.eql) rfl (.inl rfl) hm (by rw[hx.eq]; exact hv) rfl) hk hlt
theorem KOps.neqNilm {t t' : TypeId} {x : Operand} {v : AV} {b : Bool} {p : TypeId × TypeId} [hx : EvK h.globs n K x v] (hm : Z8 P t = some p) (hv : v.mapNil = some b) (hk : KOps P n ops TXT Q (k + 1) os ((d, .bool !b) :: K) h) (hlt : jD k 1000000 = false := by rfl) :
    KOps P n ops TXT Q k (⟨some d,.binOp .neq t x (.const (.map none)) t',ty,pos,after,none⟩::os) K h:=
  ZK (W6 (op:=.neq) rfl (.inr rfl) hm (by rw[hx.eq]; exact hv) rfl) hk hlt
end
section
variable {P:Program} {n:Nat} {ops:Array Oper} {ex:List Nat} {Q:KF→AHeap→Prop} {k:Nat} {os:List Oper} {K:KF} {h:AHeap} {d:Nat} {ty:TypeId} {pos:String} {after:Array Edge}
theorem Ql {x ix : Operand} {p v : AV} {t : TypeId} {m s c : Nat} {kd : IntKind} {i : Int} {j : Nat} [hx : EvK h.globs n K x p] [hi : EvK h.globs n K ix (.int kd i)] [ht : ArT P t m] (ha : AddrOf p v s c) (hj : i = (j : Int)) (hlt : j < m)
    (hk:∀ q,AddrOf q v s (c+j)→KOps P n ops ex Q (k+1) os ((d,q)::K) h):KOps P n ops ex Q k (⟨some d,.indexAddr t x ix,ty,pos,after,none⟩::os) K h:=by
 subst hj;obtain⟨b,o,h1,rfl⟩:=ha;obtain⟨e,he,hs⟩:=ht.arr;refine Kn rfl (v:=.ptr b (o+c+j)) ?_ (hk _ ⟨b,o,h1,by rw[Nat.add_assoc]⟩);simp only[K6,hx.eq,hi.eq,XE,he,hs,fU,fJ];rw[if_pos ⟨by omega,by omega⟩];simp
theorem KOps.buildS1 {t : TypeId} {x0 : Operand} {v0 : AV} [hx0 : EvK h.globs n K x0 v0] {z0 z1 z2 : AV} (hz : QS P t = some (.agg [z0, z1, z2])) (hz1 : [z0, z1, z2].all AV.one = true) (hok : Z6 P t = true) (hp0 : Q0 P t 0 = some (0, 1)) (hov0 : v0.one = true) (hk : KOps P n ops ex Q (k + 1) os ((d, .agg [v0, z1, z2]) :: K) h) :
    KOps P n ops ex Q k (⟨some d,.build t (fF [(0,x0)]),ty,pos,after,none⟩::os) K h:=
  KOps.build (vs:=[v0]) (build_s1 hz hz1 hok hp0 hov0) hk
theorem KOps.buildS3 {t : TypeId} {x0 x1 x2 : Operand} {v0 v1 v2 : AV} [hx0 : EvK h.globs n K x0 v0] [hx1 : EvK h.globs n K x1 v1] [hx2 : EvK h.globs n K x2 v2] {z0 z1 z2 : AV} (hz : QS P t = some (.agg [z0, z1, z2])) (hz1 : [z0, z1, z2].all AV.one = true) (hok : Z6 P t = true) (hp0 : Q0 P t 0 = some (0, 1)) (hp1 : Q0 P t 1 = some (1, 1)) (hp2 : Q0 P t 2 = some (2, 1)) (hov0 : v0.one = true) (hov1 : v1.one = true) (hov2 : v2.one = true) (hk : KOps P n ops ex Q (k + 1) os ((d, .agg [v0, v1, v2]) :: K) h) :
    KOps P n ops ex Q k (⟨some d,.build t (fF [(0,x0),(1,x1),(2,x2)]),ty,pos,after,none⟩::os) K h:=
  KOps.build (vs:=[v0,v1,v2]) (build_s3 hz hz1 hok hp0 hp1 hp2 hov0 hov1 hov2) hk
theorem KOps.buildA1 {t : TypeId} {x0 : Operand} {v00 v01 : AV} [hx0 : EvK h.globs n K x0 (.agg [v00, v01])] {z0 z1 z2 : AV} (hz : QS P t = some (.agg [z0, z1, z2])) (hz1 : [z0, z1, z2].all AV.one = true) (hok : Z6 P t = true) (hp0 : Q0 P t 0 = some (0, 2)) (hov00 : v00.one = true) (hov01 : v01.one = true) (hk : KOps P n ops ex Q (k + 1) os ((d, .agg [v00, v01, z2]) :: K) h) :
    KOps P n ops ex Q k (⟨some d,.build t (fF [(0,x0)]),ty,pos,after,none⟩::os) K h:=
  KOps.build (vs:=[.agg [v00,v01]]) (build_a1 hz hz1 hok hp0 hov00 hov01) hk
end
end Go.Am
namespace Go.Am
theorem AW.region_drawS2 {P : Program} {id c r t a d : Nat} {ops : Array Oper} {l1 l2 : List Oper} {oc : Oper} {ex : List Nat} {sz : Nat} {o : Oper} {Q : Ex → List AV → AHeap → Prop} {fr : List AV} {h : AHeap} (hm : P.follows .mixedOrders = true) (hl : ops.toList = l1 ++ oc :: l2) (hc : l1.length = c + 1)
    (hok:RgOk sz ops ex [(c,r),(c+1,r)]) (hsz:fr.length=sz) (hrc:r<c) (ho:ops[r]? = some o) (hop:o.op = .load t (.tmp a)) (hod:o.dst=some d) (hdz:d<sz) (hno:∀ j (oj:Oper),r≤j→j≤c+1→ops[j]? = some oj→oj.dst≠some a∧(r<j→oj.dst≠some d))
    (hw:Q3 P ops ex (fun fr1 h1=>Qr P h1 t (fr1.getD a .bot)=some (fr1.getD d .bot)∧Q3 P ops ex (fun fr2 h2=>Qr P h2 t (fr2.getD a .bot)=some (fr2.getD d .bot)∧Q3 P ops ex (Q .normal) (c+2) l2 fr2 h2) (c+1) [oc] fr1 h1) 0 l1 fr h):AW P (.region id ops true) Q fr h:=by
 have hsize:ops.size=l1.length+(l2.length+1):=by rw[←gI,hl,gS,jE]
 have g1:∀ i,i<l1.length→l1[i]? = ops[0+i]?:=by
  intro i hi;rw[Nat.zero_add,←fM,hl,gU hi]
 have g3:∀ i,i < [oc].length→[oc][i]? = ops[c+1+i]?:=by
  intro i hi;simp only[fN] at hi;rw[←fM,hl,fQ aA,hc,gC,show i=0 by omega];rfl
 have g2:∀ i,l2[i]? = ops[c+2+i]?:=by
  intro i;rw[←fM,hl,fQ aA,hc,show c+2+i - (c+1)=i+1 by omega];rfl
 obtain⟨ws1,fs1,ks1,a1,a2,⟨hchkA,hKA⟩,hallA⟩:=Yj hok.ntx l1 0 fr h g1 hw;simp only[Nat.zero_add,hc] at hchkA hKA hallA;obtain⟨ws2,fs2,ks2,b1,b2,⟨hchkB,hKB⟩,hallB⟩:=Yj hok.ntx [oc] (c+1) _ _ g3 hKA;simp only[fN] at hchkB hKB hallB;obtain⟨vs1,frs1,hs1,e1,e2,hchk1,hchk,hK1,hall1⟩:∃ (vs:Nat→AV) (frs:Nat→List AV) (hs:Nat→AHeap),frs 0=fr∧hs 0=h∧Qr P (hs (c+1)) t ((frs (c+1)).getD a .bot)=some ((frs (c+1)).getD d .bot)∧Qr P (hs (c+2)) t ((frs (c+2)).getD a .bot)=some ((frs (c+2)).getD d .bot)∧Q3 P ops ex (Q .normal) (c+2) l2 (frs (c+2)) (hs (c+2))∧∀ i o,0≤i→i<c+2→ops[i]? = some o→TS P ops ex i o (frs i) (hs i) (vs i) (frs (i+1)) (hs (i+1)):=by
  refine⟨fun i=>if i≤c then ws1 i else ws2 i,fun i=>if i≤c then fs1 i else fs2 i,fun i=>if i≤c then ks1 i else ks2 i,by simp[a1],by simp[a2],?_,?_,?_,?_⟩;simp only[if_neg (show¬ c+1≤c by omega),b1,b2]; exact hchkA;simp only[if_neg (show¬ c+2≤c by omega)]; exact hchkB;simp only[if_neg (show¬ c+2≤c by omega)]; exact hKB;intro i oi _ hi hoi;by_cases h1:i≤c;have ht:=hallA i oi (gO _) aA hoi;by_cases h2:i+1≤c;simp only[if_pos h1,if_pos h2]; exact ht;have h3:i=c:=by omega
  subst h3;simp only[if_pos h1,if_neg h2,b1,b2];exact ht;simp only[if_neg h1,if_neg (show¬ i+1≤c by omega)];exact hallB i oi aA aA hoi
 obtain⟨vs2,frs2,hs2,e3,e4,hK2,hall2⟩:=Vz hok.ntx l2 (c+2) _ _ g2 hK1;have hlen:∀ i,i≤c+2→(frs1 i).length=sz:=by
  intro i
  induction i with
  | zero=>intro _; rw[e1]; exact hsz
  | succ i ih=>
   intro hi;have ht:=hall1 i _ (gO _) aA (fR aA);rw[ht.1];unfold QO;split;rw[gD]; exact ih aA;exact ih aA
 have hget:∀ (l:List AV) (dst:Option Tmp) (v:AV) (x:Nat),dst≠some x→(QO l dst v).getD x .bot=l.getD x .bot:=by
  intro l dst v x hx;unfold QO;split;rename_i y;rw[dZ,dZ,List.getElem?_set_ne (by rintro rfl; exact hx rfl)];rfl
 have ha:∀ j,r≤j→j≤c+2→(frs1 j).getD a .bot=(frs1 r).getD a .bot:=by
  intro j h1
  induction j with
  | zero=>intro _; rw[show r=0 by omega]
  | succ j ih=>
   intro h2;rcases gT h1 with h3|h3
   have ho2:=fR (xs:=ops) (i:=j) aA;have ht:=hall1 j _ (gO _) aA ho2;rw[ht.1,hget _ _ _ _ (hno j _ aA aA ho2).1,ih aA aA];rw[←h3]
 have hd:∀ j,r<j→j≤c+2→(frs1 j).getD d .bot=vs1 r:=by
  intro j h1
  induction j with
  | zero=>omega
  | succ j ih=>
   intro h2;have ho2:=fR (xs:=ops) (i:=j) aA;have ht:=hall1 j _ (gO _) aA ho2;rw[ht.1];by_cases hj:j=r;subst hj;rw[ho2] at ho;cases ho;rw[hod];simp only[QO];rw[dZ,List.getElem?_set_self (by rw[hlen j aA]; exact hdz)];rfl;rw[hget _ _ _ _ ((hno j _ aA aA ho2).2 aA)];exact ih aA aA
 refine AW.region_run hm hok hsz (vs:=fun i=>if i≤c+1 then vs1 i else vs2 i) (frs:=fun i=>if i≤c+1 then frs1 i else frs2 i) (hs:=fun i=>if i≤c+1 then hs1 i else hs2 i) (by simp[e1]) (by simp[e2]) ?_ ?_ ?_ (by
  intro c' j' o' hcr _ ho' hcl;have hcr':(c'=c∧j'=r)∨(c'=c+1∧j'=r):=by simpa using hcr
  rcases hcr' with ⟨rfl,rfl⟩|⟨rfl,rfl⟩ <;>
  ·rw[ho] at ho';cases ho';rw[hop] at hcl
   cases hcl)
 simp only[if_neg (show¬ ops.size≤c+1 by omega)];rw[show ops.size=c+2+l2.length by omega];exact hK2;intro i oi hi hoi;by_cases h1:i≤c+1;have ht:=hall1 i oi (gO _) aA hoi;by_cases h2:i+1≤c+1;simp only[if_pos h1,if_pos h2]; exact ht;have h3:i=c+1:=by omega
 subst h3;simp only[if_pos h1,if_neg h2,e3,e4];exact ht;simp only[if_neg h1,if_neg (show¬ i+1≤c+1 by omega)];exact hall2 i oi aA aA hoi;intro c' r' o' hcr _ ho' _;have hcr':(c'=c∧r'=r)∨(c'=c+1∧r'=r):=by simpa using hcr
 rcases hcr' with ⟨rfl,rfl⟩|⟨rfl,rfl⟩
 rw[ho] at ho';cases ho';rw[if_pos (show r'<c' by omega)];simp only[if_pos (show c'+1≤c'+1 by omega),if_pos (show r'≤c'+1 by omega)];rw[hop];show Qr P _ t ((frs1 r').getD a .bot)=_;rw[←ha (c'+1) aA aA,←hd (c'+1) aA aA];exact hchk1;rw[ho] at ho';cases ho';rw[if_pos (show r'<c+1 by omega)];simp only[if_neg (show¬ c+1+1≤c+1 by omega),if_pos (show r'≤c+1 by omega),e4];rw[hop];show Qr P _ t ((frs1 r').getD a .bot)=_;rw[←ha (c+2) aA (gH _),←hd (c+2) aA (gH _)];exact hchk
section drawS
variable {P:Program} {n:Nat} {Q:Ex→KF→AHeap→Prop} {K:KF} {h:AHeap}
theorem KA.drawS2 {id c r t a d : Nat} {ops : Array Oper} {l1 l2 : List Oper} {oc o : Oper} (ex : List Nat) (hm : P.follows .mixedOrders = true) (hl1 : ops.toList.take (c + 1) = l1) (hl2 : ops.toList.drop (c + 1) = oc :: l2) (hc : l1.length = c + 1) (hok : rgOk n ops.toList ex [(c, r), (c + 1, r)] = true) (ho : ops[r]? = some o) (hop : o.op = .load t (.tmp a)) (hod : o.dst = some d) (hdz : d < n) (hrc : r < c)
    (hno:((List.range' r (c+2 - r)).all fun j=>match ops[j]? with|some oj=>oj.dst != some a && (j == r || oj.dst != some d)|none=>true)=true)
    (hw:KOps P n ops ex (fun K1 h1=>Qr P h1 t ((KR n K1).getD a .bot)=some ((KR n K1).getD d .bot)∧KOps P n ops ex (fun K2 h2=>Qr P h2 t ((KR n K2).getD a .bot)=some ((KR n K2).getD d .bot)∧KOps P n ops ex (Q .normal) (c+2) l2 K2 h2) (c+1) [oc] K1 h1) 0 l1 K h):KA P n (.region id ops true) Q K h:=by
 refine AW.region_drawS2 (c:=c) (r:=r) (t:=t) (a:=a) (d:=d) (l1:=l1) (oc:=oc) (l2:=l2) hm (by rw[←hl1,←hl2,List.take_append_drop]) hc (Y8 rfl hok) (QM n K) hrc ho hop hod hdz ?_ ?_;intro j oj h1 h2 hj;have:=List.all_eq_true.1 hno j (List.mem_range'_1.2 ⟨h1,by omega⟩);simp only[hj,Bool.and_eq_true,bne_iff_ne,Bool.or_eq_true,beq_iff_eq] at this;exact⟨this.1,fun h3=>this.2.resolve_left aA⟩;refine Xv ?_ _ _ _ _ hw;rintro fr1 h1 ⟨K1,rfl,hchk,hrest⟩;refine⟨hchk,Xv ?_ _ _ _ _ hrest⟩;rintro fr2 h2 ⟨K2,rfl,hchk2,hrest2⟩;exact⟨hchk2,hrest2⟩
end drawS
section drawS2
variable {P:Program} {n:Nat} {ops:Array Oper} {ex:List Nat} {k:Nat} {K:KF} {h:AHeap}
theorem Xe {t a d s j : Nat} {R : KF → AHeap → Prop} {p v y : AV} {xs : List AV} [hla : Look K a p] [hld : Look K d y] [ht : ScT P t] (hna : Nat.ble n a = false) (hnd : Nat.ble n d = false) (ha : AddrOf p v s j) (hr : Rd h v s xs) (hy : xs[j]? = some y) (hrest : R K h) :
    KOps P n ops ex (fun K1 h1=>Qr P h1 t ((KR n K1).getD a .bot)=some ((KR n K1).getD d .bot)∧R K1 h1) k [] K h:=by
 refine Og ⟨?_,hrest⟩;rw[Zd,Zd,hna,hnd,cond_false,cond_false,hla.eq,hld.eq];exact hr.load ha hy
end drawS2
end Go.Am
namespace Go.Am
open Go.RowKit
abbrev mwalkO (v:AV) (bm n:Nat) (D:List Nat):Obj:=⟨v,0,Thing.enc (.mwalk bm n D),false⟩
theorem Mu.mwalk {lo:Nat} {h:AHeap} {F:Option Nat} {v:AV} {bm n:Nat} {D:List Nat} (hv:IsIt v) (hm:Mu lo h F (mwalkO v bm n D)):∃ b G f,F=some G∧lo≤b∧v = .it b∧h.get b=some (.obj G (.mwalk bm n D))∧h.fam G=some f:=by
 obtain⟨b0,rfl⟩:=hv
 cases F with
 | none=>cases hm.1
 | some G=>
  rcases hm with ⟨b,off,p,cs,f,_,hw,_⟩|⟨b,x,f,h1,h2,h3,h4,h5,h6⟩
  rcases hw with ⟨_,_,hw,_⟩|⟨_,hw⟩ <;> cases hw
  ·cases x with
   | map es'=>cases h2
   | dmap es'=>cases h2
   | walk _ _=>simp[Thing.enc] at h6
   | gone=>simp[Thing.enc] at h6
   | mwalk bm' n' D'=>
    simp only[Thing.at,AV.it.injEq] at h2;subst h2;simp only[Thing.enc,List.cons.injEq,AV.mp.injEq,AV.int.injEq,AV.tup.injEq,and_true,true_and] at h6;obtain⟨e1,e2,e3⟩:=h6;have e3:D'=D:=by
     refine(List.map_inj_right (f:=fun i:Nat=>AV.int .i64 (i:Int)) ?_).1 ?_;intro x y hxy; simp only[AV.int.injEq,true_and] at hxy; omega
     first|exact e3|exact e3.symm
    have e2:n'=n:=by omega
    subst e1 e2 e3;exact⟨b0,G,f,rfl,h1,rfl,h4,h5⟩
end Go.Am
namespace Go.Am
inductive PartsAt (P:Program) (t:TypeId) (n:Nat):List (Nat × AV)→List (Nat × List AV)→Prop where
  | nil:PartsAt P t n [] []
  | cons {i off s:Nat} {v:AV} {l:List AV} {ps:List (Nat × AV)} {qs:List (Nat × List AV)} (hp:Q0 P t i=some (off,s)) (hc:v.cells? = some l) (hl:l.length=s) (hn:off+s≤n) (h:PartsAt P t n ps qs):PartsAt P t n ((i,v)::ps) ((off,l)::qs)
theorem cells_agg {l:List AV} (h:l.all AV.one=true):(AV.agg l).cells? = some l:=by simp only[AV.cells?]; rw[if_pos h]
theorem putL_len2 {α:Type} {cs l:List α} {o:Nat} (h:o+l.length≤cs.length):(putL cs o l).length=cs.length:=by
 simp only[putL,gS,gB,jI]; omega
theorem PartsAt.fill {P:Program} {t:TypeId} {n:Nat} {ps:List (Nat × AV)} {qs:List (Nat × List AV)} (h:PartsAt P t n ps qs):∀ {cs:List AV},cs.length=n→XD (Q0 P t) cs ps=some (qs.foldl (fun cs q=>putL cs q.1 q.2) cs):=by
 induction h with
 | nil=>intro cs _; rfl
 | cons hp hc hl hn _ ih=>
  intro cs hcs;simp only[XD,hp,hc];rw[if_pos ⟨hl,by omega⟩];exact ih (by rw[putL_len2 aA]; exact hcs)
section
variable {P:Program} {n:Nat} {ops:Array Oper} {ex:List Nat} {Q:KF→AHeap→Prop} {k:Nat} {os:List Oper} {K:KF} {h0 h:AHeap} {objs:List Obj} {d:Nat} {ty:TypeId} {pos:String} {after:Array Edge}
theorem Kc {t : TypeId} {l : List (Nat × Operand)} {vs zs cs : List AV} {qs : List (Nat × List AV)} [hl : EvKp h.globs n K l vs] (hz : QS P t = some (.agg zs)) (hz1 : zs.all AV.one = true) (hok : Z6 P t = true) (hp : PartsAt P t zs.length ((l.map (·.1)).zip vs) qs)
    (he:qs.foldl (fun cs q=>putL cs q.1 q.2) zs=cs) (hk:KOps P n ops ex Q (k+1) os ((d,.agg cs)::K) h) :
    KOps P n ops ex Q k (⟨some d,.build t (fF l),ty,pos,after,none⟩::os) K h:=by
 refine KOps.build (vs:=vs) (v:=.agg cs) ?_ hk;simp only[Xt,hz,cells_agg hz1,hok,if_true,fU,fJ,hp.fill rfl,he]
end
theorem St.pickF {h0 h:AHeap} {A A' F:List Obj} (k:Nat) (σ:List Nat) (hk:A.length=k) (hn : σ.Nodup) (hlt:∀ i∈σ,i<k) (he : σ.map (fun i=>A[i]?)=A'.map some) (st:St h0 h (A ++ F)):St h0 h (A' ++ F):=by
 have hp:St h0 h (F ++ A'):=by
  have h1:St h0 h (F ++ A):=st.rot;refine h1.pick ((fB F.length) ++ σ.map (· + F.length)) ?_ ?_;refine List.nodup_append.2 ⟨jO,?_,?_⟩;exact(List.pairwise_map.2 (hn.imp fun h e=>h aA));intro a ha b hb;have:=fT.1 ha;obtain⟨c,_,rfl⟩:=fZ.1 hb;omega;rw[jB,jB];congr 1;refine List.ext_getElem? fun i=>?_
  simp only[fO];by_cases hi:i<F.length;rw[dY ah,dY hi];simp[gU hi,dY hi];rw[fP ah,fP aA]; rfl;rw[List.map_map,←he];refine List.map_congr_left fun i _=>?_
  show(F ++ A)[i+F.length]? = A[i]?;rw[fQ aA,Nat.add_sub_cancel]
 exact hp.rot
end Go.Am
namespace Go.Am
theorem Rn {P:Program} {ρ:Operand→AV} {o:Oper} {h:AHeap} {t:TypeId} (ho:o.op = .makeMap t none):Qa P ρ o h (.mp h.next) (h.allocT (.dmap [])):=by
 refine⟨HGrow.allocT _ _,?_⟩;intro φ a w K Q hfr r _ hk;have hφ : φ h.next=none:=hfr h.next (gH _) ax;obtain⟨r',tr⟩:=r.allocT hφ (.dmap []) (.map #[] 0) (fun φ' w' _ hw=>⟨#[],0,hw,rfl,by simp⟩);have hrun:(execOp a.eval o).run P w = .ok (.value (.map (some w.heap.size))) (w.alloc (.map #[] 0)):=by
  simp[execOp,ho,Instr.makeMap]
 exact Kr hrun (hk _ _ _ tr r' (.mp _ _ _ _ (Emb.upd_same _ _ _)))
def J4 (h : AHeap) : AV → Option (List (AV × AV))
  | .nilm=>some []
  | .mp b=>match h.get b with
    | some (.obj _ (.dmap es))=>some es
    | _=>none
  | _=>none
def UR (P:Program) (h:AHeap) (t:TypeId) (x key:AV) (ok:Bool):Option AV:=
  match Z8 P t,J4 h x with
  | some (kt,et),some es=>if Zv P kt key=true then
      match Zo P kt key es,QS P et with
      | some r,some z=>some (match r with
        | some (_,v)=>if ok then .tup [v,.bool true] else v
        | none=>if ok then .tup [z,.bool false] else z)
      | _,_=>none
    else none
  | _,_=>none
theorem RX {P:Program} {ρ:Operand→AV} {o:Oper} {h:AHeap} {t:TypeId} {x ix:Operand} {ok:Bool} {v:AV} (ho:o.op = .lookup t x ix ok) (hs:UR P h t (ρ x) (ρ ix) ok=some v):ReadS P ρ o h v:=by
 intro φ w ev r hops;unfold UR at hs;split at hs
 ·rename_i kt et es hm hes;split at hs
  ·rename_i hkey;split at hs
   ·rename_i fr z hf hz;simp only[fL] at hs;subst hs;have hx:=hops x aR;have hi:=hops ix aR;obtain⟨i,zv,hzi,hzv,hzr⟩:=QV hz;have hzrun:(zeroValue et).run P w = .ok zv w:=by simp[zeroValue,typeInfo,hzi,hzv]
    have hu:=ZT hm
    obtain ⟨ms, hlen, hrel, hget⟩ : ∃ ms : Array MapEntry, es.length = ms.toList.length ∧ (∀ (j : Nat) y m, es[j]? = some y → ms.toList[j]? = some m → VRel φ y.1 m.key ∧ VRel φ y.2 m.val) ∧
        ((ev x = .map none∧ms = #[])∨∃ k n,ev x = .map (some k)∧w.heap[k]? = some (.map ms n)):=by
      unfold J4 at hes;split at hes
      · rename_i hρ;cases hes;rw[hρ] at hx;generalize hq:ev x=q at hx;cases hx;exact⟨#[],rfl,by simp,.inl ⟨rfl,rfl⟩⟩
      · rename_i b hρ;rw[hρ] at hx;generalize hq:ev x=q at hx;cases hx;rename_i k i' z' hφ;split at hes
        · rename_i F es' hg;cases hes;obtain⟨ms,n,h1,h2,h3⟩:=r.blk b k i' z' _ hφ hg aY;exact⟨ms,by simpa using h2,fun j y m hy hm=>h3 j y m hy ak,.inr ⟨k,n,rfl,h1⟩⟩
        · cases hes
      · cases hes
    obtain⟨cr,h1,h2,h3⟩:=Xg (P:=P) hkey hi w es ms.toList fr hlen hrel hf;have hck:=ZY (P:=P) hkey hi ms.isEmpty w;have hrun:∀ (c:Value) (b:Bool),(match cr with|some (_,v)=>(v,true)|none=>(zv,false))=(c,b)→(gV t (ev x) (ev ix) ok).run P w = .ok (if ok then .tuple #[c,.bool b] else c) w:=by
     intro c b hcb;rcases hget with ⟨hq,rfl⟩|⟨k,n,hq,hw⟩
     ·have hcr:cr=none:=by
       cases cr with
       | none=>rfl
       | some p=>
        cases fr with
        | none=>exact h2 rfl
        | some p'=>obtain⟨_,_,_,_,h4,_⟩:=h3 p'.1 p'.2 rfl; simp at h4
      subst hcr;cases hcb;simp only[gV,dX,run_underlying hu,dW,hq,fE,hck,h1,hzrun]
     ·simp only[gV,dX,run_underlying hu,dW,hq,fA hw,fE,hck,h1]
      cases cr with
      | none=>cases hcb; simp only[dX,hzrun,dW,fE]
      | some p=>obtain⟨p1,p2⟩:=p; cases hcb; simp only[dX,fE,dW]
    cases fr with
    | none=>
     have hcr:=h2 rfl;subst hcr;have hrun:=hrun zv false rfl;have hop:(execOp ev o).run P w = .ok (.value (if ok then .tuple #[zv,.bool false] else zv)) w:=by simp only[execOp,ho,dX,hrun,dW,fE]
     refine⟨_,hop,?_⟩
     cases ok with
     | true=>exact VK (hzr φ) false
     | false=>exact hzr φ
    | some p=>
     obtain⟨i',v'⟩:=p;obtain⟨cv,m,rfl,h5,_,_,_⟩:=h3 i' v' rfl;have hrun:=hrun cv true rfl;have hop:(execOp ev o).run P w = .ok (.value (if ok then .tuple #[cv,.bool true] else cv)) w:=by simp only[execOp,ho,dX,hrun,dW,fE]
     refine⟨_,hop,?_⟩
     cases ok with
     | true=>exact VK h5 true
     | false=>exact h5
   cases hs
  cases hs
 cases hs
def aputD (P:Program) (h:AHeap) (t:TypeId) (x key val:AV):Option AHeap:=
  match Z8 P t,x with
  | some (kt,_),.mp b=>match h.get b with
    | some (.obj F (.dmap es))=>if Zv P kt key=true then
        (Zo P kt key es).map fun r=>h.set b (.obj F (.dmap (match r with|some (i,_)=>es.set i (key,val)|none=>es ++ [(key,val)])))
      else none
    | _=>none
  | _,_=>none
theorem U8 {P:Program} {ρ:Operand→AV} {o:Oper} {h h':AHeap} {t:TypeId} {x ix y:Operand} (ho:o.op = .mapUpdate t x ix y) (hs:aputD P h t (ρ x) (ρ ix) (ρ y)=some h'):Qa P ρ o h (.tup []) h':=by
 unfold aputD at hs;split at hs
 ·rename_i kt et b hm hρ;split at hs
  ·rename_i F es hg;split at hs
   ·rename_i hkey;simp only[fY] at hs;obtain⟨fr,hf,rfl⟩:=hs;refine⟨HGrow.setT hg,?_⟩;intro φ a w K Q hfr r hops hk;have hx:=hops x aR;have hi:=hops ix aR;have hy:=hops y aR;have hu:=ZT hm;rw[hρ] at hx;generalize hq:a.eval x=q at hx;cases hx;rename_i k i' z' hφ;obtain⟨ms,cl,h1,h2,h3⟩:=r.blk b k i' z' _ hφ hg aY;obtain⟨cr,g1,g2,g3⟩:=Xg (P:=P) hkey hi w es ms.toList fr bC (fun j y m hy hm=>h3 j y m hy ak) hf;have hck:=ZY (P:=P) hkey hi false w;have hst:=JL (P:=P) hkey hi w
    cases fr with
    | none=>
     have hcr:=g2 rfl;subst hcr;have hrun:(gA t (a.eval x) (a.eval ix) (a.eval y)).run P w = .ok () (QY w k (.map (ms.push {key:=a.eval ix,val:=a.eval y,born:=cl}) (cl+1))):=by
      simp only[gA,dX,run_underlying hu,dW,hq,fA h1,hck,g1,fC _ h1];rfl
     have hop:(execOp a.eval o).run P w = .ok .skip (QY w k (.map (ms.push {key:=a.eval ix,val:=a.eval y,born:=cl}) (cl+1))):=by simp only[execOp,ho,dX,hrun,dW,fE]
     obtain⟨r',tr⟩:=r.setT hφ hg (.dmap (es ++ [(ρ ix,ρ y)])) (.map (ms.push {key:=a.eval ix,val:=a.eval y,born:=cl}) (cl+1)) (by
      intro w' hw';refine⟨ms.push {key:=a.eval ix,val:=a.eval y,born:=cl},cl+1,hw',by simp[h2],?_⟩;intro j p m hp hm;rw[List.getElem?_append] at hp;rw[Array.getElem?_push] at hm;split at hp;rename_i hj;rw[if_neg aA] at hm;exact h3 j p m hp hm;rename_i hj;have hj0:j=ms.size:=by
       have:=(fI.1 hp).1;simp at this; omega
      rw[if_pos hj0] at hm;cases hm;rw[show j - es.length=0 by omega] at hp;cases hp;exact⟨hi,hy⟩)
     exact XP hop (hk φ _ _ tr r' (VRel.undef φ))
    | some p=>
     obtain⟨i,v⟩:=p;obtain⟨cv,m,rfl,g5,g6,g7,g8⟩:=g3 i v rfl;have hmi:ms[i]? = some m:=by simpa using g6
     have hrun:(gA t (a.eval x) (a.eval ix) (a.eval y)).run P w = .ok () (QY w k (.map (ms.modify i fun e=>{e with key:=a.eval ix,val:=a.eval y}) cl)):=by
      simp only[gA,dX,run_underlying hu,dW,hq,fA h1,hck,g1,hmi,fK,Option.getD_some,g7,hst,fC _ h1];rfl
     have hop:(execOp a.eval o).run P w = .ok .skip (QY w k (.map (ms.modify i fun e=>{e with key:=a.eval ix,val:=a.eval y}) cl)):=by simp only[execOp,ho,dX,hrun,dW,fE]
     obtain⟨r',tr⟩:=r.setT hφ hg (.dmap (es.set i (ρ ix,ρ y))) (.map (ms.modify i fun e=>{e with key:=a.eval ix,val:=a.eval y}) cl) (by
      intro w' hw';refine⟨ms.modify i fun e=>{e with key:=a.eval ix,val:=a.eval y},cl,hw',by simp[h2],?_⟩;intro j p m' hp hm;rw[gX] at hp;rw[Array.getElem?_modify] at hm;by_cases hij:i=j;subst hij;rw[if_pos rfl] at hp hm;rw[hmi] at hm;cases hm;split at hp;cases hp;exact⟨hi,hy⟩;cases hp;rw[if_neg hij] at hp hm;exact h3 j p m' hp hm)
     exact XP hop (hk φ _ _ tr r' (VRel.undef φ))
   cases hs
  cases hs
 cases hs
theorem RZ {P : Program} {ρ : Operand → AV} {o : Oper} {h : AHeap} {t : TypeId} {p : TypeId × TypeId} {x : Operand} {es : List (AV × AV)} (ho : o.op = .call { callee := .builtin .len, args := #[x], argTypes := #[t] })
    (hm:Z8 P t=some p) (hs:J4 h (ρ x)=some es):Qa P ρ o h (.int .i64 es.length) h:=by
 refine⟨HGrow.refl _,?_⟩;intro φ a w K Q hfr r hops hk;have hx:=hops x ac;have hu:=ZT hm;have hrun:(gW #[t] o.type #[a.eval x]).run P w = .ok (.int .i64 es.length) w:=by
  unfold J4 at hs;split at hs;rename_i hρ;cases hs;rw[hρ] at hx;generalize hq:a.eval x=q at hx;cases hx;simp[gW,run_underlying hu,goInt];rename_i b hρ;rw[hρ] at hx;generalize hq:a.eval x=q at hx;cases hx;rename_i k i' z' hφ;split at hs;rename_i F es' hg;cases hs;obtain⟨ms,n,h1,h2,h3⟩:=r.blk b k i' z' _ hφ hg aY;simp[gW,run_underlying hu,goInt,fA h1,h2];cases hs;cases hs
 have hop:(execOp a.eval o).run P w = .ok (.value (.int .i64 es.length)) w:=by
  simp[execOp,ho,resolve,invoke,builtin,hrun]
 exact Kr hop (hk φ _ w (Trans.refl _ _ _) r (.int _ _))
def U0 (es : List (AV × AV)) : Option (Nat × AV) → List (AV × AV)
  | some (i,_)=>es.eraseIdx i
  | none=>es
theorem WE {P : Program} {ρ : Operand → AV} {o : Oper} {h : AHeap} {t t' : TypeId} {p : TypeId × TypeId} {x ix : Operand} {b F : Nat} {es : List (AV × AV)} {fr : Option (Nat × AV)} (ho : o.op = .call { callee := .builtin .delete, args := #[x, ix], argTypes := #[t, t'] })
    (hm:Z8 P t=some p) (hρ : ρ x = .mp b) (hg:h.get b=some (.obj F (.dmap es))) (hkey:Zv P p.1 (ρ ix)=true) (hf:Zo P p.1 (ρ ix) es=some fr) :
    Qa P ρ o h (.tup []) (h.set b (.obj F (.dmap (U0 es fr)))):=by
 refine⟨HGrow.setT hg,?_⟩;intro φ a w K Q hfr r hops hk;have hx:=hops x ac;have hi:=hops ix ac;have hu:=ZT hm;rw[hρ] at hx;generalize hq:a.eval x=q at hx;cases hx;rename_i k i' z' hφ;obtain⟨ms,cl,h1,h2,h3⟩:=r.blk b k i' z' _ hφ hg aY;obtain⟨cr,g1,g2,g3⟩:=Xg (P:=P) hkey hi w es ms.toList fr bC (fun j y m hy hm=>h3 j y m hy ak) hf;have hck:=ZY (P:=P) hkey hi ms.isEmpty w
 cases fr with
 | none=>
  have hcr:=g2 rfl;subst hcr;have hrun:(gE #[t,t'] o.type #[a.eval x,a.eval ix]).run P w = .ok (.tuple #[]) (QY w k (.map ms cl)):=by
   simp only[gE,dX,run_underlying hu,dW,fX,fV,fW,hq,fA h1,hck,g1,fC _ h1];rfl
  have hop:(execOp a.eval o).run P w = .ok (.value (.tuple #[])) (QY w k (.map ms cl)):=by
   simp[execOp,ho,resolve,invoke,builtin,hrun]
  obtain⟨r',tr⟩:=r.setT hφ hg (.dmap es) (.map ms cl) (fun w' hw'=>⟨ms,cl,hw',h2,h3⟩);exact Kr hop (hk φ _ _ tr r' (VRel.undef φ))
 | some p=>
  obtain⟨i,v⟩:=p;obtain⟨cv,m,rfl,g5,g6,g7,g8⟩:=g3 i v rfl;have hrun:(gE #[t,t'] o.type #[a.eval x,a.eval ix]).run P w = .ok (.tuple #[]) (QY w k (.map (ms.eraseIdxIfInBounds i) cl)):=by
   simp only[gE,dX,run_underlying hu,dW,fX,fV,fW,hq,fA h1,hck,g1,fC _ h1];rfl
  have hop:(execOp a.eval o).run P w = .ok (.value (.tuple #[])) (QY w k (.map (ms.eraseIdxIfInBounds i) cl)):=by
   simp[execOp,ho,resolve,invoke,builtin,hrun]
  obtain⟨r',tr⟩:=r.setT hφ hg (.dmap (es.eraseIdx i)) (.map (ms.eraseIdxIfInBounds i) cl) (by
   intro w' hw';have hlt:i<ms.toList.length:=(fI.1 g6).1;have hlt':i<ms.size:=by simpa using hlt
   have htl:(ms.eraseIdxIfInBounds i).toList=ms.toList.eraseIdx i:=by
    unfold Array.eraseIdxIfInBounds;rw[dif_pos hlt'];exact Array.toList_eraseIdx
   have hsz:(ms.eraseIdxIfInBounds i).size=ms.size - 1:=by
    rw[←gI,htl,gL,if_pos hlt];simp
   refine⟨ms.eraseIdxIfInBounds i,cl,hw',?_,?_⟩;rw[hsz,gL,if_pos aA,h2];intro j y m' hy hm;rw[←fM,htl,gJ] at hm;rw[gJ] at hy;split at hy;rename_i hj; rw[if_pos hj] at hm; exact h3 j y m' hy ak;rename_i hj; rw[if_neg hj] at hm; exact h3 (j+1) y m' hy ak)
  exact Kr hop (hk φ _ _ tr r' (VRel.undef φ))
theorem Rp {P : Program} {ρ : Operand → AV} {o : Oper} {h : AHeap} {t : TypeId} {p : TypeId × TypeId} {x : Operand} {b F : Nat} {es : List (AV × AV)} (ho : o.op = .call { callee := .builtin .clear, args := #[x], argTypes := #[t] })
    (hm:Z8 P t=some p) (hρ : ρ x = .mp b) (hg:h.get b=some (.obj F (.dmap es))):Qa P ρ o h (.tup []) (h.set b (.obj F (.dmap []))):=by
 refine⟨HGrow.setT hg,?_⟩;intro φ a w K Q hfr r hops hk;have hx:=hops x ac;have hu:=ZT hm;rw[hρ] at hx;generalize hq:a.eval x=q at hx;cases hx;rename_i k i' z' hφ;obtain⟨ms,cl,h1,h2,h3⟩:=r.blk b k i' z' _ hφ hg aY;have hrun:(jF #[t] o.type #[a.eval x]).run P w = .ok (.tuple #[]) (QY w k (.map #[] cl)):=by
  simp only[jF,dX,run_underlying hu,dW,fX,fV,fW,hq,fA h1,fC _ h1];rfl
 have hop:(execOp a.eval o).run P w = .ok (.value (.tuple #[])) (QY w k (.map #[] cl)):=by
  simp[execOp,ho,resolve,invoke,builtin,hrun]
 obtain⟨r',tr⟩:=r.setT hφ hg (.dmap []) (.map #[] cl) (fun w' hw'=>⟨#[],cl,hw',rfl,by simp⟩);exact Kr hop (hk φ _ _ tr r' (VRel.undef φ))
abbrev dmapO (v:AV) (es:List (AV × AV)):Obj:=⟨v,0,Thing.enc (.dmap es),false⟩
def RdD (h:AHeap) (v:AV) (es:List (AV × AV)):Prop:=∃ b F,v = .mp b∧h.get b=some (.obj F (.dmap es))
theorem RdD.ext {h0 h:AHeap} (k:Keeps h0 h) {v:AV} {es:List (AV × AV)} (hr:RdD h0 v es):RdD h v es:=let⟨b,F,hv,hg⟩:=hr; ⟨b,F,hv,k.get_some hg⟩
theorem RP {es es':List (AV × AV)} (h:Thing.enc (.dmap es)=Thing.enc (.dmap es')):es=es':=by
 simp only[Thing.enc,List.cons.injEq,true_and] at h;exact Un h
theorem Mu.dmap {lo:Nat} {h:AHeap} {F:Option Nat} {v:AV} {es:List (AV × AV)} (hv:Zq v) (hm:Mu lo h F (dmapO v es)):∃ b G f,F=some G∧lo≤b∧v = .mp b∧h.get b=some (.obj G (.dmap es))∧h.fam G=some f:=by
 obtain⟨b0,rfl⟩:=hv
 cases F with
 | none=>cases hm.1
 | some G=>
  rcases hm with ⟨b,off,p,cs,f,_,hw,_⟩|⟨b,x,f,h1,h2,h3,h4,h5,h6⟩
  rcases hw with ⟨_,_,hw,_⟩|⟨_,hw⟩ <;> cases hw
  ·cases x with
   | walk s pos=>cases h2
   | mwalk _ _ _=>cases h2
   | gone=>cases h2
   | map es'=>cases es' <;> simp[Thing.enc] at h6
   | dmap es'=>
    simp only[Thing.at,AV.mp.injEq] at h2;subst h2;have:=RP h6;subst this;exact⟨b0,G,f,rfl,h1,rfl,h4,h5⟩
theorem St.rdD {h0 h:AHeap} {objs:List Obj} (st:St h0 h objs) (k:Nat) {v:AV} {es:List (AV × AV)} (hk:objs[k]? = some (dmapO v es)) (hv:Zq v):RdD h v es:=by
 obtain⟨_,fs,h1,h2,_⟩:=st;have hlt:k<fs.length:=by rw[h1]; exact(fI.1 hk).1
 obtain⟨b,G,f,_,_,h3,h4,_⟩:=(h2 k _ _ hk (dY hlt)).dmap hv;exact⟨b,G,h3,h4⟩
theorem RdD.ents {h:AHeap} {v:AV} {es:List (AV × AV)} (hr:RdD h v es):J4 h v=some es:=by
 obtain⟨b,F,rfl,hg⟩:=hr;simp only[J4,hg]
theorem St.setD {h0 h:AHeap} {objs:List Obj} (st:St h0 h objs) {i b G:Nat} {es es':List (AV × AV)} (hk:objs[i]? = some (dmapO (.mp b) es)) (hg:h.get b=some (.obj G (.dmap es))):St h0 (h.set b (.obj G (.dmap es'))) (objs.set i (dmapO (.mp b) es')):=by
 refine St.setT (x:=.dmap es) (x':=.dmap es') st hk (fun _=>rfl) rfl hg ?_;intro F hm;obtain⟨b',G',f,hF,hlo,hb',hg',hf⟩:=hm.dmap ⟨b,rfl⟩;cases hb';rw[hg] at hg'; cases hg';exact⟨hF,hlo,f,hf⟩
section maps
variable {κ ν:Type} [DecidableEq κ]
def XQ : List (κ × ν) → κ → List (κ × ν)
  | [],_=>[]
  | p::l,a=>if a=p.1 then l else p::XQ l a
theorem mdel_ent {P : Program} {kt : TypeId} {kf : κ → AV} {vf : ν → AV} [hk : KeyT P kt kf] (l : List (κ × ν)) (a : κ) :
    ∃ r,Zo P kt (kf a) (entL kf vf l)=some r∧U0 (entL kf vf l) r=entL kf vf (XQ l a):=by
 induction l with
 | nil=>exact⟨none,rfl,rfl⟩
 | cons p l ih=>
  obtain⟨r,h1,h3⟩:=ih;by_cases h:a=p.1;refine⟨some (0,vf p.2),?_,?_⟩;simp only[entL,fG,Zo,hk.eq,h,decide_true];simp[XQ,h,U0]
  ·refine⟨r.map fun q=>(q.1+1,q.2),?_,?_⟩;have h1':Zo P kt (kf a) (List.map (fun p=>(kf p.1,vf p.2)) l)=some r:=h1;simp only[entL,fG,Zo,hk.eq,h,decide_false,h1',fK]
   ·simp only[XQ,if_neg h]
    cases r with
    | none=>simp only[Option.map_none,U0] at h3⊢; simp only[entL,fG] at h3⊢; rw[←h3]
    | some q=>simp only[fK,U0] at h3⊢; simp only[entL,fG,List.eraseIdx_cons_succ] at h3⊢; rw[h3]
variable {P:Program} {n:Nat} {ops:Array Oper} {ex:List Nat} {Q:KF→AHeap→Prop} {k:Nat} {os:List Oper} {K:KF} {h h0:AHeap} {d:Nat} {ty:TypeId} {pos:String} {after:Array Edge} {objs:List Obj}
theorem KOps.makeMapD {t:TypeId} (st:St h0 h objs) (hex:ex.contains k=false) (hk:∀ v h',Zq v→St h0 h' (dmapO v []::objs)→KOps P n ops ex Q (k+1) os ((d,v)::K) h'):KOps P n ops ex Q k (⟨some d,.makeMap t none,ty,pos,after,none⟩::os) K h:=
  Xd rfl hex (Rn rfl) (hk _ _ ⟨_,rfl⟩ (St.allocT st (.dmap [])))
theorem RdD.look {t kt : TypeId} {z : AV} {kf : κ → AV} {vf : ν → AV} {l : List (κ × ν)} {v : AV} [ht : MpT P t kt z] [hkt : KeyT P kt kf] (hr : RdD h v (entL kf vf l)) (a : κ) (ok : Bool) :
    UR P h t v (kf a) ok=some (match Ou l a with|some w=>if ok then .tup [vf w,.bool true] else vf w|none=>if ok then .tup [z,.bool false] else z):=by
 obtain⟨et,h1,h2⟩:=ht.mp;obtain⟨r,h3,h4,-⟩:=X9 (P:=P) (kt:=kt) (kf:=kf) (vf:=vf) l a;simp only[UR,h1,hr.ents,hkt.ok,if_true,h3,h2]
 cases r with
 | none=>
  cases hm:Ou l a with
  | none=>rfl
  | some w=>rw[hm] at h4; cases h4
 | some q=>
  cases hm:Ou l a with
  | none=>rw[hm] at h4; cases h4
  | some w=>rw[hm] at h4; simp only[fK,fL] at h4; obtain⟨q1,q2⟩:=q; simp only at h4; subst h4; rfl
theorem KOps.lookD {t kt : TypeId} {z : AV} {kf : κ → AV} {vf : ν → AV} {l : List (κ × ν)} {v : AV} {x ix : Operand} {a : κ} [hx : EvK h.globs n K x v] (hi : KO h.globs n K ix = kf a) [ht : MpT P t kt z] [hkt : KeyT P kt kf] (hr : RdD h v (entL kf vf l))
    (hk:KOps P n ops ex Q (k+1) os ((d,match Ou l a with|some w=>vf w|none=>z)::K) h):KOps P n ops ex Q k (⟨some d,.lookup t x ix false,ty,pos,after,none⟩::os) K h:=by
 refine KOps.readS rfl (RX rfl ?_) hk;rw[hx.eq,hi,hr.look]
 cases Ou l a <;> rfl
theorem KOps.lookDS {t kt : TypeId} {z : AV} {kf : κ → AV} {vf : ν → AV} {l : List (κ × ν)} {v : AV} {x ix : Operand} {a : κ} {w : ν} [hx : EvK h.globs n K x v] (hi : KO h.globs n K ix = kf a) [ht : MpT P t kt z] [hkt : KeyT P kt kf] (hr : RdD h v (entL kf vf l)) (hm : Ou l a = some w)
    (hk:KOps P n ops ex Q (k+1) os ((d,vf w)::K) h):KOps P n ops ex Q k (⟨some d,.lookup t x ix false,ty,pos,after,none⟩::os) K h:=by
 refine KOps.lookD hi hr ?_;rw[hm]; exact hk
theorem KOps.lookDN {t kt : TypeId} {z : AV} {kf : κ → AV} {vf : ν → AV} {l : List (κ × ν)} {v : AV} {x ix : Operand} {a : κ} [hx : EvK h.globs n K x v] (hi : KO h.globs n K ix = kf a) [ht : MpT P t kt z] [hkt : KeyT P kt kf] (hr : RdD h v (entL kf vf l)) (hm : Ou l a = none)
    (hk:KOps P n ops ex Q (k+1) os ((d,z)::K) h):KOps P n ops ex Q k (⟨some d,.lookup t x ix false,ty,pos,after,none⟩::os) K h:=by
 refine KOps.lookD hi hr ?_;rw[hm]; exact hk
theorem KOps.putD {t kt : TypeId} {z : AV} {kf : κ → AV} {vf : ν → AV} {l : List (κ × ν)} {v u : AV} {x ix y : Operand} {a : κ} {b : ν} {i : Nat} [hx : EvK h.globs n K x v] (hi : KO h.globs n K ix = kf a) [hy : EvK h.globs n K y u] (hu : u = vf b) [ht : MpT P t kt z] [hkt : KeyT P kt kf]
    (st:St h0 h objs) (hv:Zq v) (hk':objs[i]? = some (dmapO v (entL kf vf l))) (hex:ex.contains k=false)
    (hk:∀ h',St h0 h' (objs.set i (dmapO v (entL kf vf (Ke l a b))))→KOps P n ops ex Q (k+1) os K h'):KOps P n ops ex Q k (⟨none,.mapUpdate t x ix y,ty,pos,after,none⟩::os) K h:=by
 obtain⟨bb,G,rfl,hg⟩:=St.rdD st i hk' hv;obtain⟨et,h1,h2⟩:=ht.mp;obtain⟨r,h3,-,h4⟩:=X9 (P:=P) (kt:=kt) (kf:=kf) (vf:=vf) l a;have hput:aputD P h t (.mp bb) (kf a) (vf b)=some (h.set bb (.obj G (.dmap (entL kf vf (Ke l a b))))):=by
  simp only[aputD,h1,hg,hkt.ok,if_true,h3,fK];have h5:=h4 b
  cases r with
  | none=>simp only at h5⊢; rw[h5]
  | some q=>simp only at h5⊢; rw[h5]
 refine Q7 (v:=.tup []) (h':=h.set bb (.obj G (.dmap (entL kf vf (Ke l a b))))) rfl hex (U8 rfl ?_) (hk _ (St.setD st hk' hg));rw[hx.eq,hi,hy.eq,hu]; exact hput
theorem KOps.lenD {t kt : TypeId} {z : AV} {es : List (AV × AV)} {v : AV} {x : Operand} [hx : EvK h.globs n K x v] [ht : MpT P t kt z] (hr : RdD h v es) (hk : KOps P n ops TXT Q (k + 1) os ((d, .int .i64 es.length) :: K) h) (hlt : jD k 1000000 = false := by rfl) :
    KOps P n ops TXT Q k (⟨some d,.call {callee:=.builtin .len,args:=#[x],argTypes:=#[t]},ty,pos,after,none⟩::os) K h:=by
 obtain⟨et,h1,h2⟩:=ht.mp;exact ZK (RZ rfl h1 (by rw[hx.eq]; exact hr.ents)) hk hlt
theorem KOps.delD0 {t t' kt : TypeId} {z : AV} {kf : κ → AV} {vf : ν → AV} {l : List (κ × ν)} {v : AV} {x ix : Operand} {a : κ} {i : Nat} [hx : EvK h.globs n K x v] (hi : KO h.globs n K ix = kf a) [ht : MpT P t kt z] [hkt : KeyT P kt kf]
    (st:St h0 h objs) (hv:Zq v) (hk':objs[i]? = some (dmapO v (entL kf vf l))) (hex:ex.contains k=false)
    (hk:∀ h',St h0 h' (objs.set i (dmapO v (entL kf vf (XQ l a))))→KOps P n ops ex Q (k+1) os K h'):KOps P n ops ex Q k (⟨none,.call {callee:=.builtin .delete,args:=#[x,ix],argTypes:=#[t,t']},ty,pos,after,none⟩::os) K h:=by
 obtain⟨bb,G,rfl,hg⟩:=St.rdD st i hk' hv;obtain⟨et,h1,h2⟩:=ht.mp;obtain⟨r,h3,h4⟩:=mdel_ent (P:=P) (kt:=kt) (kf:=kf) (vf:=vf) l a;refine Q7 rfl hex (WE (p:=(kt,et)) rfl h1 hx.eq hg (by rw[hi]; exact hkt.ok a) (by rw[hi]; exact h3)) (hk _ ?_);rw[h4];exact St.setD st hk' hg
theorem KOps.clearD0 {t kt : TypeId} {z : AV} {es : List (AV × AV)} {v : AV} {x : Operand} {i : Nat} [hx : EvK h.globs n K x v] [ht : MpT P t kt z]
    (st:St h0 h objs) (hv:Zq v) (hk':objs[i]? = some (dmapO v es)) (hex:ex.contains k=false)
    (hk:∀ h',St h0 h' (objs.set i (dmapO v []))→KOps P n ops ex Q (k+1) os K h'):KOps P n ops ex Q k (⟨none,.call {callee:=.builtin .clear,args:=#[x],argTypes:=#[t]},ty,pos,after,none⟩::os) K h:=by
 obtain⟨bb,G,rfl,hg⟩:=St.rdD st i hk' hv;obtain⟨et,h1,h2⟩:=ht.mp;exact Q7 rfl hex (Rp (p:=(kt,et)) rfl h1 hx.eq hg) (hk _ (St.setD st hk' hg))
end maps
end Go.Am
namespace Go.Am
theorem Ev.stepI {P : Program} {ρ : Operand → AV} {o : Oper} {h h' : AHeap} {f : FuncId} {t : TypeId} {x r : AV} {recv : Operand} {name : String} {args : Array Operand} {tys : Array TypeId}
    (ho:o.op = .call {callee:=.invoke recv name,args:=args,argTypes:=tys}) (hg : ρ recv = .ifc t x) (hm:YJ P t name=some f) (hev:Ev P f (x::args.toList.map ρ) h r h'):SemStep P ρ o h r h':=by
 have hc:Kh o.op = .chain:=by rw[ho]; rfl
 unfold SemStep;rw[hc];obtain⟨⟨fn,hf,hn,hb⟩,hgrow,hcalls⟩:=hev;refine⟨hgrow,?_⟩;intro φ a w K Q hfr rr hops hk;have hgv:=hops recv ac;rw[hg] at hgv;generalize hgc:a.eval recv=cg at hgv
 cases hgv with|ifc _ _ v hv=>
 have hmr:=methA_run hm v w;have hrun:(execOp a.eval o).run P w = .ok (.enter f ((v::args.toList.map a.eval).toArray)) w:=by
  have he:(#[a.eval recv] ++ args.map a.eval).extract 1 (#[a.eval recv] ++ args.map a.eval).size=args.map a.eval:=by
   apply jY;simp only[gM,gR,Array.toList_map,gY,List.cons_append,List.nil_append,List.drop_succ_cons,List.drop_zero,Array.size_append,Array.size_map];refine List.take_of_length_le ?_;simp
  have h0:(#[a.eval recv] ++ args.map a.eval)[0]? = some (.iface t v):=by
   rw[hgc,Array.getElem?_append_left Nat.zero_lt_one];rfl
  have hcm:(callMethod (.iface t v) name (args.map a.eval)).run P w = .ok (.enter f (#[v] ++ args.map a.eval)) w:=by
   simp only[callMethod,dX,run_program,dW,hmr,callFunc,hf,hn,hb,fD,if_false,fE]
  simp only[execOp,ho,resolve,dX,fE,dW,invoke,he,h0,hcm];congr 2;simp
 unfold Oper.wp;rw[hrun];refine(hcalls φ w _ hfr rr ?_).mono ?_
 ·refine VRels.append (l:=[x]) (cs:=[v]) ⟨rfl,?_⟩ ⟨by simp,?_⟩
  ·intro j y u hy hu
   cases j with
   | zero=>cases hy; cases hu; exact hv
   | succ j=>simp at hy
  intro j y u hy hu;rw[fO,fY] at hy hu;obtain⟨q,hq,rfl⟩:=hy;obtain⟨q',hq',rfl⟩:=hu;rw[hq] at hq'; cases hq';refine hops q ?_;simp[ho,Op.operands,Call.operands];exact .inr (gK (by simpa using hq))
 rintro e w' ⟨v,φ',rfl,t,r',hv⟩;exact hk φ' v w' t r' hv
section
variable {P:Program} {n:Nat} {ops:Array Oper} {ex:List Nat} {Q:KF→AHeap→Prop} {k:Nat} {os:List Oper} {K:KF} {h:AHeap} {d:Nat} {ty:TypeId} {pos:String} {after:Array Edge}
theorem KOps.callI {f : FuncId} {t : TypeId} {x : AV} {recv : Operand} {name : String} {l : List Operand} {vs : List AV} {tys : Array TypeId} {R : AV → AHeap → Prop} [hg : EvK h.globs n K recv (.ifc t x)] [hl : EvKs h.globs n K l vs] (hx : ex.contains k = false) (hm : YJ P t name = some f)
    (hc:ACalls P f (x::vs) h R) (hk:∀ r h',R r h'→KOps P n ops ex Q (k+1) os ((d,r)::K) h'):KOps P n ops ex Q k (⟨some d,.call {callee:=.invoke recv name,args:=fF l,argTypes:=tys},ty,pos,after,none⟩::os) K h:=by
 obtain⟨r,h',hev,hR⟩:=hc;refine ZB (v:=r) (h':=h') ?_ (fun hc=>by rw[hx] at hc; cases hc) (hk r h' hR);refine Ev.stepI (recv:=recv) (args:=fF l) (tys:=tys) rfl hg.eq hm ?_;rw[gQ,hl.eq];exact hev
instance instNili (globs:List Nat) (n:Nat) (K:KF):EvK globs n K (.const .nilIface) .nili:=⟨rfl⟩
theorem KI {t:TypeId} {x:Operand} {v:AV} [hx:EvK h.globs n K x v] (hc:concA P t=true) (hk:KOps P n ops ex Q (k+1) os ((d,.ifc t v)::K) h):KOps P n ops ex Q k (⟨some d,.makeInterface t x,ty,pos,after,none⟩::os) K h:=by
 refine Kn (v:=.ifc t v) rfl ?_ hk;simp only[K6];rw[hx.eq,if_pos hc]
theorem KOps.makeFmeth {x:Operand} {v:AV} {name:String} [hx:EvK h.globs n K x v] (hk:KOps P n ops ex Q (k+1) os ((d,.fmeth name v)::K) h):KOps P n ops ex Q k (⟨some d,.makeFunc (.method name) #[x] #[],ty,pos,after,none⟩::os) K h:=by
 refine Kn (v:=.fmeth name v) rfl ?_ hk;show some (AV.fmeth name (KO h.globs n K x))=_;rw[hx.eq]
theorem KOps.nilMeth {x:Operand} {name:String} {t:TypeId} {y:AV} [hx:EvK h.globs n K x (.fmeth name (.ifc t y))] (hm:(YJ P t name).isSome=true) (hk:KOps P n ops ex Q (k+1) os ((d,.fmeth name (.ifc t y))::K) h):KOps P n ops ex Q k (⟨some d,.nilCheck x,ty,pos,after,none⟩::os) K h:=by
 refine Kn (v:=.fmeth name (.ifc t y)) rfl ?_ hk;simp only[K6];rw[hx.eq];simp only[hm,if_true]
end
end Go.Am
namespace Go.Am
abbrev Str:=List UInt8
def wd (l:Str):ByteArray:=⟨l.toArray⟩
theorem ba_ext {a b:ByteArray} (h:a.data.toList=b.data.toList):a=b:=by
 cases a; cases b
 congr 1;exact Array.toList_inj.1 h
theorem XO (l:Str):(wd l).data.toList=l:=rfl
theorem Rf (l:Str):(wd l).toList=l:=by rw[ByteArray.toList_eq,XO]
theorem wd_inj {a b:Str} (h:wd a=wd b):a=b:=by rw[←XO a,←XO b,h]
theorem wd_size (l:Str):(wd l).size=l.length:=by
 show(wd l).data.size=_;rw[←gI,XO]
theorem wd_append (a b:Str):wd a ++ wd b=wd (a ++ b):=ba_ext (by rw[ByteArray.data_append,gR,XO,XO,XO])
theorem Wp (l:Str) (i j:Nat):(wd l).extract i j=wd ((l.take j).drop i):=ba_ext (by
  rw[ByteArray.data_extract,gM,XO,XO,gY];rw[List.drop_take])
theorem wd_get (l:Str) (i:Nat):(wd l)[i]? = l[i]?:=by
 have h:=wd_size l;by_cases hi:i<l.length;rw[getElem?_pos (wd l) i (by rw[h]; exact hi),dY hi];rfl;rw[getElem?_neg (wd l) i (by rw[h]; exact hi),fP aA]
theorem wd_eql (a b:Str):((wd a).toList == (wd b).toList)=decide (a=b):=by
 rw[Rf,Rf,jC,beq_iff_eq,decide_eq_true_iff]
theorem Ug {l:Str} {p:Nat} (hp:p<l.length):(wd l).get! p=l.getD p 0:=by
 have h:=wd_get l p;rw[dY hp] at h;have hs:p<(wd l).size:=by rw[wd_size]; exact hp
 rw[getElem?_pos (wd l) p hs] at h;have h2:(wd l).get! p=(wd l)[p]'hs:=by
  show(wd l).data[p]! = (wd l).data[p]'hs;rw[getElem!_pos _ p hs]
 rw[h2,dZ,dY hp];exact Option.some.inj h
instance instWC (globs:List Nat) (n:Nat) (K:KF) (l:Str):EvK globs n K (.const (.string ⟨l.toArray⟩)) (.str (wd l)):=⟨rfl⟩
abbrev kstr (s:Str):AV:=.str (wd s)
theorem KeyT.wstr {P:Program} {kt:TypeId} (h:Xb P kt=true):KeyT P kt kstr:=by
 refine⟨fun a=>by simp[Zv,h],fun a b=>?_⟩;simp only[YV,h,if_true];congr 1;rw[jC,decide_eq_true_iff,decide_eq_true_iff];exact⟨wd_inj,fun h=>by rw[h]⟩
abbrev wcs (l:List Str):List AV:=l.map fun w=>AV.str (wd w)
abbrev WRow (h:AHeap) (v:AV) (l:List Str):Prop:=Rd h v 1 (wcs l)
section
variable {P:Program} {n:Nat} {ops:Array Oper} {ex:List Nat} {Q:KF→AHeap→Prop} {k:Nat} {os:List Oper} {K:KF} {h h0:AHeap} {d:Nat} {ty:TypeId} {pos:String} {after:Array Edge} {objs:List Obj}
theorem KOps.strAdd {t t':TypeId} {x y:Operand} {a b:ByteArray} [hx:EvK h.globs n K x (.str a)] [hy:EvK h.globs n K y (.str b)] (hs:a.size+b.size≤4294967296) (hk:KOps P n ops ex Q (k+1) os ((d,.str (a ++ b))::K) h):KOps P n ops ex Q k (⟨some d,.binOp .add t x y t',ty,pos,after,none⟩::os) K h:=
  Kn rfl (by simp only[K6,hx.eq,hy.eq,Z5,astr]; rw[if_pos aA]) hk
theorem KN {t t':TypeId} {x y:Operand} {a b:Str} [hx:EvK h.globs n K x (.str (wd a))] [hy:EvK h.globs n K y (.str (wd b))] (hs:a.length+b.length≤4294967296) (hk:KOps P n ops ex Q (k+1) os ((d,.str (wd (a ++ b)))::K) h):KOps P n ops ex Q k (⟨some d,.binOp .add t x y t',ty,pos,after,none⟩::os) K h:=
  KOps.strAdd (by rw[wd_size,wd_size]; exact hs) (by rw[wd_append]; exact hk)
theorem Qn {t t':TypeId} {x y:Operand} {a b:Str} [hx:EvK h.globs n K x (.str (wd a))] [hy:EvK h.globs n K y (.str (wd b))] (hk:KOps P n ops ex Q (k+1) os ((d,.bool (decide (a=b)))::K) h):KOps P n ops ex Q k (⟨some d,.binOp .eql t x y t',ty,pos,after,none⟩::os) K h:=
  Kn rfl (by simp only[K6,hx.eq,hy.eq,Z5,astr,wd_eql]) hk
theorem KOps.wNeq {t t':TypeId} {x y:Operand} {a b:Str} [hx:EvK h.globs n K x (.str (wd a))] [hy:EvK h.globs n K y (.str (wd b))] (hk:KOps P n ops ex Q (k+1) os ((d,.bool (!decide (a=b)))::K) h):KOps P n ops ex Q k (⟨some d,.binOp .neq t x y t',ty,pos,after,none⟩::os) K h:=
  Kn rfl (by simp only[K6,hx.eq,hy.eq,Z5,astr,wd_eql]) hk
theorem str_und {t:TypeId} (ht:Xb P t=true):P.underlying t=some .string:=by
 unfold Xb at ht;split at ht;rename_i h; exact h;cases ht
theorem KOps.lenStr {x : Operand} {t : TypeId} {s : ByteArray} [hx : EvK h.globs n K x (.str s)] [ht : StT P t] (hk : KOps P n ops ex Q (k + 1) os ((d, .int .i64 s.size) :: K) h) :
    KOps P n ops ex Q k (⟨some d,.call {callee:=.builtin .len,args:=#[x],argTypes:=#[t]},ty,pos,after,none⟩::os) K h:=by
 refine Kn rfl (v:=.int .i64 s.size) ?_ hk;simp only[K6,hx.eq,alen,str_und ht.st]
theorem KOps.lenW {x : Operand} {t : TypeId} {l : Str} [hx : EvK h.globs n K x (.str (wd l))] [ht : StT P t] (hk : KOps P n ops ex Q (k + 1) os ((d, .int .i64 (l.length : Int)) :: K) h) :
    KOps P n ops ex Q k (⟨some d,.call {callee:=.builtin .len,args:=#[x],argTypes:=#[t]},ty,pos,after,none⟩::os) K h:=
  KOps.lenStr (by rw[wd_size]; exact hk)
theorem KOps.sAt {t : TypeId} {x ix : Operand} {s : ByteArray} {kd : IntKind} {i : Int} {j : Nat} [hx : EvK h.globs n K x (.str s)] [hi : EvK h.globs n K ix (.int kd i)] [ht : StT P t] (hj : i = (j : Int)) (hlt : j < s.size) (hk : KOps P n ops ex Q (k + 1) os ((d, .int .u8 ((s.get! j).toNat : Int)) :: K) h) :
    KOps P n ops ex Q k (⟨some d,.index t x ix,ty,pos,after,none⟩::os) K h:=by
 subst hj;refine Kn rfl (v:=.int .u8 ((s.get! j).toNat:Int)) ?_ hk;simp only[K6,hx.eq,hi.eq,JA,ht.st,Int.toNat_natCast];rw[if_pos ⟨trivial,by omega⟩,getElem?_pos s j hlt];have h2:s.get! j=s[j]'hlt:=by
  show s.data[j]! = s.data[j]'hlt;rw[getElem!_pos _ j hlt]
 rw[h2]; rfl
theorem KOps.wAt {t : TypeId} {x ix : Operand} {l : Str} {kd : IntKind} {i : Int} {j : Nat} [hx : EvK h.globs n K x (.str (wd l))] [hi : EvK h.globs n K ix (.int kd i)] [ht : StT P t] (hj : i = (j : Int)) (hlt : j < l.length) (hk : KOps P n ops ex Q (k + 1) os ((d, .int .u8 ((l.getD j 0).toNat : Int)) :: K) h) :
    KOps P n ops ex Q k (⟨some d,.index t x ix,ty,pos,after,none⟩::os) K h:=
  KOps.sAt hj (by rw[wd_size]; exact hlt) (by rw[Ug hlt]; exact hk)
end
section
variable {P:Program} {n:Nat} {ops:Array Oper} {ex:List Nat} {Q:KF→AHeap→Prop} {k:Nat} {os:List Oper} {K:KF} {h h0:AHeap} {d:Nat} {ty:TypeId} {pos:String} {after:Array Edge} {objs pre rest:List Obj}
theorem KOps.loadM {x : Operand} {p v : AV} {t : TypeId} {j : Nat} {α : Type} {f : α → AV} {l : List α} (d0 : α) [hx : EvK h.globs n K x p] [ht : ScT P t] (ha : AddrOf p v 1 j) (hr : Rd h v 1 (l.map f)) (hj : j < l.length) (hk : KOps P n ops ex Q (k + 1) os ((d, f (l.getD j d0)) :: K) h) :
    KOps P n ops ex Q k (⟨some d,.load t x,ty,pos,after,none⟩::os) K h:=
  Oh ha hr (by simp[fO,dY hj,dZ]) hk
theorem OM {x : Operand} {p v : AV} {t : TypeId} {j : Nat} {l : List Str} [hx : EvK h.globs n K x p] [ht : ScT P t] (ha : AddrOf p v 1 j) (hr : WRow h v l) (hj : j < l.length) (hk : KOps P n ops ex Q (k + 1) os ((d, .str (wd (l.getD j []))) :: K) h) :
    KOps P n ops ex Q k (⟨some d,.load t x,ty,pos,after,none⟩::os) K h:=
  KOps.loadM (f:=fun w=>AV.str (wd w)) [] ha hr hj hk
theorem wcs_len (l:List Str):(wcs l).length=l.length*1:=by simp
theorem KOps.appendW {t e : TypeId} {x y : Operand} {v u : AV} {i : Nat} {p q : List Str} {zs : List AV} {tip tip' : Bool} [hx : EvK h.globs n K x v] [hy : EvK h.globs n K y u] [ht : SlT P t e 1 zs] (st : St h0 h (⟨u, 1, wcs q, tip'⟩ :: objs)) (hex : ex.contains k = true → tip = true) (hk' : objs[i]? = some ⟨v, 1, wcs p, tip⟩) (hsz : p.length + q.length ≤ 4294967296)
    (hk:∀ r h',r.one=true→St h0 h' (objs.set i ⟨r,1,wcs (p ++ q),tip⟩)→KOps P n ops ex Q (k+1) os ((d,r)::K) h') :
    KOps P n ops ex Q k (⟨some d,.call {callee:=.builtin .append,args:=#[x,y],argTypes:=#[t,t]},ty,pos,after,none⟩::os) K h:=by
 refine Xc (e:=e) (zs:=zs) (s:=1) (i:=i+1) (a:=p.length) (b:=q.length) (xs:=wcs p) (ys:=wcs q) (tip:=tip) st hex (by simpa using hk') (wcs_len p) (st.rd 0 rfl) (wcs_len q) (by simp[AV.one]) hsz ?_;intro r h' hS;have hS':St h0 h' (objs.set i ⟨r,1,wcs (p ++ q),tip⟩):=by
  have:=St.tail hS;simpa [wcs] using this
 have hlt:=(fI.1 hk').1;exact hk r h' (hS'.one (k:=i) (o:=⟨r,1,wcs (p ++ q),tip⟩) (by rw[gX,if_pos rfl,if_pos hlt])) hS'
theorem Kw {t e : TypeId} {x y : Operand} {v u : AV} {i : Nat} {p : List Str} {a : Str} {zs : List AV} {tip tip' : Bool} [hx : EvK h.globs n K x v] [hy : EvK h.globs n K y u] [ht : SlT P t e 1 zs] (st : St h0 h (⟨u, 1, [.str (wd a)], tip'⟩ :: objs)) (hex : ex.contains k = true → tip = true) (hk' : objs[i]? = some ⟨v, 1, wcs p, tip⟩) (hsz : p.length + 1 ≤ 4294967296)
    (hk:∀ r h',r.one=true→St h0 h' (objs.set i ⟨r,1,wcs (p ++ [a]),tip⟩)→KOps P n ops ex Q (k+1) os ((d,r)::K) h') :
    KOps P n ops ex Q k (⟨some d,.call {callee:=.builtin .append,args:=#[x,y],argTypes:=#[t,t]},ty,pos,after,none⟩::os) K h:=
  KOps.appendW (e:=e) (zs:=zs) (q:=[a]) st hex hk' hsz hk
end
end Go.Am
namespace Go.Am
instance:ScT Go.Proofs.Tryz.prog 3:=ScT.of aE
instance:IntT Go.Proofs.Tryz.prog 3 .i64:=IntT.of aE
instance:ZeT Go.Proofs.Tryz.prog 3 [.int .i64 0]:=⟨by kernel_rfl⟩
instance:ScT Go.Proofs.Tryz.prog 4:=ScT.of aE
instance:ScT Go.Proofs.Tryz.prog 5:=ScT.of aE
instance:IntT Go.Proofs.Tryz.prog 5 .u8:=IntT.of aE
instance:ScT Go.Proofs.Tryz.prog 9:=ScT.of aE
instance:IntT Go.Proofs.Tryz.prog 21 .i32:=IntT.of aE
instance:ScT Go.Proofs.Tryz.prog 22:=ScT.of aE
instance:SlT Go.Proofs.Tryz.prog 22 9 1 [.str ⟨#[]⟩]:=SlT.of aE rfl aD
instance:ScT Go.Proofs.Tryz.prog 37:=ScT.of aE
instance:ScT Go.Proofs.Tryz.prog 44:=ScT.of aE
instance:ZeT Go.Proofs.Tryz.prog 44 [.nils]:=⟨by kernel_rfl⟩
instance:SlT Go.Proofs.Tryz.prog 44 3 1 [.int .i64 0]:=SlT.of aE rfl aD
instance:SlT Go.Proofs.Tryz.prog 53 87 4 [.int .u8 0,.int .u8 0,.int .u8 0,.int .u8 0]:=SlT.of aE rfl aD
instance:ScT Go.Proofs.Tryz.prog 78:=ScT.of aE
instance:ScT Go.Proofs.Tryz.prog 79:=ScT.of aE
instance:ScT Go.Proofs.Tryz.prog 80:=ScT.of aE
instance:ScT Go.Proofs.Tryz.prog 81:=ScT.of aE
instance:AgT Go.Proofs.Tryz.prog 87 4:=AgT.of aE
instance:ZeT Go.Proofs.Tryz.prog 87 [.int .u8 0,.int .u8 0,.int .u8 0,.int .u8 0]:=⟨by kernel_rfl⟩
instance:ScT Go.Proofs.Tryz.prog 101:=ScT.of aE
instance:SlT Go.Proofs.Tryz.prog 101 151 4 [.int .i64 0,.int .i64 0,.int .i64 0,.int .i64 0]:=SlT.of aE rfl aD
instance:AgT Go.Proofs.Tryz.prog 103 2:=AgT.of aE
instance:ZeT Go.Proofs.Tryz.prog 103 [.int .i64 0,.nils]:=⟨by kernel_rfl⟩
instance:ScT Go.Proofs.Tryz.prog 120:=ScT.of aE
instance:AgT Go.Proofs.Tryz.prog 127 7:=AgT.of aE
instance:ZeT Go.Proofs.Tryz.prog 127 [.int .i64 0,.int .i64 0,.int .i64 0,.nils,.nils,.nils,.bool false]:=⟨by kernel_rfl⟩
instance:ScT Go.Proofs.Tryz.prog 128:=ScT.of aE
instance:ScT Go.Proofs.Tryz.prog 129:=ScT.of aE
instance:ScT Go.Proofs.Tryz.prog 130:=ScT.of aE
instance:AgT Go.Proofs.Tryz.prog 151 4:=AgT.of aE
instance:ZeT Go.Proofs.Tryz.prog 151 [.int .i64 0,.int .i64 0,.int .i64 0,.int .i64 0]:=⟨by kernel_rfl⟩
instance:ScT Go.Proofs.Tryz.prog 173:=ScT.of aE
instance:SlT Go.Proofs.Tryz.prog 173 221 4 [.int .i64 0,.int .i64 0,.int .i64 0,.int .i64 0]:=SlT.of aE rfl aD
instance:ScT Go.Proofs.Tryz.prog 185:=ScT.of aE
instance:AgT Go.Proofs.Tryz.prog 203 3:=AgT.of aE
instance:AgT Go.Proofs.Tryz.prog 205 2:=AgT.of aE
instance:AgT Go.Proofs.Tryz.prog 221 4:=AgT.of aE
instance:ZeT Go.Proofs.Tryz.prog 221 [.int .i64 0,.int .i64 0,.int .i64 0,.int .i64 0]:=⟨by kernel_rfl⟩
instance:ScT Go.Proofs.Tryz.prog 229:=ScT.of aE
instance:AgT Go.Proofs.Tryz.prog 293 3:=AgT.of aE
instance:ZeT Go.Proofs.Tryz.prog 293 [.int .i64 0,.int .i64 0,.bool false]:=⟨by kernel_rfl⟩
instance:ScT Go.Proofs.Tryz.prog 294:=ScT.of aE
instance:ZeT Go.Proofs.Tryz.prog 294 [.nilm]:=⟨by kernel_rfl⟩
end Go.Am
namespace Go.Am
instance ky3:KeyT Go.Proofs.Tryz.prog 3 (AV.int .i64):=KeyT.int aE
instance st9:StT Go.Proofs.Tryz.prog 9:=⟨by kernel_rfl⟩
instance fd39_0:FdT Go.Proofs.Tryz.prog 39 0 0:=FdT.of aE
instance fd39_1:FdT Go.Proofs.Tryz.prog 39 1 1:=FdT.of aE
instance mp78:MpT Go.Proofs.Tryz.prog 78 9 (.agg [.int .i64 0,.int .i64 0]):=MpT.of aE
instance mp79:MpT Go.Proofs.Tryz.prog 79 9 (.int .i64 0):=MpT.of aE
instance mp80:MpT Go.Proofs.Tryz.prog 80 3 (.str ⟨#[]⟩):=MpT.of aE
instance mp81:MpT Go.Proofs.Tryz.prog 81 3 (.int .i64 0):=MpT.of aE
instance fd83_0:FdT Go.Proofs.Tryz.prog 83 0 0:=FdT.of aE
instance fd83_1:FdT Go.Proofs.Tryz.prog 83 1 1:=FdT.of aE
instance fd83_2:FdT Go.Proofs.Tryz.prog 83 2 2:=FdT.of aE
instance fd83_3:FdT Go.Proofs.Tryz.prog 83 3 3:=FdT.of aE
instance fd83_4:FdT Go.Proofs.Tryz.prog 83 4 4:=FdT.of aE
instance fd83_5:FdT Go.Proofs.Tryz.prog 83 5 5:=FdT.of aE
instance fd83_6:FdT Go.Proofs.Tryz.prog 83 6 6:=FdT.of aE
instance fd83_7:FdT Go.Proofs.Tryz.prog 83 7 7:=FdT.of aE
instance fd83_8:FdT Go.Proofs.Tryz.prog 83 8 8:=FdT.of aE
instance fd103_0:FdT Go.Proofs.Tryz.prog 103 0 0:=FdT.of aE
instance fd103_1:FdT Go.Proofs.Tryz.prog 103 1 1:=FdT.of aE
instance fd127_0:FdT Go.Proofs.Tryz.prog 127 0 0:=FdT.of aE
instance fd127_1:FdT Go.Proofs.Tryz.prog 127 1 1:=FdT.of aE
instance fd127_2:FdT Go.Proofs.Tryz.prog 127 2 2:=FdT.of aE
instance fd127_3:FdT Go.Proofs.Tryz.prog 127 3 3:=FdT.of aE
instance fd127_4:FdT Go.Proofs.Tryz.prog 127 4 4:=FdT.of aE
instance fd127_5:FdT Go.Proofs.Tryz.prog 127 5 5:=FdT.of aE
instance fd127_6:FdT Go.Proofs.Tryz.prog 127 6 6:=FdT.of aE
instance mp128:MpT Go.Proofs.Tryz.prog 128 9 (.nilp):=MpT.of aE
instance mp129:MpT Go.Proofs.Tryz.prog 129 3 (.nilp):=MpT.of aE
instance mp130:MpT Go.Proofs.Tryz.prog 130 3 (.bool false):=MpT.of aE
instance fd132_0:FdT Go.Proofs.Tryz.prog 132 0 0:=FdT.of aE
instance fd132_1:FdT Go.Proofs.Tryz.prog 132 1 1:=FdT.of aE
instance fd132_2:FdT Go.Proofs.Tryz.prog 132 2 2:=FdT.of aE
instance fd132_3:FdT Go.Proofs.Tryz.prog 132 3 3:=FdT.of aE
instance fd132_4:FdT Go.Proofs.Tryz.prog 132 4 4:=FdT.of aE
instance fd132_5:FdT Go.Proofs.Tryz.prog 132 5 5:=FdT.of aE
instance fd136_0:FdT Go.Proofs.Tryz.prog 136 0 0:=FdT.of aE
instance fd136_1:FdT Go.Proofs.Tryz.prog 136 1 1:=FdT.of aE
instance fd151_0:FdT Go.Proofs.Tryz.prog 151 0 0:=FdT.of aE
instance fd151_1:FdT Go.Proofs.Tryz.prog 151 1 1:=FdT.of aE
instance fd151_2:FdT Go.Proofs.Tryz.prog 151 2 2:=FdT.of aE
instance fd151_3:FdT Go.Proofs.Tryz.prog 151 3 3:=FdT.of aE
instance fd175_0:FdT Go.Proofs.Tryz.prog 175 0 0:=FdT.of aE
instance fd175_1:FdT Go.Proofs.Tryz.prog 175 1 1:=FdT.of aE
instance fd199_0:FdT Go.Proofs.Tryz.prog 199 0 0:=FdT.of aE
instance fd201_0:FdT Go.Proofs.Tryz.prog 201 0 0:=FdT.of aE
instance fd201_1:FdT Go.Proofs.Tryz.prog 201 1 1:=FdT.of aE
instance fd201_2:FdT Go.Proofs.Tryz.prog 201 2 2:=FdT.of aE
instance fd203_0:FdT Go.Proofs.Tryz.prog 203 0 0:=FdT.of aE
instance fd203_1:FdT Go.Proofs.Tryz.prog 203 1 1:=FdT.of aE
instance fd203_2:FdT Go.Proofs.Tryz.prog 203 2 2:=FdT.of aE
instance fd205_0:FdT Go.Proofs.Tryz.prog 205 0 0:=FdT.of aE
instance fd205_1:FdT Go.Proofs.Tryz.prog 205 1 1:=FdT.of aE
instance fd207_0:FdT Go.Proofs.Tryz.prog 207 0 0:=FdT.of aE
instance fd207_1:FdT Go.Proofs.Tryz.prog 207 1 1:=FdT.of aE
instance fd209_0:FdT Go.Proofs.Tryz.prog 209 0 0:=FdT.of aE
instance fd209_1:FdT Go.Proofs.Tryz.prog 209 1 1:=FdT.of aE
instance fd211_0:FdT Go.Proofs.Tryz.prog 211 0 0:=FdT.of aE
instance fd221_0:FdT Go.Proofs.Tryz.prog 221 0 0:=FdT.of aE
instance fd221_1:FdT Go.Proofs.Tryz.prog 221 1 1:=FdT.of aE
instance fd221_2:FdT Go.Proofs.Tryz.prog 221 2 2:=FdT.of aE
instance fd221_3:FdT Go.Proofs.Tryz.prog 221 3 3:=FdT.of aE
instance ar230:ArT Go.Proofs.Tryz.prog 230 64:=ArT.of aE
instance fd265_0:FdT Go.Proofs.Tryz.prog 265 0 0:=FdT.of aE
instance fd265_1:FdT Go.Proofs.Tryz.prog 265 1 2:=FdT.of aE
instance fd293_0:FdT Go.Proofs.Tryz.prog 293 0 0:=FdT.of aE
instance fd293_1:FdT Go.Proofs.Tryz.prog 293 1 1:=FdT.of aE
instance fd293_2:FdT Go.Proofs.Tryz.prog 293 2 2:=FdT.of aE
instance mp294:MpT Go.Proofs.Tryz.prog 294 3 (.agg [.int .i64 0,.int .i64 0,.bool false]):=MpT.of aE
theorem mixed:Go.Proofs.Tryz.prog.follows .mixedOrders=true:=by kernel_rfl
end Go.Am
namespace Go.Am
theorem Tt {E:List (Int × Bool)} (B:Int):∀ (D:List Nat) (l:List Int),(∀ x∈l,-B≤x∧x≤B)→∀ x∈Qs E l D,-(B+D.length)≤x∧x≤B+D.length:=by
 intro D
 induction D generalizing B with
 | nil=>intro l h x hx; simpa using h x hx
 | cons j D ih=>
  intro l h x hx;have h1:∀ y∈Xy E l j,-(B+1)≤y∧y≤B+1:=by
   intro y hy;unfold Xy at hy;split at hy
   ·rename_i w m _;rcases List.mem_or_eq_of_mem_set hy with hy|rfl
    have:=h y hy; omega
    ·have h2 : -B≤l.getD w.toNat 0∧l.getD w.toNat 0≤B∨l.getD w.toNat 0=0:=by
      rw[dZ];by_cases hw:w.toNat<l.length;rw[dY hw]; exact .inl (h _ (jU hw));rw[fP aA]; exact .inr rfl
     by_cases hB : 0≤B;split <;> omega
     ·have:l = []:=by
       cases l with
       | nil=>rfl
       | cons a l=>have:=h a aU; omega
      subst this;simp at hy
   have:=h y hy; omega
  have h2:=ih (B+1) (Xy E l j) h1 x hx;rw[jE];omega
abbrev entB (E:List (Int × Bool)):List (AV × AV):=entL (AV.int .i64) AV.bool E
theorem push_c {h0 h : AHeap} {pf vn vm a0 a1 : AV} {ns : List Int} {E : List (Int × Bool)} {tf tn : Bool} {G : List Obj} (hpf : AddrOf pf pf 0 0) (hvm : Zq vm) (hn0 : ns ≠ []) (hE : ∀ p ∈ E, 0 ≤ p.1 ∧ p.1 < ns.length) (hb : ∀ x ∈ ns, -1000000000 ≤ x ∧ x ≤ 1000000000) (hEl : E.length ≤ 1000000000)
    (hS:St h0 h (⟨pf,0,[a0,a1,vn],tf⟩::⟨vn,1,ints ns,tn⟩::mapO vm (entB E)::G)) :
    ACalls Go.Proofs.Tryz.prog 219 [pf,vm] h (fun _ h'=>St h0 h' (⟨pf,0,[a0,a1,vn],tf⟩::⟨vn,1,ints (Qs E ns (fB E.length)),tn⟩::mapO vm (entB E)::G)):=by
 obtain⟨bm,Fm,hvm',hgm⟩:=St.rdM hS 2 rfl hvm;have hlen:(entB E).length=E.length:=by simp[entB]
 have hS1:=St.allocT hS (.mwalk bm (entB E).length []);have hgI:(h.allocT (.mwalk bm (entB E).length [])).get h.next=some (.obj h.nfam (.mwalk bm (entB E).length [])):=by rw[AHeap.get_allocT,if_pos rfl]
 have hgM:(h.allocT (.mwalk bm (entB E).length [])).get bm=some (.obj Fm (.map (entB E))):=by
  rw[AHeap.get_allocT,if_neg (by have:=AHeap.get_lt hgm; omega)]; exact hgm
 generalize hh1:h.allocT (.mwalk bm (entB E).length [])=h1 at hS1 hgI hgM;have hrow:∃ bn off full Fn pn cs f,vn = .slc bn off ns.length 1 full∧h1.get bn=some (.cells (some Fn) pn cs)∧h1.fam Fn=some f∧f.sees bn=true∧(cs.drop off).take ns.length=ints ns:=by
  obtain⟨_,fs,e1,e2,_⟩:=id hS1;have hlt : 2<fs.length:=by rw[e1]; simp
  have hmu:=e2 2 _ _ rfl (dY hlt);generalize fs[2]'hlt=F at hmu
  cases F with
  | none=>
   have:=hmu.2;simp only[ints,List.map_eq_nil_iff] at this;exact absurd this hn0
  | some Fn=>
   rcases hmu with ⟨bn,off,pn,cs,f,_,hv,hg,hf,hs,hx,_⟩|⟨_,_,_,_,_,hz,_⟩
   rcases hv with ⟨m,full,hv,hm,_⟩|⟨hz,_⟩
   simp only[ints,fS,Nat.mul_one] at hm hx;subst hm;exact⟨bn,off,full,Fn,pn,cs,f,hv,hg,hf,hs,by simpa [ints] using hx⟩;cases hz;cases hz
 obtain⟨bn,off,full,Fn,pn,cs,f,hvn,hgn,hfn,hsee,hcut⟩:=hrow;have hne:h.next≠bn:=by rintro rfl; rw[hgI] at hgn; cases hgn
 have hneM:bm≠bn:=by rintro rfl; rw[hgM] at hgn; cases hgn
 have hneI:bm≠h.next:=by have:=AHeap.get_lt hgm; omega
 have hIlt:=AHeap.get_lt hgI;have hnlt:=AHeap.get_lt hgn;have hFlt:=AHeap.fam_lt hfn;have hcl:off+ns.length≤cs.length:=by
  have h2:=congrArg List.length hcut;have h3:=List.length_pos_iff.2 hn0;simp only[gB,jI,ints,fS] at h2;omega
 let HS:List Nat→AHeap:=fun D=>ZG h1 h.next h.nfam bm (entB E).length bn Fn pn cs off f D (ints (Qs E ns D))
 have hbl:∀ D,(Qs E ns D).length=ns.length:=fun D=>bumps_len E D ns
 have hH0:HS []=h1:=hpush_nil hgI hgn hfn (by simpa [Qs] using hcut);have hgetI:∀ D,(HS D).get h.next=some (.obj h.nfam (.mwalk bm (entB E).length D)):=fun D=>by
  show(ZG _ _ _ _ _ _ _ _ _ _ _ _ _).get _=_;rw[JK _ hIlt hnlt,if_neg hne,if_pos rfl]
 have hgetM:∀ D,(HS D).get bm=some (.obj Fm (.map (entB E))):=fun D=>by
  show(ZG _ _ _ _ _ _ _ _ _ _ _ _ _).get _=_;rw[JK _ hIlt hnlt,if_neg hneM,if_neg hneI]; exact hgM
 have hgetN:∀ D,(HS D).get bn=some (.cells (some Fn) pn (putL cs off (ints (Qs E ns D)))):=fun D=>by
  show(ZG _ _ _ _ _ _ _ _ _ _ _ _ _).get _=_;rw[JK _ hIlt hnlt,if_pos rfl]
 have hfamN:∀ D,(HS D).fam Fn=some (if D = [] then f else {f with live:=some [bn]}):=fun D=>hpush_fam hFlt
 have hmove : ∀ (D : List Nat) (j : Nat), St h0 (HS D) (⟨.it h.next, 0, Thing.enc (.mwalk bm (entB E).length D), false⟩ :: ⟨pf, 0, [a0, a1, vn], tf⟩ :: ⟨vn, 1, ints (Qs E ns D), tn⟩ :: mapO vm (entB E) :: G) →
     St h0 ((HS D).set h.next (.obj h.nfam (.mwalk bm (entB E).length (D ++ [j])))) (⟨.it h.next,0,Thing.enc (.mwalk bm (entB E).length (D ++ [j])),false⟩::⟨pf,0,[a0,a1,vn],tf⟩::⟨vn,1,ints (Qs E ns D),tn⟩::mapO vm (entB E)::G):=by
   intro D j hD;refine St.setT (k:=0) hD rfl (x:=.mwalk bm (entB E).length D) (x':=.mwalk bm (entB E).length (D ++ [j])) (fun _=>rfl) rfl (hgetI D) ?_;intro F hmu
   cases F with
   | none=>cases hmu.1
   | some F=>
     rcases hmu with ⟨b,o,p,c,f',_,hv,_⟩|⟨b,x,f',hlo,hv,_,hg,hf,_⟩
     · rcases hv with ⟨_,_,hv,_⟩|⟨_,hv⟩ <;> cases hv
     · have hbb:h.next=b:=by cases x <;> first|exact AV.it.inj hv|cases hv
       subst hbb;rw[hgetI D] at hg;cases hg;exact⟨rfl,hlo,f',hf⟩
 have hput:∀ (xs:List AV) (w:Nat) (x:AV),w<xs.length→off+xs.length≤cs.length→putL (putL cs off xs) (off+w) [x]=putL cs off (xs.set w x):=by
  intro xs w x hw hc;have hl:(putL cs off xs).length=cs.length:=K8 _ _ _ hc;have hl2:(putL cs off (xs.set w x)).length=cs.length:=K8 _ _ _ (by rw[gD]; exact hc);rw[Jo _ _ _ aA];unfold putL;have e1:(cs.take off).length=off:=by rw[gB]; omega
  rw[gZ,gZ,List.set_append_right _ _ aA,e1,gC,List.set_append_left _ _ hw,gD]
 have hints:∀ (l:List Int) (w:Nat) (c:Int),(ints l).set w (.int .i64 c)=ints (l.set w c):=fun l w c=>by simp[ints,List.map_set]
 have hbump:∀ (D:List Nat) (j:Nat) (w:Int) (m:Bool),E[j]? = some (w,m)→Qs E ns (D ++ [j])=(Qs E ns D).set w.toNat ((Qs E ns D).getD w.toNat 0+if m then 1 else -1):=by
  intro D j w m hj;rw[UU,Xy,hj]
 have hstore:∀ (D:List Nat) (j:Nat) (w:Int) (m:Bool),E[j]? = some (w,m)→XS Go.Proofs.Tryz.prog ((HS D).set h.next (.obj h.nfam (.mwalk bm (entB E).length (D ++ [j])))) 3 (.ptr bn (off+w.toNat)) (.int .i64 ((Qs E ns D).getD w.toNat 0+if m then 1 else -1))=some (.tup [],HS (D ++ [j])):=by
  intro D j w m hj;have hwl:=hE _ (fH hj);dsimp only at hwl;have hg:((HS D).set h.next (.obj h.nfam (.mwalk bm (entB E).length (D ++ [j])))).get bn=some (.cells (some Fn) pn (putL cs off (ints (Qs E ns D)))):=by
   rw[AHeap.get_set,if_neg (by rintro⟨rfl,_⟩; exact hne rfl)]; exact hgetN D
  have hf:((HS D).set h.next (.obj h.nfam (.mwalk bm (entB E).length (D ++ [j])))).fam Fn=some (if D = [] then f else {f with live:=some [bn]}):=hfamN D;have hlp:(putL cs off (ints (Qs E ns D))).length=cs.length:=K8 _ _ _ (by simpa [ints,hbl D] using hcl);have hsz:szA Go.Proofs.Tryz.prog 3=some 1:=ScT.sz;have hval:((HS D).set h.next (.obj h.nfam (.mwalk bm (entB E).length (D ++ [j])))).valid bn=true:=by
   unfold AHeap.valid;rw[hg];simp only[hf];by_cases hD:D = [];rw[if_pos hD]; exact hsee;rw[if_neg hD]; simp[Fam.sees]
  simp only[XS,hg,hf,hsz,AV.cells?,AV.one,if_true,fU,fJ];rw[if_pos ⟨hval,rfl,by rw[hlp]; simp only[fN]; omega⟩];refine congrArg (fun q=>some (AV.tup [],q)) ?_;refine hpush_step hne aU ?_ ?_;rw[hput _ _ _ (by simp only[ints,fS,hbl]; omega) (by simpa [ints,hbl D] using hcl),hints,hbump D j w m hj];by_cases hD:D = [];rw[if_pos hD];rw[if_neg hD]
 have hEj:∀ j,j<(entB E).length→∃ w m,E[j]? = some (w,m):=fun j hj=>⟨_,_,dY aA⟩
 have hSt:∀ (k:Nat) (D:List Nat),D.length=k→(∀ j∈D,j<(entB E).length)→St h0 (HS D) (⟨.it h.next,0,Thing.enc (.mwalk bm (entB E).length D),false⟩::⟨pf,0,[a0,a1,vn],tf⟩::⟨vn,1,ints (Qs E ns D),tn⟩::mapO vm (entB E)::G):=by
  intro k
  induction k with
  | zero=>
   intro D hD _;obtain rfl:=List.length_eq_zero_iff.1 hD;rw[hH0];exact hS1
  | succ k ih=>
   intro D hD hin;rcases List.eq_nil_or_concat D with rfl|⟨D',j,rfl⟩
   cases hD;rw[List.concat_eq_append] at hD hin⊢;have hD':=ih D' (by simpa using hD) (fun i hi=>hin i (by simp[hi]));obtain⟨w,m,hj⟩:=hEj j (hin j aU);have hwl:=hE _ (fH hj);dsimp only at hwl;have hm:=hmove D' j hD';obtain⟨h',e1,e2⟩:=St.store (P:=Go.Proofs.Tryz.prog) (t:=3) hm (k:=2) rfl (p:=.ptr bn (off+w.toNat)) (y:=.int .i64 ((Qs E ns D').getD w.toNat 0+if m then 1 else -1)) (j:=w.toNat) (l:=[.int .i64 ((Qs E ns D').getD w.toNat 0+if m then 1 else -1)]) ⟨bn,off,.inl ⟨Nat.one_pos,_,_,hvn⟩,rfl⟩ rfl ScT.sz aU (by simp only[ints,fS,hbl,fN]; omega);rw[hstore D' j w m hj] at e1;simp only[fL,Prod.mk.injEq,true_and] at e1;subst e1;simp only[List.set_cons_succ,List.set_cons_zero] at e2;rw[Jo _ _ _ (by simp only[ints,fS,hbl]; omega),hints,←hbump D' j w m hj] at e2;exact e2
 have hmap:Z8 Go.Proofs.Tryz.prog 130=some (3,4):=by kernel_rfl
 refine ON 32 [] Go.Proofs.Tryz.func219 rfl aD rfl rfl (Nat.le_of_ble_eq_true rfl) ?_;show KA _ 32 _ _ [(0,pf),(1,vm)] _;refine OD ?_;refine ZK (Ur rfl hmap (EvK.eq.trans hvm') hgm) ?_;refine Og ?_;refine Of ?_;refine OB ?_;rw[hh1];refine KA.mapLoop (b:=h.next) (F:=h.nfam) (bm:=bm) (Fm:=Fm) (es:=entB E) (id:=0) (fun D=>[(0,pf),(7,.it h.next)]) HS (KE:=[]) (HE:=(HS (fB (entB E).length)).set h.next (.obj h.nfam .gone)) rfl (fun _ _=>EvK.eq) (fun D _=>hgetI D) (fun D _=>hgetM D) ?_ ?_ (Sub.cons Look.eq (Sub.cons Look.eq (Sub.nil _))) hH0.symm ?_
 ·intro D j k v hD hj hjk;have hjl:=(fI.1 hjk).1;obtain⟨w,m,hw⟩:=hEj j hjl;have hkv:k = .int .i64 w∧v = .bool m:=by
   simp only[entB,entL,fO,hw,fK,fL,Prod.mk.injEq] at hjk;exact⟨hjk.1.symm,hjk.2.symm⟩
  obtain⟨rfl,rfl⟩:=hkv;have hwl:=hE _ (fH hw);dsimp only at hwl;have hSt':=hmove D j (hSt D.length D rfl hD.2);have hst:=hstore D j w m hw;have hDl:D.length≤1000000000:=by
   have:=Z1 (m:=fB (entB E).length) hD.1 (fun x hx=>fT.2 (hD.2 x hx));rw[jA] at this;omega
  have hbd:=Tt (E:=E) 1000000000 D ns hb ((Qs E ns D).getD w.toNat 0) (by
   rw[dZ,dY aw];exact jU _)
  have hgI':((HS D).set h.next (.obj h.nfam (.mwalk bm (entB E).length (D ++ [j])))).get h.next=some (.obj h.nfam (.mwalk bm (entB E).length (D ++ [j]))):=by
   rw[AHeap.get_set,if_pos ⟨rfl,AHeap.get_lt (hgetI D)⟩]
  have hgM':((HS D).set h.next (.obj h.nfam (.mwalk bm (entB E).length (D ++ [j])))).get bm=some (.obj Fm (.map (entB E))):=by
   rw[AHeap.get_set,if_neg (by rintro⟨h3,_⟩; exact hneI h3)]; exact hgetM D
  refine OY ?_;refine Og ?_;refine Ox ?_;refine KQ ?_;refine Oy ?_;refine Of ?_;refine OB ?_;refine Ov ?_;refine ZK (Uq rfl EvK.eq hgI' hgM' hjk) ?_;refine OD ?_;refine Og ?_;refine Of ?_;refine OD ?_;refine Og ?_;refine Of ?_
  cases m with
  | true=>
   refine KQ ?_
   ·skip
    refine OD ?_;refine cP ?_;intro p16 hp16;refine Oh hp16 (hSt'.rd 1 rfl) rfl ?_;refine Oc ?_;refine Ow (hSt'.rd 2 rfl) (j:=w.toNat) aA aw ?_;intro q hq;refine Kk hq (hSt'.rd 2 rfl) aw ?_;refine O9 aA aA ?_;refine Ow (hSt'.rd 2 rfl) (j:=w.toNat) aA aw ?_;intro q2 hq2;obtain⟨bq,oq,hq3,rfl⟩:=hq2;rcases hq3 with ⟨_,_,_,hq4⟩|⟨hq4,_⟩
    rotate_left
    cases hq4;rw[hvn] at hq4;cases hq4;refine KOps.storeE rfl (h':=HS (D ++ [j])) ?_ ?_;exact hst;refine Og ?_;refine Oi ?_;exact⟨rfl,Sub.cons Look.eq (Sub.cons Look.eq (Sub.nil _)),rfl⟩
  | false=>
   refine OP ?_
   ·skip
    refine OD ?_;refine cP ?_;intro p25 hp25;refine Oh hp25 (hSt'.rd 1 rfl) rfl ?_;refine Oc ?_;refine Ow (hSt'.rd 2 rfl) (j:=w.toNat) aA aw ?_;intro q hq;refine Kk hq (hSt'.rd 2 rfl) aw ?_;refine Zr aA aA ?_;refine Ow (hSt'.rd 2 rfl) (j:=w.toNat) aA aw ?_;intro q2 hq2;obtain⟨bq,oq,hq3,rfl⟩:=hq2;rcases hq3 with ⟨_,_,_,hq4⟩|⟨hq4,_⟩
    rotate_left
    cases hq4;rw[hvn] at hq4;cases hq4;refine KOps.storeE rfl (h':=HS (D ++ [j])) ?_ ?_;rw[show(Qs E ns D).getD w.toNat 0 - 1=(Qs E ns D).getD w.toNat 0 + -1 from rfl]; exact hst;refine Og ?_;refine Oi ?_;exact⟨rfl,Sub.cons Look.eq (Sub.cons Look.eq (Sub.nil _)),rfl⟩
 intro D hD hf;have hperm:D.Perm (fB (entB E).length):=(List.perm_ext_iff_of_nodup hD.1 jO).2 fun i=>⟨fun hi=>fT.2 (hD.2 i hi),fun hi=>hf i (fT.1 hi)⟩
 refine OY ?_;refine Og ?_;refine Ox ?_;refine OP ?_;refine Kf ?_;refine O1 ?_;refine⟨rfl,Sub.nil _,⟨_,hgetI D⟩,?_⟩;show(ZG _ _ _ _ _ _ _ _ _ _ _ D _).set _ _=(ZG _ _ _ _ _ _ _ _ _ _ _ _ _).set _ _;rw[bumps_perm hperm ns];refine hpush_gone hne ⟨fun h3=>?_,fun h3=>?_⟩;subst h3; exact(List.nil_perm.1 hperm);rw[h3] at hperm; exact List.perm_nil.1 hperm
 ·refine O4 ?_;refine Qi ?_;have h3:=hSt _ (fB (entB E).length) (jA) (fun i hi=>fT.1 hi);have h4:St h0 ((HS (fB (entB E).length)).set h.next (.obj h.nfam .gone)) (⟨.it h.next,0,Thing.enc .gone,false⟩::⟨pf,0,[a0,a1,vn],tf⟩::⟨vn,1,ints (Qs E ns (fB (entB E).length)),tn⟩::mapO vm (entB E)::G):=by
   refine St.setT (k:=0) h3 rfl (x:=.mwalk bm (entB E).length (fB (entB E).length)) (x':=.gone) (fun _=>rfl) rfl (hgetI _) ?_;intro F hmu
   cases F with
   | none=>cases hmu.1
   | some F=>
    rcases hmu with ⟨b,o,p,c,f',_,hv,_⟩|⟨b,x,f',hlo,hv,_,hg,hf,_⟩
    rcases hv with ⟨_,_,hv,_⟩|⟨_,hv⟩ <;> cases hv
    have hbb:h.next=b:=by cases x <;> first|exact AV.it.inj hv|cases hv
    subst hbb;rw[hgetI] at hg;cases hg;exact⟨rfl,hlo,f',hf⟩
  rw[←hlen];exact St.tail h4
end Go.Am
namespace Go.Am
structure W where
  f:Int
  t:Int
  l:Int
  m:Int
  deriving DecidableEq,Inhabited
abbrev wc (w:W):List AV:=[.int .i64 w.f,.int .i64 w.t,.int .i64 w.l,.int .i64 w.m]
theorem KZ (w:W):(wc w).length=4:=rfl
def KG (r:Int) (w:W):Int:=
  if ¬ (0≤w.f∧w.f<r∧0≤w.t∧w.t<r) then 2 else if w.f=w.t then 13 else if ¬ (0≤w.l∧w.l≤w.m∧w.m≤99) then 1 else 0
def Q2 (r : Int) (ws : List W) : Nat → Int
  | 0=>0
  | i+1=>if Q2 r ws i=0 then KG r (ws.getD i default) else Q2 r ws i
def Kx (r:Int) (ws:List W):Int:=if ¬ (2≤r∧r≤6) then 1 else if 12<ws.length then 3 else Q2 r ws ws.length
theorem waysE_zero {r:Int} {ws:List W}:∀ {n i:Nat},i≤n→Q2 r ws n=0→Q2 r ws i=0:=by
 intro n
 induction n with
 | zero => intro i hi h; obtain rfl : i = 0 := by omega
           exact h
 | succ n ih=>
  intro i hi h;have h1:Q2 r ws n=0:=by
   rw[Q2] at h;by_cases h2:Q2 r ws n=0;exact h2;rw[if_neg h2] at h; exact h
  rcases gT hi with h3|rfl
  exact ih aA h1;exact h
theorem Wo {r:Int} {ws:List W} {i:Nat} (h0:Q2 r ws i=0) (he:KG r (ws.getD i default)≠0):∀ {n:Nat},i<n→Q2 r ws n=KG r (ws.getD i default):=by
 intro n
 induction n with
 | zero=>intro h; omega
 | succ n ih=>
  intro h;rcases Nat.lt_succ_iff_lt_or_eq.1 h with h1|rfl
  rw[Q2,ih h1,if_neg he];rw[Q2,if_pos h0]
theorem waysE_all {r:Int} {ws:List W} {n:Nat} (h:Q2 r ws n=0) {i:Nat} (hi:i<n):KG r (ws.getD i default)=0:=by
 have h1:=waysE_zero (show i≤n by omega) h;by_cases h2:KG r (ws.getD i default)=0;exact h2;rw[Wo h1 h2 hi] at h; exact absurd h h2
structure WOk (r:Int) (w:W):Prop where
  f0 : 0≤w.f
  f1:w.f<r
  t0 : 0≤w.t
  t1:w.t<r
  ne:w.f≠w.t
  l0 : 0≤w.l
  lm:w.l≤w.m
  m1:w.m≤99
theorem WOk.of {r:Int} {w:W} (h:KG r w=0):WOk r w:=by
 unfold KG at h;by_cases h1:¬ (0≤w.f∧w.f<r∧0≤w.t∧w.t<r);rw[if_pos h1] at h; cases h;rw[if_neg h1] at h;by_cases h2:w.f=w.t;rw[if_pos h2] at h; cases h;rw[if_neg h2] at h;by_cases h3:¬ (0≤w.l∧w.l≤w.m∧w.m≤99);rw[if_pos h3] at h; cases h;have h1:=Decidable.not_not.1 h1;have h3:=Decidable.not_not.1 h3;exact⟨h1.1,h1.2.1,h1.2.2.1,h1.2.2.2,h2,h3.1,h3.2.1,h3.2.2⟩
structure BOk (r:Int) (ws:List W):Prop where
  r2 : 2≤r
  r6:r≤6
  len:ws.length≤12
  way:∀ i,i<ws.length→WOk r (ws.getD i default)
theorem BOk.of {r:Int} {ws:List W} (h:Kx r ws=0):BOk r ws:=by
 unfold Kx at h;by_cases h1:¬ (2≤r∧r≤6);rw[if_pos h1] at h; cases h;rw[if_neg h1] at h;by_cases h2 : 12<ws.length;rw[if_pos h2] at h; cases h;rw[if_neg h2] at h;have h1:=Decidable.not_not.1 h1;exact⟨h1.1,h1.2,by omega,fun i hi=>WOk.of (waysE_all h hi)⟩
end Go.Am
namespace Go.Am
def dl (a b:Int):Int:=if a=b then 1 else 0
def KP (ws : List W) (n : List Int) (x : Int) : Nat → Int
  | 0=>0
  | i+1=>KP ws n x i+n.getD i 0*(dl (ws.getD i default).t x - dl (ws.getD i default).f x)
abbrev kept (ws:List W) (n:List Int) (x:Int):Int:=KP ws n x ws.length
structure Within (ws:List W) (n:List Int):Prop where
  len:n.length=ws.length
  lo:∀ i,i<ws.length→(ws.getD i default).l≤n.getD i 0
  hi:∀ i,i<ws.length→n.getD i 0≤(ws.getD i default).m
structure Flow (ws:List W) (n:List Int):Prop extends Within ws n where
  kp:∀ x,kept ws n x=0
def InR (r:Int) (ws:List W):Prop:=∀ i,i<ws.length→0≤(ws.getD i default).f∧(ws.getD i default).f<r∧0≤(ws.getD i default).t∧(ws.getD i default).t<r
theorem keptTo_set {ws:List W} {n:List Int} {x:Int} {i:Nat} {c:Int} (hi:i<n.length):∀ k,KP ws (n.set i c) x k=KP ws n x k+if i<k then (c - n.getD i 0)*(dl (ws.getD i default).t x - dl (ws.getD i default).f x) else 0:=by
 intro k
 induction k with
 | zero=>simp[KP]
 | succ k ih=>
  by_cases h:i=k;subst h;have e1:(n.set i c).getD i 0=c:=by rw[Q1,if_pos ⟨rfl,hi⟩]
  rw[KP,KP,ih,e1,if_neg (Nat.lt_irrefl i),if_pos (Nat.lt_succ_self i),Int.sub_mul];omega;have e1:(n.set i c).getD k 0=n.getD k 0:=by rw[Q1,if_neg (fun h2=>h h2.1.symm)]
  rw[KP,KP,ih,e1];by_cases h3:i<k;rw[if_pos h3,if_pos (show i<k+1 by omega)]; omega;rw[if_neg h3,if_neg (show¬ i<k+1 by omega)]; omega
theorem RW {ws:List W} {n:List Int} {x:Int} {i:Nat} {c:Int} (hi:i<n.length) (hw:i<ws.length):kept ws (n.set i c) x=kept ws n x+(c - n.getD i 0)*(dl (ws.getD i default).t x - dl (ws.getD i default).f x):=by
 rw[kept,keptTo_set hi,if_pos hw]
def Jx (ws:List W) (n:List Int) (A:Nat→Bool) (u v:Int) (i:Nat) (more:Bool):Prop:=
  i<ws.length∧A i=true∧if more then (ws.getD i default).f=u∧(ws.getD i default).t=v∧n.getD i 0<(ws.getD i default).m else (ws.getD i default).t=u∧(ws.getD i default).f=v∧(ws.getD i default).l<n.getD i 0
inductive Path (ws:List W) (n:List Int) (A:Nat→Bool) (u:Int):List Int→Int→List (Int × Bool)→Prop where
  | nil:Path ws n A u [u] u []
  | snoc {vs:List Int} {v x:Int} {E:List (Int × Bool)} {i:Nat} {more:Bool} (p:Path ws n A u vs v E) (s:Jx ws n A v x i more) (hx:x ∉ vs):Path ws n A u (x::vs) x (((i:Int),more)::E)
section
variable {ws:List W} {n:List Int} {A:Nat→Bool} {u v:Int} {vs:List Int} {E:List (Int × Bool)}
theorem Path.last (p:Path ws n A u vs v E):v∈vs:=by cases p <;> simp
theorem Path.ends (p:Path ws n A u vs v E):∀ q∈E,∃ i:Nat,q.1=(i:Int)∧i<ws.length∧A i=true∧(ws.getD i default).f∈vs∧(ws.getD i default).t∈vs∧(if q.2 then n.getD i 0<(ws.getD i default).m else (ws.getD i default).l<n.getD i 0):=by
 induction p with
 | nil=>intro q hq; cases hq
 | @snoc vs v x E i more p s hx ih=>
  intro q hq;rcases gP.1 hq with rfl|hq
  ·refine⟨i,rfl,s.1,s.2.1,?_⟩;have hv:=p.last;have hs:=s.2.2
   cases more with
   | true=>
    simp only[if_true] at hs⊢;exact⟨by rw[hs.1]; simp[hv],by rw[hs.2.1]; simp,hs.2.2⟩
   | false=>
    simp only[fD,if_false] at hs⊢;exact⟨by rw[hs.2.1]; simp,by rw[hs.1]; simp[hv],hs.2.2⟩
  obtain⟨j,h1,h2,h3,h4,h5,h6⟩:=ih q hq;exact⟨j,h1,h2,h3,gN _ h4,gN _ h5,h6⟩
theorem Path.keys (p:Path ws n A u vs v E):(E.map (·.1)).Nodup:=by
 induction p with
 | nil=>exact List.nodup_nil
 | @snoc vs v x E i more p s hx ih=>
  rw[fG,gF];refine⟨?_,ih⟩;intro hm;obtain⟨q,hq,he⟩:=fZ.1 hm;obtain⟨j,h1,_,_,h4,h5,_⟩:=p.ends q hq;have hij:j=i:=by
   have:(j:Int)=(i:Int):=by rw[←h1]; exact he
   omega
  subst hij;have hs:=s.2.2
  cases more with
  | true=>simp only[if_true] at hs; rw[hs.2.1] at h5; exact hx h5
  | false=>simp only[fD,if_false] at hs; rw[hs.2.1] at h4; exact hx h4
def Zj (l:List Int) (q:Int × Bool):List Int:=l.set q.1.toNat (l.getD q.1.toNat 0+if q.2 then 1 else -1)
def Qx (E:List (Int × Bool)) (n:List Int):List Int:=E.foldr (fun q l=>Zj l q) n
theorem bump1_len (l:List Int) (q:Int × Bool):(Zj l q).length=l.length:=by simp[Zj]
theorem Ye (E:List (Int × Bool)) (n:List Int):(Qx E n).length=n.length:=by
 induction E with
 | nil=>rfl
 | cons q E ih=>show(Zj (Qx E n) q).length=_; rw[bump1_len,ih]
theorem VV {E:List (Int × Bool)} {l:List Int} {j:Nat} {q:Int × Bool} (h:E[j]? = some q):Xy E l j=Zj l q:=by
 unfold Xy Zj;rw[h]
theorem bump1_comm (l:List Int) (p q:Int × Bool):Zj (Zj l p) q=Zj (Zj l q) p:=by
 have h:=WS [p,q] l 0 1;rw[VV (E:=[p,q]) (j:=0) rfl,VV (E:=[p,q]) (j:=1) rfl,VV (E:=[p,q]) (j:=1) rfl,VV (E:=[p,q]) (j:=0) rfl] at h;exact h
theorem Tu (E:List (Int × Bool)) (n:List Int):∀ k,k≤E.length→Qs E n (fB k)=(E.take k).foldl Zj n:=by
 intro k
 induction k with
 | zero=>intro _; rfl
 | succ k ih=>
  intro hk;have hg:E[k]? = some (E[k]'aA):=dY _;rw[List.range_succ,UU,ih aA,VV hg,List.take_add_one,hg,List.foldl_append];rfl
theorem foldl_one (E:List (Int × Bool)):∀ (n:List Int) (q:Int × Bool),E.foldl Zj (Zj n q)=Zj (E.foldl Zj n) q:=by
 induction E with
 | nil=>intro n q; rfl
 | cons p E ih=>intro n q; rw[gG,gG,bump1_comm,ih]
theorem bumps_push (E:List (Int × Bool)) (n:List Int):Qs E n (fB E.length)=Qx E n:=by
 rw[Tu E n _ (gH _),List.take_length]
 induction E with
 | nil=>rfl
 | cons q E ih=>rw[gG,foldl_one,ih]; rfl
theorem YN {E:List (Int × Bool)} {n:List Int} {i:Nat} (h:∀ q∈E,q.1.toNat≠i):(Qx E n).getD i 0=n.getD i 0:=by
 induction E with
 | nil=>rfl
 | cons q E ih=>
  show(Zj (Qx E n) q).getD i 0=_;rw[Zj,Q1,if_neg (fun h2=>h q aU h2.1.symm),ih (fun p hp=>h p (by simp[hp]))]
theorem pushE_at {E:List (Int × Bool)} {n:List Int} (hk:(E.map (·.1)).Nodup) (h0:∀ q∈E,0≤q.1) {q:Int × Bool} (hq:q∈E) (hl:q.1.toNat<n.length):(Qx E n).getD q.1.toNat 0=n.getD q.1.toNat 0+if q.2 then 1 else -1:=by
 induction E with
 | nil=>cases hq
 | cons p E ih=>
  rw[fG,gF] at hk;show(Zj (Qx E n) p).getD _ 0=_;rw[Zj,Q1,Ye];rcases gP.1 hq with rfl|hq
  rw[if_pos ⟨rfl,hl⟩,YN];intro p' hp' he;have h1:=h0 p' (by simp[hp']);have h2:=h0 q aU;exact hk.1 (fZ.2 ⟨p',hp',by omega⟩);have hne:¬ q.1.toNat=p.1.toNat:=by
   intro he;have h1:=h0 q (by simp[hq]);have h2:=h0 p aU;exact hk.1 (fZ.2 ⟨q,hq,by omega⟩)
  rw[if_neg (fun h=>hne h.1)];exact ih hk.2 (fun p' hp'=>h0 p' (by simp[hp'])) hq
theorem Path.kept (p:Path ws n A u vs v E) (hl:n.length=ws.length) (x:Int):kept ws (Qx E n) x=Go.Am.kept ws n x+dl v x - dl u x:=by
 induction p with
 | nil=>show Go.Am.kept ws n x=_; omega
 | @snoc vs v y E i more p s hy ih=>
  have hk:=(Path.snoc p s hy).keys;rw[fG,gF] at hk;have hot:(Qx E n).getD i 0=n.getD i 0:=by
   refine YN ?_;intro q hq he;obtain⟨j,h1,_⟩:=p.ends q hq;refine hk.1 (fZ.2 ⟨q,hq,?_⟩);rw[h1] at he⊢;simp only[Int.toNat_natCast] at he;rw[he]
  show Go.Am.kept ws (Zj (Qx E n) ((i:Int),more)) x=_;unfold Zj;simp only[Int.toNat_natCast];rw[RW (by rw[Ye,hl]; exact s.1) s.1,ih,hot];have hs:=s.2.2
  cases more with
  | true=>
   simp only[if_true] at hs⊢;rw[hs.1,hs.2.1];have:n.getD i 0+1 - n.getD i 0=1:=by omega
   rw[this,Int.one_mul]; omega
  | false=>
   simp only[fD,if_false] at hs⊢;rw[hs.1,hs.2.1];have:n.getD i 0 + -1 - n.getD i 0 = -1:=by omega
   rw[this]; omega
theorem Path.within (p:Path ws n A u vs v E) (h:Within ws n):Within ws (Qx E n):=by
 have hk:=p.keys;have h0:∀ q∈E,0≤q.1:=fun q hq=>by obtain⟨j,h1,_⟩:=p.ends q hq; omega
 have key:∀ i,i<ws.length→(ws.getD i default).l≤(Qx E n).getD i 0∧(Qx E n).getD i 0≤(ws.getD i default).m:=by
  intro i hi;have h1:=h.lo i hi;have h2:=h.hi i hi;by_cases hm:∃ q∈E,q.1.toNat=i;obtain⟨q,hq,rfl⟩:=hm;have h3:=pushE_at hk h0 hq (n:=n) (by rw[h.len]; exact hi);obtain⟨j,h4,h5,_,_,_,h6⟩:=p.ends q hq;have hj:q.1.toNat=j:=by omega
  rw[hj] at h1 h2 h3⊢;rw[h3];split at h6;rename_i hm; rw[if_pos hm]; omega;rename_i hm; rw[if_neg hm]; omega;rw[YN (fun q hq he=>hm ⟨q,hq,he⟩)];exact⟨h1,h2⟩
 exact⟨by rw[Ye,h.len],fun i hi=>(key i hi).1,fun i hi=>(key i hi).2⟩
theorem Path.same (p:Path ws n A u vs v E) {i:Nat} (hA:A i=false):(Qx E n).getD i 0=n.getD i 0:=by
 refine YN ?_;intro q hq he;obtain⟨j,h4,_,h5,_⟩:=p.ends q hq;have:j=i:=by omega
 subst this;rw[hA] at h5; cases h5
end
def YQ (ws:List W) (n:List Int) (A:Nat→Bool) (R:Int→Prop):Prop:=∀ i,i<ws.length→A i=true→(R (ws.getD i default).f→n.getD i 0<(ws.getD i default).m→R (ws.getD i default).t)∧(R (ws.getD i default).t→(ws.getD i default).l<n.getD i 0→R (ws.getD i default).f)
theorem V1 {ws:List W} {n:List Int} {A:Nat→Bool} (u:Int):YQ ws n A (fun x=>∃ vs E,Path ws n A u vs x E):=by
 have short:∀ {vs v E},Path ws n A u vs v E→∀ x,x∈vs→∃ vs' E',Path ws n A u vs' x E':=by
  intro vs v E p
  induction p with
  | nil=>intro x hx; rw[List.mem_singleton] at hx; subst hx; exact⟨_,_,.nil⟩
  | @snoc vs v y E i more p s hy ih=>
   intro x hx;rcases gP.1 hx with rfl|hx
   exact⟨_,_,.snoc p s hy⟩;exact ih x hx
 intro i hi hA;constructor;rintro⟨vs,E,p⟩ hlt;by_cases hm:(ws.getD i default).t∈vs;exact short p _ hm;exact⟨_,_,.snoc p (i:=i) (more:=true) ⟨hi,hA,by simp only[if_true]; exact⟨trivial,trivial,hlt⟩⟩ hm⟩;rintro⟨vs,E,p⟩ hlt;by_cases hm:(ws.getD i default).f∈vs;exact short p _ hm;exact⟨_,_,.snoc p (i:=i) (more:=false) ⟨hi,hA,by simp only[fD,if_false]; exact⟨trivial,trivial,hlt⟩⟩ hm⟩
end Go.Am
